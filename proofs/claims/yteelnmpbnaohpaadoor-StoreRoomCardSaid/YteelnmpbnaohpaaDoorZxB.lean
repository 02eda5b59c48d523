/- Parts of the proof of StoreRoom: merged and given short names by a program of ours. -/
import Derived.Laws.IdiomStrings
import Derived.Test.YteelnmpbnaohpaaDoorZxA
set_option linter.unusedVariables false
set_option linter.unusedSimpArgs false
open Array renaming getElem?_setIfInBounds_ne → Z1, getElem?_eq_none → Z8, getElem?_eq_getElem → ZX, getElem?_setIfInBounds_self_of_lt → ZZ, getElem?_modify → abK, getElem?_toList → abT
open Bool renaming false_eq_true → ZF, not_false → ZJ, not_true → ZK, and_eq_true → ZR, or_eq_false_iff → acG
open Int renaming toNat_natCast → ZI
open List renaming set_cons_zero → Z0, nil_append → Z2, length_eq_zero_iff → Z3, append_assoc → Z4, length_cons → Z7, take_append_of_le_length → Z9, getElem?_cons_zero → ZD, getElem?_cons_succ → ZE, length_map → ZM, length_append → ZN, getElem?_eq_getElem → ZO, take_of_length_le → ZQ, getD_eq_getElem?_getD → ZS, map_cons → ZT, mem_cons_of_mem → ZV, length_drop → ZW, length_take → ZY, getElem?_append_left → aaB, drop_append_of_le_length → aaC, mem_cons → aaE, set_cons_succ → aaI, mem_map → aaK, getElem?_eq_none → aaL, map_append → aaP, getElem?_map → aaS, mem_cons_self → aaU, eraseIdx_cons_succ → aaW, mem_append → abA, getElem?_toArray → abB, set_append_right → abC, getElem?_take_of_lt → abD, length_nil → abN, nodup_cons → abO, size_toArray → abP, getElem_mem → abR, length_singleton → abU, length_set → abV, getElem?_drop → acA, ext_getElem? → acC, cons_append → acH, drop_eq_getElem_cons → acO, take_add_one → acR, ext_getElem → acW, getElem_map → acX, mem_of_getElem? → adB, mem_of_mem_take → adC, range_succ → adF
open List.cons renaming injEq → adE
open Nat renaming zero_add → ZL, le_refl → ZU, min_eq_left → aaD, lt_or_ge → aaN, mod_eq_of_lt → abE, le_trans → abH, mul_one → abL, lt_of_lt_of_le → abS, add_assoc → abY, ne_of_lt → acD, mod_lt → acQ, add_mul → acU, sub_self → adD
open Option renaming isNone_some → ZG, isNone_none → ZH, map_some → aaJ, getD_some → aaY
open Option.some renaming injEq → aaA, inj → aaT
open Prod.mk renaming injEq → acI
namespace Go.Proofs.YteelnmpbnaohpaaDoor
open Go Go.En
set_option maxRecDepth 20000
attribute [local irreducible] Go.En.iR
variable (Q : Exit -> Env -> adH -> Prop) (g : Env) (w : adH)
def jW : FA := ⟨lV, fun i => match Nat.beq i 5 with | true => .leaf ([12], []) [(false, []), (false, []), (false, []), (false, []), (false, []), (false, []), (false, []), (false, []), (false, []), (false, []), (false, []), (false, []), (true, []), (false, []), (false, []), (false, []), (false, []), (false, []), (false, []), (false, [])] | false => .leaf ([], []) []⟩
def sH : List ResultVar := [.tmp 4]
noncomputable def jP : Code := iU Tryd.f27
def oU (R : K1) (jZ : adI) (w : adH) : Prop :=
 R jZ w
theorem EO (R : K1) (hr : HR sH R Q) (h : oU R (g 5) w) : iR pg jW (gN 1 (gN 2 jP)) Q g w :=
 lI (kn := no) (l := []) h mE hr trivial
def oY (kn : K5) (k0 : K1) (lE Am jZ c9 d0 : adI) (w : adH) : Prop :=
 eY pg (gO .lss 3 gW gW d0 c9) w fun d1 w =>
 lO d1
  ((dr w) = (dr w) /\
  eY pg (iY lE) (dr w) fun d5 w_ => w_ = (dr w) /\
  eY pg (gK 67 d5 2) (dr w) fun d6 w_ => w_ = (dr w) /\
  eY pg (gK 28 d6 0) (dr w) fun d7 w_ => w_ = (dr w) /\
  eY pg (gJ 24 d7) (dr w) fun d8 w_ => w_ = (dr w) /\
  (dr w) = (dr w) /\
  eY pg (iY lE) (dr w) fun e0 w_ => w_ = (dr w) /\
  eY pg (gK 67 e0 2) (dr w) fun e1 w_ => w_ = (dr w) /\
  eY pg (gK 28 e1 1) (dr w) fun e2 w_ => w_ = (dr w) /\
  eY pg (gJ 25 e2) (dr w) fun e3 w_ => w_ = (dr w) /\
  eY pg (kP 25 3 e3) (dr w) fun e4 w_ => w_ = (dr w) /\
  (dr w) = (dr w) /\
  gS pg pI #[d8, e4, d0] (dr w) fun e6 Di =>
  Di = Di /\
  eY pg (iP e6 0) Di fun e7 w_ => w_ = Di /\
  eY pg (iP e6 1) Di fun e8 w_ => w_ = Di /\
  eY pg (iP e6 2) Di fun e9 w_ => w_ = Di /\
  Di = Di /\
  Di = Di /\
  Di = Di /\
  eY pg (kP 3 24 e8) Di fun f2 w =>
  eY pg (gO .add 24 gW gW e7 f2) w fun f3 w =>
  eY pg (gO .eql 29 (.tmp 46) (.const (adJ 0)) e9 (adJ 0)) w fun f7 w =>
  Gd (jQ f7 true) (fun K => K f3 w) w fun f9 w =>
  Gd (jQ f7 true) (fun K => K Am w) w fun i0 w =>
  Gd (jQ f7 true) (fun K => eY pg (mS .len #[22] 3 [i0]) w K) w fun i1 w =>
  Gd (jQ f7 true) (fun K => eY pg (kP 3 24 i1) w K) w fun i2 w =>
  Gd (jQ f7 true) (fun K => eY pg (gO .leq 24 gW gW f9 i2) w K) w fun i3 w =>
  eY pg (kH f7 i3 (.bool false)) w fun i4 w =>
  Gd (jQ i4 true) (fun K => K lE w) w fun i6 w =>
  Gd (jQ i4 true) (fun K => K d0 w) w fun i7 w =>
  Gd (jQ i4 true) (fun K => K Am w) w fun i8 w =>
  Gd (jQ i4 true) (fun K => K e7 w) w fun i9 w =>
  Gd (jQ i4 true) (fun K => K f3 w) w fun j0 w =>
  Gd (jQ i4 true) (fun K => eY pg (lL 22 i8 (some i9) (some j0) none) w K) w fun j1 w =>
  Gd (jQ i4 true) (fun K => gS pg nU #[i6, i7, j1] w K) w fun j2 w =>
  eY pg (kH i4 j2 (.bool false)) w fun j3 w =>
  eY pg (iF 45 jZ d0) w fun j4 w =>
  eY pg (iB 4 j4 j3) w fun _u w =>
  eY pg (gO .add 3 gW gW d0 (adJ 1)) w fun j5 w =>
  kn lE Am jZ c9 j5 w)
  (k0 jZ w)
theorem EI (kn : K5) (k0 : K1) (hn : N5 Q kn 0 1 5 19 20) (h0 : E1 Q k0 0 5) (h : oY kn k0 (g 0) (g 1) (g 5) (g 19) (g 20) w) : iR pg jW (bI (bI (gN 1 (gU 1 (gN 2 jP))))) Q g w :=
 lI (kr := no) (l := [(0, fun g w => k0 (g 5) w)]) h hn mE ⟨h0, trivial⟩
def rV (k0 : K1) (lE Am jZ c9 d0 : adI) (w : adH) : Prop :=
 kF (fun (X : adI -> K0) (t : adI) (w : adH) => oY (fun _ _ _ _ d0 w => X d0 w) k0 lE Am jZ c9 t w) d0 w
theorem EP (k0 : K1) (h0 : E1 Q k0 0 5) (h : rV k0 (g 0) (g 1) (g 5) (g 19) (g 20) w) : iR pg jW (bI (gN 1 (gU 1 (gN 2 jP)))) Q g w := by
 refine OV (fun g : Env => g 20) (fun X t w => oY (fun _ _ _ _ d0 w => X d0 w) k0 (g 0) (g 1) (g 5) (g 19) t w) h (fun X g1 w1 ha hL => ?_)
 rw [<- uN 0 ha, <- uN 1 ha, <- uN 5 ha, <- uN 19 ha] at hL
 exact (EI _ g1 w1 (fun _ _ _ _ d0 w => X d0 w) k0 (fun _ _ h => h) h0 hL)
def rW (kn : K1) (lE Am jZ c9 d0 : adI) (w : adH) : Prop :=
 rV kn lE Am jZ c9 d0 w
def sB (kn : K5) (lE Am jZ : adI) (w : adH) : Prop :=
 eY pg (mS .len #[45] 3 [jZ]) w fun c9 w =>
 kn lE Am jZ c9 (adJ 0) w
theorem EW (kn : K5) (hn : N5 Q kn 0 1 5 19 20) (h : sB kn (g 0) (g 1) (g 5) w) : iR pg jW (gU 1 (gU 1 (gN 2 jP))) Q g w :=
 lI (kr := no) (l := []) h hn mE trivial
def sC (kn : K1) (lE Am jZ : adI) (w : adH) : Prop :=
 sB (fun lE Am jZ c9 d0 w => rW kn lE Am jZ c9 d0 w) lE Am jZ w
def rY (R : K1) (lE Am jZ : adI) (w : adH) : Prop :=
 sC (fun jZ w => oU R jZ w) lE Am jZ w
theorem ES (kn : K1) (hn : N1 Q kn 5) (h : sC kn (g 0) (g 1) (g 5) w) : iR pg jW (gU 1 (gN 2 jP)) Q g w :=
 uW 1 (EW _ g w (rW kn) (fun g w h => iA (Od 0 (EP _ g w kn hn h))) h)
def sE (kn : K3) (lE Am : adI) (w : adH) : Prop :=
 eY pg (iY lE) w fun c2 w =>
 eY pg (gK 67 c2 2) w fun c3 w =>
 eY pg (gK 28 c3 2) w fun c4 w =>
 eY pg (gJ 26 c4) w fun c5 w =>
 eY pg (mS .len #[26] 3 [c5]) w fun c6 w =>
 eY pg (vT 45 c6 c6) w fun c7 w =>
 kn lE Am c7 w
theorem ED (kn : K3) (hn : N3 Q kn 0 1 5) (h : sE kn (g 0) (g 1) w) : iR pg jW (gU 2 jP) Q g w :=
 lI (kr := no) (l := []) h hn mE trivial
def sL (R : K1) (lE Am : adI) (w : adH) : Prop :=
 sE (fun lE Am jZ w => rY R lE Am jZ w) lE Am w
theorem EX (R : K1) (hr : HR sH R Q) (h : sL R (g 0) (g 1) w) : iR pg jW jP Q g w :=
 uW 2 (ED _ g w (rY R) (fun g w h => iA (uW 1 (ES _ g w (oU R) (fun g w h => iA (EO _ g w R hr h)) h))) h)
def DB (a0 a1 : adI) (w : adH) (R : K1) : Prop :=
 sL R a0 a1 w
theorem FG {a0 a1 : adI} {w : adH} {R : K1} (h : DB a0 a1 w R) : gS pg lV #[a0, a1] w R := by
 refine wC (ann := jW) Tryd.f27 jP [a0, a1] sH 67 TrydM.mixed Tryd.func27 ?_
 exact (EX _ _ _ R (fun _ _ h => h) h)
def JA : FA := ⟨yE, fun i => .leaf ([], []) []⟩
def Lz : List ResultVar := [.tmp 2]
noncomputable def IW : Code := iU Tryd.f28
def GH (R : K1) (RQ : adI) (w : adH) : Prop :=
 gS pg rH #[RQ, (.bool false)] w fun b4 w =>
 eY pg (J2 .not b4) w fun b5 w =>
 R b5 w
theorem MU (R : K1) (hr : HR Lz R Q) (h : GH R (g 0) w) : iR pg JA IW Q g w :=
 lI (kn := no) (l := []) h mE hr trivial
def Pw (a0 : adI) (w : adH) (R : K1) : Prop :=
 GH R a0 w
theorem NN {a0 : adI} {w : adH} {R : K1} (h : Pw a0 w R) : gS pg yE #[a0] w R := by
 refine wC (ann := JA) Tryd.f28 IW [a0] Lz 6 TrydM.mixed Tryd.func28 ?_
 exact (MU _ _ _ R (fun _ _ h => h) h)
def zT : FA := ⟨mX, fun i => .leaf ([], []) []⟩
def Ap : List ResultVar := [.tmp 2, .tmp 3]
noncomputable def yC : Code := iU Tryd.f29
def sO (R : K1) (lE : adI) (w : adH) : Prop :=
 eY pg (iY lE) w fun c4 w =>
 eY pg (gK 67 c4 1) w fun c5 w =>
 eY pg (gJ 9 c5) w fun c6 w =>
 eY pg (gO .add 9 gW gW c6 (.string ⟨#[46, 108, 111, 103]⟩)) w fun c7 w =>
 gS pg mN #[lE, c7] w fun c8 w =>
 eY pg (iP c8 0) w fun c9 w =>
 eY pg (iP c8 1) w fun d0 w =>
 eY pg (iP c8 2) w fun d1 w =>
 eY pg (gO .neq 29 (.tmp 22) (.const (adJ 0)) d1 (adJ 0)) w fun d3 w =>
 lO d3
  (R (.tuple #[(.slice none 0 0), d1]) w)
  (gS pg kV #[c9] w fun d7 w =>
  eY pg (iP d7 0) w fun d8 w =>
  eY pg (iP d7 1) w fun d9 w =>
  gS pg A8 #[d8, (.int .u8 1)] w fun e2 w =>
  eY pg (iP e2 0) w fun e3 w =>
  eY pg (iP e2 1) w fun e4 w =>
  eY pg (gO .eql 24 (.tmp 35) (.const (.int .u64 18446744073709551615)) e3 (.int .u64 18446744073709551615)) w fun e6 w =>
  lO e6
   (R (.tuple #[(.slice none 0 0), (adJ 23)]) w)
   (eY pg (gO .add 24 gW gW e3 (.int .u64 1)) w fun f0 w =>
   eY pg (iY lE) w fun f2 w =>
   eY pg (gK 67 f2 3) w fun f3 w =>
   eY pg (iB 24 f3 f0) w fun _u w =>
   eY pg (iY lE) w fun f4 w =>
   eY pg (gK 67 f4 5) w fun f5 w =>
   eY pg (iB 3 f5 d9) w fun _u w =>
   eY pg (iY lE) w fun f9 w =>
   eY pg (gK 67 f9 3) w fun i0 w =>
   eY pg (gJ 24 i0) w fun i1 w =>
   eY pg (lK 77 [(0, (.int .u8 1)), (1, i1)]) w fun i2 w =>
   gS pg mT #[lE, i2] w fun i3 w =>
   R (.tuple #[d8, i3]) w))
theorem EC (R : K1) (hr : HR Ap R Q) (h : sO R (g 0) w) : iR pg zT yC Q g w :=
 lI (kn := no) (l := []) h mE hr trivial
def CQ (a0 : adI) (w : adH) (R : K1) : Prop :=
 sO R a0 w
theorem FV {a0 : adI} {w : adH} {R : K1} (h : CQ a0 w R) : gS pg mX #[a0] w R := by
 refine wC (ann := zT) Tryd.f29 yC [a0] Ap 54 TrydM.mixed Tryd.func29 ?_
 exact (EC _ _ _ R (fun _ _ h => h) h)
def oC : FA := ⟨pQ, fun i => match Nat.beq i 5 with | true => .leaf ([9], []) [(false, []), (false, []), (false, []), (false, []), (false, []), (false, []), (false, []), (false, []), (false, []), (true, []), (false, [])] | false => match Nat.beq i 11 with | true => .leaf ([13, 14], [(2, 13), (3, 13), (4, 13), (6, 13), (7, 13), (8, 13), (9, 13), (11, 13)]) [(false, []), (false, []), (false, []), (false, []), (false, []), (false, []), (false, []), (false, []), (false, []), (false, []), (false, []), (false, []), (false, []), (true, [1, 3, 4, 5, 6, 8, 9, 10]), (true, []), (false, []), (false, [])] | false => .leaf ([], []) []⟩
def oS : List ResultVar := [.tmp 2, .tmp 3]
noncomputable def nE : Code := iU Tryd.f30
def mK (R : K1) (lE Wy b5 : adI) (w : adH) : Prop :=
 eY pg (iY lE) w fun f6 w =>
 eY pg (gK 67 f6 2) w fun f7 w =>
 eY pg (gK 28 f7 0) w fun f8 w =>
 eY pg (gJ 24 f8) w fun f9 w =>
 eY pg (kP 24 3 f9) w fun i0 w =>
 eY pg (mS .len #[22] 3 [Wy]) w fun i2 w =>
 eY pg (gO .sub 3 gW gW i0 i2) w fun i3 w =>
 eY pg (gO .gtr 3 gW gW i3 (adJ 0)) w fun i5 w =>
 Gd (jQ i5 false) (fun K => K b5 w) w fun i7 w =>
 Gd (jQ i5 false) (fun K => eY pg (J2 .not i7) w K) w fun i8 w =>
 eY pg (kH i5 (.bool true) i8) w fun i9 w =>
 lO i9
  ((dr w) = (dr w) /\
  (dr w) = (dr w) /\
  eY pg (iY lE) (dr w) fun j2 w_ => w_ = (dr w) /\
  eY pg (gK 67 j2 0) (dr w) fun j3 w_ => w_ = (dr w) /\
  eY pg (gJ 32 j3) (dr w) fun j4 w_ => w_ = (dr w) /\
  (dr w) = (dr w) /\
  eY pg (iY lE) (dr w) fun j6 w_ => w_ = (dr w) /\
  eY pg (gK 67 j6 1) (dr w) fun j7 w_ => w_ = (dr w) /\
  eY pg (gJ 9 j7) (dr w) fun j8 w_ => w_ = (dr w) /\
  eY pg (gO .add 9 gW gW j8 (.string ⟨#[46, 112, 97, 114, 116]⟩)) (dr w) fun j9 w_ => w_ = (dr w) /\
  (dr w) = (dr w) /\
  eY pg (mS .len #[22] 3 [Wy]) (dr w) fun l1 w_ => w_ = (dr w) /\
  (dr w) = (dr w) /\
  eY pg (vT 22 i3 i3) (dr w) fun l3 CD =>
  (gM pg (mS .len #[22] 3 [Wy]) l1 CD /\ gM pg (gO .add 9 gW gW j8 (.string ⟨#[46, 112, 97, 114, 116]⟩)) j9 CD /\ gM pg (gJ 9 j7) j8 CD /\ gM pg (gK 67 j6 1) j7 CD /\ gM pg (iY lE) j6 CD /\ gM pg (gJ 32 j3) j4 CD /\ gM pg (gK 67 j2 0) j3 CD /\ gM pg (iY lE) j2 CD /\ True) /\
  gS pg kJ #[j4, j9, l1, l3] CD fun l4 NP =>
  NP = NP /\
  NP = NP /\
  R (.tuple #[Wy, l4]) NP)
  (R (.tuple #[Wy, (adJ 0)]) w)
theorem Ex (R : K1) (hr : HR oS R Q) (h : mK R (g 0) (g 4) (g 5) w) : iR pg oC (gN 4 nE) Q g w :=
 lI (kn := no) (l := []) h mE hr trivial
def sG (kn : K3) (R : K1) (lE : adI) (w : adH) : Prop :=
 eY pg (iY lE) w fun c2 w =>
 eY pg (gK 67 c2 1) w fun c3 w =>
 eY pg (gJ 9 c3) w fun c4 w =>
 eY pg (gO .add 9 gW gW c4 (.string ⟨#[46, 112, 97, 114, 116]⟩)) w fun c5 w =>
 gS pg mN #[lE, c5] w fun c6 w =>
 eY pg (iP c6 0) w fun c7 w =>
 eY pg (iP c6 1) w fun c8 w =>
 eY pg (iP c6 2) w fun c9 w =>
 eY pg (gO .neq 29 (.tmp 20) (.const (adJ 0)) c9 (adJ 0)) w fun d1 w =>
 lO d1
  (R (.tuple #[(.slice none 0 0), c9]) w)
  (eY pg (mS .len #[22] 3 [c7]) w fun d4 w =>
  eY pg (kP 3 24 d4) w fun d5 w =>
  eY pg (iY lE) w fun d7 w =>
  eY pg (gK 67 d7 2) w fun d8 w =>
  eY pg (gK 28 d8 0) w fun d9 w =>
  eY pg (gJ 24 d9) w fun e0 w =>
  eY pg (gO .gtr 24 gW gW d5 e0) w fun e1 w =>
  lO e1
   ((dr w) = (dr w) /\
   eY pg (iY lE) (dr w) fun e3 w_ => w_ = (dr w) /\
   eY pg (gK 67 e3 0) (dr w) fun e4 w_ => w_ = (dr w) /\
   eY pg (gJ 32 e4) (dr w) fun e5 w_ => w_ = (dr w) /\
   (dr w) = (dr w) /\
   eY pg (iY lE) (dr w) fun e7 w_ => w_ = (dr w) /\
   eY pg (gK 67 e7 1) (dr w) fun e8 w_ => w_ = (dr w) /\
   eY pg (gJ 9 e8) (dr w) fun e9 w_ => w_ = (dr w) /\
   eY pg (gO .add 9 gW gW e9 (.string ⟨#[46, 112, 97, 114, 116]⟩)) (dr w) fun f0 w_ => w_ = (dr w) /\
   gS pg rG #[e5, f0] (dr w) fun f1 XO =>
   XO = XO /\
   eY pg (gO .neq 29 (.tmp 42) (.const (adJ 0)) f1 (adJ 0)) XO fun f3 w =>
   lO f3
    (R (.tuple #[(.slice none 0 0), f1]) w)
    (kn lE (.slice none 0 0) (.bool false) w))
   (kn lE c7 c8 w))
theorem Ew (kn : K3) (R : K1) (hn : N3 Q kn 0 4 5) (hr : HR oS R Q) (h : sG kn R (g 0) w) : iR pg oC (gU 4 nE) Q g w :=
 lI (l := []) h hn hr trivial
def sM (R : K1) (lE : adI) (w : adH) : Prop :=
 sG (fun lE Wy b5 w => mK R lE Wy b5 w) R lE w
theorem ET (R : K1) (hr : HR oS R Q) (h : sM R (g 0) w) : iR pg oC nE Q g w :=
 uW 4 (Ew _ g w (mK R) R (fun g w h => iA (Ex _ g w R hr h)) hr h)
def CK (a0 : adI) (w : adH) (R : K1) : Prop :=
 sM R a0 w
theorem Ff {a0 : adI} {w : adH} {R : K1} (h : CK a0 w R) : gS pg pQ #[a0] w R := by
 refine wC (ann := oC) Tryd.f30 nE [a0] oS 76 TrydM.mixed Tryd.func30 ?_
 exact (ET _ _ _ R (fun _ _ h => h) h)
def Aq : FA := ⟨nU, fun i => match Nat.beq i 1 with | true => .leaf ([12], []) [(false, []), (false, []), (false, []), (false, []), (false, []), (false, []), (false, []), (false, []), (false, []), (false, []), (false, []), (false, []), (true, []), (false, []), (false, []), (false, []), (false, []), (false, []), (false, []), (false, [])] | false => match Nat.beq i 2 with | true => .leaf ([10], [(10, 12), (10, 13), (10, 14), (10, 15), (10, 17), (10, 18)]) [(false, []), (false, []), (false, []), (false, []), (false, []), (false, []), (false, []), (false, []), (false, []), (false, []), (true, []), (false, []), (false, [1]), (false, [2]), (false, [3]), (false, [4]), (false, []), (false, [6]), (false, [7]), (false, []), (false, []), (false, [])] | false => .leaf ([], []) []⟩
def By : List ResultVar := [.tmp 6]
noncomputable def Af : Code := iU Tryd.f31
def uD (R : K1) (lE Yi V8 : adI) (w : adH) : Prop :=
 (dr w) = (dr w) /\
 eY pg (iY lE) (dr w) fun c2 w_ => w_ = (dr w) /\
 eY pg (gK 67 c2 2) (dr w) fun c3 w_ => w_ = (dr w) /\
 eY pg (gK 28 c3 0) (dr w) fun c4 w_ => w_ = (dr w) /\
 eY pg (gJ 24 c4) (dr w) fun c5 w_ => w_ = (dr w) /\
 (dr w) = (dr w) /\
 eY pg (iY lE) (dr w) fun c7 w_ => w_ = (dr w) /\
 eY pg (gK 67 c7 2) (dr w) fun c8 w_ => w_ = (dr w) /\
 eY pg (gK 28 c8 1) (dr w) fun c9 w_ => w_ = (dr w) /\
 eY pg (gJ 25 c9) (dr w) fun d0 w_ => w_ = (dr w) /\
 eY pg (kP 25 3 d0) (dr w) fun d1 w_ => w_ = (dr w) /\
 (dr w) = (dr w) /\
 gS pg pI #[c5, d1, Yi] (dr w) fun d3 kT =>
 kT = kT /\
 eY pg (iP d3 0) kT fun d4 w_ => w_ = kT /\
 eY pg (iP d3 1) kT fun d5 w_ => w_ = kT /\
 eY pg (iP d3 2) kT fun d6 w_ => w_ = kT /\
 kT = kT /\
 kT = kT /\
 kT = kT /\
 (dr kT) = (dr kT) /\
 eY pg (gO .eql 29 (.tmp 27) (.const (adJ 0)) d6 (adJ 0)) (dr kT) fun d8 w_ => w_ = (dr kT) /\
 (dr kT) = (dr kT) /\
 Gd (jQ d8 true) (fun K => K V8 (dr kT)) (dr kT) fun e0 w_ => w_ = (dr kT) /\
 Gd (jQ d8 true) (fun K => eY pg (mS .len #[22] 3 [e0]) (dr kT) K) (dr kT) fun e1 w_ => w_ = (dr kT) /\
 Gd (jQ d8 true) (fun K => K d5 (dr kT)) (dr kT) fun e2 w_ => w_ = (dr kT) /\
 Gd (jQ d8 true) (fun K => eY pg (gO .eql 3 (.tmp 31) (.tmp 32) e1 e2) (dr kT) K) (dr kT) fun e3 w_ => w_ = (dr kT) /\
 eY pg (kH d8 e3 (.bool false)) (dr kT) fun e4 w_ => w_ = (dr kT) /\
 (dr kT) = (dr kT) /\
 Gd (jQ e4 true) (fun K => K V8 (dr kT)) (dr kT) fun e6 w_ => w_ = (dr kT) /\
 Gd (jQ e4 true) (fun K => gS pg vR #[e6] (dr kT) K) (dr kT) fun e7 oF =>
 Gd (jQ e4 true) (fun K => K lE oF) oF fun e8 w_ => w_ = oF /\
 Gd (jQ e4 true) (fun K => eY pg (iY e8) oF K) oF fun e9 w_ => w_ = oF /\
 (Gs (jQ e4 true) (gM pg (iY e8) e9 (dr kT)) /\ True) /\
 Gd (jQ e4 true) (fun K => eY pg (gK 67 e9 2) oF K) oF fun f0 w_ => w_ = oF /\
 (Gs (jQ e4 true) (gM pg (gK 67 e9 2) f0 (dr kT)) /\ True) /\
 Gd (jQ e4 true) (fun K => eY pg (gK 28 f0 2) oF K) oF fun f1 w_ => w_ = oF /\
 (Gs (jQ e4 true) (gM pg (gK 28 f0 2) f1 (dr kT)) /\ True) /\
 Gd (jQ e4 true) (fun K => eY pg (gJ 26 f1) oF K) oF fun f2 w_ => w_ = oF /\
 (Gs (jQ e4 true) (gM pg (gJ 26 f1) f2 (dr kT)) /\ True) /\
 Gd (jQ e4 true) (fun K => K Yi oF) oF fun f3 w_ => w_ = oF /\
 Gd (jQ e4 true) (fun K => eY pg (iF 26 f2 f3) oF K) oF fun f4 w_ => w_ = oF /\
 (Gs (jQ e4 true) (gM pg (iF 26 f2 f3) f4 (dr kT)) /\ True) /\
 Gd (jQ e4 true) (fun K => eY pg (gJ 49 f4) oF K) oF fun f5 w_ => w_ = oF /\
 (Gs (jQ e4 true) (gM pg (gJ 49 f4) f5 (dr kT)) /\ True) /\
 Gd (jQ e4 true) (fun K => eY pg (gO .eql 49 (.tmp 37) (.tmp 45) e7 f5) oF K) oF fun f6 w_ => w_ = oF /\
 eY pg (kH e4 f6 (.bool false)) oF fun f7 w_ => w_ = oF /\
 oF = oF /\
 R f7 oF
theorem F1 (R : K1) (hr : HR By R Q) (h : uD R (g 0) (g 1) (g 2) w) : iR pg Aq Af Q g w :=
 lI (kn := no) (l := []) h mE hr trivial
def Ec (a0 a1 a2 : adI) (w : adH) (R : K1) : Prop :=
 uD R a0 a1 a2 w
theorem F8 {a0 a1 a2 : adI} {w : adH} {R : K1} (h : Ec a0 a1 a2 w R) : gS pg nU #[a0, a1, a2] w R := by
 refine wC (ann := Aq) Tryd.f31 Af [a0, a1, a2] By 48 TrydM.mixed Tryd.func31 ?_
 exact (F1 _ _ _ R (fun _ _ h => h) h)
def mG : FA := ⟨vU, fun i => .leaf ([], []) []⟩
def qF : List ResultVar := [.tmp 2]
noncomputable def lW : Code := iU Tryd.f32
def zB (R : K1)  (w : adH) : Prop :=
 R (adJ 0) w
theorem KX (R : K1) (hr : HR qF R Q) (h : zB R w) : iR pg mG (gN 1 (gN 1 lW)) Q g w :=
 lI (kn := no) (l := []) h mE hr trivial
def Ae (kn : K3) (k0 : K0) (R : K1) (b6 b7 b8 : adI) (w : adH) : Prop :=
 eY pg (gO .lss 3 gW gW b8 b7) w fun b9 w =>
 lO b9
  (eY pg (iF 98 b6 b8) w fun c0 w =>
  eY pg (gJ 39 c0) w fun c1 w =>
  eY pg (xQ c1 []) w fun c3 w =>
  eY pg (gO .neq 29 (.tmp 14) (.const (adJ 0)) c3 (adJ 0)) w fun c5 w =>
  lO c5
   (R c3 w)
   (eY pg (gO .add 3 gW gW b8 (adJ 1)) w fun c7 w =>
   kn b6 b7 c7 w))
  (k0 w)
theorem Lx (kn : K3) (k0 : K0) (R : K1) (hn : N3 Q kn 6 7 8) (h0 : E0 Q k0 0) (hr : HR qF R Q) (h : Ae kn k0 R (g 6) (g 7) (g 8) w) : iR pg mG (bI (bI (gN 1 (gU 1 (gN 1 lW))))) Q g w :=
 lI (l := [(0, fun g w => k0 w)]) h hn hr ⟨h0, trivial⟩
def DQ (k0 : K0) (R : K1) (b6 b7 b8 : adI) (w : adH) : Prop :=
 kF (fun (X : adI -> K0) (t : adI) (w : adH) => Ae (fun _ _ b8 w => X b8 w) k0 R b6 b7 t w) b8 w
theorem KQ (k0 : K0) (R : K1) (h0 : E0 Q k0 0) (hr : HR qF R Q) (h : DQ k0 R (g 6) (g 7) (g 8) w) : iR pg mG (bI (gN 1 (gU 1 (gN 1 lW)))) Q g w := by
 refine OV (fun g : Env => g 8) (fun X t w => Ae (fun _ _ b8 w => X b8 w) k0 R (g 6) (g 7) t w) h (fun X g1 w1 ha hL => ?_)
 rw [<- uN 6 ha, <- uN 7 ha] at hL
 exact (Lx _ g1 w1 (fun _ _ b8 w => X b8 w) k0 R (fun _ _ h => h) h0 hr hL)
def C8 (kn : K0) (R : K1) (b6 b7 b8 : adI) (w : adH) : Prop :=
 DQ kn R b6 b7 b8 w
def Dv (kn : K3) (sX : adI) (w : adH) : Prop :=
 eY pg (mS .len #[98] 3 [sX]) w fun b7 w =>
 kn sX b7 (adJ 0) w
theorem KS (kn : K3) (hn : N3 Q kn 6 7 8) (h : Dv kn (g 0) w) : iR pg mG (gU 1 (gU 1 (gN 1 lW))) Q g w :=
 lI (kr := no) (l := []) h hn mE trivial
def Dq (kn : K0) (R : K1) (sX : adI) (w : adH) : Prop :=
 Dv (fun b6 b7 b8 w => C8 kn R b6 b7 b8 w) sX w
def C0 (R : K1) (sX : adI) (w : adH) : Prop :=
 Dq (fun  w => zB R w) R sX w
theorem La (kn : K0) (R : K1) (hn : N0 Q kn) (hr : HR qF R Q) (h : Dq kn R (g 0) w) : iR pg mG (gU 1 (gN 1 lW)) Q g w :=
 uW 1 (KS _ g w (C8 kn R) (fun g w h => iA (Od 0 (KQ _ g w kn R hn hr h))) h)
def CT (kn : K1) (sX : adI) (w : adH) : Prop :=
 kn sX w
theorem Ld (kn : K1) (hn : N1 Q kn 0) (h : CT kn (g 0) w) : iR pg mG (gU 1 lW) Q g w :=
 lI (kr := no) (l := []) h hn mE trivial
def CA (R : K1) (sX : adI) (w : adH) : Prop :=
 CT (fun sX w => C0 R sX w) sX w
theorem KW (R : K1) (hr : HR qF R Q) (h : CA R (g 0) w) : iR pg mG lW Q g w :=
 uW 1 (Ld _ g w (C0 R) (fun g w h => iA (uW 1 (La _ g w (fun  w => zB R w) R (fun g w h => iA (KX _ g w R hr h)) hr h))) h)
def Mt (a0 : adI) (w : adH) (R : K1) : Prop :=
 CA R a0 w
theorem Md {a0 : adI} {w : adH} {R : K1} (h : Mt a0 w R) : gS pg vU #[a0] w R := by
 refine wC (ann := mG) Tryd.f32 lW [a0] qF 18 TrydM.mixed Tryd.func32 ?_
 exact (KW _ _ _ R (fun _ _ h => h) h)
def Aw : FA := ⟨nR, fun i => match Nat.beq i 1 with | true => .leaf ([12], []) [(false, []), (false, []), (false, []), (false, []), (false, []), (false, []), (false, []), (false, []), (false, []), (false, []), (false, []), (false, []), (true, []), (false, [])] | false => .leaf ([], []) []⟩
def BG : List ResultVar := [.tmp 3]
noncomputable def Aa : Code := iU Tryd.f33
def uF (R : K1) (b0 b1 b2 : adI) (w : adH) : Prop :=
 eY pg (gJ 35 b0) (dr w) fun b4 w_ => w_ = (dr w) /\
 eY pg (iY b4) (dr w) fun b5 w_ => w_ = (dr w) /\
 eY pg (gK 67 b5 0) (dr w) fun b6 w_ => w_ = (dr w) /\
 eY pg (gJ 32 b6) (dr w) fun b7 w_ => w_ = (dr w) /\
 eY pg (gJ 35 b0) (dr w) fun b8 w_ => w_ = (dr w) /\
 eY pg (iY b8) (dr w) fun b9 w_ => w_ = (dr w) /\
 eY pg (gK 67 b9 1) (dr w) fun c0 w_ => w_ = (dr w) /\
 eY pg (gJ 9 c0) (dr w) fun c1 w_ => w_ = (dr w) /\
 eY pg (gO .add 9 gW gW c1 (.string ⟨#[46, 112, 97, 114, 116]⟩)) (dr w) fun c2 w_ => w_ = (dr w) /\
 eY pg (gJ 24 b1) (dr w) fun c3 w_ => w_ = (dr w) /\
 eY pg (kP 24 3 c3) (dr w) fun c4 w_ => w_ = (dr w) /\
 eY pg (gJ 22 b2) (dr w) fun c5 w_ => w_ = (dr w) /\
 gS pg kJ #[b7, c2, c4, c5] (dr w) fun c6 kT =>
 kT = kT /\
 R c6 kT
theorem FE (R : K1) (hr : HR BG R Q) (h : uF R (g 0) (g 1) (g 2) w) : iR pg Aw Aa Q g w :=
 lI (kn := no) (l := []) h mE hr trivial
def Eb (a0 a1 a2 : adI) (w : adH) (R : K1) : Prop :=
 uF R a0 a1 a2 w
theorem GK {a0 a1 a2 : adI} {w : adH} {R : K1} (h : Eb a0 a1 a2 w R) : gS pg nR #[a0, a1, a2] w R := by
 refine wC (ann := Aw) Tryd.f33 Aa [a0, a1, a2] BG 17 TrydM.mixed Tryd.func33 ?_
 exact (FE _ _ _ R (fun _ _ h => h) h)
def AA : FA := ⟨nX, fun i => .leaf ([], []) []⟩
def BB : List ResultVar := [.tmp 2]
noncomputable def zA : Code := iU Tryd.f34
def tN (R : K1) (b0 b1 : adI) (w : adH) : Prop :=
 eY pg (gJ 35 b0) w fun b3 w =>
 eY pg (gJ 3 b1) w fun b4 w =>
 eY pg (kP 3 24 b4) w fun b5 w =>
 eY pg (lK 77 [(0, (.int .u8 2)), (1, b5)]) w fun b6 w =>
 gS pg mT #[b3, b6] w fun b7 w =>
 R b7 w
theorem Ft (R : K1) (hr : HR BB R Q) (h : tN R (g 0) (g 1) w) : iR pg AA zA Q g w :=
 lI (kn := no) (l := []) h mE hr trivial
def Ea (a0 a1 : adI) (w : adH) (R : K1) : Prop :=
 tN R a0 a1 w
theorem Gi {a0 a1 : adI} {w : adH} {R : K1} (h : Ea a0 a1 w R) : gS pg nX #[a0, a1] w R := by
 refine wC (ann := AA) Tryd.f34 zA [a0, a1] BB 8 TrydM.mixed Tryd.func34 ?_
 exact (Ft _ _ _ R (fun _ _ h => h) h)
def mB : FA := ⟨mT, fun i => match Nat.beq i 3 with | true => .leaf ([14], []) [(false, []), (false, []), (false, []), (false, []), (false, []), (false, []), (false, []), (false, []), (false, []), (false, []), (false, []), (false, []), (false, []), (false, []), (true, []), (false, [])] | false => .leaf ([], []) []⟩
def rT : List ResultVar := [.tmp 4]
noncomputable def lS : Code := iU Tryd.f35
def oX (R : K1) (Sb : adI) (w : adH) : Prop :=
 R Sb w
theorem EM (R : K1) (hr : HR rT R Q) (h : oX R (g 6) w) : iR pg mB (gN 1 (gN 3 lS)) Q g w :=
 lI (kn := no) (l := []) h mE hr trivial
def sK (kn : K1) (lE QK Sb : adI) (w : adH) : Prop :=
 eY pg (gO .eql 29 (.tmp 29) (.const (adJ 0)) Sb (adJ 0)) w fun e0 w =>
 lO e0
  (eY pg (iY lE) w fun e2 w =>
  eY pg (gK 67 e2 5) w fun e3 w =>
  eY pg (gJ 3 e3) w fun e4 w =>
  eY pg (mS .len #[22] 3 [QK]) w fun e6 w =>
  eY pg (gO .add 3 gW gW e4 e6) w fun e7 w =>
  eY pg (iY lE) w fun e8 w =>
  eY pg (gK 67 e8 5) w fun e9 w =>
  eY pg (iB 3 e9 e7) w fun _u w =>
  kn Sb w)
  (kn Sb w)
theorem EG (kn : K1) (hn : N1 Q kn 6) (h : sK kn (g 0) (g 5) (g 6) w) : iR pg mB (gU 1 (gN 3 lS)) Q g w :=
 lI (kr := no) (l := []) h hn mE trivial
def rU (R : K1) (lE QK Sb : adI) (w : adH) : Prop :=
 sK (fun Sb w => oX R Sb w) lE QK Sb w
def rZ (kn : K3) (lE Xn : adI) (w : adH) : Prop :=
 eY pg (DY 77 Xn) w fun Zw w =>
 eY pg (gJ 77 Zw) w fun b8 w =>
 gS pg zM #[b8] w fun b9 w =>
 eY pg (iP b9 0) w fun c0 w =>
 eY pg (iP b9 1) w fun c1 w =>
 eY pg (gO .eql 29 (.tmp 12) (.const (adJ 0)) c1 (adJ 0)) w fun c3 w =>
 lO c3
  ((dr w) = (dr w) /\
  eY pg (iY lE) (dr w) fun c5 w_ => w_ = (dr w) /\
  eY pg (gK 67 c5 0) (dr w) fun c6 w_ => w_ = (dr w) /\
  eY pg (gJ 32 c6) (dr w) fun c7 w_ => w_ = (dr w) /\
  (dr w) = (dr w) /\
  eY pg (iY lE) (dr w) fun c9 w_ => w_ = (dr w) /\
  eY pg (gK 67 c9 1) (dr w) fun d0 w_ => w_ = (dr w) /\
  eY pg (gJ 9 d0) (dr w) fun d1 w_ => w_ = (dr w) /\
  eY pg (gO .add 9 gW gW d1 (.string ⟨#[46, 108, 111, 103]⟩)) (dr w) fun d2 w_ => w_ = (dr w) /\
  (dr w) = (dr w) /\
  eY pg (iY lE) (dr w) fun d4 w_ => w_ = (dr w) /\
  eY pg (gK 67 d4 5) (dr w) fun d5 w_ => w_ = (dr w) /\
  eY pg (gJ 3 d5) (dr w) fun d6 w_ => w_ = (dr w) /\
  (dr w) = (dr w) /\
  gS pg kJ #[c7, d2, d6, c0] (dr w) fun d8 Vd =>
  Vd = Vd /\
  kn lE c0 d8 Vd)
  (kn lE c0 c1 w)
theorem Eu (kn : K3) (hn : N3 Q kn 0 5 6) (h : rZ kn (g 0) (g 1) w) : iR pg mB (gU 3 lS) Q g w :=
 lI (kr := no) (l := []) h hn mE trivial
def sN (R : K1) (lE Xn : adI) (w : adH) : Prop :=
 rZ (fun lE QK Sb w => rU R lE QK Sb w) lE Xn w
theorem Ey (R : K1) (hr : HR rT R Q) (h : sN R (g 0) (g 1) w) : iR pg mB lS Q g w :=
 uW 3 (Eu _ g w (rU R) (fun g w h => iA (uW 1 (EG _ g w (oX R) (fun g w h => iA (EM _ g w R hr h)) h))) h)
def C3 (a0 a1 : adI) (w : adH) (R : K1) : Prop :=
 sN R a0 a1 w
theorem FR {a0 a1 : adI} {w : adH} {R : K1} (h : C3 a0 a1 w R) : gS pg mT #[a0, a1] w R := by
 refine wC (ann := mB) Tryd.f35 lS [a0, a1] rT 41 TrydM.mixed Tryd.func35 ?_
 exact (Ey _ _ _ R (fun _ _ h => h) h)
def vX : FA := ⟨lY, fun i => match Nat.beq i 1 with | true => .leaf ([13], []) [(false, []), (false, []), (false, []), (false, []), (false, []), (false, []), (false, []), (false, []), (false, []), (false, []), (false, []), (false, []), (false, []), (true, []), (false, [])] | false => .leaf ([], []) []⟩
def yG : List ResultVar := [.tmp 1]
noncomputable def uT : Code := iU Tryd.f36
def qH (R : K1) (b0 : adI) (w : adH) : Prop :=
 eY pg (gJ 35 b0) (dr w) fun b2 w_ => w_ = (dr w) /\
 eY pg (iY b2) (dr w) fun b3 w_ => w_ = (dr w) /\
 eY pg (gK 67 b3 0) (dr w) fun b4 w_ => w_ = (dr w) /\
 eY pg (gJ 32 b4) (dr w) fun b5 w_ => w_ = (dr w) /\
 eY pg (gJ 35 b0) (dr w) fun b6 w_ => w_ = (dr w) /\
 eY pg (iY b6) (dr w) fun b7 w_ => w_ = (dr w) /\
 eY pg (gK 67 b7 1) (dr w) fun b8 w_ => w_ = (dr w) /\
 eY pg (gJ 9 b8) (dr w) fun b9 w_ => w_ = (dr w) /\
 eY pg (gO .add 9 gW gW b9 (.string ⟨#[46, 112, 97, 114, 116]⟩)) (dr w) fun c0 w_ => w_ = (dr w) /\
 eY pg (gJ 35 b0) (dr w) fun c1 w_ => w_ = (dr w) /\
 eY pg (iY c1) (dr w) fun c2 w_ => w_ = (dr w) /\
 eY pg (gK 67 c2 1) (dr w) fun c3 w_ => w_ = (dr w) /\
 eY pg (gJ 9 c3) (dr w) fun c4 w_ => w_ = (dr w) /\
 gS pg rD #[b5, c0, c4] (dr w) fun c5 U3 =>
 U3 = U3 /\
 R c5 U3
theorem CJ (R : K1) (hr : HR yG R Q) (h : qH R (g 0) w) : iR pg vX uT Q g w :=
 lI (kn := no) (l := []) h mE hr trivial
def Bg (a0 : adI) (w : adH) (R : K1) : Prop :=
 qH R a0 w
theorem D0 {a0 : adI} {w : adH} {R : K1} (h : Bg a0 w R) : gS pg lY #[a0] w R := by
 refine wC (ann := vX) Tryd.f36 uT [a0] yG 16 TrydM.mixed Tryd.func36 ?_
 exact (CJ _ _ _ R (fun _ _ h => h) h)
def Bw : FA := ⟨rD, fun i => .leaf ([], []) []⟩
def Cd : List ResultVar := [.tmp 6]
noncomputable def AB : Code := iU Tryd.f37
def uZ (R : K1) (nJ VN UZ : adI) (w : adH) : Prop :=
 gS pg mU #[nJ] w fun c1 w =>
 eY pg (gO .neq 29 (.tmp 12) (.const (adJ 0)) c1 (adJ 0)) w fun c3 w =>
 lO c3
  (R c1 w)
  (gS pg AM #[VN] w fun c6 w =>
  eY pg (J2 .not c6) w fun c7 w =>
  Gd (jQ c7 false) (fun K => K UZ w) w fun c9 w =>
  Gd (jQ c7 false) (fun K => gS pg AM #[c9] w K) w fun d0 w =>
  Gd (jQ c7 false) (fun K => eY pg (J2 .not d0) w K) w fun d1 w =>
  eY pg (kH c7 (.bool true) d1) w fun d2 w =>
  lO d2
   (R (adJ 1) w)
   (eY pg (iY nJ) w fun d5 w =>
   eY pg (gK 64 d5 2) w fun d6 w =>
   eY pg (gJ 61 d6) w fun d7 w =>
   eY pg (yN 61 d7 VN true) w fun d9 w =>
   eY pg (iP d9 0) w fun e0 w =>
   eY pg (iP d9 1) w fun e1 w =>
   eY pg (J2 .not e1) w fun e3 w =>
   lO e3
    (R (adJ 21) w)
    (eY pg (lK 88 [(0, (adJ 1)), (1, VN), (2, UZ)]) w fun e7 w =>
    gS pg oI #[nJ, e7] w fun e8 w =>
    R e8 w)))
theorem GJ (R : K1) (hr : HR Cd R Q) (h : uZ R (g 0) (g 1) (g 2) w) : iR pg Bw AB Q g w :=
 lI (kn := no) (l := []) h mE hr trivial
def FN (a0 a1 a2 : adI) (w : adH) (R : K1) : Prop :=
 uZ R a0 a1 a2 w
theorem Hl {a0 a1 a2 : adI} {w : adH} {R : K1} (h : FN a0 a1 a2 w R) : gS pg rD #[a0, a1, a2] w R := by
 refine wC (ann := Bw) Tryd.f37 AB [a0, a1, a2] Cd 39 TrydM.mixed Tryd.func37 ?_
 exact (GJ _ _ _ R (fun _ _ h => h) h)
def Fb : FA := ⟨mU, fun i => .leaf ([], []) []⟩
def G2 : List ResultVar := [.tmp 2]
noncomputable def Es : Code := iU Tryd.f38
def BU (R : K1) (nJ : adI) (w : adH) : Prop :=
 eY pg (gO .eql 32 (.tmp 4) (.const (.pointer none)) nJ (.pointer none)) w fun b5 w =>
 lO b5
  (R (adJ 1) w)
  (eY pg (iY nJ) w fun b8 w =>
  eY pg (gK 64 b8 5) w fun b9 w =>
  eY pg (gJ 4 b9) w fun c0 w =>
  lO c0
   (R (adJ 20) w)
   (R (adJ 0) w))
theorem J9 (R : K1) (hr : HR G2 R Q) (h : BU R (g 0) w) : iR pg Fb Es Q g w :=
 lI (kn := no) (l := []) h mE hr trivial
def Kp (a0 : adI) (w : adH) (R : K1) : Prop :=
 BU R a0 w
theorem KH {a0 : adI} {w : adH} {R : K1} (h : Kp a0 w R) : gS pg mU #[a0] w R := by
 refine wC (ann := Fb) Tryd.f38 Es [a0] G2 11 TrydM.mixed Tryd.func38 ?_
 exact (J9 _ _ _ R (fun _ _ h => h) h)
def vS : FA := ⟨kR, fun i => .leaf ([], []) []⟩
def yA : List ResultVar := [.tmp 2]
noncomputable def uX : Code := iU Tryd.f39
def qG (R : K1) (lE : adI) (w : adH) : Prop :=
 eY pg (gO .eql 22 (.tmp 3) (.const (.slice none 0 0)) lE (.slice none 0 0)) w fun b4 w =>
 lO b4
  (R (.slice none 0 0) w)
  (eY pg (iC 22 0 []) w fun b5 w =>
  eY pg (mS .append #[22, 22] 22 [b5, lE]) w fun b7 w =>
  R b7 w)
theorem Dd (R : K1) (hr : HR yA R Q) (h : qG R (g 0) w) : iR pg vS uX Q g w :=
 lI (kn := no) (l := []) h mE hr trivial
def Bi (a0 : adI) (w : adH) (R : K1) : Prop :=
 qG R a0 w
theorem DU {a0 : adI} {w : adH} {R : K1} (h : Bi a0 w R) : gS pg kR #[a0] w R := by
 refine wC (ann := vS) Tryd.f39 uX [a0] yA 8 TrydM.mixed Tryd.func39 ?_
 exact (Dd _ _ _ R (fun _ _ h => h) h)
def KK : FA := ⟨AM, fun i => .leaf ([], []) []⟩
def MH : List ResultVar := [.tmp 2]
noncomputable def JL : Code := iU Tryd.f40
def IX (R : K1) (Vk : adI) (w : adH) : Prop :=
 eY pg (mS .len #[9] 3 [Vk]) w fun b4 w =>
 eY pg (gO .geq 3 gW gW b4 (adJ 1)) w fun b5 w =>
 Gd (jQ b5 true) (fun K => K Vk w) w fun b7 w =>
 Gd (jQ b5 true) (fun K => eY pg (mS .len #[9] 3 [b7]) w K) w fun b8 w =>
 Gd (jQ b5 true) (fun K => eY pg (gO .leq 3 gW gW b8 (adJ 32)) w K) w fun b9 w =>
 eY pg (kH b5 b9 (.bool false)) w fun c0 w =>
 R c0 w
theorem Nj (R : K1) (hr : HR MH R Q) (h : IX R (g 0) w) : iR pg KK JL Q g w :=
 lI (kn := no) (l := []) h mE hr trivial
def Qt (a0 : adI) (w : adH) (R : K1) : Prop :=
 IX R a0 w
theorem OX {a0 : adI} {w : adH} {R : K1} (h : Qt a0 w R) : gS pg AM #[a0] w R := by
 refine wC (ann := KK) Tryd.f40 JL [a0] MH 11 TrydM.mixed Tryd.func40 ?_
 exact (Nj _ _ _ R (fun _ _ h => h) h)
def kX : FA := ⟨sP, fun i => .leaf ([], []) []⟩
def wQ : List ResultVar := [.tmp 2]
noncomputable def kM : Code := iU Tryd.f41
def rJ (R : K1) (EZ : adI) (w : adH) : Prop :=
 R EZ w
theorem Ht (R : K1) (hr : HR wQ R Q) (h : rJ R (g 3) w) : iR pg kX (gN 1 (gN 2 kM)) Q g w :=
 lI (kn := no) (l := []) h mE hr trivial
def rM (kn : K2) (k0 : K1) (EZ b7 : adI) (w : adH) : Prop :=
 eY pg (Th b7 false 0) w fun b8 w =>
 eY pg (iP b8 0) w fun b9 w =>
 lO b9
  (eY pg (Sk b7) w fun c0 w =>
  eY pg (iP c0 1) w fun c1 w =>
  eY pg (mS .len #[22] 3 [c1]) w fun c4 w =>
  eY pg (gO .add 3 gW gW EZ c4) w fun c5 w =>
  kn c5 b7 w)
  (k0 EZ w)
theorem Ha (kn : K2) (k0 : K1) (hn : N2 Q kn 3 7) (h0 : E1 Q k0 0 3) (h : rM kn k0 (g 3) (g 7) w) : iR pg kX (bI (bI (gN 1 (gU 1 (gN 2 kM))))) Q g w :=
 lI (kr := no) (l := [(0, fun g w => k0 (g 3) w)]) h hn mE ⟨h0, trivial⟩
def xM (k0 : K1) (EZ b7 : adI) (w : adH) : Prop :=
 kF (fun (X : adI -> K0) (t : adI) (w : adH) => rM (fun EZ _ w => X EZ w) k0 t b7 w) EZ w
theorem Hm (k0 : K1) (h0 : E1 Q k0 0 3) (h : xM k0 (g 3) (g 7) w) : iR pg kX (bI (gN 1 (gU 1 (gN 2 kM)))) Q g w := by
 refine OV (fun g : Env => g 3) (fun X t w => rM (fun EZ _ w => X EZ w) k0 t (g 7) w) h (fun X g1 w1 ha hL => ?_)
 rw [<- uN 7 ha] at hL
 exact (Ha _ g1 w1 (fun EZ _ w => X EZ w) k0 (fun _ _ h => h) h0 hL)
def wO (kn : K1) (EZ b7 : adI) (w : adH) : Prop :=
 xM kn EZ b7 w
def wJ (kn : K2) (PY EZ : adI) (w : adH) : Prop :=
 eY pg (Np 61 PY) w fun b7 w =>
 kn EZ b7 w
theorem Hd (kn : K2) (hn : N2 Q kn 3 7) (h : wJ kn (g 0) (g 3) w) : iR pg kX (gU 1 (gU 1 (gN 2 kM))) Q g w :=
 lI (kr := no) (l := []) h hn mE trivial
def xS (kn : K1) (PY EZ : adI) (w : adH) : Prop :=
 wJ (fun EZ b7 w => wO kn EZ b7 w) PY EZ w
def wN (R : K1) (PY EZ : adI) (w : adH) : Prop :=
 xS (fun EZ w => rJ R EZ w) PY EZ w
theorem Hs (kn : K1) (hn : N1 Q kn 3) (h : xS kn (g 0) (g 3) w) : iR pg kX (gU 1 (gN 2 kM)) Q g w :=
 uW 1 (Hd _ g w (wO kn) (fun g w h => iA (Od 0 (Hm _ g w kn hn h))) h)
def xI (kn : K2) (PY : adI) (w : adH) : Prop :=
 kn PY (adJ 0) w
theorem HL (kn : K2) (hn : N2 Q kn 0 3) (h : xI kn (g 0) w) : iR pg kX (gU 2 kM) Q g w :=
 lI (kr := no) (l := []) h hn mE trivial
def wY (R : K1) (PY : adI) (w : adH) : Prop :=
 xI (fun PY EZ w => wN R PY EZ w) PY w
theorem HO (R : K1) (hr : HR wQ R Q) (h : wY R (g 0) w) : iR pg kX kM Q g w :=
 uW 2 (HL _ g w (wN R) (fun g w h => iA (uW 1 (Hs _ g w (rJ R) (fun g w h => iA (Ht _ g w R hr h)) h))) h)
def GS (a0 : adI) (w : adH) (R : K1) : Prop :=
 wY R a0 w
theorem IT {a0 : adI} {w : adH} {R : K1} (h : GS a0 w R) : gS pg sP #[a0] w R := by
 refine wC (ann := kX) Tryd.f41 kM [a0] wQ 17 TrydM.mixed Tryd.func41 ?_
 exact (HO _ _ _ R (fun _ _ h => h) h)
def C5 : FA := ⟨oI, fun i => match Nat.beq i 3 with | true => .leaf ([6, 7, 10], [(2, 6), (3, 6), (4, 6)]) [(false, []), (false, []), (false, []), (false, []), (false, []), (false, []), (true, [1, 2, 3]), (true, []), (false, []), (false, []), (true, [])] | false => match Nat.beq i 4 with | true => .leaf ([5], []) [(false, []), (false, []), (false, []), (false, []), (false, []), (true, [])] | false => .leaf ([], []) []⟩
def Ei : List ResultVar := [.tmp 4]
noncomputable def B7 : Code := iU Tryd.f42
def zO (R : K1) (nJ Zg : adI) (w : adH) : Prop :=
 eY pg (DY 88 Zg) w fun Ue w =>
 gS pg pJ #[nJ] w fun b6 w =>
 lO b6
  (R (adJ 20) w)
  ((dr w) = (dr w) /\
  (dr w) = (dr w) /\
  eY pg (iY nJ) (dr w) fun b9 w_ => w_ = (dr w) /\
  eY pg (gK 64 b9 3) (dr w) fun c0 w_ => w_ = (dr w) /\
  eY pg (gJ 62 c0) (dr w) fun c1 w_ => w_ = (dr w) /\
  eY pg (gJ 88 Ue) (dr w) fun c2 w_ => w_ = (dr w) /\
  eY pg (iC 62 1 [(0, c2)]) (dr w) fun c3 Wt =>
  (gM pg (gJ 62 c0) c1 Wt /\ gM pg (gK 64 b9 3) c0 Wt /\ gM pg (iY nJ) b9 Wt /\ True) /\
  eY pg (mS .append #[62, 62] 62 [c1, c3]) Wt fun c4 UX =>
  eY pg (iY nJ) UX fun c5 w_ => w_ = UX /\
  eY pg (gK 64 c5 3) UX fun c6 w_ => w_ = UX /\
  eY pg (iB 62 c6 c4) UX fun _u10 Ip =>
  (dr Ip) = (dr Ip) /\
  eY pg (iY nJ) (dr Ip) fun c8 w_ => w_ = (dr Ip) /\
  eY pg (gK 64 c8 2) (dr Ip) fun c9 w_ => w_ = (dr Ip) /\
  eY pg (gJ 61 c9) (dr Ip) fun d0 w_ => w_ = (dr Ip) /\
  eY pg (gJ 88 Ue) (dr Ip) fun d1 w_ => w_ = (dr Ip) /\
  gS pg wF #[d0, d1] (dr Ip) fun d2 Zb =>
  R (adJ 0) Zb)
theorem Ix (R : K1) (hr : HR Ei R Q) (h : zO R (g 0) (g 1) w) : iR pg C5 B7 Q g w :=
 lI (kn := no) (l := []) h mE hr trivial
def IG (a0 a1 : adI) (w : adH) (R : K1) : Prop :=
 zO R a0 a1 w
theorem Jd {a0 a1 : adI} {w : adH} {R : K1} (h : IG a0 a1 w R) : gS pg oI #[a0, a1] w R := by
 refine wC (ann := C5) Tryd.f42 B7 [a0, a1] Ei 23 TrydM.mixed Tryd.func42 ?_
 exact (Ix _ _ _ R (fun _ _ h => h) h)
def vZ : FA := ⟨oD, fun i => .leaf ([], []) []⟩
def yD : List ResultVar := [.tmp 2]
noncomputable def uY : Code := iU Tryd.f43
def qD (R : K1) (lE : adI) (w : adH) : Prop :=
 eY pg (gO .eql 45 (.tmp 3) (.const (.slice none 0 0)) lE (.slice none 0 0)) w fun b4 w =>
 lO b4
  (R (.slice none 0 0) w)
  (eY pg (iC 45 0 []) w fun b5 w =>
  eY pg (mS .append #[45, 45] 45 [b5, lE]) w fun b7 w =>
  R b7 w)
theorem Dy (R : K1) (hr : HR yD R Q) (h : qD R (g 0) w) : iR pg vZ uY Q g w :=
 lI (kn := no) (l := []) h mE hr trivial
def BH (a0 : adI) (w : adH) (R : K1) : Prop :=
 qD R a0 w
theorem DX {a0 : adI} {w : adH} {R : K1} (h : BH a0 w R) : gS pg oD #[a0] w R := by
 refine wC (ann := vZ) Tryd.f43 uY [a0] yD 8 TrydM.mixed Tryd.func43 ?_
 exact (Dy _ _ _ R (fun _ _ h => h) h)
def Oq : FA := ⟨H8, fun i => .leaf ([], []) []⟩
def Pv : List ResultVar := [.cell 2 49]
noncomputable def Mx : Code := iU Tryd.f44
def LG (R : K1) (Ak : adI) (w : adH) : Prop :=
 eY pg (lQ 49) w fun b2 w =>
 gS pg I5 #[] w fun b4 w =>
 gS pg lU #[b4, Ak] w fun b7 w =>
 gS pg yW #[b4] w fun b9 w =>
 eY pg (iB 49 b2 b9) w fun _u w =>
 Uw pg 49 b2 w fun r0 => R r0 w
theorem PQ (R : K1) (hr : HR Pv R Q) (h : LG R (g 0) w) : iR pg Oq Mx Q g w :=
 lI (kn := no) (l := []) h mE hr trivial
def UF (a0 : adI) (w : adH) (R : K1) : Prop :=
 LG R a0 w
theorem Rc {a0 : adI} {w : adH} {R : K1} (h : UF a0 w R) : gS pg H8 #[a0] w R := by
 refine wC (ann := Oq) Tryd.f44 Mx [a0] Pv 10 TrydM.mixed Tryd.func44 ?_
 exact (PQ _ _ _ R (fun _ _ h => h) h)
def pW : FA := ⟨pJ, fun i => .leaf ([], []) []⟩
def xU : List ResultVar := [.tmp 2]
noncomputable def pH : Code := iU Tryd.f45
def mL (R : K1) (nJ : adI) (w : adH) : Prop :=
 eY pg (iY nJ) w fun d6 w =>
 eY pg (gK 64 d6 5) w fun d7 w =>
 eY pg (gJ 4 d7) w fun d8 w =>
 R d8 w
theorem Hg (R : K1) (hr : HR xU R Q) (h : mL R (g 0) w) : iR pg pW (gN 2 pH) Q g w :=
 lI (kn := no) (l := []) h mE hr trivial
def xP (kn : K1) (nJ : adI) (w : adH) : Prop :=
 eY pg (iY nJ) w fun b5 w =>
 eY pg (gK 64 b5 4) w fun b6 w =>
 eY pg (gJ 3 b6) w fun b7 w =>
 eY pg (gO .eql 3 (.tmp 7) (.const (adJ 0)) b7 (adJ 0)) w fun b8 w =>
 lO b8
  (eY pg (iY nJ) w fun c0 w =>
  eY pg (gK 64 c0 5) w fun c1 w =>
  eY pg (iB 4 c1 (.bool true)) w fun _u w =>
  kn nJ w)
  (eY pg (iY nJ) w fun c4 w =>
  eY pg (gK 64 c4 4) w fun c5 w =>
  eY pg (gJ 3 c5) w fun c6 w =>
  eY pg (gO .gtr 3 gW gW c6 (adJ 0)) w fun c7 w =>
  lO c7
   (eY pg (iY nJ) w fun c9 w =>
   eY pg (gK 64 c9 4) w fun d0 w =>
   eY pg (gJ 3 d0) w fun d1 w =>
   eY pg (gO .sub 3 gW gW d1 (adJ 1)) w fun d2 w =>
   eY pg (iY nJ) w fun d3 w =>
   eY pg (gK 64 d3 4) w fun d4 w =>
   eY pg (iB 3 d4 d2) w fun _u w =>
   kn nJ w)
   (kn nJ w))
theorem Hr (kn : K1) (hn : N1 Q kn 0) (h : xP kn (g 0) w) : iR pg pW (gU 2 pH) Q g w :=
 lI (kr := no) (l := []) h hn mE trivial
def wL (R : K1) (nJ : adI) (w : adH) : Prop :=
 xP (fun nJ w => mL R nJ w) nJ w
theorem Hv (R : K1) (hr : HR xU R Q) (h : wL R (g 0) w) : iR pg pW pH Q g w :=
 uW 2 (Hr _ g w (mL R) (fun g w h => iA (Hg _ g w R hr h)) h)
def G1 (a0 : adI) (w : adH) (R : K1) : Prop :=
 wL R a0 w
theorem H5 {a0 : adI} {w : adH} {R : K1} (h : G1 a0 w R) : gS pg pJ #[a0] w R := by
 refine wC (ann := pW) Tryd.f45 pH [a0] xU 29 TrydM.mixed Tryd.func45 ?_
 exact (Hv _ _ _ R (fun _ _ h => h) h)
def D9 : FA := ⟨wF, fun i => match Nat.beq i 6 with | true => .leaf ([6], []) [(false, []), (false, []), (false, []), (false, []), (false, []), (false, []), (true, [])] | false => .leaf ([], []) []⟩
def LC : List ResultVar := []
noncomputable def Dg : Code := iU Tryd.f47
def AP (kn : K0) (PY Zg : adI) (w : adH) : Prop :=
 eY pg (DY 88 Zg) w fun Ue w =>
 eY pg (gK 88 Ue 1) w fun b9 w =>
 eY pg (gJ 9 b9) w fun c0 w =>
 eY pg (yN 61 PY c0 true) w fun c1 w =>
 eY pg (iP c1 0) w fun c2 w =>
 eY pg (iP c1 1) w fun c3 w =>
 eY pg (gK 88 Ue 0) w fun c4 w =>
 eY pg (gJ 3 c4) w fun c5 w =>
 eY pg (gO .eql 3 (.tmp 15) (.const (adJ 0)) c5 (adJ 0)) w fun c7 w =>
 lO c7
  (eY pg (mS .len #[22] 3 [c2]) w fun c9 w =>
  eY pg (gK 88 Ue 3) w fun d0 w =>
  eY pg (gJ 3 d0) w fun d1 w =>
  eY pg (gK 88 Ue 4) w fun d2 w =>
  eY pg (gJ 22 d2) w fun d3 w =>
  eY pg (mS .len #[22] 3 [d3]) w fun d4 w =>
  eY pg (gO .add 3 gW gW d1 d4) w fun d5 w =>
  eY pg (mS .max #[3, 3] 3 [c9, d5]) w fun d6 w =>
  eY pg (vT 22 d6 d6) w fun d7 w =>
  eY pg (mS .copy #[22, 22] 3 [d7, c2]) w fun e0 w =>
  (dr w) = (dr w) /\
  eY pg (gK 88 Ue 3) (dr w) fun e2 w_ => w_ = (dr w) /\
  eY pg (gJ 3 e2) (dr w) fun e3 w_ => w_ = (dr w) /\
  eY pg (lL 22 d7 (some e3) none none) (dr w) fun e4 w_ => w_ = (dr w) /\
  eY pg (gK 88 Ue 4) (dr w) fun e5 w_ => w_ = (dr w) /\
  eY pg (gJ 22 e5) (dr w) fun e6 w_ => w_ = (dr w) /\
  eY pg (mS .copy #[22, 22] 3 [e4, e6]) (dr w) fun e7 Zi =>
  eY pg (gK 88 Ue 1) Zi fun e9 w =>
  eY pg (gJ 9 e9) w fun f0 w =>
  eY pg (Ka 61 PY f0 d7) w fun _u w =>
  kn w)
  (eY pg (gO .eql 3 (.tmp 15) (.const (adJ 1)) c5 (adJ 1)) w fun f3 w =>
  lO f3
   (lO c3
    (eY pg (gK 88 Ue 1) w fun f6 w =>
    eY pg (gJ 9 f6) w fun f7 w =>
    eY pg (mS .delete #[61, 9] 0 [PY, f7]) w fun _u w =>
    eY pg (gK 88 Ue 2) w fun f9 w =>
    eY pg (gJ 9 f9) w fun i0 w =>
    eY pg (Ka 61 PY i0 c2) w fun _u w =>
    kn w)
    (kn w))
   (eY pg (gO .eql 3 (.tmp 15) (.const (adJ 2)) c5 (adJ 2)) w fun i3 w =>
   lO i3
    (eY pg (gK 88 Ue 1) w fun i5 w =>
    eY pg (gJ 9 i5) w fun i6 w =>
    eY pg (mS .delete #[61, 9] 0 [PY, i6]) w fun _u w =>
    kn w)
    (kn w)))
theorem Ja (kn : K0) (hn : N0 Q kn) (h : AP kn (g 0) (g 1) w) : iR pg D9 Dg Q g w :=
 lI (kr := no) (l := []) h hn mE trivial
def Jz (a0 a1 : adI) (w : adH) (R : K1) : Prop :=
 AP (fun  w => R (.tuple #[]) w) a0 a1 w
theorem Ki {a0 a1 : adI} {w : adH} {R : K1} (h : Jz a0 a1 w R) : gS pg wF #[a0, a1] w R := by
 refine wC (ann := D9) Tryd.f47 Dg [a0, a1] LC 57 TrydM.mixed Tryd.func47 ?_
 exact (Ja _ _ _ (fun  w => R (.tuple #[]) w) (fun _ _ h => h) h)
def vY : FA := ⟨rH, fun i => .leaf ([], []) []⟩
def yH : List ResultVar := [.tmp 4]
noncomputable def uU : Code := iU Tryd.f48
def qO (R : K1) (lE Mz : adI) (w : adH) : Prop :=
 gS pg vB #[lE, Mz] w fun b7 w =>
 eY pg (gO .geq 3 gW gW b7 (adJ 0)) w fun b8 w =>
 R b8 w
theorem CU (R : K1) (hr : HR yH R Q) (h : qO R (g 0) (g 1) w) : iR pg vY uU Q g w :=
 lI (kn := no) (l := []) h mE hr trivial
def Bp (a0 a1 : adI) (w : adH) (R : K1) : Prop :=
 qO R a0 a1 w
theorem DR {a0 a1 : adI} {w : adH} {R : K1} (h : Bp a0 a1 w R) : gS pg rH #[a0, a1] w R := by
 refine wC (ann := vY) Tryd.f48 uU [a0, a1] yH 9 TrydM.mixed Tryd.func48 ?_
 exact (CU _ _ _ R (fun _ _ h => h) h)
def kE : FA := ⟨kV, fun i => match Nat.beq i 12 with | true => .leaf ([], []) [(false, []), (false, []), (false, []), (false, [])] | false => .leaf ([], []) []⟩
def CW : List ResultVar := [.tmp 2, .tmp 3]
noncomputable def gX : Code := iU Tryd.f49
def sQ (kn : K0) (k0 : K0) (mP Hb LX : adI) (w : adH) : Prop :=
 gS pg qZ #[LX] w fun c5 w =>
 gS pg mD #[c5, (adJ 1)] w fun c7 w =>
 eY pg (kP 24 5 c7) w fun c8 w =>
 gS pg mD #[c5, (adJ 8)] w fun d0 w =>
 eY pg (lK 77 [(0, c8), (1, d0)]) w fun d1 w =>
 eY pg (lQ 77) w fun YY w =>
 eY pg (iB 77 YY d1) w fun _u w =>
 eY pg (gJ 77 YY) w fun d2 w =>
 eY pg (lK 77 []) w fun d3 w =>
 eY pg (gO .eql 77 (.tmp 22) (.tmp 23) d2 d3) w fun d4 w =>
 lO d4
  (k0 w)
  (eY pg (gJ 77 YY) w fun d6 w =>
  gS pg zM #[d6] w fun d7 w =>
  eY pg (iP d7 0) w fun d8 w =>
  eY pg (iP d7 1) w fun d9 w =>
  eY pg (gO .neq 29 (.tmp 30) (.const (adJ 0)) d9 (adJ 0)) w fun e1 w =>
  Gd (jQ e1 false) (fun K => K d8 w) w fun e3 w =>
  Gd (jQ e1 false) (fun K => K LX w) w fun e4 w =>
  Gd (jQ e1 false) (fun K => gS pg pY #[e3, e4] w K) w fun e5 w =>
  Gd (jQ e1 false) (fun K => eY pg (J2 .not e5) w K) w fun e6 w =>
  eY pg (kH e1 (.bool true) e6) w fun e7 w =>
  lO e7
   (k0 w)
   (eY pg (gJ 72 mP) w fun e8 w =>
   eY pg (gJ 77 YY) w fun e9 w =>
   eY pg (iC 72 1 [(0, e9)]) w fun f0 w =>
   eY pg (mS .append #[72, 72] 72 [e8, f0]) w fun f1 w =>
   eY pg (iB 72 mP f1) w fun _u w =>
   eY pg (gJ 3 Hb) w fun f2 w =>
   eY pg (gO .add 3 gW gW f2 (adJ 13)) w fun f3 w =>
   eY pg (iB 3 Hb f3) w fun _u w =>
   kn w))
theorem It (kn : K0) (k0 : K0) (hn : N0 Q kn) (h0 : E0 Q k0 0) (h : sQ kn k0 (g 4) (g 5) (g 6) w) : iR pg kE (Sv gX) Q g w :=
 lI (kr := no) (l := [(0, fun g w => k0 w)]) h hn mE ⟨h0, trivial⟩
def yP (kn : K3) (mP Hb c3 : adI) (w : adH) : Prop :=
 kn mP Hb c3 w
theorem Ia (kn : K3) (hn : N3 Q kn 4 5 6) (h : yP kn (g 4) (g 5) (g 13) w) : iR pg kE (Uh gX) Q g w :=
 lI (kr := no) (l := []) h hn mE trivial
def G7 (l : Nat) (R : K1) (mP Hb c3 : adI) (w : adH) : Prop :=
 yP (fun mP Hb LX w => Zf l w fun w => sQ (fun w => Q8 l none R w) (fun w => Q8 l (some (.exit 0)) R w) mP Hb LX w) mP Hb c3 w
theorem Lj {l : Nat} {tmps : Array adI} {w : adH} {R : K1} (hsz : tmps.size = 46) (h : G7 l R (Jm tmps 4) (Jm tmps 5) (Jm tmps 13) w) : Pa pg l kV tmps (Uh gX) (Sv gX) w R :=
 Zu (ann := kE) 46 TrydM.mixed hsz (Ia (Y7 pg kE l (Sv gX) R) (Jm tmps) w (fun mP Hb LX w => Zf l w fun w => sQ (Q8 l none R) (fun w => Q8 l (some (.exit 0)) R w) mP Hb LX w) (fun g w h => let ⟨r, h1, h2, h3⟩ := h; ⟨r, h1, h2, (It (Qf l R) g _ (Q8 l none R) (fun w => Q8 l (some (.exit 0)) R w) (fun _ _ h => h) (fun _ _ h => h) h3)⟩) h) (by kernel_rfl) (by kernel_rfl) (by kernel_rfl)
def oN (R : K1) (mP Hb t1000003 : adI) (w : adH) : Prop :=
 eY pg (gJ 72 mP) (dr w) fun f4 w_ => w_ = (dr w) /\
 eY pg (gJ 3 Hb) (dr w) fun f5 w_ => w_ = (dr w) /\
 (dr w) = (dr w) /\
 (dr w) = (dr w) /\
 Ci t1000003 (dr w) fun w => R (.tuple #[f4, f5]) w
theorem Ll (R : K1) (hr : Zo CW R Q) (h : oN R (g 4) (g 5) (g 1000003) w) : iR pg kE (gN 1 (gN 3 (bI (gN 1 gX)))) Q g w :=
 lI (kn := no) (l := []) h mE hr trivial
def Dj (kn : K3) (k0 : K3) (mP Hb c2 t1000003 : adI) (w : adH) : Prop :=
 ∀ g : Env, g 4 = mP -> g 5 = Hb -> g 12 = c2 -> g 1000003 = t1000003 -> RF pg kV (.tmp 12) (Ve gX) (Uh gX) (Sv gX) (Y5 (fun g w => kn (g 4) (g 5) (g 1000003) w) no [(0, (fun g w => k0 (g 4) (g 5) (g 1000003) w))]) g w
theorem Lk (kn : K3) (k0 : K3) (hn : N3 Q kn 4 5 1000003) (h0 : E3 Q k0 0 4 5 1000003) (h : Dj kn k0 (g 4) (g 5) (g 12) (g 1000003) w) : iR pg kE (bI (gN 1 (gU 1 (gN 3 (bI (gN 1 gX)))))) Q g w :=
 lI (kr := no) (l := [(0, fun g w => k0 (g 4) (g 5) (g 1000003) w)]) (h g rfl rfl rfl rfl) hn mE ⟨h0, trivial⟩
def CV (kn : K3) (mP Hb c2 t1000003 : adI) (w : adH) : Prop :=
 Dj kn kn mP Hb c2 t1000003 w
def C6 (kn : K4) (Ak mP Hb t1000003 : adI) (w : adH) : Prop :=
 gS pg vF #[Ak, (adJ 13)] w fun c2 w =>
 kn mP Hb c2 t1000003 w
theorem Lf (kn : K4) (hn : N4 Q kn 4 5 12 1000003) (h : C6 kn (g 0) (g 4) (g 5) (g 1000003) w) : iR pg kE (gU 1 (gU 1 (gN 3 (bI (gN 1 gX))))) Q g w :=
 lI (kr := no) (l := []) h hn mE trivial
def Dt (kn : K3) (Ak mP Hb t1000003 : adI) (w : adH) : Prop :=
 C6 (fun mP Hb c2 t1000003 w => CV kn mP Hb c2 t1000003 w) Ak mP Hb t1000003 w
def CI (R : K1) (Ak mP Hb t1000003 : adI) (w : adH) : Prop :=
 Dt (fun mP Hb t1000003 w => oN R mP Hb t1000003 w) Ak mP Hb t1000003 w
theorem Lg (kn : K3) (hn : N3 Q kn 4 5 1000003) (h : Dt kn (g 0) (g 4) (g 5) (g 1000003) w) : iR pg kE (gU 1 (gN 3 (bI (gN 1 gX)))) Q g w :=
 uW 1 (Lf _ g w (CV kn) (fun g w h => iA (Od 0 (Lk _ g w kn kn hn hn h))) h)
def CP (kn : K4) (Ak t1000003 : adI) (w : adH) : Prop :=
 eY pg (lQ 72) w fun mP w =>
 eY pg (lQ 3) w fun Hb w =>
 eY pg (iB 3 Hb (adJ 0)) w fun _u w =>
 kn Ak mP Hb t1000003 w
theorem KU (kn : K4) (hn : N4 Q kn 0 4 5 1000003) (h : CP kn (g 0) (g 1000003) w) : iR pg kE (gU 3 (bI (gN 1 gX))) Q g w :=
 lI (kr := no) (l := []) h hn mE trivial
def Ig (R : K1) (Ak t1000003 : adI) (w : adH) : Prop :=
 CP (fun Ak mP Hb t1000003 w => CI R Ak mP Hb t1000003 w) Ak t1000003 w
def DD (R : K1) (Ak t1000003 : adI) (w : adH) : Prop :=
 Ig R Ak t1000003 w
def BX (kn : K2) (Ak t1000003 : adI) (w : adH) : Prop :=
 kn Ak t1000003 w
theorem JY (kn : K2) (hn : N2 Q kn 0 1000003) (h : BX kn (g 0) (g 1000003) w) : iR pg kE (gU 1 gX) Q g w :=
 lI (kr := no) (l := []) h hn mE trivial
def BT (R : K1) (Ak t1000003 : adI) (w : adH) : Prop :=
 BX (fun Ak t1000003 w => DD R Ak t1000003 w) Ak t1000003 w
theorem Kk (R : K1) (hr : Zo CW R Q) (h : BT R (g 0) (g 1000003) w) : iR pg kE gX Q g w :=
 uW 1 (JY _ g w (DD R) (fun g w h => iA (Zt (uW 3 (KU _ g w (CI R) (fun g w h => iA (uW 1 (Lg _ g w (oN R) (fun g w h => iA (Ll _ g w R hr h)) h))) h)))) h)
def Mw (a0 : adI) (w : adH) (R : K1) : Prop :=
 BT R a0 undef w
theorem LD {a0 : adI} {w : adH} {R : K1} (h : Mw a0 w R) : gS pg kV #[a0] w R := by
 refine Zz (ann := kE) Tryd.f49 gX [a0] CW 46 TrydM.mixed Tryd.func49 ?_
 exact (Kk _ _ _ R (fun _ _ h => h) h)
def lD : FA := ⟨A8, fun i => .leaf ([], []) []⟩
def DK : List ResultVar := [.tmp 4, .tmp 5]
noncomputable def kW : Code := iU Tryd.f50
def zL (R : K1) (kG b7 : adI) (w : adH) : Prop :=
 R (.tuple #[kG, b7]) w
theorem KJ (R : K1) (hr : HR DK R Q) (h : zL R (g 6) (g 7) w) : iR pg lD (gN 1 (gN 2 kW)) Q g w :=
 lI (kn := no) (l := []) h mE hr trivial
def tI (kn : K6) (lJ kG b7 c0 c1 c2 : adI) (w : adH) : Prop :=
 eY pg (gO .add 3 gW gW c2 (adJ 1)) w fun d4 w =>
 kn lJ kG b7 c0 c1 d4 w
theorem Li (kn : K6) (hn : N6 Q kn 1 6 7 10 11 12) (h : tI kn (g 1) (g 6) (g 7) (g 10) (g 11) (g 12) w) : iR pg lD (gN 3 (bI (bI (gN 1 (gU 1 (gN 2 kW)))))) Q g w :=
 lI (kr := no) (l := []) h hn mE trivial
def C7 (kn : K6) (k0 : K2) (lJ kG b7 c0 c1 c2 : adI) (w : adH) : Prop :=
 eY pg (gO .lss 3 gW gW c2 c1) w fun c3 w =>
 lO c3
  (eY pg (iF 72 c0 c2) w fun c4 w =>
  eY pg (gJ 77 c4) w fun c5 w =>
  eY pg (lQ 77) w fun Zl w =>
  eY pg (iB 77 Zl c5) w fun _u w =>
  eY pg (gK 77 Zl 0) w fun c6 w =>
  eY pg (gJ 5 c6) w fun c7 w =>
  eY pg (gO .eql 5 (.tmp 17) (.tmp 18) c7 lJ) w fun c9 w =>
  lO c9
   (eY pg (gK 77 Zl 1) w fun d1 w =>
   eY pg (gJ 24 d1) w fun d2 w =>
   eY pg (mS .max #[24, 24] 24 [kG, d2]) w fun d3 w =>
   kn lJ d3 (.bool true) c0 c1 c2 w)
   (kn lJ kG b7 c0 c1 c2 w))
  (k0 kG b7 w)
theorem Lv (kn : K6) (k0 : K2) (hn : N6 Q kn 1 6 7 10 11 12) (h0 : E2 Q k0 0 6 7) (h : C7 kn k0 (g 1) (g 6) (g 7) (g 10) (g 11) (g 12) w) : iR pg lD (gU 3 (bI (bI (gN 1 (gU 1 (gN 2 kW)))))) Q g w :=
 lI (kr := no) (l := [(0, fun g w => k0 (g 6) (g 7) w)]) h hn mE ⟨h0, trivial⟩
def yX (kn : K6) (k0 : K2) (lJ kG b7 c0 c1 c2 : adI) (w : adH) : Prop :=
 C7 (fun lJ kG b7 c0 c1 c2 w => tI kn lJ kG b7 c0 c1 c2 w) k0 lJ kG b7 c0 c1 c2 w
def CS (k0 : K2) (lJ kG b7 c0 c1 c2 : adI) (w : adH) : Prop :=
 kF (fun (X : (adI × adI × adI) -> K0) (t : adI × adI × adI) (w : adH) => yX (fun _ kG b7 _ _ c2 w => X (kG, b7, c2) w) k0 lJ t.1 t.2.1 c0 c1 t.2.2 w) (kG, b7, c2) w
theorem KM (kn : K6) (k0 : K2) (hn : N6 Q kn 1 6 7 10 11 12) (h0 : E2 Q k0 0 6 7) (h : yX kn k0 (g 1) (g 6) (g 7) (g 10) (g 11) (g 12) w) : iR pg lD (bI (bI (gN 1 (gU 1 (gN 2 kW))))) Q g w :=
 uW 3 (Lv _ g w (tI kn) k0 (fun g w h => iA (Li _ g w kn hn h)) h0 h)
theorem Ky (k0 : K2) (h0 : E2 Q k0 0 6 7) (h : CS k0 (g 1) (g 6) (g 7) (g 10) (g 11) (g 12) w) : iR pg lD (bI (gN 1 (gU 1 (gN 2 kW)))) Q g w := by
 refine OV (fun g : Env => (g 6, g 7, g 12)) (fun X t w => yX (fun _ kG b7 _ _ c2 w => X (kG, b7, c2) w) k0 (g 1) t.1 t.2.1 (g 10) (g 11) t.2.2 w) h (fun X g1 w1 ha hL => ?_)
 rw [<- uN 1 ha, <- uN 10 ha, <- uN 11 ha] at hL
 exact (KM _ g1 w1 (fun _ kG b7 _ _ c2 w => X (kG, b7, c2) w) k0 (fun _ _ h => h) h0 hL)
def C4 (kn : K2) (lJ kG b7 c0 c1 c2 : adI) (w : adH) : Prop :=
 CS kn lJ kG b7 c0 c1 c2 w
def CM (kn : K6) (RQ lJ kG b7 : adI) (w : adH) : Prop :=
 eY pg (mS .len #[72] 3 [RQ]) w fun c1 w =>
 kn lJ kG b7 RQ c1 (adJ 0) w
theorem Kw (kn : K6) (hn : N6 Q kn 1 6 7 10 11 12) (h : CM kn (g 0) (g 1) (g 6) (g 7) w) : iR pg lD (gU 1 (gU 1 (gN 2 kW))) Q g w :=
 lI (kr := no) (l := []) h hn mE trivial
def Dl (kn : K2) (RQ lJ kG b7 : adI) (w : adH) : Prop :=
 CM (fun lJ kG b7 c0 c1 c2 w => C4 kn lJ kG b7 c0 c1 c2 w) RQ lJ kG b7 w
def Dh (R : K1) (RQ lJ kG b7 : adI) (w : adH) : Prop :=
 Dl (fun kG b7 w => zL R kG b7 w) RQ lJ kG b7 w
theorem KG (kn : K2) (hn : N2 Q kn 6 7) (h : Dl kn (g 0) (g 1) (g 6) (g 7) w) : iR pg lD (gU 1 (gN 2 kW)) Q g w :=
 uW 1 (Kw _ g w (C4 kn) (fun g w h => iA (Od 0 (Ky _ g w kn hn h))) h)
def B6 (kn : K4) (RQ lJ : adI) (w : adH) : Prop :=
 kn RQ lJ (.int .u64 0) (.bool false) w
theorem JQ (kn : K4) (hn : N4 Q kn 0 1 6 7) (h : B6 kn (g 0) (g 1) w) : iR pg lD (gU 2 kW) Q g w :=
 lI (kr := no) (l := []) h hn mE trivial
def BP (R : K1) (RQ lJ : adI) (w : adH) : Prop :=
 B6 (fun RQ lJ kG b7 w => Dh R RQ lJ kG b7 w) RQ lJ w
theorem Kb (R : K1) (hr : HR DK R Q) (h : BP R (g 0) (g 1) w) : iR pg lD kW Q g w :=
 uW 2 (JQ _ g w (Dh R) (fun g w h => iA (uW 1 (KG _ g w (zL R) (fun g w h => iA (KJ _ g w R hr h)) h))) h)
def My (a0 a1 : adI) (w : adH) (R : K1) : Prop :=
 BP R a0 a1 w
theorem LF {a0 a1 : adI} {w : adH} {R : K1} (h : My a0 a1 w R) : gS pg A8 #[a0, a1] w R := by
 refine wC (ann := lD) Tryd.f50 kW [a0, a1] DK 27 TrydM.mixed Tryd.func50 ?_
 exact (Kb _ _ _ R (fun _ _ h => h) h)
def BC : FA := ⟨rG, fun i => .leaf ([], []) []⟩
def Cc : List ResultVar := [.tmp 4]
noncomputable def An : Code := iU Tryd.f51
def vJ (R : K1) (nJ tP : adI) (w : adH) : Prop :=
 gS pg mU #[nJ] w fun b9 w =>
 eY pg (gO .neq 29 (.tmp 10) (.const (adJ 0)) b9 (adJ 0)) w fun c1 w =>
 lO c1
  (R b9 w)
  (eY pg (iY nJ) w fun c5 w =>
  eY pg (gK 64 c5 2) w fun c6 w =>
  eY pg (gJ 61 c6) w fun c7 w =>
  eY pg (yN 61 c7 tP true) w fun c9 w =>
  eY pg (iP c9 0) w fun d0 w =>
  eY pg (iP c9 1) w fun d1 w =>
  eY pg (J2 .not d1) w fun d3 w =>
  lO d3
   (R (adJ 21) w)
   (eY pg (lK 88 [(0, (adJ 2)), (1, tP)]) w fun d6 w =>
   gS pg oI #[nJ, d6] w fun d7 w =>
   R d7 w))
theorem GN (R : K1) (hr : HR Cc R Q) (h : vJ R (g 0) (g 1) w) : iR pg BC An Q g w :=
 lI (kn := no) (l := []) h mE hr trivial
def FX (a0 a1 : adI) (w : adH) (R : K1) : Prop :=
 vJ R a0 a1 w
theorem HK {a0 a1 : adI} {w : adH} {R : K1} (h : FX a0 a1 w R) : gS pg rG #[a0, a1] w R := by
 refine wC (ann := BC) Tryd.f51 An [a0, a1] Cc 28 TrydM.mixed Tryd.func51 ?_
 exact (GN _ _ _ R (fun _ _ h => h) h)
def Iz : FA := ⟨zM, fun i => .leaf ([], []) []⟩
def JP : List ResultVar := [.tmp 2, .tmp 3]
noncomputable def G6 : Code := iU Tryd.f52
def EY (R : K1) (Na : adI) (w : adH) : Prop :=
 eY pg (DY 77 Na) w fun Xn w =>
 eY pg (gK 77 Xn 0) w fun b5 w =>
 eY pg (gJ 5 b5) w fun b6 w =>
 eY pg (gO .lss 5 gW gW b6 (.int .u8 1)) w fun b7 w =>
 Gd (jQ b7 false) (fun K => eY pg (gK 77 Xn 0) w K) w fun b9 w =>
 Gd (jQ b7 false) (fun K => eY pg (gJ 5 b9) w K) w fun c0 w =>
 Gd (jQ b7 false) (fun K => eY pg (gO .gtr 5 gW gW c0 (.int .u8 2)) w K) w fun c1 w =>
 eY pg (kH b7 (.bool true) c1) w fun c2 w =>
 lO c2
  (R (.tuple #[(.slice none 0 0), (adJ 1)]) w)
  (gS pg rA #[] w fun c3 w =>
  eY pg (gK 77 Xn 0) w fun c5 w =>
  eY pg (gJ 5 c5) w fun c6 w =>
  eY pg (kP 5 24 c6) w fun c7 w =>
  gS pg lF #[c3, c7, (adJ 1)] w fun c8 w =>
  eY pg (gK 77 Xn 1) w fun d0 w =>
  eY pg (gJ 24 d0) w fun d1 w =>
  gS pg lF #[c3, d1, (adJ 8)] w fun d2 w =>
  gS pg nQ #[c3] w fun d5 w =>
  gS pg Lb #[d5] w fun d6 w =>
  eY pg (kP 25 24 d6) w fun d7 w =>
  gS pg lF #[c3, d7, (adJ 4)] w fun d8 w =>
  gS pg nQ #[c3] w fun e0 w =>
  R (.tuple #[e0, (adJ 0)]) w)
theorem LZ (R : K1) (hr : HR JP R Q) (h : EY R (g 0) w) : iR pg Iz G6 Q g w :=
 lI (kn := no) (l := []) h mE hr trivial
def Om (a0 : adI) (w : adH) (R : K1) : Prop :=
 EY R a0 w
theorem MT {a0 : adI} {w : adH} {R : K1} (h : Om a0 w R) : gS pg zM #[a0] w R := by
 refine wC (ann := Iz) Tryd.f52 G6 [a0] JP 31 TrydM.mixed Tryd.func52 ?_
 exact (LZ _ _ _ R (fun _ _ h => h) h)
def Ms : FA := ⟨I5, fun i => .leaf ([], []) []⟩
def NM : List ResultVar := [.tmp 0]
noncomputable def KN : Code := iU Tryd.f53
def J4 (R : K1)  (w : adH) : Prop :=
 eY pg (lK 119 [(0, (.int .u32 1779033703)), (1, (.int .u32 3144134277)), (2, (.int .u32 1013904242)), (3, (.int .u32 2773480762)), (4, (.int .u32 1359893119)), (5, (.int .u32 2600822924)), (6, (.int .u32 528734635)), (7, (.int .u32 1541459225))]) w fun b1 w =>
 eY pg (lK 122 [(0, b1)]) w fun b2 w =>
 eY pg (DY 122 b2) w fun b3 w =>
 R b3 w
theorem OY (R : K1) (hr : HR NM R Q) (h : J4 R w) : iR pg Ms KN Q g w :=
 lI (kn := no) (l := []) h mE hr trivial
def SY (w : adH) (R : K1) : Prop :=
 J4 R w
theorem Qn {w : adH} {R : K1} (h : SY w R) : gS pg I5 #[] w R := by
 refine wC (ann := Ms) Tryd.f53 KN [] NM 4 TrydM.mixed Tryd.func53 ?_
 exact (OY _ _ _ R (fun _ _ h => h) h)
def oM : FA := ⟨lU, fun i => match Nat.beq i 3 with | true => .leaf ([9], []) [(false, []), (false, []), (false, []), (false, []), (false, []), (false, []), (false, []), (false, []), (false, []), (true, []), (false, [])] | false => match Nat.beq i 7 with | true => .leaf ([9, 12], []) [(false, []), (false, []), (false, []), (false, []), (false, []), (false, []), (false, []), (false, []), (false, []), (true, []), (false, []), (false, []), (true, [])] | false => .leaf ([], []) []⟩
def zH : List ResultVar := []
noncomputable def nT : Code := iU Tryd.f54
def sY (kn : K2) (k0 : K0) (pA Am : adI) (w : adH) : Prop :=
 eY pg (mS .len #[22] 3 [Am]) w fun c8 w =>
 eY pg (gO .gtr 3 gW gW c8 (adJ 0)) w fun c9 w =>
 lO c9
  ((dr w) = (dr w) /\
  eY pg (iY pA) (dr w) fun d1 w_ => w_ = (dr w) /\
  eY pg (gK 122 d1 1) (dr w) fun d2 w_ => w_ = (dr w) /\
  (dr w) = (dr w) /\
  eY pg (iY pA) (dr w) fun d4 w_ => w_ = (dr w) /\
  eY pg (gK 122 d4 2) (dr w) fun d5 w_ => w_ = (dr w) /\
  eY pg (gJ 3 d5) (dr w) fun d6 w_ => w_ = (dr w) /\
  eY pg (lL 120 d2 (some d6) none none) (dr w) fun d7 w_ => w_ = (dr w) /\
  (dr w) = (dr w) /\
  eY pg (mS .copy #[22, 22] 3 [d7, Am]) (dr w) fun d9 XM =>
  XM = XM /\
  eY pg (iY pA) XM fun e1 w =>
  eY pg (gK 122 e1 2) w fun e2 w =>
  eY pg (gJ 3 e2) w fun e3 w =>
  eY pg (gO .add 3 gW gW e3 d9) w fun e5 w =>
  eY pg (iY pA) w fun e6 w =>
  eY pg (gK 122 e6 2) w fun e7 w =>
  eY pg (iB 3 e7 e5) w fun _u w =>
  eY pg (lL 22 Am (some d9) none none) w fun f0 w =>
  eY pg (iY pA) w fun f2 w =>
  eY pg (gK 122 f2 2) w fun f3 w =>
  eY pg (gJ 3 f3) w fun f4 w =>
  eY pg (gO .eql 3 (.tmp 44) (.const (adJ 64)) f4 (adJ 64)) w fun f5 w =>
  lO f5
   ((dr w) = (dr w) /\
   (dr w) = (dr w) /\
   eY pg (iY pA) (dr w) fun f8 w_ => w_ = (dr w) /\
   eY pg (gK 122 f8 0) (dr w) fun f9 w_ => w_ = (dr w) /\
   eY pg (gJ 119 f9) (dr w) fun i0 w_ => w_ = (dr w) /\
   (dr w) = (dr w) /\
   eY pg (iY pA) (dr w) fun i2 w_ => w_ = (dr w) /\
   eY pg (gK 122 i2 1) (dr w) fun i3 w_ => w_ = (dr w) /\
   eY pg (gJ 120 i3) (dr w) fun i4 w_ => w_ = (dr w) /\
   gS pg uM #[i0, i4] (dr w) fun i5 H4 =>
   eY pg (iY pA) H4 fun i6 w_ => w_ = H4 /\
   eY pg (gK 122 i6 0) H4 fun i7 w_ => w_ = H4 /\
   eY pg (iB 119 i7 i5) H4 fun _u12 Yv =>
   eY pg (iY pA) Yv fun i9 w =>
   eY pg (gK 122 i9 2) w fun j0 w =>
   eY pg (iB 3 j0 (adJ 0)) w fun _u w =>
   kn pA f0 w)
   (kn pA f0 w))
  (k0 w)
theorem Iy (kn : K2) (k0 : K0) (hn : N2 Q kn 0 1) (h0 : E0 Q k0 0) (h : sY kn k0 (g 0) (g 1) w) : iR pg oM (bI (bI (gN 2 nT))) Q g w :=
 lI (kr := no) (l := [(0, fun g w => k0 w)]) h hn mE ⟨h0, trivial⟩
def tA (k0 : K0) (pA Am : adI) (w : adH) : Prop :=
 kF (fun (X : adI -> K0) (t : adI) (w : adH) => sY (fun _ Am w => X Am w) k0 pA t w) Am w
theorem Is (k0 : K0) (h0 : E0 Q k0 0) (h : tA k0 (g 0) (g 1) w) : iR pg oM (bI (gN 2 nT)) Q g w := by
 refine OV (fun g : Env => g 1) (fun X t w => sY (fun _ Am w => X Am w) k0 (g 0) t w) h (fun X g1 w1 ha hL => ?_)
 rw [<- uN 0 ha] at hL
 exact (Iy _ g1 w1 (fun _ Am w => X Am w) k0 (fun _ _ h => h) h0 hL)
def Ad (kn : K0) (pA Am : adI) (w : adH) : Prop :=
 tA kn pA Am w
def zC (kn : K2) (R : K1) (pA Am : adI) (w : adH) : Prop :=
 eY pg (gO .eql 100 (.tmp 5) (.const (.pointer none)) pA (.pointer none)) w fun b6 w =>
 lO b6
  (R (.tuple #[]) w)
  (eY pg (iY pA) w fun b8 w =>
  eY pg (gK 122 b8 3) w fun b9 w =>
  eY pg (gJ 24 b9) w fun c0 w =>
  eY pg (mS .len #[22] 3 [Am]) w fun c2 w =>
  eY pg (kP 3 24 c2) w fun c3 w =>
  eY pg (gO .add 24 gW gW c0 c3) w fun c4 w =>
  eY pg (iY pA) w fun c5 w =>
  eY pg (gK 122 c5 3) w fun c6 w =>
  eY pg (iB 24 c6 c4) w fun _u w =>
  kn pA Am w)
theorem IC (kn : K2) (R : K1) (hn : N2 Q kn 0 1) (hr : HR zH R Q) (h : zC kn R (g 0) (g 1) w) : iR pg oM (gU 2 nT) Q g w :=
 lI (l := []) h hn hr trivial
def yZ (kn : K0) (R : K1) (pA Am : adI) (w : adH) : Prop :=
 zC (fun pA Am w => Ad kn pA Am w) R pA Am w
theorem Io (kn : K0) (R : K1) (hn : N0 Q kn) (hr : HR zH R Q) (h : yZ kn R (g 0) (g 1) w) : iR pg oM nT Q g w :=
 uW 2 (IC _ g w (Ad kn) R (fun g w h => iA (Od 0 (Is _ g w kn hn h))) hr h)
def IV (a0 a1 : adI) (w : adH) (R : K1) : Prop :=
 yZ (fun  w => R (.tuple #[]) w) R a0 a1 w
theorem Jg {a0 a1 : adI} {w : adH} {R : K1} (h : IV a0 a1 w R) : gS pg lU #[a0, a1] w R := by
 refine wC (ann := oM) Tryd.f54 nT [a0, a1] zH 61 TrydM.mixed Tryd.func54 ?_
 exact (Io _ _ _ (fun  w => R (.tuple #[]) w) R (fun _ _ h => h) (fun _ _ h => h) h)
def jC : FA := ⟨yW, fun i => .leaf ([], []) []⟩
def wI : List ResultVar := [.cell 2 49]
noncomputable def iW : Code := iU Tryd.f55
def wH (R : K1) (b2 jZ : adI) (w : adH) : Prop :=
 eY pg (gJ 49 jZ) w fun i1 w =>
 eY pg (iB 49 b2 i1) w fun _u w =>
 Uw pg 49 b2 w fun r0 => R r0 w
theorem Kl (R : K1) (hr : HR wI R Q) (h : wH R (g 2) (g 5) w) : iR pg jC (gN 1 (gN 1 (gN 1 (gN 1 (gN 4 iW))))) Q g w :=
 lI (kn := no) (l := []) h mE hr trivial
def wB (kn : K4) (k4 : K2) (b2 uS jZ e4 : adI) (w : adH) : Prop :=
 eY pg (gO .lss 3 gW gW e4 (adJ 32)) w fun e5 w =>
 lO e5
  (eY pg (gO .quo 3 gW gW e4 (adJ 4)) w fun e9 w =>
  eY pg (gK 122 uS 0) w fun f0 w =>
  eY pg (iF 119 f0 e9) w fun f1 w =>
  eY pg (gJ 25 f1) w fun f2 w =>
  eY pg (gO .rem 3 gW gW e4 (adJ 4)) w fun f4 w =>
  eY pg (gO .mul 3 gW gW f4 (adJ 8)) w fun f5 w =>
  eY pg (gO .sub 3 gW gW (adJ 24) f5) w fun f6 w =>
  eY pg (gO .shr 25 gW gW f2 f6) w fun f7 w =>
  eY pg (kP 25 5 f7) w fun f8 w =>
  eY pg (iF 49 jZ e4) w fun f9 w =>
  eY pg (iB 5 f9 f8) w fun _u w =>
  eY pg (gO .add 3 gW gW e4 (adJ 1)) w fun i0 w =>
  kn b2 uS jZ i0 w)
  (k4 b2 jZ w)
theorem JS (kn : K4) (k4 : K2) (hn : N4 Q kn 2 3 5 34) (h4 : E2 Q k4 4 2 5) (h : wB kn k4 (g 2) (g 3) (g 5) (g 34) w) : iR pg jC (bI (bI (gN 1 (gU 1 (gN 1 (gN 1 (gN 1 (gN 4 iW)))))))) Q g w :=
 lI (kr := no) (l := [(4, fun g w => k4 (g 2) (g 5) w)]) h hn mE ⟨h4, trivial⟩
def B3 (k4 : K2) (b2 uS jZ e4 : adI) (w : adH) : Prop :=
 kF (fun (X : adI -> K0) (t : adI) (w : adH) => wB (fun _ _ _ e4 w => X e4 w) k4 b2 uS jZ t w) e4 w
theorem J5 (k4 : K2) (h4 : E2 Q k4 4 2 5) (h : B3 k4 (g 2) (g 3) (g 5) (g 34) w) : iR pg jC (bI (gN 1 (gU 1 (gN 1 (gN 1 (gN 1 (gN 4 iW))))))) Q g w := by
 refine OV (fun g : Env => g 34) (fun X t w => wB (fun _ _ _ e4 w => X e4 w) k4 (g 2) (g 3) (g 5) t w) h (fun X g1 w1 ha hL => ?_)
 rw [<- uN 2 ha, <- uN 3 ha, <- uN 5 ha] at hL
 exact (JS _ g1 w1 (fun _ _ _ e4 w => X e4 w) k4 (fun _ _ h => h) h4 hL)
def BQ (kn : K2) (b2 uS jZ e4 : adI) (w : adH) : Prop :=
 B3 kn b2 uS jZ e4 w
def B2 (kn : K4) (b2 uS jZ : adI) (w : adH) : Prop :=
 kn b2 uS jZ (adJ 0) w
theorem Kg (kn : K4) (hn : N4 Q kn 2 3 5 34) (h : B2 kn (g 2) (g 3) (g 5) w) : iR pg jC (gU 1 (gU 1 (gN 1 (gN 1 (gN 1 (gN 4 iW)))))) Q g w :=
 lI (kr := no) (l := []) h hn mE trivial
def BZ (kn : K2) (b2 uS jZ : adI) (w : adH) : Prop :=
 B2 (fun b2 uS jZ e4 w => BQ kn b2 uS jZ e4 w) b2 uS jZ w
def BK (R : K1) (b2 uS jZ : adI) (w : adH) : Prop :=
 BZ (fun b2 jZ w => wH R b2 jZ w) b2 uS jZ w
theorem J8 (kn : K2) (hn : N2 Q kn 2 5) (h : BZ kn (g 2) (g 3) (g 5) w) : iR pg jC (gU 1 (gN 1 (gN 1 (gN 1 (gN 4 iW))))) Q g w :=
 uW 1 (Kg _ g w (BQ kn) (fun g w h => iA (Od 4 (J5 _ g w kn hn h))) h)
def B4 (kn : K3) (b2 uS : adI) (w : adH) : Prop :=
 eY pg (lQ 49) w fun jZ w =>
 kn b2 uS jZ w
theorem JZ (kn : K3) (hn : N3 Q kn 2 3 5) (h : B4 kn (g 2) (g 3) w) : iR pg jC (gU 1 (gN 1 (gN 1 (gN 4 iW)))) Q g w :=
 lI (kr := no) (l := []) h hn mE trivial
def BY (R : K1) (b2 uS : adI) (w : adH) : Prop :=
 B4 (fun b2 uS jZ w => BK R b2 uS jZ w) b2 uS w
def uQ (kn : K4) (k2 : K2) (pA b2 uS pN : adI) (w : adH) : Prop :=
 eY pg (gO .geq 3 gW gW pN (adJ 0)) w fun d1 w =>
 lO d1
  (eY pg (iY pA) w fun d5 w =>
  eY pg (gK 122 d5 3) w fun d6 w =>
  eY pg (gJ 24 d6) w fun d7 w =>
  eY pg (gO .mul 24 gW gW (.int .u64 8) d7) w fun d8 w =>
  eY pg (gO .shr 24 gW gW d8 pN) w fun e0 w =>
  eY pg (kP 24 5 e0) w fun e1 w =>
  eY pg (iC 22 1 [(0, e1)]) w fun e2 w =>
  gS pg lU #[uS, e2] w fun e3 w =>
  eY pg (gO .sub 3 gW gW pN (adJ 8)) w fun d3 w =>
  kn pA b2 uS d3 w)
  (k2 b2 uS w)
theorem Jr (kn : K4) (k2 : K2) (hn : N4 Q kn 0 2 3 4) (h2 : E2 Q k2 2 2 3) (h : uQ kn k2 (g 0) (g 2) (g 3) (g 4) w) : iR pg jC (bI (bI (gN 1 (gU 1 (gN 1 (gN 4 iW)))))) Q g w :=
 lI (kr := no) (l := [(2, fun g w => k2 (g 2) (g 3) w)]) h hn mE ⟨h2, trivial⟩
def AO (k2 : K2) (pA b2 uS pN : adI) (w : adH) : Prop :=
 kF (fun (X : adI -> K0) (t : adI) (w : adH) => uQ (fun _ _ _ pN w => X pN w) k2 pA b2 uS t w) pN w
theorem Je (k2 : K2) (h2 : E2 Q k2 2 2 3) (h : AO k2 (g 0) (g 2) (g 3) (g 4) w) : iR pg jC (bI (gN 1 (gU 1 (gN 1 (gN 4 iW))))) Q g w := by
 refine OV (fun g : Env => g 4) (fun X t w => uQ (fun _ _ _ pN w => X pN w) k2 (g 0) (g 2) (g 3) t w) h (fun X g1 w1 ha hL => ?_)
 rw [<- uN 0 ha, <- uN 2 ha, <- uN 3 ha] at hL
 exact (Jr _ g1 w1 (fun _ _ _ pN w => X pN w) k2 (fun _ _ h => h) h2 hL)
def AI (kn : K2) (pA b2 uS pN : adI) (w : adH) : Prop :=
 AO kn pA b2 uS pN w
def AG (kn : K4) (pA b2 uS : adI) (w : adH) : Prop :=
 kn pA b2 uS (adJ 56) w
theorem Jc (kn : K4) (hn : N4 Q kn 0 2 3 4) (h : AG kn (g 0) (g 2) (g 3) w) : iR pg jC (gU 1 (gU 1 (gN 1 (gN 4 iW)))) Q g w :=
 lI (kr := no) (l := []) h hn mE trivial
def AL (kn : K2) (pA b2 uS : adI) (w : adH) : Prop :=
 AG (fun pA b2 uS pN w => AI kn pA b2 uS pN w) pA b2 uS w
def AT (R : K1) (pA b2 uS : adI) (w : adH) : Prop :=
 AL (fun b2 uS w => BY R b2 uS w) pA b2 uS w
theorem Jh (kn : K2) (hn : N2 Q kn 2 3) (h : AL kn (g 0) (g 2) (g 3) w) : iR pg jC (gU 1 (gN 1 (gN 4 iW))) Q g w :=
 uW 1 (Jc _ g w (AI kn) (fun g w h => iA (Od 2 (Je _ g w kn hn h))) h)
def uL (kn : K3) (k0 : K3) (pA b2 uS : adI) (w : adH) : Prop :=
 eY pg (gK 122 uS 2) w fun c5 w =>
 eY pg (gJ 3 c5) w fun c6 w =>
 eY pg (gO .neq 3 (.tmp 16) (.const (adJ 56)) c6 (adJ 56)) w fun c7 w =>
 lO c7
  (eY pg (iC 22 1 [(0, (.int .u8 0))]) w fun c8 w =>
  gS pg lU #[uS, c8] w fun c9 w =>
  kn pA b2 uS w)
  (k0 pA b2 uS w)
theorem Ji (kn : K3) (k0 : K3) (hn : N3 Q kn 0 2 3) (h0 : E3 Q k0 0 0 2 3) (h : uL kn k0 (g 0) (g 2) (g 3) w) : iR pg jC (bI (bI (gU 1 (gN 4 iW)))) Q g w :=
 lI (kr := no) (l := [(0, fun g w => k0 (g 0) (g 2) (g 3) w)]) h hn mE ⟨h0, trivial⟩
def AQ (k0 : K3) (pA b2 uS : adI) (w : adH) : Prop :=
 kF (fun (X : Unit -> K0) (t : Unit) (w : adH) => uL (fun _ _ _ w => X () w) k0 pA b2 uS w) () w
theorem Ju (k0 : K3) (h0 : E3 Q k0 0 0 2 3) (h : AQ k0 (g 0) (g 2) (g 3) w) : iR pg jC (bI (gU 1 (gN 4 iW))) Q g w := by
 refine OV (fun _ : Env => ()) (fun X t w => uL (fun _ _ _ w => X () w) k0 (g 0) (g 2) (g 3) w) h (fun X g1 w1 ha hL => ?_)
 rw [<- uN 0 ha, <- uN 2 ha, <- uN 3 ha] at hL
 exact (Ji _ g1 w1 (fun _ _ _ w => X () w) k0 (fun _ _ h => h) h0 hL)
def AK (kn : K3) (pA b2 uS : adI) (w : adH) : Prop :=
 AQ kn pA b2 uS w
def AN (R : K1) (pA b2 uS : adI) (w : adH) : Prop :=
 AK (fun pA b2 uS w => AT R pA b2 uS w) pA b2 uS w
theorem Jw (kn : K3) (hn : N3 Q kn 0 2 3) (h : AK kn (g 0) (g 2) (g 3) w) : iR pg jC (gU 1 (gN 4 iW)) Q g w :=
 Od 0 (Ju _ g w kn hn h)
def AV (kn : K3) (R : K1) (pA : adI) (w : adH) : Prop :=
 eY pg (lQ 49) w fun b2 w =>
 eY pg (gO .eql 100 (.tmp 7) (.const (.pointer none)) pA (.pointer none)) w fun b8 w =>
 lO b8
  (gS pg H8 #[(.slice none 0 0)] w fun b9 w =>
  eY pg (iB 49 b2 b9) w fun _u w =>
  Uw pg 49 b2 w fun r0 => R r0 w)
  (eY pg (iY pA) w fun c1 w =>
  eY pg (gJ 122 c1) w fun c2 w =>
  eY pg (lQ 122) w fun uS w =>
  eY pg (iB 122 uS c2) w fun _u w =>
  eY pg (iC 22 1 [(0, (.int .u8 128))]) w fun c3 w =>
  gS pg lU #[uS, c3] w fun c4 w =>
  kn pA b2 uS w)
theorem Jk (kn : K3) (R : K1) (hn : N3 Q kn 0 2 3) (hr : HR wI R Q) (h : AV kn R (g 0) w) : iR pg jC (gU 4 iW) Q g w :=
 lI (l := []) h hn hr trivial
def AR (R : K1) (pA : adI) (w : adH) : Prop :=
 AV (fun pA b2 uS w => AN R pA b2 uS w) R pA w
theorem Jb (R : K1) (hr : HR wI R Q) (h : AR R (g 0) w) : iR pg jC iW Q g w :=
 uW 4 (Jk _ g w (AN R) R (fun g w h => iA (uW 1 (Jw _ g w (AT R) (fun g w h => iA (uW 1 (Jh _ g w (BY R) (fun g w h => iA (uW 1 (JZ _ g w (BK R) (fun g w h => iA (uW 1 (J8 _ g w (wH R) (fun g w h => iA (Kl _ g w R hr h)) h))) h))) h))) h))) hr h)
def KV (a0 : adI) (w : adH) (R : K1) : Prop :=
 AR R a0 w
theorem Ls {a0 : adI} {w : adH} {R : K1} (h : KV a0 w R) : gS pg yW #[a0] w R := by
 refine wC (ann := jC) Tryd.f55 iW [a0] wI 52 TrydM.mixed Tryd.func55 ?_
 exact (Jb _ _ _ R (fun _ _ h => h) h)
def kB : FA := ⟨vB, fun i => .leaf ([], []) []⟩
def lT : List ResultVar := [.tmp 4]
noncomputable def jU : Code := iU Tryd.f57
def pF (R : K1)  (w : adH) : Prop :=
 R (adJ (-1)) w
theorem Fl (R : K1) (hr : HR lT R Q) (h : pF R w) : iR pg kB (gN 1 (gN 1 jU)) Q g w :=
 lI (kn := no) (l := []) h mE hr trivial
def pG (kn : K4) (k0 : K0) (R : K1) (lE Mz b7 b8 : adI) (w : adH) : Prop :=
 eY pg (gO .lss 3 gW gW b8 b7) w fun b9 w =>
 lO b9
  (eY pg (iF 45 lE b8) w fun c4 w =>
  eY pg (gJ 4 c4) w fun c5 w =>
  eY pg (gO .eql 4 (.tmp 11) (.tmp 15) Mz c5) w fun c6 w =>
  lO c6
   (R b8 w)
   (eY pg (gO .add 3 gW gW b8 (adJ 1)) w fun c8 w =>
   kn lE Mz b7 c8 w))
  (k0 w)
theorem FD (kn : K4) (k0 : K0) (R : K1) (hn : N4 Q kn 0 1 7 8) (h0 : E0 Q k0 0) (hr : HR lT R Q) (h : pG kn k0 R (g 0) (g 1) (g 7) (g 8) w) : iR pg kB (bI (bI (gN 1 (gU 1 (gN 1 jU))))) Q g w :=
 lI (l := [(0, fun g w => k0 w)]) h hn hr ⟨h0, trivial⟩
def tV (k0 : K0) (R : K1) (lE Mz b7 b8 : adI) (w : adH) : Prop :=
 kF (fun (X : adI -> K0) (t : adI) (w : adH) => pG (fun _ _ _ b8 w => X b8 w) k0 R lE Mz b7 t w) b8 w
theorem FI (k0 : K0) (R : K1) (h0 : E0 Q k0 0) (hr : HR lT R Q) (h : tV k0 R (g 0) (g 1) (g 7) (g 8) w) : iR pg kB (bI (gN 1 (gU 1 (gN 1 jU)))) Q g w := by
 refine OV (fun g : Env => g 8) (fun X t w => pG (fun _ _ _ b8 w => X b8 w) k0 R (g 0) (g 1) (g 7) t w) h (fun X g1 w1 ha hL => ?_)
 rw [<- uN 0 ha, <- uN 1 ha, <- uN 7 ha] at hL
 exact (FD _ g1 w1 (fun _ _ _ b8 w => X b8 w) k0 R (fun _ _ h => h) h0 hr hL)
def tJ (kn : K0) (R : K1) (lE Mz b7 b8 : adI) (w : adH) : Prop :=
 tV kn R lE Mz b7 b8 w
def uH (kn : K4) (lE Mz : adI) (w : adH) : Prop :=
 eY pg (mS .len #[45] 3 [lE]) w fun b7 w =>
 kn lE Mz b7 (adJ 0) w
theorem Fz (kn : K4) (hn : N4 Q kn 0 1 7 8) (h : uH kn (g 0) (g 1) w) : iR pg kB (gU 1 (gU 1 (gN 1 jU))) Q g w :=
 lI (kr := no) (l := []) h hn mE trivial
def tR (kn : K0) (R : K1) (lE Mz : adI) (w : adH) : Prop :=
 uH (fun lE Mz b7 b8 w => tJ kn R lE Mz b7 b8 w) lE Mz w
def tF (R : K1) (lE Mz : adI) (w : adH) : Prop :=
 tR (fun  w => pF R w) R lE Mz w
theorem Fc (kn : K0) (R : K1) (hn : N0 Q kn) (hr : HR lT R Q) (h : tR kn R (g 0) (g 1) w) : iR pg kB (gU 1 (gN 1 jU)) Q g w :=
 uW 1 (Fz _ g w (tJ kn R) (fun g w h => iA (Od 0 (FI _ g w kn R hn hr h))) h)
def uE (kn : K2) (lE Mz : adI) (w : adH) : Prop :=
 kn lE Mz w
theorem Fo (kn : K2) (hn : N2 Q kn 0 1) (h : uE kn (g 0) (g 1) w) : iR pg kB (gU 1 jU) Q g w :=
 lI (kr := no) (l := []) h hn mE trivial
def tT (R : K1) (lE Mz : adI) (w : adH) : Prop :=
 uE (fun lE Mz w => tF R lE Mz w) lE Mz w
theorem FP (R : K1) (hr : HR lT R Q) (h : tT R (g 0) (g 1) w) : iR pg kB jU Q g w :=
 uW 1 (Fo _ g w (tF R) (fun g w h => iA (uW 1 (Fc _ g w (fun  w => pF R w) R (fun g w h => iA (Fl _ g w R hr h)) hr h))) h)
def Eo (a0 a1 : adI) (w : adH) (R : K1) : Prop :=
 tT R a0 a1 w
theorem Gq {a0 a1 : adI} {w : adH} {R : K1} (h : Eo a0 a1 w R) : gS pg vB #[a0, a1] w R := by
 refine wC (ann := kB) Tryd.f57 jU [a0, a1] lT 19 TrydM.mixed Tryd.func57 ?_
 exact (FP _ _ _ R (fun _ _ h => h) h)
def oT : FA := ⟨vF, fun i => .leaf ([], []) []⟩
def uB : List ResultVar := [.tmp 4]
noncomputable def oB : Code := iU Tryd.f58
def pK (R : K1) (nM EZ : adI) (w : adH) : Prop :=
 eY pg (Iu (.func 67) [] [nM, EZ]) w fun b8 w =>
 R b8 w
theorem Fm (R : K1) (hr : HR uB R Q) (h : pK R (g 2) (g 3) w) : iR pg oT (gN 2 oB) Q g w :=
 lI (kn := no) (l := []) h mE hr trivial
def tK (kn : K2) (lE M7 : adI) (w : adH) : Prop :=
 eY pg (DY 22 lE) w fun nM w =>
 eY pg (DY 3 M7) w fun EZ w =>
 eY pg (gJ 3 EZ) w fun b5 w =>
 eY pg (gO .lss 3 gW gW b5 (adJ 1)) w fun b6 w =>
 lO b6
  (eY pg (XA 9 (.string ⟨#[99, 97, 110, 110, 111, 116, 32, 98, 101, 32, 108, 101, 115, 115, 32, 116, 104, 97, 110, 32, 49]⟩)) w fun b7 w =>
  eY pg (V (Instr.panic b7)) w fun _u w =>
  kn nM EZ w)
  (kn nM EZ w)
theorem FT (kn : K2) (hn : N2 Q kn 2 3) (h : tK kn (g 0) (g 1) w) : iR pg oT (gU 2 oB) Q g w :=
 lI (kr := no) (l := []) h hn mE trivial
def tX (R : K1) (lE M7 : adI) (w : adH) : Prop :=
 tK (fun nM EZ w => pK R nM EZ w) lE M7 w
theorem FB (R : K1) (hr : HR uB R Q) (h : tX R (g 0) (g 1) w) : iR pg oT oB Q g w :=
 uW 2 (FT _ g w (pK R) (fun g w h => iA (Fm _ g w R hr h)) h)
def Er (a0 a1 : adI) (w : adH) (R : K1) : Prop :=
 tX R a0 a1 w
theorem GC {a0 a1 : adI} {w : adH} {R : K1} (h : Er a0 a1 w R) : gS pg vF #[a0, a1] w R := by
 refine wC (ann := oT) Tryd.f58 oB [a0, a1] uB 9 TrydM.mixed Tryd.func58 ?_
 exact (FB _ _ _ R (fun _ _ h => h) h)
def Bd : FA := ⟨qZ, fun i => .leaf ([], []) []⟩
def B9 : List ResultVar := [.tmp 2]
noncomputable def Au : Code := iU Tryd.f59
def vG (R : K1) (Ak : adI) (w : adH) : Prop :=
 gS pg kR #[Ak] w fun b4 w =>
 eY pg (lK 126 [(0, b4)]) w fun b5 w =>
 eY pg (DY 126 b5) w fun b6 w =>
 R b6 w
theorem GO (R : K1) (hr : HR B9 R Q) (h : vG R (g 0) w) : iR pg Bd Au Q g w :=
 lI (kn := no) (l := []) h mE hr trivial
def FC (a0 : adI) (w : adH) (R : K1) : Prop :=
 vG R a0 w
theorem HA {a0 : adI} {w : adH} {R : K1} (h : FC a0 w R) : gS pg qZ #[a0] w R := by
 refine wC (ann := Bd) Tryd.f59 Au [a0] B9 7 TrydM.mixed Tryd.func59 ?_
 exact (GO _ _ _ R (fun _ _ h => h) h)
def jK : FA := ⟨mD, fun i => .leaf ([], []) []⟩
def nK : List ResultVar := [.tmp 4]
noncomputable def jH : Code := iU Tryd.f60
def nD (R : K1) (JG : adI) (w : adH) : Prop :=
 R JG w
theorem CX (R : K1) (hr : HR nK R Q) (h : nD R (g 5) w) : iR pg jK (gN 1 (gN 3 jH)) Q g w :=
 lI (kn := no) (l := []) h mE hr trivial
def nL (kn : K4) (k0 : K1) (JG c8 c9 d0 : adI) (w : adH) : Prop :=
 eY pg (gO .lss 3 gW gW d0 c9) w fun d1 w =>
 lO d1
  (eY pg (iF 22 c8 d0) w fun d3 w =>
  eY pg (gJ 5 d3) w fun d4 w =>
  eY pg (kP 5 24 d4) w fun d7 w =>
  eY pg (gO .mul 3 gW gW (adJ 8) d0) w fun d9 w =>
  eY pg (kP 3 128 d9) w fun e0 w =>
  eY pg (gO .shl 24 gW gW d7 e0) w fun e1 w =>
  eY pg (gO .or 24 gW gW JG e1) w fun e2 w =>
  eY pg (gO .add 3 gW gW d0 (adJ 1)) w fun e3 w =>
  kn e2 c8 c9 e3 w)
  (k0 JG w)
theorem DO (kn : K4) (k0 : K1) (hn : N4 Q kn 5 18 19 20) (h0 : E1 Q k0 0 5) (h : nL kn k0 (g 5) (g 18) (g 19) (g 20) w) : iR pg jK (bI (bI (gN 1 (gU 1 (gN 3 jH))))) Q g w :=
 lI (kr := no) (l := [(0, fun g w => k0 (g 5) w)]) h hn mE ⟨h0, trivial⟩
def qS (k0 : K1) (JG c8 c9 d0 : adI) (w : adH) : Prop :=
 kF (fun (X : (adI × adI) -> K0) (t : adI × adI) (w : adH) => nL (fun JG _ _ d0 w => X (JG, d0) w) k0 t.1 c8 c9 t.2 w) (JG, d0) w
theorem CC (k0 : K1) (h0 : E1 Q k0 0 5) (h : qS k0 (g 5) (g 18) (g 19) (g 20) w) : iR pg jK (bI (gN 1 (gU 1 (gN 3 jH)))) Q g w := by
 refine OV (fun g : Env => (g 5, g 20)) (fun X t w => nL (fun JG _ _ d0 w => X (JG, d0) w) k0 t.1 (g 18) (g 19) t.2 w) h (fun X g1 w1 ha hL => ?_)
 rw [<- uN 18 ha, <- uN 19 ha] at hL
 exact (DO _ g1 w1 (fun JG _ _ d0 w => X (JG, d0) w) k0 (fun _ _ h => h) h0 hL)
def qW (kn : K1) (JG c8 c9 d0 : adI) (w : adH) : Prop :=
 qS kn JG c8 c9 d0 w
def qK (kn : K4) (Na M7 JG : adI) (w : adH) : Prop :=
 eY pg (gO .geq 3 gW gW M7 (adJ 1)) w fun c3 w =>
 Gd (jQ c3 true) (fun K => K M7 w) w fun c5 w =>
 Gd (jQ c3 true) (fun K => eY pg (gO .leq 3 gW gW c5 (adJ 8)) w K) w fun c6 w =>
 eY pg (kH c3 c6 (.bool false)) w fun c7 w =>
 gS pg pP #[Na, M7, c7] w fun c8 w =>
 eY pg (mS .len #[22] 3 [c8]) w fun c9 w =>
 kn JG c8 c9 (adJ 0) w
theorem Da (kn : K4) (hn : N4 Q kn 5 18 19 20) (h : qK kn (g 0) (g 1) (g 5) w) : iR pg jK (gU 1 (gU 1 (gN 3 jH))) Q g w :=
 lI (kr := no) (l := []) h hn mE trivial
def qT (kn : K1) (Na M7 JG : adI) (w : adH) : Prop :=
 qK (fun JG c8 c9 d0 w => qW kn JG c8 c9 d0 w) Na M7 JG w
def qJ (R : K1) (Na M7 JG : adI) (w : adH) : Prop :=
 qT (fun JG w => nD R JG w) Na M7 JG w
theorem Dm (kn : K1) (hn : N1 Q kn 5) (h : qT kn (g 0) (g 1) (g 5) w) : iR pg jK (gU 1 (gN 3 jH)) Q g w :=
 uW 1 (Da _ g w (qW kn) (fun g w h => iA (Od 0 (CC _ g w kn hn h))) h)
def qX (kn : K3) (R : K1) (Na M7 : adI) (w : adH) : Prop :=
 eY pg (gO .eql 109 (.tmp 8) (.const (.pointer none)) Na (.pointer none)) w fun b9 w =>
 lO b9
  (R (.int .u64 0) w)
  (kn Na M7 (.int .u64 0) w)
theorem Ds (kn : K3) (R : K1) (hn : N3 Q kn 0 1 5) (hr : HR nK R Q) (h : qX kn R (g 0) (g 1) w) : iR pg jK (gU 3 jH) Q g w :=
 lI (l := []) h hn hr trivial
def qP (R : K1) (Na M7 : adI) (w : adH) : Prop :=
 qX (fun Na M7 JG w => qJ R Na M7 JG w) R Na M7 w
theorem Dk (R : K1) (hr : HR nK R Q) (h : qP R (g 0) (g 1) w) : iR pg jK jH Q g w :=
 uW 3 (Ds _ g w (qJ R) R (fun g w h => iA (uW 1 (Dm _ g w (nD R) (fun g w h => iA (CX _ g w R hr h)) h))) hr h)
def Be (a0 a1 : adI) (w : adH) (R : K1) : Prop :=
 qP R a0 a1 w
theorem DV {a0 a1 : adI} {w : adH} {R : K1} (h : Be a0 a1 w R) : gS pg mD #[a0, a1] w R := by
 refine wC (ann := jK) Tryd.f60 jH [a0, a1] nK 35 TrydM.mixed Tryd.func60 ?_
 exact (Dk _ _ _ R (fun _ _ h => h) h)
def kC : FA := ⟨pY, fun i => match Nat.beq i 6 with | true => .leaf ([], []) [(false, []), (false, []), (false, []), (false, []), (false, []), (false, []), (false, []), (false, []), (false, [])] | false => .leaf ([], []) []⟩
def lC : List ResultVar := [.tmp 4]
noncomputable def jX : Code := iU Tryd.f61
def pL (R : K1)  (w : adH) : Prop :=
 R (.bool true) w
theorem FZ (R : K1) (hr : HR lC R Q) (h : pL R w) : iR pg kC (gN 1 (gN 2 jX)) Q g w :=
 lI (kn := no) (l := []) h mE hr trivial
def pO (kn : K4) (k0 : K0) (R : K1) (Bx BL c2 c3 : adI) (w : adH) : Prop :=
 eY pg (gO .lss 3 gW gW c3 c2) w fun c4 w =>
 lO c4
  ((dr w) = (dr w) /\
  (dr w) = (dr w) /\
  eY pg (iF 22 Bx c3) (dr w) fun c8 w_ => w_ = (dr w) /\
  eY pg (gJ 5 c8) (dr w) fun c9 w_ => w_ = (dr w) /\
  (dr w) = (dr w) /\
  (dr w) = (dr w) /\
  eY pg (iF 22 BL c3) (dr w) fun d2 w_ => w_ = (dr w) /\
  eY pg (gJ 5 d2) (dr w) fun d3 w_ => w_ = (dr w) /\
  eY pg (gO .neq 5 (.tmp 19) (.tmp 23) c9 d3) (dr w) fun d4 w_ => w_ = (dr w) /\
  lO d4
   (R (.bool false) (dr w))
   (eY pg (gO .add 3 gW gW c3 (adJ 1)) (dr w) fun d5 w =>
   kn Bx BL c2 d5 w))
  (k0 w)
theorem FU (kn : K4) (k0 : K0) (R : K1) (hn : N4 Q kn 0 1 12 13) (h0 : E0 Q k0 0) (hr : HR lC R Q) (h : pO kn k0 R (g 0) (g 1) (g 12) (g 13) w) : iR pg kC (bI (bI (gN 1 (gU 1 (gN 2 jX))))) Q g w :=
 lI (l := [(0, fun g w => k0 w)]) h hn hr ⟨h0, trivial⟩
def uA (k0 : K0) (R : K1) (Bx BL c2 c3 : adI) (w : adH) : Prop :=
 kF (fun (X : adI -> K0) (t : adI) (w : adH) => pO (fun _ _ _ c3 w => X c3 w) k0 R Bx BL c2 t w) c3 w
theorem Fp (k0 : K0) (R : K1) (h0 : E0 Q k0 0) (hr : HR lC R Q) (h : uA k0 R (g 0) (g 1) (g 12) (g 13) w) : iR pg kC (bI (gN 1 (gU 1 (gN 2 jX)))) Q g w := by
 refine OV (fun g : Env => g 13) (fun X t w => pO (fun _ _ _ c3 w => X c3 w) k0 R (g 0) (g 1) (g 12) t w) h (fun X g1 w1 ha hL => ?_)
 rw [<- uN 0 ha, <- uN 1 ha, <- uN 12 ha] at hL
 exact (FU _ g1 w1 (fun _ _ _ c3 w => X c3 w) k0 R (fun _ _ h => h) h0 hr hL)
def tL (kn : K0) (R : K1) (Bx BL c2 c3 : adI) (w : adH) : Prop :=
 uA kn R Bx BL c2 c3 w
def tY (kn : K4) (Bx BL : adI) (w : adH) : Prop :=
 eY pg (mS .len #[22] 3 [Bx]) w fun c2 w =>
 kn Bx BL c2 (adJ 0) w
theorem FQ (kn : K4) (hn : N4 Q kn 0 1 12 13) (h : tY kn (g 0) (g 1) w) : iR pg kC (gU 1 (gU 1 (gN 2 jX))) Q g w :=
 lI (kr := no) (l := []) h hn mE trivial
def tZ (kn : K0) (R : K1) (Bx BL : adI) (w : adH) : Prop :=
 tY (fun Bx BL c2 c3 w => tL kn R Bx BL c2 c3 w) Bx BL w
def tG (R : K1) (Bx BL : adI) (w : adH) : Prop :=
 tZ (fun  w => pL R w) R Bx BL w
theorem Fe (kn : K0) (R : K1) (hn : N0 Q kn) (hr : HR lC R Q) (h : tZ kn R (g 0) (g 1) w) : iR pg kC (gU 1 (gN 2 jX)) Q g w :=
 uW 1 (FQ _ g w (tL kn R) (fun g w h => iA (Od 0 (Fp _ g w kn R hn hr h))) h)
def tW (kn : K2) (R : K1) (Bx BL : adI) (w : adH) : Prop :=
 eY pg (mS .len #[22] 3 [Bx]) w fun b7 w =>
 eY pg (mS .len #[22] 3 [BL]) w fun b9 w =>
 eY pg (gO .neq 3 (.tmp 7) (.tmp 9) b7 b9) w fun c0 w =>
 lO c0
  (R (.bool false) w)
  (kn Bx BL w)
theorem Fi (kn : K2) (R : K1) (hn : N2 Q kn 0 1) (hr : HR lC R Q) (h : tW kn R (g 0) (g 1) w) : iR pg kC (gU 2 jX) Q g w :=
 lI (l := []) h hn hr trivial
def tH (R : K1) (Bx BL : adI) (w : adH) : Prop :=
 tW (fun Bx BL w => tG R Bx BL w) R Bx BL w
theorem FW (R : K1) (hr : HR lC R Q) (h : tH R (g 0) (g 1) w) : iR pg kC jX Q g w :=
 uW 2 (Fi _ g w (tG R) R (fun g w h => iA (uW 1 (Fe _ g w (fun  w => pL R w) R (fun g w h => iA (FZ _ g w R hr h)) hr h))) hr h)
def D7 (a0 a1 : adI) (w : adH) (R : K1) : Prop :=
 tH R a0 a1 w
theorem GD {a0 a1 : adI} {w : adH} {R : K1} (h : D7 a0 a1 w R) : gS pg pY #[a0, a1] w R := by
 refine wC (ann := kC) Tryd.f61 jX [a0, a1] lC 26 TrydM.mixed Tryd.func61 ?_
 exact (FW _ _ _ R (fun _ _ h => h) h)
def BD : FA := ⟨rA, fun i => .leaf ([], []) []⟩
def B8 : List ResultVar := [.tmp 0]
noncomputable def Az : Code := iU Tryd.f62
def vP (R : K1)  (w : adH) : Prop :=
 eY pg (lK 130 []) w fun b1 w =>
 eY pg (DY 130 b1) w fun b2 w =>
 R b2 w
theorem GM (R : K1) (hr : HR B8 R Q) (h : vP R w) : iR pg BD Az Q g w :=
 lI (kn := no) (l := []) h mE hr trivial
def Fh (w : adH) (R : K1) : Prop :=
 vP R w
theorem HP {w : adH} {R : K1} (h : Fh w R) : gS pg rA #[] w R := by
 refine wC (ann := BD) Tryd.f62 Az [] B8 3 TrydM.mixed Tryd.func62 ?_
 exact (GM _ _ _ R (fun _ _ h => h) h)
def lM : FA := ⟨lF, fun i => .leaf ([], []) []⟩
def qV : List ResultVar := []
noncomputable def lH : Code := iU Tryd.f63
def nF (kn : K4) (k0 : K0) (Qm Tr c7 c8 : adI) (w : adH) : Prop :=
 eY pg (gO .lss 3 gW gW c8 c7) w fun c9 w =>
 lO c9
  (eY pg (iY Qm) w fun d3 w =>
  eY pg (gK 130 d3 0) w fun d4 w =>
  eY pg (gJ 22 d4) w fun d5 w =>
  eY pg (gO .mul 3 gW gW (adJ 8) c8) w fun d8 w =>
  eY pg (kP 3 128 d8) w fun d9 w =>
  eY pg (gO .shr 24 gW gW Tr d9) w fun e0 w =>
  eY pg (kP 24 5 e0) w fun e1 w =>
  eY pg (iC 22 1 [(0, e1)]) w fun e2 w =>
  eY pg (mS .append #[22, 22] 22 [d5, e2]) w fun e3 w =>
  eY pg (iY Qm) w fun e4 w =>
  eY pg (gK 130 e4 0) w fun e5 w =>
  eY pg (iB 22 e5 e3) w fun _u w =>
  eY pg (gO .add 3 gW gW c8 (adJ 1)) w fun e6 w =>
  kn Qm Tr c7 e6 w)
  (k0 w)
theorem DM (kn : K4) (k0 : K0) (hn : N4 Q kn 0 1 17 18) (h0 : E0 Q k0 0) (h : nF kn k0 (g 0) (g 1) (g 17) (g 18) w) : iR pg lM (bI (bI (gN 2 lH))) Q g w :=
 lI (kr := no) (l := [(0, fun g w => k0 w)]) h hn mE ⟨h0, trivial⟩
def qQ (k0 : K0) (Qm Tr c7 c8 : adI) (w : adH) : Prop :=
 kF (fun (X : adI -> K0) (t : adI) (w : adH) => nF (fun _ _ _ c8 w => X c8 w) k0 Qm Tr c7 t w) c8 w
theorem Db (k0 : K0) (h0 : E0 Q k0 0) (h : qQ k0 (g 0) (g 1) (g 17) (g 18) w) : iR pg lM (bI (gN 2 lH)) Q g w := by
 refine OV (fun g : Env => g 18) (fun X t w => nF (fun _ _ _ c8 w => X c8 w) k0 (g 0) (g 1) (g 17) t w) h (fun X g1 w1 ha hL => ?_)
 rw [<- uN 0 ha, <- uN 1 ha, <- uN 17 ha] at hL
 exact (DM _ g1 w1 (fun _ _ _ c8 w => X c8 w) k0 (fun _ _ h => h) h0 hL)
def qU (kn : K0) (Qm Tr c7 c8 : adI) (w : adH) : Prop :=
 qQ kn Qm Tr c7 c8 w
def qM (kn : K4) (R : K1) (Qm Tr Ym : adI) (w : adH) : Prop :=
 eY pg (gO .eql 113 (.tmp 7) (.const (.pointer none)) Qm (.pointer none)) w fun b8 w =>
 Gd (jQ b8 false) (fun K => K Ym w) w fun c0 w =>
 Gd (jQ b8 false) (fun K => eY pg (gO .lss 3 gW gW c0 (adJ 1)) w K) w fun c1 w =>
 eY pg (kH b8 (.bool true) c1) w fun c2 w =>
 Gd (jQ c2 false) (fun K => K Ym w) w fun c4 w =>
 Gd (jQ c2 false) (fun K => eY pg (gO .gtr 3 gW gW c4 (adJ 8)) w K) w fun c5 w =>
 eY pg (kH c2 (.bool true) c5) w fun c6 w =>
 lO c6
  (R (.tuple #[]) w)
  (kn Qm Tr Ym (adJ 0) w)
theorem DF (kn : K4) (R : K1) (hn : N4 Q kn 0 1 17 18) (hr : HR qV R Q) (h : qM kn R (g 0) (g 1) (g 2) w) : iR pg lM (gU 2 lH) Q g w :=
 lI (l := []) h hn hr trivial
def qI (kn : K0) (R : K1) (Qm Tr Ym : adI) (w : adH) : Prop :=
 qM (fun Qm Tr c7 c8 w => qU kn Qm Tr c7 c8 w) R Qm Tr Ym w
theorem Dc (kn : K0) (R : K1) (hn : N0 Q kn) (hr : HR qV R Q) (h : qI kn R (g 0) (g 1) (g 2) w) : iR pg lM lH Q g w :=
 uW 2 (DF _ g w (qU kn) R (fun g w h => iA (Od 0 (Db _ g w kn hn h))) hr h)
def BF (a0 a1 a2 : adI) (w : adH) (R : K1) : Prop :=
 qI (fun  w => R (.tuple #[]) w) R a0 a1 a2 w
theorem DW {a0 a1 a2 : adI} {w : adH} {R : K1} (h : BF a0 a1 a2 w R) : gS pg lF #[a0, a1, a2] w R := by
 refine wC (ann := lM) Tryd.f63 lH [a0, a1, a2] qV 37 TrydM.mixed Tryd.func63 ?_
 exact (Dc _ _ _ (fun  w => R (.tuple #[]) w) R (fun _ _ h => h) (fun _ _ h => h) h)
def Nq : FA := ⟨Lb, fun i => .leaf ([], []) []⟩
def PJ : List ResultVar := [.tmp 2]
noncomputable def MG : Code := iU Tryd.f64
def Ma (R : K1) (Ak : adI) (w : adH) : Prop :=
 gS pg L9 #[] w fun b4 w =>
 gS pg AS #[b4, Ak] w fun b7 w =>
 gS pg Dp #[b4] w fun b9 w =>
 R b9 w
theorem PR (R : K1) (hr : HR PJ R Q) (h : Ma R (g 0) w) : iR pg Nq MG Q g w :=
 lI (kn := no) (l := []) h mE hr trivial
def VI (a0 : adI) (w : adH) (R : K1) : Prop :=
 Ma R a0 w
theorem Qs {a0 : adI} {w : adH} {R : K1} (h : VI a0 w R) : gS pg Lb #[a0] w R := by
 refine wC (ann := Nq) Tryd.f64 MG [a0] PJ 10 TrydM.mixed Tryd.func64 ?_
 exact (PR _ _ _ R (fun _ _ h => h) h)
def Ao : FA := ⟨nQ, fun i => .leaf ([], []) []⟩
def Bq : List ResultVar := [.tmp 2]
noncomputable def zZ : Code := iU Tryd.f65
def tO (R : K1) (Qm : adI) (w : adH) : Prop :=
 eY pg (gO .eql 113 (.tmp 3) (.const (.pointer none)) Qm (.pointer none)) w fun b4 w =>
 lO b4
  (R (.slice none 0 0) w)
  (eY pg (iY Qm) w fun b6 w =>
  eY pg (gK 130 b6 0) w fun b7 w =>
  eY pg (gJ 22 b7) w fun b8 w =>
  gS pg kR #[b8] w fun b9 w =>
  R b9 w)
theorem FJ (R : K1) (hr : HR Bq R Q) (h : tO R (g 0) w) : iR pg Ao zZ Q g w :=
 lI (kn := no) (l := []) h mE hr trivial
def D4 (a0 : adI) (w : adH) (R : K1) : Prop :=
 tO R a0 w
theorem Gx {a0 : adI} {w : adH} {R : K1} (h : D4 a0 w R) : gS pg nQ #[a0] w R := by
 refine wC (ann := Ao) Tryd.f65 zZ [a0] Bq 10 TrydM.mixed Tryd.func65 ?_
 exact (FJ _ _ _ R (fun _ _ h => h) h)
def hZ : FA := ⟨uM, fun i => match Nat.beq i 10 with | true => .leaf ([9, 20, 23], [(2, 9), (2, 20), (3, 9), (3, 20), (4, 9), (4, 20), (9, 12), (9, 13), (9, 14), (9, 17), (9, 18), (9, 19), (10, 20), (12, 20), (13, 20), (14, 20), (15, 20)]) [(false, []), (false, []), (false, []), (false, []), (false, []), (false, []), (false, []), (false, []), (false, []), (true, [4, 5, 6]), (false, []), (false, []), (false, [2]), (false, [3]), (false, [4]), (false, []), (false, []), (false, [7]), (false, [8]), (false, [9]), (true, [4, 5, 6, 7, 9, 15, 16, 17]), (false, []), (false, []), (true, [])] | false => match Nat.beq i 15 with | true => .leaf ([], []) [(false, []), (false, []), (false, []), (false, []), (false, []), (false, [])] | false => match Nat.beq i 16 with | true => .leaf ([3], [(0, 3), (1, 3), (3, 6), (3, 7), (3, 8), (3, 10), (3, 11), (3, 12), (3, 13), (3, 14), (3, 17), (3, 18), (3, 21), (3, 22)]) [(false, []), (false, []), (false, []), (true, [1, 2]), (false, []), (false, []), (false, [2]), (false, [3]), (false, [4]), (false, []), (false, [6]), (false, [7]), (false, [8]), (false, [9]), (false, [10]), (false, []), (false, []), (false, [13]), (false, [14]), (false, []), (false, []), (false, [17]), (false, [18]), (false, []), (false, [])] | false => match Nat.beq i 17 with | true => .leaf ([1], [(1, 3), (1, 4), (1, 5), (1, 7), (1, 8), (1, 9), (1, 10), (1, 11), (1, 12), (1, 13), (1, 14), (1, 15), (1, 16)]) [(false, []), (true, []), (false, []), (false, [1]), (false, [2]), (false, [3]), (false, []), (false, [5]), (false, [6]), (false, [7]), (false, [8]), (false, [9]), (false, [10]), (false, [11]), (false, [12]), (false, [13]), (false, [14]), (false, []), (false, [])] | false => match Nat.beq i 18 with | true => .leaf ([2], []) [(false, []), (false, []), (true, [])] | false => match Nat.beq i 25 with | true => .leaf ([8], []) [(false, []), (false, []), (false, []), (false, []), (false, []), (false, []), (false, []), (false, []), (true, [])] | false => .leaf ([], []) []⟩
def Ai : List ResultVar := [.cell 4 119]
noncomputable def gY : Code := iU Tryd.f66
def sW (R : K1) (b4 tD : adI) (w : adH) : Prop :=
 eY pg (gJ 119 tD) w fun s5 w =>
 eY pg (iB 119 b4 s5) w fun _u w =>
 Uw pg 119 b4 w fun r0 => R r0 w
theorem Ii (R : K1) (hr : HR Ai R Q) (h : sW R (g 4) (g 9) w) : iR pg hZ (gN 1 (gN 1 (gN 1 (gN 1 (gN 1 (gN 2 gY)))))) Q g w :=
 lI (kn := no) (l := []) h mE hr trivial
def sR (kn : K4) (k6 : K2) (nM b4 tD q3 : adI) (w : adH) : Prop :=
 eY pg (gO .lss 3 gW gW q3 (adJ 8)) w fun q4 w =>
 lO q4
  ((dr w) = (dr w) /\
  eY pg (iF 119 tD q3) (dr w) fun q7 w_ => w_ = (dr w) /\
  eY pg (gJ 25 q7) (dr w) fun q8 w_ => w_ = (dr w) /\
  (dr w) = (dr w) /\
  eY pg (iF 119 nM q3) (dr w) fun s0 w_ => w_ = (dr w) /\
  eY pg (gJ 25 s0) (dr w) fun s1 w_ => w_ = (dr w) /\
  eY pg (gO .add 25 gW gW q8 s1) (dr w) fun s2 w_ => w_ = (dr w) /\
  eY pg (iF 119 tD q3) (dr w) fun s3 w_ => w_ = (dr w) /\
  eY pg (iB 25 s3 s2) (dr w) fun _u8 YE =>
  eY pg (gO .add 3 gW gW q3 (adJ 1)) YE fun s4 w =>
  kn nM b4 tD s4 w)
  (k6 b4 tD w)
theorem Ih (kn : K4) (k6 : K2) (hn : N4 Q kn 2 4 9 123) (h6 : E2 Q k6 6 4 9) (h : sR kn k6 (g 2) (g 4) (g 9) (g 123) w) : iR pg hZ (bI (bI (gN 1 (gU 1 (gN 1 (gN 1 (gN 1 (gN 1 (gN 2 gY))))))))) Q g w :=
 lI (kr := no) (l := [(6, fun g w => k6 (g 4) (g 9) w)]) h hn mE ⟨h6, trivial⟩
def zJ (k6 : K2) (nM b4 tD q3 : adI) (w : adH) : Prop :=
 kF (fun (X : adI -> K0) (t : adI) (w : adH) => sR (fun _ _ _ q3 w => X q3 w) k6 nM b4 tD t w) q3 w
theorem Iv (k6 : K2) (h6 : E2 Q k6 6 4 9) (h : zJ k6 (g 2) (g 4) (g 9) (g 123) w) : iR pg hZ (bI (gN 1 (gU 1 (gN 1 (gN 1 (gN 1 (gN 1 (gN 2 gY)))))))) Q g w := by
 refine OV (fun g : Env => g 123) (fun X t w => sR (fun _ _ _ q3 w => X q3 w) k6 (g 2) (g 4) (g 9) t w) h (fun X g1 w1 ha hL => ?_)
 rw [<- uN 2 ha, <- uN 4 ha, <- uN 9 ha] at hL
 exact (Ih _ g1 w1 (fun _ _ _ q3 w => X q3 w) k6 (fun _ _ h => h) h6 hL)
def zU (kn : K2) (nM b4 tD q3 : adI) (w : adH) : Prop :=
 zJ kn nM b4 tD q3 w
def zV (kn : K4) (nM b4 tD : adI) (w : adH) : Prop :=
 kn nM b4 tD (adJ 0) w
theorem Ik (kn : K4) (hn : N4 Q kn 2 4 9 123) (h : zV kn (g 2) (g 4) (g 9) w) : iR pg hZ (gU 1 (gU 1 (gN 1 (gN 1 (gN 1 (gN 1 (gN 2 gY))))))) Q g w :=
 lI (kr := no) (l := []) h hn mE trivial
def zX (kn : K2) (nM b4 tD : adI) (w : adH) : Prop :=
 zV (fun nM b4 tD q3 w => zU kn nM b4 tD q3 w) nM b4 tD w
def yO (R : K1) (nM b4 tD : adI) (w : adH) : Prop :=
 zX (fun b4 tD w => sW R b4 tD w) nM b4 tD w
theorem Il (kn : K2) (hn : N2 Q kn 4 9) (h : zX kn (g 2) (g 4) (g 9) w) : iR pg hZ (gU 1 (gN 1 (gN 1 (gN 1 (gN 1 (gN 2 gY)))))) Q g w :=
 uW 1 (Ik _ g w (zU kn) (fun g w h => iA (Od 6 (Iv _ g w kn hn h))) h)
def sU (kn : K5) (k4 : K3) (nM b4 pT tD j1 : adI) (w : adH) : Prop :=
 eY pg (gO .lss 3 gW gW j1 (adJ 64)) w fun j2 w =>
 lO j2
  (eY pg (iF 119 tD (adJ 0)) (dr w) fun j4 w_ => w_ = (dr w) /\
  eY pg (gJ 25 j4) (dr w) fun j5 w_ => w_ = (dr w) /\
  eY pg (iF 119 tD (adJ 4)) (dr w) fun j6 w_ => w_ = (dr w) /\
  eY pg (gJ 25 j6) (dr w) fun j7 w_ => w_ = (dr w) /\
  (dr w) = (dr w) /\
  (dr w) = (dr w) /\
  eY pg (iF 119 tD (adJ 7)) (dr (dr w)) fun j8 w_ => w_ = (dr (dr w)) /\
  eY pg (gJ 25 j8) (dr (dr w)) fun j9 w_ => w_ = (dr (dr w)) /\
  (dr (dr w)) = (dr (dr w)) /\
  gS pg zR #[j7, (adJ 6), (adJ 11), (adJ 25)] (dr (dr w)) fun l1 jT =>
  (gM pg (gJ 25 j8) j9 jT /\ gM pg (iF 119 tD (adJ 7)) j8 jT /\ True) /\
  eY pg (gO .add 25 gW gW j9 l1) jT fun l2 w_ => w_ = jT /\
  jT = jT /\
  eY pg (iF 119 tD (adJ 5)) jT fun l4 w_ => w_ = jT /\
  (gM pg (iF 119 tD (adJ 5)) l4 (dr (dr w)) /\ True) /\
  eY pg (gJ 25 l4) jT fun l5 w_ => w_ = jT /\
  (gM pg (gJ 25 l4) l5 (dr (dr w)) /\ True) /\
  eY pg (gO .and 25 gW gW j7 l5) jT fun l6 w_ => w_ = jT /\
  (gM pg (gO .and 25 gW gW j7 l5) l6 (dr (dr w)) /\ True) /\
  jT = jT /\
  eY pg (J2 .xor j7) jT fun l8 w_ => w_ = jT /\
  (gM pg (J2 .xor j7) l8 (dr (dr w)) /\ True) /\
  eY pg (iF 119 tD (adJ 6)) jT fun l9 w_ => w_ = jT /\
  (gM pg (iF 119 tD (adJ 6)) l9 (dr (dr w)) /\ True) /\
  eY pg (gJ 25 l9) jT fun m0 w_ => w_ = jT /\
  (gM pg (gJ 25 l9) m0 (dr (dr w)) /\ True) /\
  eY pg (gO .and 25 gW gW l8 m0) jT fun m1 w_ => w_ = jT /\
  (gM pg (gO .and 25 gW gW l8 m0) m1 (dr (dr w)) /\ True) /\
  eY pg (gO .xor 25 gW gW l6 m1) jT fun m2 w_ => w_ = jT /\
  (gM pg (gO .xor 25 gW gW l6 m1) m2 (dr (dr w)) /\ True) /\
  eY pg (gO .add 25 gW gW l2 m2) jT fun m3 w_ => w_ = jT /\
  jT = jT /\
  eY pg (iF 134 (.pointer (some ⟨0, 0, none⟩)) j1) jT fun m5 w_ => w_ = jT /\
  (gM pg (iF 134 (.pointer (some ⟨0, 0, none⟩)) j1) m5 (dr (dr w)) /\ True) /\
  eY pg (gJ 25 m5) jT fun m6 w_ => w_ = jT /\
  (gM pg (gJ 25 m5) m6 (dr (dr w)) /\ True) /\
  eY pg (gO .add 25 gW gW m3 m6) jT fun m7 w_ => w_ = jT /\
  jT = jT /\
  eY pg (iF 134 pT j1) jT fun m9 w_ => w_ = jT /\
  (gM pg (iF 134 pT j1) m9 (dr (dr w)) /\ True) /\
  eY pg (gJ 25 m9) jT fun n0 w_ => w_ = jT /\
  (gM pg (gJ 25 m9) n0 (dr (dr w)) /\ True) /\
  eY pg (gO .add 25 gW gW m7 n0) jT fun n1 w_ => w_ = jT /\
  jT = jT /\
  (dr jT) = (dr jT) /\
  gS pg zR #[j5, (adJ 2), (adJ 13), (adJ 22)] (dr jT) fun n3 mA =>
  mA = mA /\
  eY pg (iF 119 tD (adJ 1)) mA fun n5 w_ => w_ = mA /\
  (gM pg (iF 119 tD (adJ 1)) n5 (dr jT) /\ True) /\
  eY pg (gJ 25 n5) mA fun n6 w_ => w_ = mA /\
  (gM pg (gJ 25 n5) n6 (dr jT) /\ True) /\
  eY pg (gO .and 25 gW gW j5 n6) mA fun n7 w_ => w_ = mA /\
  (gM pg (gO .and 25 gW gW j5 n6) n7 (dr jT) /\ True) /\
  mA = mA /\
  eY pg (iF 119 tD (adJ 2)) mA fun n9 w_ => w_ = mA /\
  (gM pg (iF 119 tD (adJ 2)) n9 (dr jT) /\ True) /\
  eY pg (gJ 25 n9) mA fun o0 w_ => w_ = mA /\
  (gM pg (gJ 25 n9) o0 (dr jT) /\ True) /\
  eY pg (gO .and 25 gW gW j5 o0) mA fun o1 w_ => w_ = mA /\
  (gM pg (gO .and 25 gW gW j5 o0) o1 (dr jT) /\ True) /\
  eY pg (gO .xor 25 gW gW n7 o1) mA fun o2 w_ => w_ = mA /\
  (gM pg (gO .xor 25 gW gW n7 o1) o2 (dr jT) /\ True) /\
  eY pg (iF 119 tD (adJ 1)) mA fun o3 w_ => w_ = mA /\
  (gM pg (iF 119 tD (adJ 1)) o3 (dr jT) /\ True) /\
  eY pg (gJ 25 o3) mA fun o4 w_ => w_ = mA /\
  (gM pg (gJ 25 o3) o4 (dr jT) /\ True) /\
  eY pg (iF 119 tD (adJ 2)) mA fun o5 w_ => w_ = mA /\
  (gM pg (iF 119 tD (adJ 2)) o5 (dr jT) /\ True) /\
  eY pg (gJ 25 o5) mA fun o6 w_ => w_ = mA /\
  (gM pg (gJ 25 o5) o6 (dr jT) /\ True) /\
  eY pg (gO .and 25 gW gW o4 o6) mA fun o7 w_ => w_ = mA /\
  (gM pg (gO .and 25 gW gW o4 o6) o7 (dr jT) /\ True) /\
  eY pg (gO .xor 25 gW gW o2 o7) mA fun o8 w_ => w_ = mA /\
  (gM pg (gO .xor 25 gW gW o2 o7) o8 (dr jT) /\ True) /\
  eY pg (gO .add 25 gW gW n3 o8) mA fun o9 w_ => w_ = mA /\
  mA = mA /\
  eY pg (lL 119 tD (some (adJ 1)) none none) (dr mA) fun p0 w_ => w_ = (dr mA) /\
  eY pg (lL 119 tD none (some (adJ 7)) none) (dr mA) fun p1 w_ => w_ = (dr mA) /\
  eY pg (mS .copy #[136, 136] 3 [p0, p1]) (dr mA) fun p2 Yp =>
  eY pg (iF 119 tD (adJ 4)) Yp fun p3 w =>
  eY pg (gJ 25 p3) w fun p4 w =>
  eY pg (gO .add 25 gW gW p4 n1) w fun p6 w =>
  eY pg (iF 119 tD (adJ 4)) w fun p7 w =>
  eY pg (iB 25 p7 p6) w fun _u w =>
  eY pg (gO .add 25 gW gW n1 o9) w fun q0 w =>
  eY pg (iF 119 tD (adJ 0)) w fun q1 w =>
  eY pg (iB 25 q1 q0) w fun _u w =>
  eY pg (gO .add 3 gW gW j1 (adJ 1)) w fun q2 w =>
  kn nM b4 pT tD q2 w)
  (k4 nM b4 tD w)
theorem IZ (kn : K5) (k4 : K3) (hn : N5 Q kn 2 4 5 9 61) (h4 : E3 Q k4 4 2 4 9) (h : sU kn k4 (g 2) (g 4) (g 5) (g 9) (g 61) w) : iR pg hZ (bI (bI (gN 1 (gU 1 (gN 1 (gN 1 (gN 1 (gN 2 gY)))))))) Q g w :=
 lI (kr := no) (l := [(4, fun g w => k4 (g 2) (g 4) (g 9) w)]) h hn mE ⟨h4, trivial⟩
def Ab (k4 : K3) (nM b4 pT tD j1 : adI) (w : adH) : Prop :=
 kF (fun (X : adI -> K0) (t : adI) (w : adH) => sU (fun _ _ _ _ j1 w => X j1 w) k4 nM b4 pT tD t w) j1 w
theorem IU (k4 : K3) (h4 : E3 Q k4 4 2 4 9) (h : Ab k4 (g 2) (g 4) (g 5) (g 9) (g 61) w) : iR pg hZ (bI (gN 1 (gU 1 (gN 1 (gN 1 (gN 1 (gN 2 gY))))))) Q g w := by
 refine OV (fun g : Env => g 61) (fun X t w => sU (fun _ _ _ _ j1 w => X j1 w) k4 (g 2) (g 4) (g 5) (g 9) t w) h (fun X g1 w1 ha hL => ?_)
 rw [<- uN 2 ha, <- uN 4 ha, <- uN 5 ha, <- uN 9 ha] at hL
 exact (IZ _ g1 w1 (fun _ _ _ _ j1 w => X j1 w) k4 (fun _ _ h => h) h4 hL)
def xG (kn : K3) (nM b4 pT tD j1 : adI) (w : adH) : Prop :=
 Ab kn nM b4 pT tD j1 w
def wT (kn : K5) (nM b4 pT tD : adI) (w : adH) : Prop :=
 kn nM b4 pT tD (adJ 0) w
theorem Hi (kn : K5) (hn : N5 Q kn 2 4 5 9 61) (h : wT kn (g 2) (g 4) (g 5) (g 9) w) : iR pg hZ (gU 1 (gU 1 (gN 1 (gN 1 (gN 1 (gN 2 gY)))))) Q g w :=
 lI (kr := no) (l := []) h hn mE trivial
def xF (kn : K3) (nM b4 pT tD : adI) (w : adH) : Prop :=
 wT (fun nM b4 pT tD j1 w => xG kn nM b4 pT tD j1 w) nM b4 pT tD w
def xR (R : K1) (nM b4 pT tD : adI) (w : adH) : Prop :=
 xF (fun nM b4 tD w => yO R nM b4 tD w) nM b4 pT tD w
theorem Hz (kn : K3) (hn : N3 Q kn 2 4 9) (h : xF kn (g 2) (g 4) (g 5) (g 9) w) : iR pg hZ (gU 1 (gN 1 (gN 1 (gN 1 (gN 2 gY))))) Q g w :=
 uW 1 (Hi _ g w (xG kn) (fun g w h => iA (Od 4 (IU _ g w kn hn h))) h)
def xW (kn : K4) (nM b4 pT : adI) (w : adH) : Prop :=
 eY pg (gJ 119 nM) w fun j0 w =>
 eY pg (lQ 119) w fun tD w =>
 eY pg (iB 119 tD j0) w fun _u w =>
 kn nM b4 pT tD w
theorem Hq (kn : K4) (hn : N4 Q kn 2 4 5 9) (h : xW kn (g 2) (g 4) (g 5) w) : iR pg hZ (gU 1 (gN 1 (gN 1 (gN 2 gY)))) Q g w :=
 lI (kr := no) (l := []) h hn mE trivial
def xH (R : K1) (nM b4 pT : adI) (w : adH) : Prop :=
 xW (fun nM b4 pT tD w => xR R nM b4 pT tD w) nM b4 pT w
def rC (kn : K4) (k2 : K3) (nM b4 pT b8 : adI) (w : adH) : Prop :=
 eY pg (gO .lss 3 gW gW b8 (adJ 64)) w fun e4 w =>
 lO e4
  ((dr w) = (dr w) /\
  (dr w) = (dr w) /\
  eY pg (gO .sub 3 gW gW b8 (adJ 16)) (dr w) fun e9 w_ => w_ = (dr w) /\
  eY pg (iF 134 pT e9) (dr w) fun f0 w_ => w_ = (dr w) /\
  eY pg (gJ 25 f0) (dr w) fun f1 w_ => w_ = (dr w) /\
  (dr w) = (dr w) /\
  eY pg (gO .sub 3 gW gW b8 (adJ 15)) (dr w) fun f3 w_ => w_ = (dr w) /\
  eY pg (iF 134 pT f3) (dr w) fun f4 w_ => w_ = (dr w) /\
  eY pg (gJ 25 f4) (dr w) fun f5 w_ => w_ = (dr w) /\
  gS pg Dr #[f5, (adJ 7), (adJ 18), (adJ 3)] (dr w) fun f6 sS =>
  (gM pg (gJ 25 f0) f1 sS /\ gM pg (iF 134 pT e9) f0 sS /\ gM pg (gO .sub 3 gW gW b8 (adJ 16)) e9 sS /\ True) /\
  eY pg (gO .add 25 gW gW f1 f6) sS fun f7 w_ => w_ = sS /\
  sS = sS /\
  eY pg (gO .sub 3 gW gW b8 (adJ 7)) sS fun f9 w_ => w_ = sS /\
  (gM pg (gO .sub 3 gW gW b8 (adJ 7)) f9 (dr w) /\ True) /\
  eY pg (iF 134 pT f9) sS fun i0 w_ => w_ = sS /\
  (gM pg (iF 134 pT f9) i0 (dr w) /\ True) /\
  eY pg (gJ 25 i0) sS fun i1 w_ => w_ = sS /\
  (gM pg (gJ 25 i0) i1 (dr w) /\ True) /\
  eY pg (gO .add 25 gW gW f7 i1) sS fun i2 w_ => w_ = sS /\
  sS = sS /\
  eY pg (gO .sub 3 gW gW b8 (adJ 2)) sS fun i4 w_ => w_ = sS /\
  (gM pg (gO .sub 3 gW gW b8 (adJ 2)) i4 (dr w) /\ True) /\
  eY pg (iF 134 pT i4) sS fun i5 w_ => w_ = sS /\
  (gM pg (iF 134 pT i4) i5 (dr w) /\ True) /\
  eY pg (gJ 25 i5) sS fun i6 w_ => w_ = sS /\
  (gM pg (gJ 25 i5) i6 (dr w) /\ True) /\
  gS pg Dr #[i6, (adJ 17), (adJ 19), (adJ 10)] sS fun i7 AY =>
  (gM pg (gO .add 25 gW gW f7 i1) i2 AY /\ gM pg (gJ 25 i0) i1 AY /\ gM pg (iF 134 pT f9) i0 AY /\ gM pg (gO .sub 3 gW gW b8 (adJ 7)) f9 AY /\ gM pg (gO .add 25 gW gW f1 f6) f7 AY /\ gM pg (gJ 25 f0) f1 AY /\ gM pg (iF 134 pT e9) f0 AY /\ gM pg (gO .sub 3 gW gW b8 (adJ 16)) e9 AY /\ True) /\
  eY pg (gO .add 25 gW gW i2 i7) AY fun i8 w_ => w_ = AY /\
  eY pg (iF 134 pT b8) AY fun i9 w_ => w_ = AY /\
  eY pg (iB 25 i9 i8) AY fun _u23 X6 =>
  eY pg (gO .add 3 gW gW b8 (adJ 1)) X6 fun e6 w =>
  kn nM b4 pT e6 w)
  (k2 nM b4 pT w)
theorem Hc (kn : K4) (k2 : K3) (hn : N4 Q kn 2 4 5 8) (h2 : E3 Q k2 2 2 4 5) (h : rC kn k2 (g 2) (g 4) (g 5) (g 8) w) : iR pg hZ (bI (bI (gN 1 (gU 1 (gN 1 (gN 2 gY)))))) Q g w :=
 lI (kr := no) (l := [(2, fun g w => k2 (g 2) (g 4) (g 5) w)]) h hn mE ⟨h2, trivial⟩
def xJ (k2 : K3) (nM b4 pT b8 : adI) (w : adH) : Prop :=
 kF (fun (X : adI -> K0) (t : adI) (w : adH) => rC (fun _ _ _ b8 w => X b8 w) k2 nM b4 pT t w) b8 w
theorem HS (k2 : K3) (h2 : E3 Q k2 2 2 4 5) (h : xJ k2 (g 2) (g 4) (g 5) (g 8) w) : iR pg hZ (bI (gN 1 (gU 1 (gN 1 (gN 2 gY))))) Q g w := by
 refine OV (fun g : Env => g 8) (fun X t w => rC (fun _ _ _ b8 w => X b8 w) k2 (g 2) (g 4) (g 5) t w) h (fun X g1 w1 ha hL => ?_)
 rw [<- uN 2 ha, <- uN 4 ha, <- uN 5 ha] at hL
 exact (Hc _ g1 w1 (fun _ _ _ b8 w => X b8 w) k2 (fun _ _ h => h) h2 hL)
def wS (kn : K3) (nM b4 pT b8 : adI) (w : adH) : Prop :=
 xJ kn nM b4 pT b8 w
def wP (kn : K4) (nM b4 pT : adI) (w : adH) : Prop :=
 kn nM b4 pT (adJ 16) w
theorem Hw (kn : K4) (hn : N4 Q kn 2 4 5 8) (h : wP kn (g 2) (g 4) (g 5) w) : iR pg hZ (gU 1 (gU 1 (gN 1 (gN 2 gY)))) Q g w :=
 lI (kr := no) (l := []) h hn mE trivial
def xL (kn : K3) (nM b4 pT : adI) (w : adH) : Prop :=
 wP (fun nM b4 pT b8 w => wS kn nM b4 pT b8 w) nM b4 pT w
def xE (R : K1) (nM b4 pT : adI) (w : adH) : Prop :=
 xL (fun nM b4 pT w => xH R nM b4 pT w) nM b4 pT w
theorem Hj (kn : K3) (hn : N3 Q kn 2 4 5) (h : xL kn (g 2) (g 4) (g 5) w) : iR pg hZ (gU 1 (gN 1 (gN 2 gY))) Q g w :=
 uW 1 (Hw _ g w (wS kn) (fun g w h => iA (Od 2 (HS _ g w kn hn h))) h)
def rE (kn : K5) (k0 : K3) (nM b4 pT c6 c7 : adI) (w : adH) : Prop :=
 eY pg (gO .lss 3 gW gW c7 (adJ 64)) w fun c8 w =>
 lO c8
  (eY pg (TZ 120 c6 c7) w fun d0 w =>
  eY pg (gO .quo 3 gW gW c7 (adJ 4)) w fun d2 w =>
  eY pg (gO .quo 3 gW gW c7 (adJ 4)) w fun d4 w =>
  eY pg (iF 134 pT d4) w fun d5 w =>
  eY pg (gJ 25 d5) w fun d6 w =>
  eY pg (gO .shl 25 gW gW d6 (.int .u64 8)) w fun d7 w =>
  eY pg (kP 5 25 d0) w fun d9 w =>
  eY pg (gO .or 25 gW gW d7 d9) w fun e0 w =>
  eY pg (iF 134 pT d2) w fun e1 w =>
  eY pg (iB 25 e1 e0) w fun _u w =>
  eY pg (gO .add 3 gW gW c7 (adJ 1)) w fun e2 w =>
  kn nM b4 pT c6 e2 w)
  (k0 nM b4 pT w)
theorem HQ (kn : K5) (k0 : K3) (hn : N5 Q kn 2 4 5 16 17) (h0 : E3 Q k0 0 2 4 5) (h : rE kn k0 (g 2) (g 4) (g 5) (g 16) (g 17) w) : iR pg hZ (bI (bI (gN 1 (gU 1 (gN 2 gY))))) Q g w :=
 lI (kr := no) (l := [(0, fun g w => k0 (g 2) (g 4) (g 5) w)]) h hn mE ⟨h0, trivial⟩
def wZ (k0 : K3) (nM b4 pT c6 c7 : adI) (w : adH) : Prop :=
 kF (fun (X : adI -> K0) (t : adI) (w : adH) => rE (fun _ _ _ _ c7 w => X c7 w) k0 nM b4 pT c6 t w) c7 w
theorem He (k0 : K3) (h0 : E3 Q k0 0 2 4 5) (h : wZ k0 (g 2) (g 4) (g 5) (g 16) (g 17) w) : iR pg hZ (bI (gN 1 (gU 1 (gN 2 gY)))) Q g w := by
 refine OV (fun g : Env => g 17) (fun X t w => rE (fun _ _ _ _ c7 w => X c7 w) k0 (g 2) (g 4) (g 5) (g 16) t w) h (fun X g1 w1 ha hL => ?_)
 rw [<- uN 2 ha, <- uN 4 ha, <- uN 5 ha, <- uN 16 ha] at hL
 exact (HQ _ g1 w1 (fun _ _ _ _ c7 w => X c7 w) k0 (fun _ _ h => h) h0 hL)
def wK (kn : K3) (nM b4 pT c6 c7 : adI) (w : adH) : Prop :=
 wZ kn nM b4 pT c6 c7 w
def xO (kn : K5) (nM SA b4 pT : adI) (w : adH) : Prop :=
 eY pg (gJ 120 SA) w fun c6 w =>
 kn nM b4 pT c6 (adJ 0) w
theorem Hn (kn : K5) (hn : N5 Q kn 2 4 5 16 17) (h : xO kn (g 2) (g 3) (g 4) (g 5) w) : iR pg hZ (gU 1 (gU 1 (gN 2 gY))) Q g w :=
 lI (kr := no) (l := []) h hn mE trivial
def wR (kn : K3) (nM SA b4 pT : adI) (w : adH) : Prop :=
 xO (fun nM b4 pT c6 c7 w => wK kn nM b4 pT c6 c7 w) nM SA b4 pT w
def wM (R : K1) (nM SA b4 pT : adI) (w : adH) : Prop :=
 wR (fun nM b4 pT w => xE R nM b4 pT w) nM SA b4 pT w
theorem Ho (kn : K3) (hn : N3 Q kn 2 4 5) (h : wR kn (g 2) (g 3) (g 4) (g 5) w) : iR pg hZ (gU 1 (gN 2 gY)) Q g w :=
 uW 1 (Hn _ g w (wK kn) (fun g w h => iA (Od 0 (He _ g w kn hn h))) h)
def xN (kn : K4) (lE Am : adI) (w : adH) : Prop :=
 eY pg (DY 119 lE) w fun nM w =>
 eY pg (DY 120 Am) w fun SA w =>
 eY pg (lQ 119) w fun b4 w =>
 eY pg (lQ 134) w fun pT w =>
 kn nM SA b4 pT w
theorem Hh (kn : K4) (hn : N4 Q kn 2 3 4 5) (h : xN kn (g 0) (g 1) w) : iR pg hZ (gU 2 gY) Q g w :=
 lI (kr := no) (l := []) h hn mE trivial
def wW (R : K1) (lE Am : adI) (w : adH) : Prop :=
 xN (fun nM SA b4 pT w => wM R nM SA b4 pT w) lE Am w
theorem Hu (R : K1) (hr : HR Ai R Q) (h : wW R (g 0) (g 1) w) : iR pg hZ gY Q g w :=
 uW 2 (Hh _ g w (wM R) (fun g w h => iA (uW 1 (Ho _ g w (xE R) (fun g w h => iA (uW 1 (Hj _ g w (xH R) (fun g w h => iA (uW 1 (Hq _ g w (xR R) (fun g w h => iA (uW 1 (Hz _ g w (yO R) (fun g w h => iA (uW 1 (Il _ g w (sW R) (fun g w h => iA (Ii _ g w R hr h)) h))) h))) h))) h))) h))) h)
def IK (a0 a1 : adI) (w : adH) (R : K1) : Prop :=
 wW R a0 a1 w
theorem I9 {a0 a1 : adI} {w : adH} {R : K1} (h : IK a0 a1 w R) : gS pg uM #[a0, a1] w R := by
 refine wC (ann := hZ) Tryd.f66 gY [a0, a1] Ai 136 TrydM.mixed Tryd.func66 ?_
 exact (Hu _ _ _ R (fun _ _ h => h) h)
def lN : FA := ⟨mC, fun i => match Nat.beq i 3 with | true => .leaf ([], []) [(false, []), (false, []), (false, []), (false, []), (false, []), (false, []), (false, [])] | false => .leaf ([], []) []⟩
def nH : List ResultVar := []
noncomputable def lG : Code := iU Tryd.f67
def nG (kn : K4) (k0 : K0) (R : K1) (sZ b1 b2 Hy : adI) (w : adH) : Prop :=
 eY pg (gJ 22 b1) w fun b7 w =>
 eY pg (mS .len #[22] 3 [b7]) w fun b8 w =>
 eY pg (gO .lss 3 gW gW Hy b8) w fun b9 w =>
 lO b9
  (eY pg (gJ 3 b2) (dr w) fun c3 w_ => w_ = (dr w) /\
  eY pg (gJ 22 b1) (dr w) fun c4 w_ => w_ = (dr w) /\
  (dr w) = (dr w) /\
  eY pg (lL 22 c4 (some Hy) none none) (dr w) fun c6 w_ => w_ = (dr w) /\
  eY pg (mS .len #[22] 3 [c6]) (dr w) fun c7 w_ => w_ = (dr w) /\
  eY pg (mS .min #[3, 3] 3 [c3, c7]) (dr w) fun c8 w_ => w_ = (dr w) /\
  (dr w) = (dr w) /\
  eY pg (gJ 22 b1) (dr w) fun d0 w =>
  eY pg (gO .add 3 gW gW Hy c8) w fun d4 w =>
  eY pg (gO .add 3 gW gW Hy c8) w fun d7 w =>
  eY pg (lL 22 d0 (some Hy) (some d4) (some d7)) w fun d8 w =>
  eY pg (xQ sZ [d8]) w fun d9 w =>
  eY pg (J2 .not d9) w fun e0 w =>
  lO e0
   (R (.tuple #[]) w)
   (eY pg (gJ 3 b2) w fun c1 w =>
   eY pg (gO .add 3 gW gW Hy c1) w fun c2 w =>
   kn sZ b1 b2 c2 w))
  (k0 w)
theorem DG (kn : K4) (k0 : K0) (R : K1) (hn : N4 Q kn 0 1 2 4) (h0 : E0 Q k0 0) (hr : HR nH R Q) (h : nG kn k0 R (g 0) (g 1) (g 2) (g 4) w) : iR pg lN (bI (bI (gN 1 lG))) Q g w :=
 lI (l := [(0, fun g w => k0 w)]) h hn hr ⟨h0, trivial⟩
def qE (k0 : K0) (R : K1) (sZ b1 b2 Hy : adI) (w : adH) : Prop :=
 kF (fun (X : adI -> K0) (t : adI) (w : adH) => nG (fun _ _ _ Hy w => X Hy w) k0 R sZ b1 b2 t w) Hy w
theorem CO (k0 : K0) (R : K1) (h0 : E0 Q k0 0) (hr : HR nH R Q) (h : qE k0 R (g 0) (g 1) (g 2) (g 4) w) : iR pg lN (bI (gN 1 lG)) Q g w := by
 refine OV (fun g : Env => g 4) (fun X t w => nG (fun _ _ _ Hy w => X Hy w) k0 R (g 0) (g 1) (g 2) t w) h (fun X g1 w1 ha hL => ?_)
 rw [<- uN 0 ha, <- uN 1 ha, <- uN 2 ha] at hL
 exact (DG _ g1 w1 (fun _ _ _ Hy w => X Hy w) k0 R (fun _ _ h => h) h0 hr hL)
def qB (kn : K0) (R : K1) (sZ b1 b2 Hy : adI) (w : adH) : Prop :=
 qE kn R sZ b1 b2 Hy w
def qC (kn : K4) (sZ b1 b2 : adI) (w : adH) : Prop :=
 kn sZ b1 b2 (adJ 0) w
theorem De (kn : K4) (hn : N4 Q kn 0 1 2 4) (h : qC kn (g 0) (g 1) (g 2) w) : iR pg lN (gU 1 lG) Q g w :=
 lI (kr := no) (l := []) h hn mE trivial
def qN (kn : K0) (R : K1) (sZ b1 b2 : adI) (w : adH) : Prop :=
 qC (fun sZ b1 b2 Hy w => qB kn R sZ b1 b2 Hy w) sZ b1 b2 w
theorem CF (kn : K0) (R : K1) (hn : N0 Q kn) (hr : HR nH R Q) (h : qN kn R (g 0) (g 1) (g 2) w) : iR pg lN lG Q g w :=
 uW 1 (De _ g w (qB kn R) (fun g w h => iA (Od 0 (CO _ g w kn R hn hr h))) h)
def Bz (a0 a1 a2 : adI) (w : adH) (R : K1) : Prop :=
 qN (fun  w => R (.tuple #[]) w) R a0 a1 a2 w
theorem DZ {a0 a1 a2 : adI} {w : adH} {R : K1} (h : Bz a0 a1 a2 w R) : gS pg mC #[a0, a1, a2] w R := by
 refine wC (ann := lN) Tryd.f67 lG [a0, a1, a2] nH 31 TrydM.mixed Tryd.func67 ?_
 exact (CF _ _ _ (fun  w => R (.tuple #[]) w) R (fun _ _ h => h) (fun _ _ h => h) h)
def Aj : FA := ⟨pP, fun i => .leaf ([], []) []⟩
def AD : List ResultVar := [.tmp 6]
noncomputable def yB : Code := iU Tryd.f68
def sI (R : K1) (Na M7 YT : adI) (w : adH) : Prop :=
 eY pg (iY Na) w fun c0 w =>
 eY pg (gK 126 c0 1) w fun c1 w =>
 eY pg (gJ 29 c1) w fun c2 w =>
 eY pg (gO .neq 29 (.tmp 12) (.const (adJ 0)) c2 (adJ 0)) w fun c3 w =>
 lO c3
  (R (.slice none 0 0) w)
  (eY pg (J2 .not YT) w fun c6 w =>
  lO c6
   (eY pg (iY Na) w fun c8 w =>
   eY pg (gK 126 c8 1) w fun c9 w =>
   eY pg (iB 29 c9 (adJ 1)) w fun _u w =>
   R (.slice none 0 0) w)
   (eY pg (iY Na) w fun d3 w =>
   eY pg (gK 126 d3 0) w fun d4 w =>
   eY pg (gJ 22 d4) w fun d5 w =>
   eY pg (mS .len #[22] 3 [d5]) w fun d6 w =>
   eY pg (gO .gtr 3 gW gW M7 d6) w fun d7 w =>
   lO d7
    (eY pg (iY Na) w fun d9 w =>
    eY pg (gK 126 d9 1) w fun e0 w =>
    eY pg (iB 29 e0 (adJ 10)) w fun _u w =>
    R (.slice none 0 0) w)
    (eY pg (iY Na) w fun e2 w =>
    eY pg (gK 126 e2 0) w fun e3 w =>
    eY pg (gJ 22 e3) w fun e4 w =>
    eY pg (lL 22 e4 none (some M7) (some M7)) w fun e7 w =>
    eY pg (iY Na) w fun f0 w =>
    eY pg (gK 126 f0 0) w fun f1 w =>
    eY pg (gJ 22 f1) w fun f2 w =>
    eY pg (lL 22 f2 (some M7) none none) w fun f4 w =>
    eY pg (iY Na) w fun f5 w =>
    eY pg (gK 126 f5 0) w fun f6 w =>
    eY pg (iB 22 f6 f4) w fun _u w =>
    R e7 w)))
theorem EL (R : K1) (hr : HR AD R Q) (h : sI R (g 0) (g 1) (g 2) w) : iR pg Aj yB Q g w :=
 lI (kn := no) (l := []) h mE hr trivial
def DL (a0 a1 a2 : adI) (w : adH) (R : K1) : Prop :=
 sI R a0 a1 a2 w
theorem FY {a0 a1 a2 : adI} {w : adH} {R : K1} (h : DL a0 a1 a2 w R) : gS pg pP #[a0, a1, a2] w R := by
 refine wC (ann := Aj) Tryd.f68 yB [a0, a1, a2] AD 48 TrydM.mixed Tryd.func68 ?_
 exact (EL _ _ _ R (fun _ _ h => h) h)
def MN : FA := ⟨L9, fun i => .leaf ([], []) []⟩
def Og : List ResultVar := [.tmp 0]
noncomputable def Le : Code := iU Tryd.f69
def Kc (R : K1)  (w : adH) : Prop :=
 eY pg (lK 138 [(0, (.int .u32 4294967295))]) w fun b1 w =>
 eY pg (DY 138 b1) w fun b2 w =>
 R b2 w
theorem OS (R : K1) (hr : HR Og R Q) (h : Kc R w) : iR pg MN Le Q g w :=
 lI (kn := no) (l := []) h mE hr trivial
def Ta (w : adH) (R : K1) : Prop :=
 Kc R w
theorem PS {w : adH} {R : K1} (h : Ta w R) : gS pg L9 #[] w R := by
 refine wC (ann := MN) Tryd.f69 Le [] Og 3 TrydM.mixed Tryd.func69 ?_
 exact (OS _ _ _ R (fun _ _ h => h) h)
def oL : FA := ⟨AS, fun i => match Nat.beq i 5 with | true => .leaf ([16], []) [(false, []), (false, []), (false, []), (false, []), (false, []), (false, []), (false, []), (false, []), (false, []), (false, []), (false, []), (false, []), (false, []), (false, []), (false, []), (false, []), (true, [])] | false => match Nat.beq i 6 with | true => .leaf ([16], []) [(false, []), (false, []), (false, []), (false, []), (false, []), (false, []), (false, []), (false, []), (false, []), (false, []), (false, []), (false, []), (false, []), (false, []), (false, []), (false, []), (true, [])] | false => .leaf ([], []) []⟩
def yT : List ResultVar := []
noncomputable def nS : Code := iU Tryd.f70
def sT (kn : K4) (k0 : K0) (pA b8 b9 c0 : adI) (w : adH) : Prop :=
 eY pg (gO .lss 3 gW gW c0 b9) w fun c1 w =>
 lO c1
  (eY pg (iF 22 b8 c0) w fun c2 w =>
  eY pg (gJ 5 c2) w fun c3 w =>
  eY pg (iY pA) w fun c5 w =>
  eY pg (gK 138 c5 0) w fun c6 w =>
  eY pg (gJ 25 c6) w fun c7 w =>
  eY pg (kP 5 25 c3) w fun c9 w =>
  eY pg (gO .xor 25 gW gW c7 c9) w fun d0 w =>
  eY pg (iY pA) w fun d1 w =>
  eY pg (gK 138 d1 0) w fun d2 w =>
  eY pg (iB 25 d2 d0) w fun _u w =>
  (dr w) = (dr w) /\
  (dr w) = (dr w) /\
  eY pg (iY pA) (dr w) fun d5 w_ => w_ = (dr w) /\
  eY pg (gK 138 d5 0) (dr w) fun d6 w_ => w_ = (dr w) /\
  eY pg (gJ 25 d6) (dr w) fun d7 w_ => w_ = (dr w) /\
  eY pg (gO .shr 25 gW gW d7 (.int .u64 4)) (dr w) fun d8 w_ => w_ = (dr w) /\
  (dr w) = (dr w) /\
  eY pg (iY pA) (dr w) fun e0 w_ => w_ = (dr w) /\
  eY pg (gK 138 e0 0) (dr w) fun e1 w_ => w_ = (dr w) /\
  eY pg (gJ 25 e1) (dr w) fun e2 w_ => w_ = (dr w) /\
  eY pg (gO .and 25 gW gW e2 (.int .u32 15)) (dr w) fun e3 w_ => w_ = (dr w) /\
  eY pg (iF 139 (.pointer (some ⟨1, 0, none⟩)) e3) (dr w) fun e4 w_ => w_ = (dr w) /\
  eY pg (gJ 25 e4) (dr w) fun e5 w_ => w_ = (dr w) /\
  eY pg (gO .xor 25 gW gW d8 e5) (dr w) fun e6 w_ => w_ = (dr w) /\
  eY pg (iY pA) (dr w) fun e7 w_ => w_ = (dr w) /\
  eY pg (gK 138 e7 0) (dr w) fun e8 w_ => w_ = (dr w) /\
  eY pg (iB 25 e8 e6) (dr w) fun _u16 nW =>
  (dr nW) = (dr nW) /\
  (dr nW) = (dr nW) /\
  eY pg (iY pA) (dr nW) fun f1 w_ => w_ = (dr nW) /\
  eY pg (gK 138 f1 0) (dr nW) fun f2 w_ => w_ = (dr nW) /\
  eY pg (gJ 25 f2) (dr nW) fun f3 w_ => w_ = (dr nW) /\
  eY pg (gO .shr 25 gW gW f3 (.int .u64 4)) (dr nW) fun f4 w_ => w_ = (dr nW) /\
  (dr nW) = (dr nW) /\
  eY pg (iY pA) (dr nW) fun f6 w_ => w_ = (dr nW) /\
  eY pg (gK 138 f6 0) (dr nW) fun f7 w_ => w_ = (dr nW) /\
  eY pg (gJ 25 f7) (dr nW) fun f8 w_ => w_ = (dr nW) /\
  eY pg (gO .and 25 gW gW f8 (.int .u32 15)) (dr nW) fun f9 w_ => w_ = (dr nW) /\
  eY pg (iF 139 (.pointer (some ⟨1, 0, none⟩)) f9) (dr nW) fun i0 w_ => w_ = (dr nW) /\
  eY pg (gJ 25 i0) (dr nW) fun i1 w_ => w_ = (dr nW) /\
  eY pg (gO .xor 25 gW gW f4 i1) (dr nW) fun i2 w_ => w_ = (dr nW) /\
  eY pg (iY pA) (dr nW) fun i3 w_ => w_ = (dr nW) /\
  eY pg (gK 138 i3 0) (dr nW) fun i4 w_ => w_ = (dr nW) /\
  eY pg (iB 25 i4 i2) (dr nW) fun _u16 YB =>
  eY pg (gO .add 3 gW gW c0 (adJ 1)) YB fun i5 w =>
  kn pA b8 b9 i5 w)
  (k0 w)
theorem IE (kn : K4) (k0 : K0) (hn : N4 Q kn 0 8 9 10) (h0 : E0 Q k0 0) (h : sT kn k0 (g 0) (g 8) (g 9) (g 10) w) : iR pg oL (bI (bI (gN 2 nS))) Q g w :=
 lI (kr := no) (l := [(0, fun g w => k0 w)]) h hn mE ⟨h0, trivial⟩
def zE (k0 : K0) (pA b8 b9 c0 : adI) (w : adH) : Prop :=
 kF (fun (X : adI -> K0) (t : adI) (w : adH) => sT (fun _ _ _ c0 w => X c0 w) k0 pA b8 b9 t w) c0 w
theorem IF (k0 : K0) (h0 : E0 Q k0 0) (h : zE k0 (g 0) (g 8) (g 9) (g 10) w) : iR pg oL (bI (gN 2 nS)) Q g w := by
 refine OV (fun g : Env => g 10) (fun X t w => sT (fun _ _ _ c0 w => X c0 w) k0 (g 0) (g 8) (g 9) t w) h (fun X g1 w1 ha hL => ?_)
 rw [<- uN 0 ha, <- uN 8 ha, <- uN 9 ha] at hL
 exact (IE _ g1 w1 (fun _ _ _ c0 w => X c0 w) k0 (fun _ _ h => h) h0 hL)
def Ag (kn : K0) (pA b8 b9 c0 : adI) (w : adH) : Prop :=
 zE kn pA b8 b9 c0 w
def zP (kn : K4) (R : K1) (pA Am : adI) (w : adH) : Prop :=
 eY pg (gO .eql 131 (.tmp 6) (.const (.pointer none)) pA (.pointer none)) w fun b7 w =>
 lO b7
  (R (.tuple #[]) w)
  (eY pg (mS .len #[22] 3 [Am]) w fun b9 w =>
  kn pA Am b9 (adJ 0) w)
theorem IS (kn : K4) (R : K1) (hn : N4 Q kn 0 8 9 10) (hr : HR yT R Q) (h : zP kn R (g 0) (g 1) w) : iR pg oL (gU 2 nS) Q g w :=
 lI (l := []) h hn hr trivial
def zY (kn : K0) (R : K1) (pA Am : adI) (w : adH) : Prop :=
 zP (fun pA b8 b9 c0 w => Ag kn pA b8 b9 c0 w) R pA Am w
theorem Iq (kn : K0) (R : K1) (hn : N0 Q kn) (hr : HR yT R Q) (h : zY kn R (g 0) (g 1) w) : iR pg oL nS Q g w :=
 uW 2 (IS _ g w (Ag kn) R (fun g w h => iA (Od 0 (IF _ g w kn hn h))) hr h)
def Ic (a0 a1 : adI) (w : adH) (R : K1) : Prop :=
 zY (fun  w => R (.tuple #[]) w) R a0 a1 w
theorem Jv {a0 a1 : adI} {w : adH} {R : K1} (h : Ic a0 a1 w R) : gS pg AS #[a0, a1] w R := by
 refine wC (ann := oL) Tryd.f70 nS [a0, a1] yT 56 TrydM.mixed Tryd.func70 ?_
 exact (Iq _ _ _ (fun  w => R (.tuple #[]) w) R (fun _ _ h => h) (fun _ _ h => h) h)
def Fx : FA := ⟨Dp, fun i => .leaf ([], []) []⟩
def G5 : List ResultVar := [.tmp 2]
noncomputable def D3 : Code := iU Tryd.f71
def BO (R : K1) (pA : adI) (w : adH) : Prop :=
 eY pg (gO .eql 131 (.tmp 3) (.const (.pointer none)) pA (.pointer none)) w fun b4 w =>
 lO b4
  (R (.int .u32 0) w)
  (eY pg (iY pA) w fun b6 w =>
  eY pg (gK 138 b6 0) w fun b7 w =>
  eY pg (gJ 25 b7) w fun b8 w =>
  eY pg (J2 .xor b8) w fun b9 w =>
  R b9 w)
theorem Km (R : K1) (hr : HR G5 R Q) (h : BO R (g 0) w) : iR pg Fx D3 Q g w :=
 lI (kn := no) (l := []) h mE hr trivial
def Kr (a0 : adI) (w : adH) (R : K1) : Prop :=
 BO R a0 w
theorem Kn {a0 : adI} {w : adH} {R : K1} (h : Kr a0 w R) : gS pg Dp #[a0] w R := by
 refine wC (ann := Fx) Tryd.f71 D3 [a0] G5 10 TrydM.mixed Tryd.func71 ?_
 exact (Km _ _ _ R (fun _ _ h => h) h)
def KD : FA := ⟨Dr, fun i => match Nat.beq i 1 with | true => .leaf ([3, 7], [(3, 6), (3, 11), (7, 11)]) [(false, []), (false, []), (false, []), (true, []), (false, []), (false, []), (false, [2]), (true, []), (false, []), (false, []), (false, []), (false, [3, 7]), (false, []), (false, [])] | false => .leaf ([], []) []⟩
def Mk : List ResultVar := [.tmp 8]
noncomputable def JF : Code := iU Tryd.f72
def IQ (R : K1) (Uy Zc V8 SB : adI) (w : adH) : Prop :=
 (dr w) = (dr w) /\
 (dr w) = (dr w) /\
 eY pg (J2 .neg Zc) (dr w) fun c1 w_ => w_ = (dr w) /\
 gS pg jJ #[Uy, c1] (dr w) fun c2 RA =>
 RA = RA /\
 RA = RA /\
 eY pg (J2 .neg V8) RA fun c5 w_ => w_ = RA /\
 (gM pg (J2 .neg V8) c5 (dr w) /\ True) /\
 gS pg jJ #[Uy, c5] RA fun c6 Me =>
 eY pg (gO .xor 25 gW gW c2 c6) Me fun c7 w_ => w_ = Me /\
 Me = Me /\
 Me = Me /\
 eY pg (gO .shr 25 gW gW Uy SB) Me fun d0 w_ => w_ = Me /\
 (gM pg (gO .shr 25 gW gW Uy SB) d0 RA /\ gM pg (gO .shr 25 gW gW Uy SB) d0 (dr w) /\ True) /\
 eY pg (gO .xor 25 gW gW c7 d0) Me fun d1 w_ => w_ = Me /\
 Me = Me /\
 R d1 Me
theorem Nu (R : K1) (hr : HR Mk R Q) (h : IQ R (g 0) (g 1) (g 2) (g 3) w) : iR pg KD JF Q g w :=
 lI (kn := no) (l := []) h mE hr trivial
def Rn (a0 a1 a2 a3 : adI) (w : adH) (R : K1) : Prop :=
 IQ R a0 a1 a2 a3 w
theorem OI {a0 a1 a2 a3 : adI} {w : adH} {R : K1} (h : Rn a0 a1 a2 a3 w R) : gS pg Dr #[a0, a1, a2, a3] w R := by
 refine wC (ann := KD) Tryd.f72 JF [a0, a1, a2, a3] Mk 22 TrydM.mixed Tryd.func72 ?_
 exact (Nu _ _ _ R (fun _ _ h => h) h)
def IP : FA := ⟨zR, fun i => .leaf ([], []) []⟩
def Jy : List ResultVar := [.tmp 8]
noncomputable def G0 : Code := iU Tryd.f73
def EV (R : K1) (Uy Zc V8 Zx : adI) (w : adH) : Prop :=
 eY pg (J2 .neg Zc) w fun c1 w =>
 gS pg jJ #[Uy, c1] w fun c2 w =>
 eY pg (J2 .neg V8) w fun c5 w =>
 gS pg jJ #[Uy, c5] w fun c6 w =>
 eY pg (gO .xor 25 gW gW c2 c6) w fun c7 w =>
 eY pg (J2 .neg Zx) w fun d0 w =>
 gS pg jJ #[Uy, d0] w fun d1 w =>
 eY pg (gO .xor 25 gW gW c7 d1) w fun d2 w =>
 R d2 w
theorem LJ (R : K1) (hr : HR Jy R Q) (h : EV R (g 0) (g 1) (g 2) (g 3) w) : iR pg IP G0 Q g w :=
 lI (kn := no) (l := []) h mE hr trivial
def NB (a0 a1 a2 a3 : adI) (w : adH) (R : K1) : Prop :=
 EV R a0 a1 a2 a3 w
theorem MR {a0 a1 a2 a3 : adI} {w : adH} {R : K1} (h : NB a0 a1 a2 a3 w R) : gS pg zR #[a0, a1, a2, a3] w R := by
 refine wC (ann := IP) Tryd.f73 G0 [a0, a1, a2, a3] Jy 23 TrydM.mixed Tryd.func73 ?_
 exact (LJ _ _ _ R (fun _ _ h => h) h)
def uC : FA := ⟨jJ, fun i => .leaf ([], []) []⟩
def uV : List ResultVar := [.tmp 4]
noncomputable def sV : Code := iU Tryd.f74
def pB (R : K1) (Uy Zv : adI) (w : adH) : Prop :=
 eY pg (kP 3 128 Zv) w fun b7 w =>
 eY pg (gO .and 128 gW gW b7 (.int .u64 31)) w fun b8 w =>
 eY pg (gO .shl 25 gW gW Uy b8) w fun c1 w =>
 eY pg (gO .sub 128 gW gW (.int .u64 32) b8) w fun c4 w =>
 eY pg (gO .shr 25 gW gW Uy c4) w fun c5 w =>
 eY pg (gO .or 25 gW gW c1 c5) w fun c6 w =>
 R c6 w
theorem BV (R : K1) (hr : HR uV R Q) (h : pB R (g 0) (g 1) w) : iR pg uC sV Q g w :=
 lI (kn := no) (l := []) h mE hr trivial
def yY (a0 a1 : adI) (w : adH) (R : K1) : Prop :=
 pB R a0 a1 w
theorem Ct {a0 a1 : adI} {w : adH} {R : K1} (h : yY a0 a1 w R) : gS pg jJ #[a0, a1] w R := by
 refine wC (ann := uC) Tryd.f74 sV [a0, a1] uV 17 TrydM.mixed Tryd.func74 ?_
 exact (BV _ _ _ R (fun _ _ h => h) h)
end Go.Proofs.YteelnmpbnaohpaaDoor
namespace Go.En
open Go
section
variable {P : Program} {w : adH} {t : TypeId} {ox oy : Operand} {k : IntKind} {a b : Int}
theorem mY (s : Sem adI) : (V s).run P w = (s.run P w).andThen fun v w => .ok (.value v) w := by
 unfold V; rw [Sem.run_bind] <;> rfl
theorem YO (s : Sem Unit) : (U s).run P w = (s.run P w).andThen fun _ w => .ok .skip w := by
 unfold U; rw [Sem.run_bind] <;> rfl
theorem fO : (gO .add t ox oy (.int k a) (.int k b)).run P w = .ok (.value (.int k (k.wrap (a + b)))) w := by
 simp [gO, BN, mY, binOp, Op.intArith]
theorem gD : (gO .sub t ox oy (.int k a) (.int k b)).run P w = .ok (.value (.int k (k.wrap (a - b)))) w := by
 simp [gO, BN, mY, binOp, Op.intArith]
theorem fN : (gO .mul t ox oy (.int k a) (.int k b)).run P w = .ok (.value (.int k (k.wrap (a * b)))) w := by
 simp [gO, BN, mY, binOp, Op.intArith]
theorem gC (h : b ≠ 0) : (gO .quo t ox oy (.int k a) (.int k b)).run P w = .ok (.value (.int k (k.wrap (a.tdiv b)))) w := by
 simp [gO, BN, mY, binOp, Op.intDiv, h]
theorem gI (h : b ≠ 0) : (gO .rem t ox oy (.int k a) (.int k b)).run P w = .ok (.value (.int k (a.tmod b))) w := by
 simp [gO, BN, mY, binOp, Op.intDiv, h]
def TX (k : IntKind) (a b : Int) : Int := k.wrap (BitVec.ofInt k.bits a &&& BitVec.ofInt k.bits b).toNat
def Yh (k : IntKind) (a b : Int) : Int := k.wrap (BitVec.ofInt k.bits a ||| BitVec.ofInt k.bits b).toNat
def Qh (k : IntKind) (a b : Int) : Int := k.wrap (BitVec.ofInt k.bits a ^^^ BitVec.ofInt k.bits b).toNat
def Tp (k : IntKind) (a b : Int) : Int := k.wrap (BitVec.ofInt k.bits a &&& ~~~BitVec.ofInt k.bits b).toNat
theorem fW : (gO .and t ox oy (.int k a) (.int k b)).run P w = .ok (.value (.int k (TX k a b))) w := by
 simp [gO, BN, mY, binOp, Op.intBits, TX]
theorem gR : (gO .or t ox oy (.int k a) (.int k b)).run P w = .ok (.value (.int k (Yh k a b))) w := by
 simp [gO, BN, mY, binOp, Op.intBits, Yh]
theorem fX : (gO .xor t ox oy (.int k a) (.int k b)).run P w = .ok (.value (.int k (Qh k a b))) w := by
 simp [gO, BN, mY, binOp, Op.intBits, Qh]
theorem eU : (gO .andNot t ox oy (.int k a) (.int k b)).run P w = .ok (.value (.int k (Tp k a b))) w := by
 simp [gO, BN, mY, binOp, Op.intBits, Tp]
theorem fU {k' : IntKind} (h : 0 <= b) : (gO .shl t ox oy (.int k a) (.int k' b)).run P w = .ok (.value (.int k (k.wrap (a * 2 ^ (min b.toNat k.bits))))) w := by
 simp [gO, BN, mY, binOp, Op.shift, Int.not_lt.2 h]
theorem fS {k' : IntKind} (h : 0 <= b) : (gO .shr t ox oy (.int k a) (.int k' b)).run P w = .ok (.value (.int k (a.fdiv (2 ^ (min b.toNat k.bits))))) w := by
 simp [gO, BN, mY, binOp, Op.shift, Int.not_lt.2 h]
theorem gH : (gO .eql t ox oy (.int k a) (.int k b)).run P w = .ok (.value (.bool (a == b))) w := by
 simp [gO, BN, mY, binOp, Op.intCmp, eqGuard]
theorem fP : (gO .neq t ox oy (.int k a) (.int k b)).run P w = .ok (.value (.bool (a != b))) w := by
 simp [gO, BN, mY, binOp, Op.intCmp, eqGuard]
theorem fL : (gO .lss t ox oy (.int k a) (.int k b)).run P w = .ok (.value (.bool (decide (a < b)))) w := by
 simp [gO, BN, mY, binOp, Op.intCmp]
theorem fT : (gO .leq t ox oy (.int k a) (.int k b)).run P w = .ok (.value (.bool (decide (a <= b)))) w := by
 simp [gO, BN, mY, binOp, Op.intCmp]
theorem fR : (gO .gtr t ox oy (.int k a) (.int k b)).run P w = .ok (.value (.bool (decide (b < a)))) w := by
 simp [gO, BN, mY, binOp, Op.intCmp]
theorem fV : (gO .geq t ox oy (.int k a) (.int k b)).run P w = .ok (.value (.bool (decide (b <= a)))) w := by
 simp [gO, BN, mY, binOp, Op.intCmp]
theorem gE : (J2 .neg (.int k a)).run P w = .ok (.value (.int k (k.wrap (0 - a)))) w := by
 simp [J2, mY, Op.unary, Op.intArith]
theorem gG : (J2 .xor (.int k a)).run P w = .ok (.value (.int k (Qh k (if k.signed then -1 else k.max) a))) w := by
 simp [J2, mY, Op.unary, Op.intBits, Qh]
theorem fQ (c : Bool) : (J2 .not (.bool c)).run P w = .ok (.value (.bool !c)) w := by
 simp [J2, mY, Op.unary]
theorem fC (c : Bool) (x y : adI) : (kH (.bool c) x y).run P w = .ok (.value (if c then x else y)) w := by
 simp [kH, asBool]
theorem Nw {x y : adI} {r : Bool} (hg : eqGuard .eql t ox oy x y = pure ()) (hb : binOp .eql t x y = (do pure (.bool (<- Op.equal t x y)))) (he : (Op.equal t x y).run P w = .ok r w) :
 (gO .eql t ox oy x y).run P w = .ok (.value (.bool r)) w := by
 unfold gO
 simp only [BN, mY, hg, hb, pure_bind]
 rw [Sem.run_bind, he] <;> rfl
theorem QF {x y : adI} {r : Bool} (hg : eqGuard .neq t ox oy x y = pure ()) (hb : binOp .neq t x y = (do pure (.bool (!(<- Op.equal t x y))))) (he : (Op.equal t x y).run P w = .ok r w) :
 (gO .neq t ox oy x y).run P w = .ok (.value (.bool (!r))) w := by
 unfold gO
 simp only [BN, mY, hg, hb, pure_bind]
 rw [Sem.run_bind, he] <;> rfl
theorem T0 (n : Nat) (c d : Bool) (hu : P.underlying t = some .bool) : (Op.equalIn (n + 1) t (.bool c) (.bool d)).run P w = .ok (c == d) w := by
 simp only [Op.equalIn, underlying]
 simp [hu]
theorem Tl (c d : Bool) (hu : P.underlying t = some .bool) : (Op.equal t (.bool c) (.bool d)).run P w = .ok (c == d) w := T0 9999 c d hu
theorem XI (c d : Bool) (hu : P.underlying t = some .bool) : (gO .eql t ox oy (.bool c) (.bool d)).run P w = .ok (.value (.bool (c == d))) w :=
 Nw rfl rfl (Tl c d hu)
theorem X3 (c d : Bool) (hu : P.underlying t = some .bool) : (gO .neq t ox oy (.bool c) (.bool d)).run P w = .ok (.value (.bool (!(c == d)))) w :=
 QF rfl rfl (Tl c d hu)
theorem fJ {n : Int} (h0 : -9223372036854775808 <= n) (h1 : n <= 9223372036854775807) : IntKind.i64.wrap n = n := by
 unfold IntKind.wrap; simp [IntKind.bits, IntKind.signed]; split <;> omega
theorem fI {n : Int} (h0 : 0 <= n) (h1 : n <= 18446744073709551615) : IntKind.u64.wrap n = n := by
 unfold IntKind.wrap; simp [IntKind.bits, IntKind.signed]; omega
theorem fZ {n : Int} (h0 : -2147483648 <= n) (h1 : n <= 2147483647) : IntKind.i32.wrap n = n := by
 unfold IntKind.wrap; simp [IntKind.bits, IntKind.signed]; split <;> omega
theorem fM {n : Int} (h0 : 0 <= n) (h1 : n <= 4294967295) : IntKind.u32.wrap n = n := by
 unfold IntKind.wrap; simp [IntKind.bits, IntKind.signed]; omega
theorem gA {n : Int} (h0 : 0 <= n) (h1 : n <= 65535) : IntKind.u16.wrap n = n := by
 unfold IntKind.wrap; simp [IntKind.bits, IntKind.signed]; omega
theorem gQ {n : Int} (h0 : 0 <= n) (h1 : n <= 255) : IntKind.u8.wrap n = n := by
 unfold IntKind.wrap; simp [IntKind.bits, IntKind.signed]; omega
theorem Vh (x y : ByteArray) (h : ((x.size + y.size : Nat) : Int) <= 9223372036854775807) : (gO .add t ox oy (.string x) (.string y)).run P w = .ok (.value (.string (x ++ y))) w := by
 have : ¬ (((x.size + y.size : Nat) : Int) > IntKind.i64.max) := by
  have e : IntKind.i64.max = 9223372036854775807 := by decide
  rw [e]; omega
 simp only [gO, BN, mY, binOp, Op.stringOp, this, if_false]
 rfl
theorem LV (x y : ByteArray) : (gO .eql t ox oy (.string x) (.string y)).run P w = .ok (.value (.bool (x.toList == y.toList))) w := by
 simp [gO, BN, mY, binOp, Op.stringOp, eqGuard]
theorem Vn (n : Nat) {e : TypeId} (hu : P.underlying t = some (.pointer e)) (x : Option Addr) : (Op.equalIn (n + 1) t (.pointer x) (.pointer none)).run P w = .ok x.isNone w := by
 simp only [Op.equalIn, underlying]
 cases x <;> simp [hu]
theorem VQ {e : TypeId} (hu : P.underlying t = some (.pointer e)) (x : Option Addr) : (Op.equal t (.pointer x) (.pointer none)).run P w = .ok x.isNone w := Vn 9999 hu x
theorem We (m : Nat) {e : TypeId} (hu : P.underlying t = some (.slice e)) (x : Option Addr) (n c : Nat) : (Op.equalIn (m + 1) t (.slice x n c) (.slice none 0 0)).run P w = .ok x.isNone w := by
 simp only [Op.equalIn, underlying]
 cases x <;> simp [hu]
theorem YM {e : TypeId} (hu : P.underlying t = some (.slice e)) (x : Option Addr) (n c : Nat) : (Op.equal t (.slice x n c) (.slice none 0 0)).run P w = .ok x.isNone w := We 9999 hu x n c
theorem J1 {e : TypeId} (hu : P.underlying t = some (.pointer e)) (x : Option Addr) : (gO .eql t ox oy (.pointer x) (.pointer none)).run P w = .ok (.value (.bool x.isNone)) w :=
 Nw rfl rfl (VQ hu x)
theorem UI {e : TypeId} (hu : P.underlying t = some (.pointer e)) (x : Option Addr) : (gO .neq t ox oy (.pointer x) (.pointer none)).run P w = .ok (.value (.bool (!x.isNone))) w :=
 QF rfl rfl (VQ hu x)
theorem Qo {e : TypeId} (hu : P.underlying t = some (.slice e)) (x : Option Addr) (n c : Nat) : (gO .eql t ox oy (.slice x n c) (.slice none 0 0)).run P w = .ok (.value (.bool x.isNone)) w :=
 Nw rfl rfl (YM hu x n c)
theorem BR {s : TypeId} {d : TypeDesc} {kd : IntKind} (hs : P.underlying s = some d) (hu : P.underlying t = some (.int kd)) : (kP s t (.int k a)).run P w = .ok (.value (.int kd (kd.wrap a))) w := by
 cases d <;> simp [kP, mY, convert, underlying, hs, hu, Conv.intToInt]
theorem Mf {ty : TypeId} {e : TypeId} (hu : P.underlying t = some (.slice e)) (x : Option Addr) (n c : Nat) : (mS .len #[t] ty [.slice x n c]).run P w = .ok (.value (.int .i64 n)) w := by
 simp [mS, builtin, Builtin.len_, underlying, hu, goInt]
theorem XG {ty : TypeId} (hu : P.underlying t = some .string) (x : ByteArray) : (mS .len #[t] ty [.string x]).run P w = .ok (.value (.int .i64 x.size)) w := by
 simp [mS, builtin, Builtin.len_, underlying, hu, goInt]
theorem fY {ats : Array TypeId} {ty : TypeId} : (mS .min ats ty [.int k a, .int k b]).run P w = .ok (.value (.int k (if b < a then b else a))) w := by
 simp [mS, builtin, Builtin.min_, Builtin.min2]
theorem gB {ats : Array TypeId} {ty : TypeId} : (mS .max ats ty [.int k a, .int k b]).run P w = .ok (.value (.int k (if b > a then b else a))) w := by
 simp [mS, builtin, Builtin.max_, Builtin.max2]
theorem iO (a b : adI) : (iP (.tuple #[a, b]) 0).run P w = .ok (.value a) w := Eq.trans rfl rfl
theorem iJ (a b : adI) : (iP (.tuple #[a, b]) 1).run P w = .ok (.value b) w := Eq.trans rfl rfl
theorem iH (a b c : adI) : (iP (.tuple #[a, b, c]) 0).run P w = .ok (.value a) w := Eq.trans rfl rfl
theorem iL (a b c : adI) : (iP (.tuple #[a, b, c]) 1).run P w = .ok (.value b) w := Eq.trans rfl rfl
theorem iI (a b c : adI) : (iP (.tuple #[a, b, c]) 2).run P w = .ok (.value c) w := Eq.trans rfl rfl
theorem iM (a b c d : adI) : (iP (.tuple #[a, b, c, d]) 0).run P w = .ok (.value a) w := Eq.trans rfl rfl
theorem iK (a b c d : adI) : (iP (.tuple #[a, b, c, d]) 1).run P w = .ok (.value b) w := Eq.trans rfl rfl
theorem iG (a b c d : adI) : (iP (.tuple #[a, b, c, d]) 2).run P w = .ok (.value c) w := Eq.trans rfl rfl
theorem iN (a b c d : adI) : (iP (.tuple #[a, b, c, d]) 3).run P w = .ok (.value d) w := Eq.trans rfl rfl
theorem fK (x : Addr) : (iY (.pointer (some x))).run P w = .ok (.value (.pointer (some x))) w := Eq.trans rfl rfl
theorem kI {fs : Array Field} {f : Field} {i : Nat} {inf : TypeInfo} (hu : P.underlying t = some (.struct fs)) (hf : fs[i]? = some f)
 (hi : P.info? f.type = some inf) (hz : inf.size ≠ 0) (x : Addr) : (gK t (.pointer (some x)) i).run P w = .ok (.value (.pointer (some (x.add f.offset)))) w := by
 simp [gK, mY, Instr.fieldAt, underlying, hu, hf, Instr.sureAddr, fieldPlace, sizeOf, typeInfo, hi, hz]
theorem Qu {e : TypeId} {inf : TypeInfo} (hu : P.underlying t = some (.slice e)) (hi : P.info? e = some inf) (x : Addr) (n c : Nat) (h0 : 0 <= a) (h1 : a < n) :
 (iF t (.slice (some x) n c) (.int k a)).run P w = .ok (.value (.pointer (some (x.add (a.toNat * inf.size))))) w := by
 simp [iF, mY, Instr.indexAt, asIntOf, underlying, hu, h0, h1, sizeOf, typeInfo, hi]
theorem Vi {e : TypeId} {len : Nat} {inf : TypeInfo} (hu : P.underlying t = some (.array len e)) (hi : P.info? e = some inf) (x : Addr) (h0 : 0 <= a) (h1 : a < len) :
 (iF t (.pointer (some x)) (.int k a)).run P w = .ok (.value (.pointer (some (x.add (a.toNat * inf.size))))) w := by
 simp [iF, mY, Instr.indexAt, asIntOf, underlying, hu, h0, h1, sizeOf, typeInfo, hi, Instr.sureAddr]
end
def jF (w : adH) (b : Nat) (cs : List adI) : Prop :=
 ∃ T lo hi, w.heap[b]? = some (.cells cs.toArray T (lo, hi)) /\ (cs.length <= lo ∨ hi = lo)
structure gT (w w' : adH) (M : Nat -> Prop) : Prop where
 os : w'.os = w.os
 tape : w'.tape = w.tape
 output : w'.output = w.output
 size : w.heap.size <= w'.heap.size
 keep : ∀ b, b < w.heap.size -> ¬ M b -> w'.heap[b]? = w.heap[b]?
def jI : Nat -> Prop := fun _ => False
theorem gT.refl (w : adH) (M : Nat -> Prop) : gT w w M := ⟨rfl, rfl, rfl, ZU _, fun _ _ _ => rfl⟩
theorem gT.mono {w w' : adH} {M N : Nat -> Prop} (h : gT w w' M) (hm : ∀ b, b < w.heap.size -> M b -> N b) : gT w w' N :=
 ⟨h.os, h.tape, h.output, h.size, fun b hb hn => h.keep b hb fun hM => hn (hm b hb hM)⟩
theorem gT.trans {a b c : adH} {M N : Nat -> Prop} (h : gT a b M) (k : gT b c N) (hn : ∀ x, x < a.heap.size -> N x -> M x) : gT a c M :=
 ⟨k.os.trans h.os, k.tape.trans h.tape, k.output.trans h.output, abH h.size k.size,
   fun x hx hM => (k.keep x (abS hx h.size) fun h => hM (hn x hx h)).trans (h.keep x hx hM)⟩
theorem gT.seq {a b c : adH} {M : Nat -> Prop} (h : gT a b M) (k : gT b c M) : gT a c M := h.trans k fun _ _ h => h
theorem gT.new {a b c : adH} {M : Nat -> Prop} {x : Nat} (h : gT a b M) (k : gT b c (fun y => y = x)) (hx : a.heap.size <= x) : gT a c M :=
 h.trans k fun y hy e => absurd hy (by subst e; omega)
theorem gT.more {a b c : adH} {M : Nat -> Prop} (h : gT a b M) (k : gT b c (fun _ => False)) : gT a c M := h.trans k fun _ _ h => h.elim
theorem gT.below {w w' : adH} (h : gT w w' jI) : Go.RowKit.Below w.heap.size w w' :=
 ⟨h.os, h.tape, h.output, h.size, fun k hk => h.keep k hk fun h => h⟩
theorem gT.dr (w : adH) (M : Nat -> Prop) : gT w (dr w) M := ⟨rfl, rfl, rfl, ZU _, fun _ _ _ => rfl⟩
theorem gT.alloc (w : adH) (o : Obj) (M : Nat -> Prop) : gT w (w.alloc o) M :=
 ⟨rfl, rfl, rfl, by simp, fun b hb _ => by show (w.heap.push o)[b]? = _; rw [Array.getElem?_push, if_neg (by omega)]⟩
theorem MY (w : adH) (a : Addr) (v : adI) (b : Nat) (h : b ≠ a.block) : (w.setCell a v).heap[b]? = w.heap[b]? := Go.RowKit.Below.heap_setCell w a v b h
theorem gT.setCell (w : adH) (a : Addr) (v : adI) {M : Nat -> Prop} (h : a.block < w.heap.size -> M a.block) : gT w (w.setCell a v) M :=
 ⟨rfl, rfl, rfl, by simp, fun b hb hM => MY w a v b fun e => hM (e ▸ h (e ▸ hb))⟩
theorem jF.lt {w : adH} {b : Nat} {cs : List adI} (h : jF w b cs) : b < w.heap.size := by
 obtain ⟨T, lo, hi, h, _⟩ := h
 rcases aaN b w.heap.size with h' | h'
 .exact h'
 .rw [Z8 h'] at h; cases h
theorem jF.ext {w w' : adH} {b : Nat} {cs : List adI} {M : Nat -> Prop} (h : jF w b cs) (hx : gT w w' M) (hM : ¬ M b) : jF w' b cs := by
 have := h.lt
 obtain ⟨T, lo, hi, h, k⟩ := h
 exact ⟨T, lo, hi, by rw [hx.keep b this hM]; exact h, k⟩
theorem jF.cell {w : adH} {b off : Nat} {cs : List adI} (h : jF w b cs) : w.cell? ⟨b, off, none⟩ = cs[off]? := by
 obtain ⟨T, lo, hi, h, _⟩ := h
 simp [World.cell?, h]
theorem jF.free {w : adH} {b off : Nat} {cs : List adI} {s : Option Nat} (h : jF w b cs) (ho : off < cs.length) : w.frozen? ⟨b, off, s⟩ = false := by
 obtain ⟨T, lo, hi, h, k⟩ := h
 simp only [World.frozen?, h]
 rcases k with k | k <;> (simp; omega)
theorem jF.setCell {w : adH} {b off : Nat} {cs : List adI} (h : jF w b cs) (v : adI) : jF (w.setCell ⟨b, off, none⟩ v) b (cs.set off v) := by
 have hb := h.lt
 obtain ⟨T, lo, hi, h, k⟩ := h
 refine ⟨T, lo, hi, ?_, by simpa using k⟩
 simp only [World.setCell, abK, h]
 simp
theorem jF.alloc (w : adH) (cs : List adI) (T : TypeId) : jF (w.alloc (.cells cs.toArray T)) w.heap.size cs :=
 ⟨T, 0, 0, by show (w.heap.push _)[w.heap.size]? = _; simp, .inr rfl⟩
theorem VC {w w' : adH} {M : Nat -> Prop} {a : Addr} {v : adI} (h : w.cell? a = some v) (hx : gT w w' M) (hM : ¬ M a.block) : w'.cell? a = some v := by
 have hb := World.block_lt_of_cell? w a h
 have e := hx.keep _ hb hM
 unfold World.cell? at h ⊢
 rw [e]; exact h
section
variable {P : Program} {w : adH} {t : TypeId}
def P9 (d : TypeDesc) : Bool := match d with | .struct _ | .array _ _ => true | _ => false
theorem Cy {d : TypeDesc} (hu : P.underlying t = some d) : (isAgg t).run P w = .ok (P9 d) w := by
 cases d <;> simp [isAgg, underlying, hu, P9]
theorem kA {i : TypeInfo} (hi : P.info? t = some i) : (sizeOf t).run P w = .ok i.size w := by simp [sizeOf, typeInfo, hi]
theorem Lh {b off : Nat} {cs : List adI} (ho : jF w b cs) : ∀ (n i : Nat) (acc : Array adI), off + i + n <= cs.length →
 (loadCellsFrom ⟨b, off, none⟩ i n acc).run P w = .ok (acc ++ ((cs.drop (off + i)).take n).toArray) w := by
 intro n
 induction n with
 | zero => intro i acc _; simp [loadCellsFrom]
 | succ n ih =>
   intro i acc h
   have hc : w.cell? ((⟨b, off, none⟩ : Addr).add i) = some cs[off + i] := by
    unfold Addr.add
    split
    .rename_i hi; subst hi; rw [ho.cell]; simp
    .show w.cell? ⟨b, off + i, none⟩ = _; rw [ho.cell]; simp
   simp only [loadCellsFrom, Sem.run_bind, run_load, hc, Result.andThen_ok]
   rw [ih (i + 1) _ (by omega)]
   congr 1
   rw [acO (by omega : off + i < cs.length)]
   simp [abY]
theorem JI {b off n : Nat} {cs : List adI} (ho : jF w b cs) (h : off + n <= cs.length) :
 (loadCells ⟨b, off, none⟩ n).run P w = .ok ((cs.drop off).take n).toArray w := by
 unfold loadCells
 rw [Lh ho n 0 #[] (by omega)]
 simp
theorem Gj {d : TypeDesc} {i : TypeInfo} (hu : P.underlying t = some d) (hd : P9 d = true) (hi : P.info? t = some i) {b off : Nat} {cs : List adI} (ho : jF w b cs) (h : off + i.size <= cs.length) :
 (gJ t (.pointer (some ⟨b, off, none⟩))).run P w = .ok (.value (.agg ((cs.drop off).take i.size).toArray)) w := by
 unfold gJ
 rw [mY]
 simp only [Instr.loadAt, Instr.sureAddr, loadVar, pure_bind, Sem.run_bind, Cy hu, hd, Result.andThen_ok, if_true, kA hi, JI ho h, Sem.run_pure]
def one (v : adI) : Bool := match v with | .agg _ | .tuple _ => false | _ => true
theorem R6 {a : Addr} {v x : adI} (hv : one v = true) (hc : w.cell? a = some x) (hf : w.frozen? a = false) : (store a v).run P w = .ok () (w.setCell a v) := by
 unfold store
 cases v <;> simp [one] at hv <;> simp [Sem.run, hc, hf]
def mZ (cs : List adI) (off : Nat) : List adI -> List adI
 | [] => cs
 | v :: vs => mZ (cs.set off v) (off + 1) vs
theorem DH {b : Nat} {M : Nat -> Prop} (hM : M b) : ∀ (vs : List adI) (w : adH) (off i : Nat) (cs : List adI), jF w b cs -> off + i + vs.length <= cs.length -> (∀ v ∈ vs, one v = true) →
 ∃ w', (storeCells ⟨b, off, none⟩ vs i).run P w = .ok () w' /\ jF w' b (mZ cs (off + i) vs) /\ gT w w' M /\ w'.heap.size = w.heap.size /\ w'.drawn = w.drawn := by
 intro vs
 induction vs with
 | nil => intro w off i cs ho _ _; exact ⟨w, by simp [storeCells], ho, gT.refl _ _, rfl, rfl⟩
 | cons v vs ih =>
   intro w off i cs ho h hv
   simp only [Z7] at h
   have ha : (⟨b, off, none⟩ : Addr).add i = ⟨b, off + i, none⟩ := by
    unfold Addr.add; split
    .rename_i hi; subst hi; rfl
    .rfl
   have hlt : off + i < cs.length := by omega
   have hc : w.cell? ⟨b, off + i, none⟩ = some cs[off + i] := by rw [ho.cell]; simp
   have hs := R6 (P := P) (hv v (by simp)) hc (ho.free hlt)
   obtain ⟨w', h1, h2, h3, h4, h5⟩ := ih (w.setCell ⟨b, off + i, none⟩ v) off (i + 1) (cs.set (off + i) v) (ho.setCell v) (by simp; omega) (fun x hx => hv x (ZV _ hx))
   refine ⟨w', ?_, h2, (gT.setCell w _ v fun _ => hM).trans h3 (fun _ _ h => h), by rw [h4]; simp, by rw [h5] <;> rfl⟩
   simp only [storeCells, Sem.run_bind, ha, hs, Result.andThen_ok]
   exact h1
theorem Cu {i : TypeInfo} (hi : P.info? t = some i) {b off : Nat} {cs : List adI} (ho : jF w b cs) {v : adI} (hs : v.cells.size = i.size)
 (hv : ∀ x ∈ v.cells.toList, one x = true) (h : off + i.size <= cs.length) {K : adI -> adH -> Prop}
 (hk : ∀ w', jF w' b (mZ cs off v.cells.toList) -> gT w w' (fun x => x = b) -> w'.heap.size = w.heap.size -> K undef w') : eY P (iB t (.pointer (some ⟨b, off, none⟩)) v) w K := by
 obtain ⟨w', h1, h2, h3, h4, _⟩ := DH (P := P) (M := fun x => x = b) rfl v.cells.toList w off 0 cs ho (by simp [hs]; omega) hv
 have : (iB t (.pointer (some ⟨b, off, none⟩)) v).run P w = .ok .skip w' := by
  unfold iB
  rw [YO]
  simp only [Instr.storeAt, Instr.sureAddr, storeVar, pure_bind, Sem.run_bind, kA hi, Result.andThen_ok, hs]
  simp [h1]
 unfold eY
 rw [this]
 exact hk w' h2 h3 h4
theorem O7 {v : adI} (hv : one v = true) : v.cells = #[v] := by cases v <;> simp [one] at hv <;> rfl
theorem nP {i : TypeInfo} (hi : P.info? t = some i) (h1 : i.size = 1) {b off : Nat} {cs : List adI} (ho : jF w b cs) {v : adI} (hv : one v = true) (h : off < cs.length) {K : adI -> adH -> Prop}
 (hk : ∀ w', jF w' b (cs.set off v) -> gT w w' (fun x => x = b) -> w'.heap.size = w.heap.size -> K undef w') : eY P (iB t (.pointer (some ⟨b, off, none⟩)) v) w K := by
 have e := O7 hv
 refine Cu hi ho (by rw [e, h1] <;> rfl) (by rw [e]; simpa using hv) (by omega) fun w' a b c => hk w' ?_ b c
 rw [e] at a; exact a
def Oc (c : Option adI) (w : adH) (OQ : Result Next) : Result Next := match c with | some v => .ok (.value v) w | none => OQ
def OQ (P : Program) (t : TypeId) (x : Addr) (w : adH) : Result Next := (gJ t (.pointer (some x))).run P w
theorem eP (v : adI) (w : adH) (f : Result Next) : Oc (some v) w f = .ok (.value v) w := rfl
theorem Jf {d : TypeDesc} (hu : P.underlying t = some d) (hd : P9 d = false) (x : Addr) (w : adH) :
 (gJ t (.pointer (some x))).run P w = Oc (w.cell? x) w (OQ P t x w) := by
 cases h : w.cell? x with
 | none => rfl
 | some v =>
   unfold gJ
   rw [mY]
   simp only [Instr.loadAt, Instr.sureAddr, loadVar, pure_bind, Sem.run_bind, Cy hu, hd, Result.andThen_ok, ZF, if_false, run_load, h, Oc]
theorem PK {d : TypeDesc} {i : TypeInfo} (hu : P.underlying t = some d) (hd : P9 d = true) (hi : P.info? t = some i) {b off : Nat} {cs : List adI} (ho : jF w b cs) (h : off + i.size <= cs.length) {K : adI -> Prop}
 (hk : K (.agg ((cs.drop off).take i.size).toArray)) : Uw P t (.pointer (some ⟨b, off, none⟩)) w K := by
 refine ⟨_, ?_, hk⟩
 simp only [asAddr, loadVar, pure_bind, Sem.run_bind, Cy hu, hd, Result.andThen_ok, if_true, kA hi, JI ho h, Sem.run_pure]
theorem oA {v : adI} {K : adI -> adH -> Prop} (hk : ∀ w', jF w' w.heap.size v.cells.toList -> gT w w' jI -> w'.heap.size = w.heap.size + 1 -> K (.pointer (some ⟨w.heap.size, 0, none⟩)) w') :
 eY P (DY t v) w K := by
 have : (DY t v).run P w = .ok (.value (.pointer (some ⟨w.heap.size, 0, none⟩))) (w.alloc (.cells v.cells.toList.toArray t)) := by
  unfold DY; rw [mY]
  simp [Instr.box, newVar, newRow]
 unfold eY
 rw [this]
 exact hk _ (jF.alloc _ _ _) (gT.alloc _ _ _) (by simp)
theorem uO {i : TypeInfo} {z : adI} (hi : P.info? t = some i) (hz : i.zero = some z) {K : adI -> adH -> Prop}
 (hk : ∀ w', jF w' w.heap.size z.cells.toList -> gT w w' jI -> w'.heap.size = w.heap.size + 1 -> K (.pointer (some ⟨w.heap.size, 0, none⟩)) w') :
 eY P (lQ t) w K := by
 have : (lQ t).run P w = .ok (.value (.pointer (some ⟨w.heap.size, 0, none⟩))) (w.alloc (.cells z.cells.toList.toArray t)) := by
  unfold lQ; rw [mY]
  simp [Instr.alloc, zeroValue, typeInfo, hi, hz, newVar, newRow]
 unfold eY
 rw [this]
 exact hk _ (jF.alloc _ _ _) (gT.alloc _ _ _) (by simp)
end
theorem rR {P : Program} {w : adH} {k : IntKind} {a : Int} {y : Nat} {code : BoundsCode} (h0 : 0 <= a) (h1 : a <= y) : (Instr.sliceBound (.int k a) y code).run P w = .ok a.toNat w := by
 simp [Instr.sliceBound, asIntOf, h0, h1]
section
variable {P : Program} {w : adH} {t e : TypeId} {k k' : IntKind} {lo hi : Int} {i : TypeInfo}
def jO (x : Option Addr) (m l sz : Nat) : Option Addr := if m = l then x else x.map (·.add (l * sz))
theorem Sa (hu : P.underlying t = some (.slice e)) (hi' : P.info? e = some i) (x : Option Addr) (n c : Nat) (h0 : 0 <= lo) (h1 : lo <= n) :
 (lL t (.slice x n c) (some (.int k lo)) none none).run P w = .ok (.value (.slice (jO x c lo.toNat i.size) (n - lo.toNat) (c - lo.toNat))) w := by
 simp only [lL, mY, Instr.sliceAt, underlying, hu, Sem.run_bind, run_program, Result.andThen_ok, Sem.run_pure, Instr.slice, Instr.sliceBounds, pure_bind, rR h0 h1, kA hi', jO]
theorem PL (hu : P.underlying t = some (.slice e)) (hi' : P.info? e = some i) (x : Option Addr) (n c : Nat) (h0 : 0 <= lo) (h1 : lo <= hi) (h2 : hi <= c) :
 (lL t (.slice x n c) (some (.int k lo)) (some (.int k' hi)) none).run P w = .ok (.value (.slice (jO x c lo.toNat i.size) (hi.toNat - lo.toNat) (c - lo.toNat))) w := by
 have h3 : (0 : Int) <= hi := by omega
 have h4 : lo <= (hi.toNat : Int) := by omega
 simp only [lL, mY, Instr.sliceAt, underlying, hu, Sem.run_bind, run_program, Result.andThen_ok, Sem.run_pure, Instr.slice, Instr.sliceBounds, pure_bind, rR h3 h2, rR h0 h4, kA hi', jO]
def BS (a : Addr) (m l sz : Nat) : Addr := if m = l then a else a.add (l * sz)
theorem Ml {n : Nat} (hu : P.underlying t = some (.array n e)) (hi' : P.info? e = some i) (x : Addr) (h0 : 0 <= lo) (h1 : lo <= n) :
 (lL t (.pointer (some x)) (some (.int k lo)) none none).run P w = .ok (.value (.slice (some (BS x n lo.toNat i.size)) (n - lo.toNat) (n - lo.toNat))) w := by
 simp only [lL, mY, Instr.sliceAt, Instr.sureAddr, underlying, hu, Sem.run_bind, run_program, Result.andThen_ok, Sem.run_pure, Instr.sliceBounds, pure_bind, rR h0 h1, kA hi', BS]
theorem RE {n : Nat} (hu : P.underlying t = some (.array n e)) (hi' : P.info? e = some i) (x : Addr) (h0 : 0 <= hi) (h1 : hi <= n) :
 (lL t (.pointer (some x)) none (some (.int k hi)) none).run P w = .ok (.value (.slice (some (BS x n 0 i.size)) (hi.toNat - 0) (n - 0))) w := by
 simp only [lL, mY, Instr.sliceAt, Instr.sureAddr, underlying, hu, Sem.run_bind, run_program, Result.andThen_ok, Sem.run_pure, Instr.sliceBounds, pure_bind, rR h0 h1, kA hi', BS]
end
def Sl (w : adH) (v : adI) (l : List adI) : Prop :=
 ∃ a n c, v = .slice a n c /\ n = l.length /\ n <= c /\ (0 < n -> ∃ b off, a = some ⟨b, off, none⟩ /\ ∀ i, i < n -> w.cell? ⟨b, off + i, none⟩ = l[i]?)
def vM (v : adI) (M : Nat -> Prop) : Prop := match v with | .slice (some a) (_ + 1) _ => M a.block | _ => False
theorem Sl.ext {w w' : adH} {v : adI} {l : List adI} {M : Nat -> Prop} (h : Sl w v l) (hx : gT w w' M) (hM : ¬ vM v M) : Sl w' v l := by
 obtain ⟨a, n, c, rfl, hn, hc, h⟩ := h
 refine ⟨a, n, c, rfl, hn, hc, fun h0 => ?_⟩
 obtain ⟨b, off, rfl, h2⟩ := h h0
 refine ⟨b, off, rfl, fun i hi => ?_⟩
 have h1 := h2 i hi
 obtain ⟨v, hv⟩ : ∃ v, l[i]? = some v := ⟨l[i], by simp⟩
 rw [hv] at h1 ⊢
 refine VC h1 hx ?_
 obtain ⟨m, rfl⟩ : ∃ m, n = m + 1 := ⟨n - 1, by omega⟩
 exact hM
theorem Sl.old {w : adH} {v : adI} {l : List adI} (h : Sl w v l) : ¬ vM v (fun b => w.heap.size <= b) := by
 obtain ⟨a, n, c, rfl, hn, hc, h⟩ := h
 unfold vM
 split
 .rename_i x m _ e
  obtain ⟨rfl, rfl, rfl⟩ : a = some x /\ n = m + 1 /\ c = _ := by simpa using e
  obtain ⟨b, off, e, h2⟩ := h (by omega)
  have e := aaT e; subst e
  have h1 := h2 0 (by omega)
  obtain ⟨v, hv⟩ : ∃ v, l[0]? = some v := ⟨l[0], by simp⟩
  rw [hv] at h1
  have := World.block_lt_of_cell? _ _ h1
  simp at this ⊢; omega
 .simp
def oZ (x : UInt8) : adI := .int .u8 x.toNat
abbrev Bs (w : adH) (v : adI) (l : List UInt8) : Prop := Sl w v (l.map oZ)
theorem BM (b o n : Nat) : (⟨b, o, none⟩ : Addr).add n = ⟨b, o + n, none⟩ := by
 unfold Addr.add; split
 .rename_i h; subst h; rfl
 .rfl
section
variable {P : Program} {w : adH} {t e : TypeId} {k : IntKind} {a : Int}
theorem LM {inf : TypeInfo} {sz : Nat} (hz : inf.size = sz) (hu : P.underlying t = some (.slice e)) (hi : P.info? e = some inf) (b o n c : Nat) (h0 : 0 <= a) (h1 : a < n) :
 (iF t (.slice (some ⟨b, o, none⟩) n c) (.int k a)).run P w = .ok (.value (.pointer (some ⟨b, o + a.toNat * sz, none⟩))) w := by
 rw [Qu hu hi _ n c h0 h1, BM, hz]
theorem Mb {inf : TypeInfo} (hz : inf.size = 1) (hu : P.underlying t = some (.slice e)) (hi : P.info? e = some inf) (b o n c : Nat) (h0 : 0 <= a) (h1 : a < n) :
 (iF t (.slice (some ⟨b, o, none⟩) n c) (.int k a)).run P w = .ok (.value (.pointer (some ⟨b, o + a.toNat, none⟩))) w := by
 rw [Qu hu hi _ n c h0 h1, BM, hz, abL]
theorem I7 {inf : TypeInfo} {len : Nat} (hz : inf.size = 1) (hu : P.underlying t = some (.array len e)) (hi : P.info? e = some inf) (b o : Nat) (h0 : 0 <= a) (h1 : a < (len : Int)) :
 (iF t (.pointer (some ⟨b, o, none⟩)) (.int k a)).run P w = .ok (.value (.pointer (some ⟨b, o + a.toNat, none⟩))) w := by
 rw [Vi hu hi _ h0 h1, BM, hz, abL]
end
section
variable {P : Program} {w : adH} {s d e : TypeId}
theorem UD (hs : P.underlying s = some (.slice e)) (hd : P.underlying d = some .string) (he : P.underlying e = some (.int .u8)) {l : List UInt8} {v : adI} (h : Bs w v l) :
 (kP s d v).run P w = .ok (.value (.string ⟨l.toArray⟩)) w := by
 obtain ⟨a, n, c, rfl, hn, hc, h⟩ := h
 simp only [ZM] at hn
 unfold kP
 rw [mY]
 have key : (convert s d (.slice a n c)).run P w = .ok (.string ⟨l.toArray⟩) w := by
  cases a with
  | none =>
    have hl : l = [] := by
     cases l with
     | nil => rfl
     | cons x l => obtain ⟨b, off, e, _⟩ := h (by rw [hn]; simp); cases e
    subst hl
    rw [run_convert_bytes_string w s d e none n c hs he hd]
    rfl
  | some x =>
    subst hn
    refine run_convert_bytes_back w s d e x c l hs he hd fun j hj => ?_
    obtain ⟨b, off, hx, h2⟩ := h (by omega)
    have hx := aaT hx
    subst hx
    rw [BM, h2 j hj]
    simp [oZ, hj]
 rw [key] <;> rfl
end
theorem EU (l : List UInt8) : ∀ x ∈ l.map oZ, one x = true := by
 intro x hx
 obtain ⟨c, _, rfl⟩ := aaK.1 hx
 rfl
theorem TG {b o m l sz : Nat} (h : l ≠ m) : BS ⟨b, o, none⟩ m l sz = ⟨b, o + l * sz, none⟩ := by
 unfold BS; rw [if_neg (fun e => h e.symm), BM]
theorem JR {b o m l : Nat} (h : l ≠ m) : BS ⟨b, o, none⟩ m l 1 = ⟨b, o + l, none⟩ := by rw [TG h, abL]
theorem Sl.drop {w : adH} {b o n c : Nat} {l : List adI} (h : Sl w (.slice (some ⟨b, o, none⟩) n c) l) {k : Nat} (hk : k <= n) :
 Sl w (.slice (jO (some ⟨b, o, none⟩) c k 1) (n - k) (c - k)) (l.drop k) := by
 obtain ⟨x, m, c', e, hm, hc, hh⟩ := h
 cases e
 refine ⟨_, _, _, rfl, by rw [ZW]; omega, by omega, fun h0 => ?_⟩
 obtain ⟨b', o', e, h2⟩ := hh (by omega)
 cases e
 have hne : ¬ c = k := by omega
 refine ⟨b, o + k, by unfold jO; rw [if_neg hne, aaJ, BM, abL], fun i hi => ?_⟩
 rw [abY, h2 (k + i) (by omega), acA]
theorem Sl.take {w : adH} {b o n c : Nat} {l : List adI} (h : Sl w (.slice (some ⟨b, o, none⟩) n c) l) {k : Nat} (hk : k <= n) :
 Sl w (.slice (jO (some ⟨b, o, none⟩) c 0 1) (k - 0) (c - 0)) (l.take k) := by
 obtain ⟨x, m, c', e, hm, hc, hh⟩ := h
 cases e
 refine ⟨_, _, _, rfl, by rw [ZY]; omega, by omega, fun h0 => ?_⟩
 obtain ⟨b', o', e, h2⟩ := hh (by omega)
 cases e
 have hne : ¬ c = 0 := by omega
 refine ⟨b, o, by unfold jO; rw [if_neg hne, aaJ, BM] <;> rfl, fun i hi => ?_⟩
 rw [h2 i (by omega), abD (by omega)]
theorem TY {b o n c k : Nat} {M : Nat -> Prop} (h : ¬ vM (.slice (some ⟨b, o, none⟩) n c) M) (hn : 0 < n) (m : Nat) : ¬ vM (.slice (jO (some ⟨b, o, none⟩) c k 1) m (c - k)) M := by
 have hb : ¬ M b := by
  obtain ⟨n', rfl⟩ : ∃ n', n = n' + 1 := ⟨n - 1, by omega⟩
  exact h
 unfold vM jO
 split
 .rename_i x q _ e
  simp only [Value.slice.injEq] at e
  obtain ⟨e, _, _⟩ := e
  split at e
  .cases e; exact hb
  .rw [aaJ, BM] at e; cases e; exact hb
 .simp
theorem jF.bs {w : adH} {b off c : Nat} {cs : List adI} {l : List UInt8} (h : jF w b cs) (hc : l.length <= c) (hl : ∀ i (hi : i < l.length), cs[off + i]? = some (oZ l[i])) : Bs w (.slice (some ⟨b, off, none⟩) l.length c) l :=
 ⟨_, _, _, rfl, by simp, hc, fun _ => ⟨b, off, rfl, fun i hi => by rw [h.cell, hl i hi]; simp [hi]⟩⟩
section
variable {P : Program} {w : adH} {t e : TypeId} {k : IntKind} {a : Int}
theorem XJ {len : Nat} {d : TypeDesc} {i : TypeInfo} (hu : P.underlying t = some (.array len e)) (hd : P.underlying e = some d) (ha : P9 d = false) (hi : P.info? e = some i) (h1 : i.size = 1)
 (cs : Array adI) (h0 : 0 <= a) (hl : a < (len : Int)) {v : adI} (hv : cs[a.toNat]? = some v) : (TZ t (.agg cs) (.int k a)).run P w = .ok (.value v) w := by
 unfold TZ
 rw [mY]
 simp only [Instr.index, asIntOf, pure_bind, underlying, hu, Sem.run_bind, run_program, Result.andThen_ok, Sem.run_pure, h0, hl, and_self, if_true, kA hi, h1, abL, part, Cy hd, ha, ZF, if_false, hv]
def YK (P : Program) (t : TypeId) (cs : Array adI) (k : IntKind) (a : Int) (w : adH) : Result Next := (TZ t (.agg cs) (.int k a)).run P w
theorem Xz {len : Nat} {d : TypeDesc} {i : TypeInfo} (hu : P.underlying t = some (.array len e)) (hd : P.underlying e = some d) (ha : P9 d = false) (hi : P.info? e = some i) (h1 : i.size = 1)
 (cs : Array adI) (h0 : 0 <= a) (hl : a < (len : Int)) : (TZ t (.agg cs) (.int k a)).run P w = Oc cs[a.toNat]? w (YK P t cs k a w) := by
 cases hv : cs[a.toNat]? with
 | none => rfl
 | some v => exact XJ hu hd ha hi h1 cs h0 hl hv
theorem Ko {b off : Nat} {l : List adI} (h : ∀ i, i < l.length -> w.cell? ⟨b, off + i, none⟩ = l[i]?) (n : Nat) (hn : n <= l.length) :
 (loadCells ⟨b, off, none⟩ n).run P w = .ok (l.take n).toArray w := by
 have key : ∀ (m i : Nat) (acc : Array adI), i + m <= l.length -> (loadCellsFrom ⟨b, off, none⟩ i m acc).run P w = .ok (acc ++ ((l.drop i).take m).toArray) w := by
  intro m
  induction m with
  | zero => intro i acc _; simp [loadCellsFrom]
  | succ m ih =>
    intro i acc hm
    have hc := h i (by omega)
    rw [ZO (by omega)] at hc
    simp only [loadCellsFrom, Sem.run_bind, run_load, BM, hc, Result.andThen_ok]
    rw [ih (i + 1) _ (by omega), acO (by omega : i < l.length), List.take_succ_cons]
    simp
 unfold loadCells
 rw [key n 0 #[] (by omega)]
 simp
theorem OU {sz n : Nat} {v : adI} {l : List adI} (h1 : sz = 1) (h : Sl w v l) (hn : n <= l.length) : (Builtin.firstCells sz n v).run P w = .ok (l.take n).toArray w := by
 subst h1
 obtain ⟨x, m, c, rfl, hm, hc, hh⟩ := h
 cases x with
 | none =>
   have : l = [] := by
    cases l with
    | nil => rfl
    | cons y l => obtain ⟨b, off, e, _⟩ := hh (by rw [hm]; simp); cases e
   subst this
   simp [Builtin.firstCells]
 | some x =>
   simp only [Builtin.firstCells, abL]
   by_cases h0 : 0 < m
   .obtain ⟨b, off, e, h2⟩ := hh h0
    have e := aaT e; subst e
    exact Ko (fun i hi => h2 i (by omega)) n hn
   .have h00 : n = 0 := by omega
    subst h00
    simp [loadCells, loadCellsFrom]
theorem XR {v : adI} {l : List adI} (h : Sl w v l) : (Builtin.lenOf v).run P w = .ok l.length w := by
 obtain ⟨x, m, c, rfl, hm, hc, hh⟩ := h
 simp [Builtin.lenOf, hm]
theorem Rh {ty t2 : TypeId} {i : TypeInfo} (hu : P.underlying t = some (.slice e)) (hi : P.info? e = some i) (h1 : i.size = 1) {b off dl c : Nat} {cs : List adI} (ho : jF w b cs) (hl : off + dl <= cs.length)
 {v : adI} {l : List adI} (h : Sl w v l) (hv : ∀ x ∈ l, one x = true) {K : adI -> adH -> Prop}
 (hk : ∀ w', jF w' b (mZ cs off (l.take (min l.length dl))) -> gT w w' (fun x => x = b) -> w'.heap.size = w.heap.size -> K (.int .i64 (min l.length dl : Nat)) w') :
 eY P (mS .copy #[t, t2] ty [.slice (some ⟨b, off, none⟩) dl c, v]) w K := by
 have hlen : (l.take (min l.length dl)).length = min l.length dl := by rw [ZY]; omega
 obtain ⟨w', s1, s2, s3, s4, _⟩ := DH (P := P) (M := fun x => x = b) rfl (l.take (min l.length dl)) w off 0 cs ho (by rw [hlen]; omega) (fun x hx => hv x (adC hx))
 have : (mS .copy #[t, t2] ty [.slice (some ⟨b, off, none⟩) dl c, v]).run P w = .ok (.value (.int .i64 (min l.length dl : Nat))) w' := by
  unfold mS builtin
  simp only [Builtin.copy_, abB, ZD, ZE]
  simp only [underlying, Sem.run_bind, run_program, Result.andThen_ok, hu, Sem.run_pure, XR h, kA hi, h1]
  have := OU (P := P) (n := min l.length dl) rfl h (Nat.min_le_left _ _)
  rw [show (Nat.min l.length dl) = min l.length dl from rfl, this]
  simp only [Result.andThen_ok, s1, goInt]
 unfold eY
 rw [this]
 exact hk w' (by simpa using s2) s3 s4
theorem Rm {i : TypeInfo} {z : adI} (hu : P.underlying t = some (.slice e)) (hi : P.info? e = some i) (h1 : i.size = 1) (hz : i.zero = some z) (hz1 : one z = true) {n : Int} (h0 : 0 <= n) (hn : i.bytes * n <= 2 ^ 48) (hn2 : n <= 9223372036854775807)
 {K : adI -> adH -> Prop}
 (hk : ∀ w', jF w' w.heap.size (List.replicate n.toNat z) -> gT w w' jI -> w'.heap.size = w.heap.size + 1 -> K (.slice (some ⟨w.heap.size, 0, none⟩) n.toNat n.toNat) w') :
 eY P (vT t (.int k n) (.int k n)) w K := by
 have hw : IntKind.i64.wrap n = n := fJ (by omega) hn2
 have hcells : z.cells = #[z] := O7 hz1
 have harr : (Array.range n.toNat).map (fun j => (#[z] : Array adI)[j % (#[z] : Array adI).size]!) = (List.replicate n.toNat z).toArray := by
  apply Array.ext
  .simp
  .intro j h1 h2; simp [Nat.mod_one]
 have hz' : (zeroValue e).run P w = .ok z w := by simp [zeroValue, typeInfo, hi, hz]
 have : (vT t (.int k n) (.int k n)).run P w = .ok (.value (.slice (some ⟨w.heap.size, 0, none⟩) n.toNat n.toNat)) (w.alloc (.cells (List.replicate n.toNat z).toArray e)) := by
  unfold vT
  rw [mY]
  have t1 : (decide (n < 0) || decide ((i.bytes : Int) * n > 2 ^ 48) || decide (n < 0) || decide (n > n)) = false := by
   simp only [acG, decide_eq_false_iff_not]; omega
  by_cases hn0 : n.toNat = 0
  .simp only [Instr.makeSlice, underlying, typeInfo, asInt, asIntOf, pure_bind, Sem.run_bind, run_program, Result.andThen_ok, hu, hi, Sem.run_pure, hw, t1, ZF, if_false, run_askRoom, kA hi, h1, abL, hn0, if_true, newRow, run_newObj]
   have : (Array.range 0).map (fun x => (#[] : Array adI)[x % (#[] : Array adI).size]!) = (List.replicate 0 z).toArray := by simp
   rw [this]
   rfl
  .simp only [Instr.makeSlice, underlying, typeInfo, asInt, asIntOf, pure_bind, Sem.run_bind, run_program, Result.andThen_ok, hu, hi, Sem.run_pure, hw, t1, ZF, if_false, run_askRoom, kA hi, h1, abL, hn0, hz', hcells, newRow, run_newObj, harr]
   rfl
 unfold eY
 rw [this]
 exact hk _ (jF.alloc _ _ _) (gT.alloc _ _ _) (by simp)
end
def Cl (w : adH) (sz : Nat) (v : adI) (n : Nat) (l : List adI) : Prop :=
 ∃ a c, v = .slice a n c /\ l.length = n * sz /\ (0 < n -> ∃ b off, a = some ⟨b, off, none⟩ /\ ∀ i, i < l.length -> w.cell? ⟨b, off + i, none⟩ = l[i]?)
def yK (w : adH) (base sz : Nat) (v : adI) (n : Nat) (l : List adI) : Prop :=
 l.length = n * sz /\ ((v = .slice none 0 0 /\ n = 0) ∨
   ∃ b c rest, v = .slice (some ⟨b, 0, none⟩) n c /\ base <= b /\ jF w b (l ++ rest) /\ (l ++ rest).length = c * sz /\ n <= c)
def Im (w : adH) (S : Nat -> Prop) (sz : Nat) (v : adI) (n : Nat) (l : List adI) : Prop :=
 l.length = n * sz /\ ((v = .slice none 0 0 /\ n = 0) ∨
   ∃ b c rest, v = .slice (some ⟨b, 0, none⟩) n c /\ S b /\ jF w b (l ++ rest) /\ (l ++ rest).length = c * sz /\ n <= c)
theorem Sl.cl {w : adH} {v : adI} {l : List adI} (h : Sl w v l) : Cl w 1 v l.length l := by
 obtain ⟨a, n, c, rfl, rfl, hc, h⟩ := h
 exact ⟨a, c, rfl, by omega, fun h0 => h h0⟩
theorem jF.cl {w : adH} {b sz n c off : Nat} {cs l : List adI} (h : jF w b cs) (hl : l.length = n * sz) (hcs : ∀ i, i < l.length -> cs[off + i]? = l[i]?) : Cl w sz (.slice (some ⟨b, off, none⟩) n c) n l :=
 ⟨_, _, rfl, hl, fun _ => ⟨b, off, rfl, fun i hi => by rw [h.cell, hcs i hi]⟩⟩
theorem yK.nil (w : adH) (base sz : Nat) : yK w base sz (.slice none 0 0) 0 [] := ⟨by simp, .inl ⟨rfl, rfl⟩⟩
theorem yK.ext {w w' : adH} {base sz n : Nat} {v : adI} {l : List adI} {M : Nat -> Prop} (h : yK w base sz v n l) (hx : gT w w' M) (hM : ∀ b, base <= b -> ¬ M b) : yK w' base sz v n l := by
 refine ⟨h.1, ?_⟩
 rcases h.2 with h2 | ⟨b, c, rest, h1, h2, h3, h4, h5⟩
 .exact .inl h2
 .exact .inr ⟨b, c, rest, h1, h2, h3.ext hx (hM b h2), h4, h5⟩
theorem yK.cl {w : adH} {base sz n : Nat} {v : adI} {l : List adI} (h : yK w base sz v n l) : Cl w sz v n l := by
 rcases h.2 with ⟨rfl, rfl⟩ | ⟨b, c, rest, rfl, h2, h3, h4, h5⟩
 .exact ⟨_, _, rfl, h.1, fun h => by omega⟩
 .refine ⟨_, _, rfl, h.1, fun _ => ⟨b, 0, rfl, fun i hi => ?_⟩⟩
  rw [h3.cell, ZL, aaB hi]
theorem yK.sl {w : adH} {base n : Nat} {v : adI} {l : List adI} (h : yK w base 1 v n l) : Sl w v l := by
 have hl := h.1
 rcases h.2 with ⟨rfl, rfl⟩ | ⟨b, c, rest, rfl, h2, h3, h4, h5⟩
 .exact ⟨_, _, _, rfl, by omega, by omega, fun h => by omega⟩
 .refine ⟨_, _, _, rfl, by omega, h5, fun _ => ⟨b, 0, rfl, fun i hi => ?_⟩⟩
  rw [h3.cell, ZL, aaB (by omega)]
section
variable {P : Program} {w : adH} {t e : TypeId}
theorem Lr {b off : Nat} {l : List adI} (h : ∀ i, i < l.length -> w.cell? ⟨b, off + i, none⟩ = l[i]?) : (loadCells ⟨b, off, none⟩ l.length).run P w = .ok l.toArray w := by
 have := Ko (P := P) h l.length (ZU _)
 rwa [List.take_length] at this
theorem A6 {sz n : Nat} {v : adI} {l : List adI} (h : Cl w sz v n l) : (Builtin.firstCells sz n v).run P w = .ok l.toArray w := by
 obtain ⟨x, c, rfl, hl, hh⟩ := h
 cases x with
 | none =>
   have : n = 0 := by
    rcases Nat.eq_zero_or_pos n with h | h
    .exact h
    .obtain ⟨b, off, e, _⟩ := hh h; cases e
   subst this
   have : l = [] := Z3.1 (by omega)
   subst this
   simp [Builtin.firstCells]
 | some x =>
   simp only [Builtin.firstCells]
   rw [<- hl]
   by_cases h0 : 0 < n
   .obtain ⟨b, off, e, h2⟩ := hh h0
    have e := aaT e; subst e
    exact Lr h2
   .have : n = 0 := by omega
    subst this
    have : l = [] := Z3.1 (by omega)
    subst this
    simp [loadCells, loadCellsFrom]
theorem Fj (zs : Array adI) (n : Nat) : (Builtin.zeroCells zs n).size = n * zs.size := by simp [Builtin.zeroCells]
theorem oE (vs : List adI) : ∀ (ZC rest : List adI), vs.length <= rest.length -> mZ (ZC ++ rest) ZC.length vs = ZC ++ vs ++ rest.drop vs.length := by
 induction vs with
 | nil => intro ZC rest _; simp [mZ]
 | cons v vs ih =>
   intro ZC rest h
   cases rest with
   | nil => simp at h
   | cons r rest =>
     have := ih (ZC ++ [v]) rest (by simpa using h)
     simp only [mZ, ZN, Z7, abN, Z4, acH, Z2] at this ⊢
     rw [List.drop_succ_cons, <- this, abC _ _ (ZU _), adD, Z0, ZL]
theorem QN {S : Nat -> Prop} {sz n m : Nat} {i : TypeInfo} {z : adI} {ty t2 e2 : TypeId} (hu : P.underlying t = some (.slice e)) (hu2 : P.underlying t2 = some (.slice e2)) (hi : P.info? e = some i) (hsz : i.size = sz) (hz : i.zero = some z) (hzs : z.cells.size = sz)
 {v x : adI} {l news : List adI} (h : Im w S sz v n l) (hx : Cl w sz x m news) (hone : ∀ y ∈ news, one y = true) (hb : ∀ b, w.heap.size <= b -> S b)
 (hn : n + m <= 9223372036854775807) (hbytes : (n + m) * i.bytes <= 140737488355328) (_hpos : i.bytes ≠ 0)
 {K : adI -> adH -> Prop} (hk : ∀ v' w', Im w' S sz v' (n + m) (l ++ news) -> gT w w' S -> Cl w' sz v n l -> K v' w') : eY P (mS .append #[t, t2] ty [v, x]) w K := by
 have hlx : (Builtin.lenOf x).run P w = .ok m w := by
  obtain ⟨a, c, rfl, _⟩ := hx; simp [Builtin.lenOf]
 have hnl := hx.choose_spec.choose_spec.2.1
 have hfx := A6 (P := P) hx
 have hmax : IntKind.i64.max = 9223372036854775807 := by decide
 have hnot : ¬ (((n + m : Nat) : Int) > IntKind.i64.max /\ (False ∨ i.bytes = 0)) := by rw [hmax]; omega
 have hz' : ∀ w, (zeroValue e).run P w = .ok z w := fun w => by simp [zeroValue, typeInfo, hi, hz]
 have hlen := h.1
 rcases h.2 with ⟨rfl, rfl⟩ | ⟨b, c, rest, rfl, h2, h3, h4, h5⟩
 .
  have hl0 : l = [] := Z3.1 (by omega)
  subst hl0
  by_cases hm : m = 0
  .subst hm
   have hn0 : news = [] := Z3.1 (by omega)
   subst hn0
   have : (mS .append #[t, t2] ty [.slice none 0 0, x]).run P w = .ok (.value (.slice none 0 0)) w := by
    unfold mS builtin
    simp only [Builtin.append_, abB, ZD, ZE]
    simp only [underlying, Sem.run_bind, run_program, Result.andThen_ok, hu, hu2, Sem.run_pure, kA hi, hsz, ZF, if_false, hlx, ZU, Nat.add_zero, if_true, ZJ, hfx]
   unfold eY
   rw [this]
   exact hk _ _ ⟨by simp, .inl ⟨rfl, by omega⟩⟩ (gT.refl _ _) ⟨none, 0, rfl, hlen, fun h => absurd h (by omega)⟩
  .have hfit := growslice_fits (need := 0 + m) (old := 0) (bytes := i.bytes) (by omega) (by omega)
   have hfit' : ¬ (Builtin.nextslicecap (0 + m) 0 * i.bytes > 2 ^ 48) := by omega
   have hle : ¬ (0 + m <= 0) := by omega
   have hq : (Question.appendCap (0 + m) 0 e).forced = false := rfl
   obtain ⟨r, hr⟩ : ∃ r, (Question.appendCap (0 + m) 0 e).cut (w.tape w.drawn (.appendCap (0 + m) 0 e)) = m + r :=
    ⟨(w.tape w.drawn (.appendCap (0 + m) 0 e)) % (2 ^ 63 - (0 + m)), by simp only [Question.cut]; omega⟩
   have : (mS .append #[t, t2] ty [.slice none 0 0, x]).run P w = .ok (.value (.slice (some ⟨w.heap.size, 0, none⟩) (0 + m) (m + r))) ((dr w).alloc (.cells (news ++ (Builtin.zeroCells z.cells (m + r - (0 + m))).toList).toArray e)) := by
    have hfx' := A6 (P := P) (w := dr w) hx
    unfold mS builtin
    simp only [Builtin.append_, abB, ZD, ZE]
    simp only [underlying, typeInfo, Sem.run_bind, run_program, Result.andThen_ok, hu, hu2, hi, Sem.run_pure, kA hi, hsz, ZF, if_false, hlx, hle, ZJ, if_true, hnot, hfit', run_choose, hq, hr, run_askRoom]
    change ((Sem.run P _ (dr w)).andThen _).andThen _ = _
    simp only [Sem.run_bind, hfx', run_firstCells_none, Result.andThen_ok, hz', Sem.run_pure, newRow, run_newObj]
    have e1 : (#[] ++ news.toArray ++ Builtin.zeroCells z.cells (m + r - (0 + m)) : Array adI) = (news ++ (Builtin.zeroCells z.cells (m + r - (0 + m))).toList).toArray := by
     apply Array.ext'; simp
    rw [e1]
    rfl
   unfold eY
   rw [this]
   refine hk _ _ ⟨by simp only [Z2]; rw [hnl, ZL], .inr ⟨w.heap.size, m + r, (Builtin.zeroCells z.cells (m + r - (0 + m))).toList, by rw [ZL], hb _ (ZU _), jF.alloc (dr w) _ _, ?_, by omega⟩⟩ ((gT.dr w _).seq (gT.alloc _ _ _)) ⟨none, 0, rfl, hlen, fun h => absurd h (by omega)⟩
   simp only [Z2, ZN, Array.length_toList, Fj, hzs, hnl]
   rw [show m + r - (0 + m) = r from by omega, acU]
 .by_cases hc : n + m <= c
  .
   have hroom : news.length <= rest.length := by
    rw [ZN, hlen] at h4
    have : (n + m) * sz <= c * sz := Nat.mul_le_mul_right _ hc
    rw [acU] at this; omega
   obtain ⟨w', s1, s2, s3, s4, _⟩ := DH (P := P) (M := S) h2 news w (n * sz) 0 (l ++ rest) h3 (by rw [ZN, hlen]; omega) hone
   have : (mS .append #[t, t2] ty [.slice (some ⟨b, 0, none⟩) n c, x]).run P w = .ok (.value (.slice (some ⟨b, 0, none⟩) (n + m) c)) w' := by
    unfold mS builtin
    simp only [Builtin.append_, abB, ZD, ZE]
    simp only [underlying, Sem.run_bind, run_program, Result.andThen_ok, hu, hu2, Sem.run_pure, kA hi, hsz, ZF, if_false, hlx, hc, if_true, ZJ, hfx, BM, ZL, s1]
   unfold eY
   rw [this]
   rw [Nat.add_zero, <- hlen, oE _ _ _ hroom] at s2
   refine hk _ _ ⟨by rw [ZN, hlen, hnl, acU], .inr ⟨b, c, rest.drop news.length, rfl, h2, s2, ?_, hc⟩⟩ s3 ⟨_, _, rfl, hlen, fun _ => ⟨b, 0, rfl, fun i hi => by
    rw [s2.cell, ZL, Z4, aaB hi]⟩⟩
   rw [<- h4]; simp; omega
  .
   have hfit := growslice_fits (need := n + m) (old := c) (bytes := i.bytes) (by omega) hbytes
   have hfit' : ¬ (Builtin.nextslicecap (n + m) c * i.bytes > 2 ^ 48) := by omega
   have hq : (Question.appendCap (n + m) c e).forced = false := rfl
   obtain ⟨r, hr⟩ : ∃ r, (Question.appendCap (n + m) c e).cut (w.tape w.drawn (.appendCap (n + m) c e)) = n + m + r :=
    ⟨(w.tape w.drawn (.appendCap (n + m) c e)) % (2 ^ 63 - (n + m)), by simp only [Question.cut]⟩
   have hold : Cl (dr w) sz (.slice (some ⟨b, 0, none⟩) n c) n l := ⟨_, _, rfl, hlen, fun _ => ⟨b, 0, rfl, fun i hi => by
    show w.cell? _ = _
    rw [h3.cell, ZL, aaB hi]⟩⟩
   have : (mS .append #[t, t2] ty [.slice (some ⟨b, 0, none⟩) n c, x]).run P w = .ok (.value (.slice (some ⟨w.heap.size, 0, none⟩) (n + m) (n + m + r))) ((dr w).alloc (.cells (l ++ news ++ (Builtin.zeroCells z.cells (n + m + r - (n + m))).toList).toArray e)) := by
    have hfx' := A6 (P := P) (w := dr w) hx
    have hfo := A6 (P := P) hold
    unfold mS builtin
    simp only [Builtin.append_, abB, ZD, ZE]
    simp only [underlying, typeInfo, Sem.run_bind, run_program, Result.andThen_ok, hu, hu2, hi, Sem.run_pure, kA hi, hsz, ZF, if_false, hlx, hc, ZJ, if_true, hnot, hfit', run_choose, hq, hr, run_askRoom]
    change ((Sem.run P _ (dr w)).andThen _).andThen _ = _
    simp only [Sem.run_bind, hfx', hfo, Result.andThen_ok, hz', Sem.run_pure, newRow, run_newObj]
    have e1 : (l.toArray ++ news.toArray ++ Builtin.zeroCells z.cells (n + m + r - (n + m)) : Array adI) = (l ++ news ++ (Builtin.zeroCells z.cells (n + m + r - (n + m))).toList).toArray := by
     apply Array.ext'; simp
    rw [e1]
    rfl
   unfold eY
   rw [this]
   refine hk _ _ ⟨by rw [ZN, hlen, hnl, acU], .inr ⟨w.heap.size, n + m + r, _, rfl, hb _ (ZU _), jF.alloc (dr w) _ _, ?_, by omega⟩⟩ ((gT.dr w _).seq (gT.alloc _ _ _)) ⟨_, _, rfl, hlen, fun _ => ⟨b, 0, rfl, fun i hi => by
    have o9 := h3.ext ((gT.dr w jI).seq (gT.alloc (dr w) (.cells (l ++ news ++ (Builtin.zeroCells z.cells (n + m + r - (n + m))).toList).toArray e) jI)) (fun h => h)
    rw [o9.cell, ZL, aaB hi]⟩⟩
   simp only [ZN, Array.length_toList, Fj, hzs, hnl, hlen]
   rw [show n + m + r - (n + m) = r from by omega, acU, acU]
theorem Ek {S : Nat -> Prop} {sz n m : Nat} {i : TypeInfo} {z : adI} {ty t2 e2 : TypeId} (hu : P.underlying t = some (.slice e)) (hu2 : P.underlying t2 = some (.slice e2)) (hi : P.info? e = some i) (hsz : i.size = sz) (hz : i.zero = some z) (hzs : z.cells.size = sz)
 {v x : adI} {l news : List adI} (h : Im w S sz v n l) (hx : Cl w sz x m news) (hone : ∀ y ∈ news, one y = true) (hb : ∀ b, w.heap.size <= b -> S b)
 (hn : n + m <= 9223372036854775807) (hbytes : (n + m) * i.bytes <= 140737488355328) (_hpos : i.bytes ≠ 0)
 {K : adI -> adH -> Prop} (hk : ∀ v' w', Im w' S sz v' (n + m) (l ++ news) -> gT w w' S -> K v' w') : eY P (mS .append #[t, t2] ty [v, x]) w K :=
 QN hu hu2 hi hsz hz hzs h hx hone hb hn hbytes _hpos fun v' w' a b _ => hk v' w' a b
theorem Kj {base sz n m : Nat} {i : TypeInfo} {z : adI} {ty t2 e2 : TypeId} (hu : P.underlying t = some (.slice e)) (hu2 : P.underlying t2 = some (.slice e2)) (hi : P.info? e = some i) (hsz : i.size = sz) (hz : i.zero = some z) (hzs : z.cells.size = sz)
 {v x : adI} {l news : List adI} (h : yK w base sz v n l) (hx : Cl w sz x m news) (hone : ∀ y ∈ news, one y = true) (hb : base <= w.heap.size)
 (hn : n + m <= 9223372036854775807) (hbytes : (n + m) * i.bytes <= 140737488355328) (_hpos : i.bytes ≠ 0)
 {K : adI -> adH -> Prop} (hk : ∀ v' w', yK w' base sz v' (n + m) (l ++ news) -> gT w w' (fun y => base <= y) -> K v' w') : eY P (mS .append #[t, t2] ty [v, x]) w K :=
 Ek (S := fun y => base <= y) hu hu2 hi hsz hz hzs h hx hone (fun _ h => abH hb h) hn hbytes _hpos hk
end
section
variable {P : Program} {w : adH} {t e : TypeId}
theorem Du {i : TypeInfo} {z : adI} {n : Nat} {ps : List (Nat × adI)} {cells : Array adI} (hu : P.underlying t = some (.slice e)) (hi : P.info? e = some i) (hz : i.zero = some z)
 (h1 : ¬ n * i.size > 2 ^ 24) (h0 : ¬ n * i.size = 0) (hf : Instr.fill (fun j => some (j * i.size, i.size)) ((Array.range (n * i.size)).map (z.cells[· % z.cells.size]!)) ps = some cells)
 {K : adI -> adH -> Prop} (hk : ∀ w', jF w' w.heap.size cells.toList -> gT w w' jI -> w'.heap.size = w.heap.size + 1 -> K (.slice (some ⟨w.heap.size, 0, none⟩) n n) w') :
 eY P (iC t n ps) w K := by
 have hz' : (zeroValue e).run P w = .ok z w := by simp [zeroValue, typeInfo, hi, hz]
 have : (iC t n ps).run P w = .ok (.value (.slice (some ⟨w.heap.size, 0, none⟩) n n)) (w.alloc (.cells cells.toList.toArray e)) := by
  unfold iC; rw [mY]
  simp only [Instr.buildSlice, underlying, pure_bind, Sem.run_bind, run_program, Result.andThen_ok, hu, Sem.run_pure, kA hi, h1, h0, if_false, hz', hf, newRow, run_newObj]
  rfl
 unfold eY
 rw [this]
 exact hk _ (jF.alloc _ _ _) (gT.alloc _ _ _) (by simp)
theorem jF.mark {b : Nat} {cs : List adI} (h : jF w b cs) : jF (w.freeze ⟨b, cs.length, none⟩ 1) b cs := by
 have hb := h.lt
 obtain ⟨T, lo, hi, h, k⟩ := h
 by_cases hlh : (lo == hi) = true
 .refine ⟨T, cs.length, cs.length + 1, ?_, .inl (ZU _)⟩
  show (w.heap.modify b _)[b]? = _
  rw [abK, if_pos rfl, h]
  have hlh : lo = hi := by simpa using hlh
  simp [hlh]
 .refine ⟨T, min lo cs.length, max hi (cs.length + 1), ?_, .inl ?_⟩
  .show (w.heap.modify b _)[b]? = _
   rw [abK, if_pos rfl, h]
   have hlh : ¬ lo = hi := by simpa using hlh
   simp [hlh]
  .rcases k with k | k
   .omega
   .exfalso; apply hlh; rw [k]; simp
theorem gT.mark (w : adH) (a : Addr) : gT w (w.freeze a 1) (fun y => y = a.block) :=
 ⟨rfl, rfl, rfl, by show _ <= (w.heap.modify _ _).size; simp, fun b hb hn => by
  show (w.heap.modify a.block _)[b]? = _
  rw [abK]
  rw [if_neg (fun h => hn h.symm)]⟩
theorem WN (hu : P.underlying t = some (.slice e)) (he : P.underlying e = some (.int .u8)) {b off n c : Nat} {cs : List adI} (ho : jF w b cs)
 {K : adI -> adH -> Prop} (hk : ∀ w', jF w' b cs -> gT w w' (fun y => y = b) -> w'.heap.size = w.heap.size -> K (.slice (some ⟨b, off, none⟩) n c) w') :
 eY P (kP t t (.slice (some ⟨b, off, none⟩) n c)) w K := by
 obtain ⟨T, hs⟩ : ∃ T, w.shape? b = some (T, cs.length) := by
  obtain ⟨T, lo, hi, h, _⟩ := ho
  exact ⟨T, by unfold World.shape?; rw [h]; simp⟩
 have : (kP t t (.slice (some ⟨b, off, none⟩) n c)).run P w = .ok (.value (.slice (some ⟨b, off, none⟩) n c)) (w.freeze ⟨b, cs.length, none⟩ 1) := by
  unfold kP; rw [mY]
  simp [convert, underlying, hu, he, markStringish, shape, freeze, Sem.run, hs]
 unfold eY
 rw [this]
 exact hk _ ho.mark (gT.mark w _) (by show (w.heap.modify _ _).size = _; simp)
end
section
variable {P : Program} {w : adH} {t e : TypeId}
theorem Qz {d : TypeDesc} (he : P.underlying e = some d) (hd : P9 d = false) {cs : Array adI} {k : Nat} {v : adI} (h : cs[k]? = some v) : (part e cs k).run P w = .ok v w := by
 unfold part
 simp only [Sem.run_bind, Cy he, hd, Result.andThen_ok, ZF, if_false, h, Sem.run_pure]
theorem Wf {a b : UInt8} : (((a.toNat : Int)) == (b.toNat : Int)) = decide (a = b) := by
 rw [Bool.eq_iff_iff]
 simp only [<- UInt8.toNat_inj, beq_iff_eq, decide_eq_true_eq]
 omega
theorem SC {i : TypeInfo} (m n : Nat) (hu : P.underlying t = some (.array n e)) (he : P.underlying e = some (.int .u8)) (hi : P.info? e = some i) (h1 : i.size = 1) (l l' : List UInt8) (hl : l.length = n) (hl' : l'.length = n) :
 (Op.equalIn (m + 2) t (.agg (l.map oZ).toArray) (.agg (l'.map oZ).toArray)).run P w = .ok (decide (l = l')) w := by
 unfold Op.equalIn
 simp only [underlying, Sem.run_bind, run_program, Result.andThen_ok, hu, Sem.run_pure, kA hi, Std.Legacy.Range.forIn_eq_forIn_range', Std.Legacy.Range.size, Nat.sub_zero, Nat.add_one_sub_one, Nat.div_one, h1, abL]
 have key : ∀ (c k : Nat), k + c = n -> l.take k = l'.take k →
     ∃ r, (forIn (List.range' k c) (none, ()) fun (i : Nat) (_ : Option Bool × Unit) => (do
           let a <- part e (List.map oZ l).toArray i
           let b <- part e (List.map oZ l').toArray i
           let c <- Op.equalIn (m + 1) e a b
           if (!c) = true then pure (ForInStep.done (some false, ())) else pure (ForInStep.yield (none, ())) : Sem (ForInStep (Option Bool × Unit)))).run P w = .ok (r, ()) w /\ r.getD true = decide (l = l') := by
  intro c
  induction c with
  | zero =>
    intro k hk ht
    refine ⟨none, by simp, ?_⟩
    have : l = l' := by
     rw [ZQ (by omega), ZQ (by omega)] at ht; exact ht
    simp [this]
  | succ c ih =>
    intro k hk ht
    have g : ∀ (q : List UInt8) (h : k < q.length), (q.map oZ).toArray[k]? = some (oZ q[k]) := fun q h => by simp [h]
    have hv : (Op.equalIn (m + 1) e (oZ (l[k]'(by omega))) (oZ (l'[k]'(by omega)))).run P w = .ok (decide (l[k]'(by omega) = l'[k]'(by omega))) w := by
     unfold Op.equalIn oZ
     simp only [underlying, Sem.run_bind, run_program, Result.andThen_ok, he, Sem.run_pure, if_true, Wf]
    rw [List.range'_succ]
    simp only [List.forIn_cons, Sem.run_bind, Qz he rfl (g l (by omega)), Qz he rfl (g l' (by omega)), Result.andThen_ok, hv]
    by_cases hx : l[k]'(by omega) = l'[k]'(by omega)
    .simp only [hx, decide_true, ZK, ZF, if_false, Sem.run_pure, Result.andThen_ok]
     refine ih (k + 1) (by omega) ?_
     rw [acR, acR, ht, ZO (by omega), ZO (by omega), hx]
    .simp only [hx, decide_false, ZJ, if_true, Sem.run_pure, Result.andThen_ok]
     refine ⟨some false, rfl, ?_⟩
     have : l ≠ l' := fun h => hx (by subst h; rfl)
     simp [this]
 obtain ⟨r, h1, h2⟩ := key n 0 (by omega) (by simp)
 rw [h1, <- h2]
 cases r <;> simp
structure Of {κ : Type} [DecidableEq κ] (P : Program) (t : TypeId) (enc : κ -> adI) : Prop where
 eq : ∀ a b (w : adH), (Op.equal t (enc a) (enc b)).run P w = .ok (decide (a = b)) w
 now : ∃ d, P.underlying t = some d /\ ∀ a b, Instr.sameNow d (enc a) (enc b) = none ∨ Instr.sameNow d (enc a) (enc b) = some (decide (a = b))
 chk : ∀ (e : Bool) a (w : adH), (Instr.checkKey e 10000 t (enc a)).run P w = .ok () w
 stay : ∀ a, Instr.sameBits 10000 (enc a) (enc a) = true
def GY {κ : Type} [DecidableEq κ] (k : κ) : List (κ × adI) -> Option adI
 | [] => none
 | p :: r => if k = p.1 then some p.2 else GY k r
def Sz {κ : Type} [DecidableEq κ] (k : κ) (v : adI) : List (κ × adI) -> List (κ × adI)
 | [] => [(k, v)]
 | p :: r => if k = p.1 then (k, v) :: r else p :: Sz k v r
theorem Wg {κ : Type} [DecidableEq κ] {k : κ} {v : adI} {l : List (κ × adI)} {p : κ × adI} (h : p ∈ Sz k v l) : p = (k, v) ∨ p ∈ l := by
 induction l with
 | nil => simp [Sz] at h; exact .inl h
 | cons q r ih =>
   simp only [Sz] at h
   split at h
   .rcases aaE.1 h with h | h
    .exact .inl h
    .exact .inr (ZV _ h)
   .rcases aaE.1 h with h | h
    .exact .inr (h ▸ aaU)
    .rcases ih h with h | h
     .exact .inl h
     .exact .inr (ZV _ h)
def Grown (es : Array MapEntry) (clock : Nat) : Prop := (es.toList.map (·.born)).Pairwise (· < ·) /\ ∀ e ∈ es.toList, e.born < clock
def Mp {κ : Type} (w : adH) (m : Nat) (enc : κ -> adI) (l : List (κ × adI)) : Prop :=
 ∃ es clock, w.heap[m]? = some (.map es clock) /\ es.toList.map (fun e => (e.key, e.val)) = l.map (fun p => (enc p.1, p.2)) /\ Grown es clock /\ (l.map (·.1)).Nodup
theorem Se {es : Array MapEntry} {c : Nat} (h : Grown es c) (k v : adI) : Grown (es.push ⟨k, v, c⟩) (c + 1) := by
 obtain ⟨h1, h2⟩ := h
 refine ⟨?_, ?_⟩
 .rw [Array.toList_push, aaP, List.pairwise_append]
  refine ⟨h1, by simp, fun a ha b hb => ?_⟩
  simp at hb
  subst hb
  obtain ⟨e, he, rfl⟩ := aaK.1 ha
  exact h2 e he
 .intro e he
  rw [Array.toList_push] at he
  rcases abA.1 he with he | he
  .have := h2 e he; omega
  .simp at he; subst he; exact Nat.lt_succ_self c
theorem R9 {es es' : Array MapEntry} {c : Nat} (h : Grown es c) (he : es'.toList.map (·.born) = es.toList.map (·.born)) : Grown es' c := by
 refine ⟨by rw [he]; exact h.1, fun e h' => ?_⟩
 have : e.born ∈ es'.toList.map (·.born) := aaK.2 ⟨e, h', rfl⟩
 rw [he] at this
 obtain ⟨x, hx, hxe⟩ := aaK.1 this
 rw [<- hxe]; exact h.2 x hx
theorem Ru {κ : Type} [DecidableEq κ] {k : κ} {v : adI} : ∀ {l : List (κ × adI)}, (l.map (·.1)).Nodup -> ((Sz k v l).map (·.1)).Nodup
 | [], _ => by simp [Sz]
 | p :: r, h => by
   simp only [Sz]
   have h' := h
   rw [ZT, abO] at h
   split
   .rename_i e
    rw [ZT, abO]
    exact ⟨fun hm => h.1 (e ▸ hm), h.2⟩
   .rename_i e
    rw [ZT, abO]
    refine ⟨fun hm => ?_, Ru h.2⟩
    obtain ⟨q, hq, hqe⟩ := aaK.1 hm
    rcases Wg hq with h1 | h1
    .rw [h1] at hqe; exact e hqe
    .exact h.1 (aaK.2 ⟨q, h1, hqe⟩)
theorem Mp.lt {κ : Type} {m : Nat} {enc : κ -> adI} {l : List (κ × adI)} (h : Mp w m enc l) : m < w.heap.size := by
 obtain ⟨es, c, h, _⟩ := h
 rcases aaN m w.heap.size with h' | h'
 .exact h'
 .rw [Z8 h'] at h; cases h
theorem Mp.ext {κ : Type} {w w' : adH} {m : Nat} {enc : κ -> adI} {l : List (κ × adI)} {M : Nat -> Prop} (h : Mp w m enc l) (hx : gT w w' M) (hM : ¬ M m) : Mp w' m enc l := by
 have := h.lt
 obtain ⟨es, c, h, k⟩ := h
 exact ⟨es, c, by rw [hx.keep m this hM]; exact h, k⟩
theorem Mp.dr {κ : Type} {w : adH} {m : Nat} {enc : κ -> adI} {l : List (κ × adI)} (h : Mp w m enc l) : Mp (dr w) m enc l := h
def Fg {κ : Type} [DecidableEq κ] (k : κ) : List (κ × adI) -> Nat -> Option (Nat × adI)
 | [], _ => none
 | p :: r, i => if k = p.1 then some (i, p.2) else Fg k r (i + 1)
theorem Nr {κ : Type} [DecidableEq κ] (k : κ) : ∀ (l : List (κ × adI)) (i : Nat), (Fg k l i).map (·.2) = GY k l := by
 intro l
 induction l with
 | nil => intro i; rfl
 | cons p r ih => intro i; simp only [Fg, GY]; split <;> simp [ih]
variable {κ : Type} [DecidableEq κ] {enc : κ -> adI}
theorem wV {r : Nat} {es : Array MapEntry} {c : Nat} (hb : w.heap[r]? = some (.map es c)) : (getObj r).run P w = .ok (.map es c) w := by simp [getObj, Sem.run, hb]
theorem Gb {r : Nat} {es : Array MapEntry} {c : Nat} (o : Obj) (hb : w.heap[r]? = some (.map es c)) : (setObj r o).run P w = .ok () { w with heap := w.heap.setIfInBounds r o } := by simp [setObj, Sem.run, hb]
theorem Nx (K : Of P t enc) (k : κ) : ∀ (es : List MapEntry) (l : List (κ × adI)) (i : Nat), es.map (fun e => (e.key, e.val)) = l.map (fun p => (enc p.1, p.2)) →
 (Instr.findAsking t (enc k) es i).run P w = .ok (Fg k l i) w := by
 intro es
 induction es with
 | nil => intro l i h; cases l with
   | nil => rfl
   | cons p r => simp at h
 | cons x es ih =>
   intro l i h
   cases l with
   | nil => simp at h
   | cons p r =>
     simp only [ZT, adE, acI] at h
     obtain ⟨⟨h1, h2⟩, h3⟩ := h
     simp only [Instr.findAsking, Sem.run_bind, h1, K.eq, Result.andThen_ok, Fg]
     by_cases hx : k = p.1
     .simp [hx, h2]
     .simp only [hx, decide_false, ZF, if_false]
      exact ih r (i + 1) h3
theorem PT {d : TypeDesc} (hn : ∀ a b, Instr.sameNow d (enc a) (enc b) = none ∨ Instr.sameNow d (enc a) (enc b) = some (decide (a = b))) (k : κ) : ∀ (es : List MapEntry) (l : List (κ × adI)) (i : Nat) (r : Option (Nat × adI)), es.map (fun e => (e.key, e.val)) = l.map (fun p => (enc p.1, p.2)) →
 Instr.findNow d (enc k) es i = some r -> r = Fg k l i := by
 intro es
 induction es with
 | nil => intro l i r h hr; cases l with
   | nil => simp [Instr.findNow] at hr; exact hr.symm
   | cons p r => simp at h
 | cons x es ih =>
   intro l i r h hr
   cases l with
   | nil => simp at h
   | cons p q =>
     simp only [ZT, adE, acI] at h
     obtain ⟨⟨h1, h2⟩, h3⟩ := h
     simp only [Instr.findNow, h1] at hr
     rcases hn k p.1 with hh | hh
     .rw [hh] at hr; cases hr
     .rw [hh] at hr
      simp only [Fg]
      by_cases hx : k = p.1
      .simp only [hx, decide_true, aaA] at hr
       rw [if_pos hx, <- hr, h2]
      .simp only [hx, decide_false] at hr
       rw [if_neg hx]
       exact ih q (i + 1) r h3 hr
theorem Eh (K : Of P t enc) (k : κ) (es : List MapEntry) (l : List (κ × adI)) (h : es.map (fun e => (e.key, e.val)) = l.map (fun p => (enc p.1, p.2))) :
 (Instr.findKey t (enc k) es).run P w = .ok (Fg k l 0) w := by
 obtain ⟨d, hd, hn⟩ := K.now
 unfold Instr.findKey
 simp only [underlying, Sem.run_bind, run_program, Result.andThen_ok, hd, Sem.run_pure]
 cases hr : Instr.findNow d (enc k) es 0 with
 | none => exact Nx K k es l 0 h
 | some r => rw [PT hn k es l 0 r h hr] <;> rfl
theorem XF {kt et : TypeId} {i : TypeInfo} {z : adI} (hu : P.underlying t = some (.map kt et)) (hi : P.info? et = some i) (hz : i.zero = some z) (K : Of P kt enc) {m : Nat} {l : List (κ × adI)} (hm : Mp w m enc l) (k : κ) :
 (yN t (.map (some m)) (enc k) true).run P w = .ok (.value (.tuple #[(GY k l).getD z, .bool (GY k l).isSome])) w := by
 obtain ⟨es, c, hb, he, _⟩ := hm
 unfold yN; rw [mY]
 unfold Instr.lookup
 simp only [underlying, Sem.run_bind, run_program, Result.andThen_ok, hu, Sem.run_pure, wV hb, K.chk, Eh K k es.toList l he, <- Nr k l 0]
 cases Fg k l 0 with
 | none => simp [zeroValue, typeInfo, hi, hz]
 | some p => simp
omit [DecidableEq κ] in
theorem Ug {K : adI -> adH -> Prop} (enc : κ -> adI) (hk : ∀ w', Mp w' w.heap.size enc ([] : List (κ × adI)) -> gT w w' jI -> w'.heap.size = w.heap.size + 1 -> K (.map (some w.heap.size)) w') : eY P (LL t none) w K := by
 have : (LL t none).run P w = .ok (.value (.map (some w.heap.size))) (w.alloc (.map #[] 0)) := by
  unfold LL; rw [mY]
  simp [Instr.makeMap]
 unfold eY
 rw [this]
 exact hk _ ⟨#[], 0, by show (w.heap.push _)[w.heap.size]? = _; simp, rfl, ⟨by simp, by simp⟩, by simp⟩ (gT.alloc _ _ _) (by simp)
theorem Uo {kt et : TypeId} (hu : P.underlying t = some (.map kt et)) (Ke : Of P kt enc) {m : Nat} {l : List (κ × adI)} (hm : Mp w m enc l) (k : κ) (v : adI) {K : adI -> adH -> Prop}
 (hk : ∀ w', Mp w' m enc (Sz k v l) -> gT w w' (fun y => y = m) -> w'.heap.size = w.heap.size -> K undef w') : eY P (Ka t (.map (some m)) (enc k) v) w K := by
 have hlt := hm.lt
 obtain ⟨es, c, hb, he, hgr, hnd⟩ := hm
 have hext : ∀ o, gT w { w with heap := w.heap.setIfInBounds m o } (fun y => y = m) := fun o =>
  ⟨rfl, rfl, rfl, by simp, fun b hb hn => by
   show (w.heap.setIfInBounds m o)[b]? = _
   rw [Z1 (fun e => hn e.symm)]⟩
 have key : ∃ es' c', (Ka t (.map (some m)) (enc k) v).run P w = .ok .skip { w with heap := w.heap.setIfInBounds m (.map es' c') } /\ es'.toList.map (fun e => (e.key, e.val)) = ((Sz k v l).map fun p => (enc p.1, p.2)) /\ Grown es' c' := by
  have gen : ∀ (es : List MapEntry) (l : List (κ × adI)) (i : Nat), es.map (fun e => (e.key, e.val)) = l.map (fun p => (enc p.1, p.2)) →
      (Fg k l i = none -> ∀ b, (es ++ [(⟨enc k, v, b⟩ : MapEntry)]).map (fun e => (e.key, e.val)) = (Sz k v l).map fun p => (enc p.1, p.2)) /\
      (∀ j x, Fg k l i = some (j, x) -> i <= j /\ ∃ old, es[j - i]? = some old /\ old.key = enc k /\ (es.set (j - i) ({ old with key := enc k, val := v } : MapEntry)).map (fun e => (e.key, e.val)) = (Sz k v l).map fun p => (enc p.1, p.2)) := by
   intro es
   induction es with
   | nil =>
     intro l i h
     cases l with
     | nil => exact ⟨fun _ b => rfl, fun j x h => by simp [Fg] at h⟩
     | cons p r => simp at h
   | cons x es ih =>
     intro l i h
     cases l with
     | nil => simp at h
     | cons p r =>
       simp only [ZT, adE, acI] at h
       obtain ⟨⟨h1, h2⟩, h3⟩ := h
       simp only [Fg, Sz]
       by_cases hx : k = p.1
       .rw [if_pos hx, if_pos hx]
        refine ⟨fun h => by (cases h), fun j y h => ?_⟩
        cases h
        refine ⟨ZU _, x, by simp, by rw [h1, hx], ?_⟩
        simp [h3]
       .rw [if_neg hx, if_neg hx]
        obtain ⟨a, b⟩ := ih r (i + 1) h3
        refine ⟨fun h q => ?_, fun j y h => ?_⟩
        .simp only [acH, ZT, a h q, h1, h2]
        .obtain ⟨hj, old, o1, o2, o3⟩ := b j y h
         refine ⟨by omega, old, ?_, o2, ?_⟩
         .rw [show j - i = (j - (i + 1)) + 1 from by omega, ZE]; exact o1
         .rw [show j - i = (j - (i + 1)) + 1 from by omega, aaI]
          simp only [ZT, o3, h1, h2]
  obtain ⟨g1, g2⟩ := gen es.toList l 0 he
  unfold Ka
  rw [YO]
  unfold Instr.mapUpdate
  simp only [underlying, Sem.run_bind, run_program, Result.andThen_ok, hu, Sem.run_pure, wV hb, Ke.chk, Eh Ke k es.toList l he]
  cases hi : Fg k l 0 with
  | none =>
    refine ⟨es.push ⟨enc k, v, c⟩, c + 1, ?_, by simpa using g1 hi c, Se hgr _ _⟩
    simp only [Gb _ hb, Result.andThen_ok]
  | some q =>
    obtain ⟨j, x⟩ := q
    obtain ⟨_, old, o1, o2, o3⟩ := g2 j x hi
    rw [Nat.sub_zero] at o1 o3
    have o1' : es[j]? = some old := by simpa using o1
    refine ⟨es.modify j fun e => { e with key := enc k, val := v }, c, ?_, ?_, R9 hgr ?_⟩
    .simp only [o1', aaJ, aaY, o2, Instr.keyThatStays, Ke.stay, if_true, Sem.run_pure, Result.andThen_ok, Gb _ hb, Sem.run_bind]
    .have hj : j < es.toList.length := by
      rcases aaN j es.toList.length with h | h
      .exact h
      .rw [aaL h] at o1; cases o1
     rw [<- o3]
     congr 1
     apply acC
     intro y
     rw [abT, abK, List.getElem?_set]
     by_cases hy : j = y
     .subst hy
      have hj' : j < es.size := by simpa using hj
      have e1 : es[j] = old := by rw [ZX hj'] at o1'; exact aaT o1'
      simp [hj', e1]
     .simp [hy]
    .apply acC
     intro y
     rw [aaS, aaS, abT, abT, abK]
     split
     .rename_i h; subst h
      cases es[j]? <;> rfl
     .rfl
 obtain ⟨es', c', h1, h2, h3⟩ := key
 unfold eY
 rw [h1]
 refine hk _ ⟨es', c', by show (w.heap.setIfInBounds m _)[m]? = _; rw [ZZ hlt], h2, h3, Ru hnd⟩ (hext _) (by simp)
theorem I8 (hu : P.underlying t = some .string) : Of P t (fun s : ByteArray => Value.string s) := by
 have hb : ∀ a b : ByteArray, (a == b) = decide (a = b) := fun a b => by
  have h1 : (a == b) = (a.data == b.data) := rfl
  rw [h1, Bool.eq_iff_iff, beq_iff_eq, decide_eq_true_eq]
  exact ⟨fun h => by cases a; cases b; simp only at h; rw [h], fun h => h ▸ rfl⟩
 refine ⟨fun a b w => ?_, ⟨_, hu, fun a b => .inr (by simp [Instr.sameNow, hb])⟩, fun c a w => ?_, fun a => ?_⟩
 .unfold Op.equal Op.maxDepth Op.equalIn
  simp only [underlying, Sem.run_bind, run_program, Result.andThen_ok, hu, Sem.run_pure, hb]
 .unfold Instr.checkKey
  simp only [underlying, Sem.run_bind, run_program, Result.andThen_ok, hu, Sem.run_pure]
 .simp [Instr.sameBits, hb]
theorem SO {d : TypeDesc} {i : TypeInfo} (hu : P.underlying t = some d) (hd : P9 d = true) (hi : P.info? t = some i) {b off : Nat} {l : List adI} (hl : i.size = l.length) (h : ∀ j, j < l.length -> w.cell? ⟨b, off + j, none⟩ = l[j]?) :
 (gJ t (.pointer (some ⟨b, off, none⟩))).run P w = .ok (.value (.agg l.toArray)) w := by
 unfold gJ
 rw [mY]
 simp only [Instr.loadAt, Instr.sureAddr, loadVar, pure_bind, Sem.run_bind, Cy hu, hd, Result.andThen_ok, if_true, kA hi, hl, Lr h, Sem.run_pure]
end
theorem kL {w : adH} {b : Nat} {cs : List adI} (h : jF w b cs) : jF (dr w) b cs := h.ext (gT.dr w jI) (fun h => h)
theorem Sl.dr {w : adH} {v : adI} {l : List adI} (h : Sl w v l) : Sl (dr w) v l := h
theorem Sl.open {w : adH} {v : adI} {l : List UInt8} (h : Bs w v l) (h0 : 0 < l.length) : ∃ b off c, v = .slice (some ⟨b, off, none⟩) l.length c /\ l.length <= c /\ ∀ i, (h : i < l.length) -> w.cell? ⟨b, off + i, none⟩ = some (oZ l[i]) := by
 obtain ⟨a, n, c, rfl, hn, hc, h⟩ := h
 simp only [ZM] at hn
 subst hn
 obtain ⟨b, off, rfl, hh⟩ := h h0
 exact ⟨b, off, c, rfl, hc, fun i hi => by rw [hh i hi]; simp [hi]⟩
theorem Sl.len {w : adH} {v : adI} {l : List adI} (h : Sl w v l) : ∃ a c, v = .slice a l.length c /\ l.length <= c := by
 obtain ⟨a, n, c, rfl, rfl, hc, _⟩ := h
 exact ⟨a, c, rfl, hc⟩
theorem jA (v : adI) : ¬ vM v jI := by unfold vM jI; split <;> simp
theorem Sg {b o m l : Nat} (h : l ≠ m) : jO (some ⟨b, o, none⟩) m l 1 = some ⟨b, o + l, none⟩ := by
 unfold jO; rw [if_neg (fun e => h e.symm)]; simp [BM]
theorem yV {v : adI} {M N : Nat -> Prop} (h : vM v M) (hm : ∀ b, M b -> N b) : vM v N := by
 unfold vM at *
 split at h
 .exact hm _ h
 .exact h
theorem yK.len {w : adH} {b sz n : Nat} {v : adI} {l : List adI} (h : yK w b sz v n l) : ∃ a c, v = .slice a n c := by
 rcases h.2 with ⟨rfl, rfl⟩ | ⟨x, c, r, rfl, _⟩
 .exact ⟨_, _, rfl⟩
 .exact ⟨_, _, rfl⟩
theorem Sl.nil (w : adH) : Sl w (.slice none 0 0) [] := ⟨none, 0, 0, rfl, rfl, ZU _, fun h => absurd h (by simp)⟩
theorem jF.whole {w : adH} {b c : Nat} {l : List UInt8} (h : jF w b (l.map oZ)) (hc : l.length <= c) : Bs w (.slice (some ⟨b, 0, none⟩) l.length c) l :=
 h.bs hc fun i hi => by rw [ZL]; simp [hi]
theorem Sl.drop' {w : adH} {a : Option Addr} {n c : Nat} {l : List adI} (h : Sl w (.slice a n c) l) {k : Nat} (hk : k <= n) : Sl w (.slice (jO a c k 1) (n - k) (c - k)) (l.drop k) := by
 have h' := h
 obtain ⟨a', n', c', e, hn, hc, hh⟩ := h'
 cases e
 by_cases h0 : n = 0
 .exact ⟨_, _, _, rfl, by rw [ZW]; omega, by omega, fun h => by omega⟩
 .obtain ⟨b, off, rfl, _⟩ := hh (by omega)
  exact h.drop hk
theorem Sl.mid {w : adH} {a : Option Addr} {n c : Nat} {l : List adI} (h : Sl w (.slice a n c) l) {i j : Nat} (hij : i <= j) (hj : j <= n) : Sl w (.slice (jO a c i 1) (j - i) (c - i)) ((l.drop i).take (j - i)) := by
 have h' := h
 obtain ⟨a', n', c', e, hn, hc, hh⟩ := h'
 cases e
 by_cases h0 : j - i = 0
 .rw [h0]
  exact ⟨_, _, _, rfl, by simp, by omega, fun h => by omega⟩
 .obtain ⟨b, off, rfl, _⟩ := hh (by omega)
  have hd := h.drop (k := i) (by omega)
  obtain ⟨a', n', c', e, hn', hc', hh'⟩ := hd
  obtain ⟨b', off', e', h2⟩ := hh' (by have := (Value.slice.inj e).2.1; omega)
  injection e with e1 e2 e3
  subst e3
  refine ⟨_, _, _, rfl, by rw [ZY, ZW]; omega, by omega, fun _ => ⟨b', off', by rw [e1]; exact e', fun x hx => ?_⟩⟩
  rw [h2 x (by omega), abD hx]
theorem Sl.openV {w : adH} {v : adI} {l : List adI} (h : Sl w v l) (h0 : 0 < l.length) : ∃ b off c, v = .slice (some ⟨b, off, none⟩) l.length c /\ l.length <= c /\ ∀ i, (h : i < l.length) -> w.cell? ⟨b, off + i, none⟩ = some l[i] := by
 obtain ⟨a, n, c, rfl, hn, hc, h⟩ := h
 subst hn
 obtain ⟨b, off, rfl, hh⟩ := h h0
 exact ⟨b, off, c, rfl, hc, fun i hi => by rw [hh i hi]; simp [hi]⟩
theorem Sx {P : Program} {w : adH} {t e : TypeId} {k k' : IntKind} {hi mx : Int} {i : TypeInfo} (hu : P.underlying t = some (.slice e)) (hi' : P.info? e = some i) (x : Option Addr) (n c : Nat) (h0 : 0 <= hi) (h1 : hi <= mx) (h2 : mx <= c) :
 (lL t (.slice x n c) none (some (.int k hi)) (some (.int k' mx))).run P w = .ok (.value (.slice (jO x mx.toNat 0 i.size) (hi.toNat - 0) (mx.toNat - 0))) w := by
 have h3 : (0 : Int) <= mx := by omega
 have h4 : hi <= (mx.toNat : Int) := by omega
 simp only [lL, mY, Instr.sliceAt, underlying, hu, Sem.run_bind, run_program, Result.andThen_ok, Sem.run_pure, Instr.slice, Instr.sliceBounds, pure_bind, rR h3 h2, rR h0 h4, kA hi', jO]
section
variable {P : Program} {w : adH} {t e : TypeId}
variable {κ : Type} [DecidableEq κ] {enc : κ -> adI}
theorem WH {kt et : TypeId} {i : TypeInfo} {z : adI} (hu : P.underlying t = some (.map kt et)) (hi : P.info? et = some i) (hz : i.zero = some z) (K : Of P kt enc) {m : Nat} {l : List (κ × adI)} (hm : Mp w m enc l) (k : κ) :
 (yN t (.map (some m)) (enc k) false).run P w = .ok (.value ((GY k l).getD z)) w := by
 obtain ⟨es, c, hb, he, _⟩ := hm
 unfold yN; rw [mY]
 unfold Instr.lookup
 simp only [underlying, Sem.run_bind, run_program, Result.andThen_ok, hu, Sem.run_pure, wV hb, K.chk, Eh K k es.toList l he, <- Nr k l 0]
 cases Fg k l 0 with
 | none => simp [zeroValue, typeInfo, hi, hz]
 | some p => simp
def del {κ : Type} [DecidableEq κ] (k : κ) : List (κ × adI) -> List (κ × adI)
 | [] => []
 | p :: r => if k = p.1 then r else p :: del k r
theorem S8 {k : κ} : ∀ l : List (κ × adI), (del k l).Sublist l
 | [] => .slnil
 | p :: r => by
   simp only [del]
   split
   .exact List.sublist_cons_self _ _
   .exact (S8 r).cons_cons p
theorem RB {k : κ} : ∀ {es : List MapEntry} {l : List (κ × adI)} {i : Nat}, es.map (fun e => (e.key, e.val)) = l.map (fun p => (enc p.1, p.2)) →
 (Fg k l i = none -> del k l = l) /\ (∀ j x, Fg k l i = some (j, x) -> i <= j /\ (es.eraseIdx (j - i)).map (fun e => (e.key, e.val)) = (del k l).map (fun p => (enc p.1, p.2)))
 | es, [], i, h => ⟨fun _ => rfl, fun j x h => by simp [Fg] at h⟩
 | [], p :: r, i, h => by simp at h
 | x :: es, p :: r, i, h => by
   rw [ZT, ZT, adE] at h
   obtain ⟨h1, h2⟩ := h
   simp only [Fg, del]
   by_cases hk : k = p.1
   .rw [if_pos hk, if_pos hk]
    refine ⟨fun h => by (cases h), fun j y h => ?_⟩
    cases h
    exact ⟨ZU _, by simp [h2]⟩
   .rw [if_neg hk, if_neg hk]
    obtain ⟨a, b⟩ := RB (k := k) (i := i + 1) h2
    refine ⟨fun h => by rw [a h], fun j y h => ?_⟩
    obtain ⟨c, d⟩ := b j y h
    refine ⟨by omega, ?_⟩
    rw [show j - i = (j - (i + 1)) + 1 from by omega, aaW, ZT, ZT, d, h1]
theorem RU {kt et kt2 ty : TypeId} (hu : P.underlying t = some (.map kt et)) (Ke : Of P kt enc) {m : Nat} {l : List (κ × adI)} (hm : Mp w m enc l) (k : κ) {K : adI -> adH -> Prop}
 (hk : ∀ w', Mp w' m enc (del k l) -> gT w w' (fun y => y = m) -> w'.heap.size = w.heap.size -> K (.tuple #[]) w') : eY P (mS .delete #[t, kt2] ty [.map (some m), enc k]) w K := by
 have hlt := hm.lt
 obtain ⟨es, c, hb, he, hgr, hnd⟩ := hm
 have hext : ∀ o, gT w { w with heap := w.heap.setIfInBounds m o } (fun y => y = m) := fun o =>
  ⟨rfl, rfl, rfl, by simp, fun b hb hn => by
   show (w.heap.setIfInBounds m o)[b]? = _
   rw [Z1 (fun e => hn e.symm)]⟩
 have key : ∃ es', (mS .delete #[t, kt2] ty [.map (some m), enc k]).run P w = .ok (.value (.tuple #[])) { w with heap := w.heap.setIfInBounds m (.map es' c) } /\ es'.toList.map (fun e => (e.key, e.val)) = ((del k l).map fun p => (enc p.1, p.2)) /\ Grown es' c := by
  obtain ⟨g1, g2⟩ := RB (k := k) (i := 0) he
  unfold mS builtin
  simp only [Builtin.delete_, abB, ZD, ZE]
  simp only [underlying, Sem.run_bind, run_program, Result.andThen_ok, hu, Sem.run_pure, wV hb, Ke.chk, Eh Ke k es.toList l he]
  cases hi : Fg k l 0 with
  | none =>
    refine ⟨es, ?_, by rw [g1 hi]; exact he, hgr⟩
    simp only [Gb _ hb, Result.andThen_ok, Sem.run_pure, Sem.run_bind]
  | some q =>
    obtain ⟨j, x⟩ := q
    obtain ⟨_, g3⟩ := g2 j x hi
    rw [Nat.sub_zero] at g3
    have htl : (es.eraseIdxIfInBounds j).toList = es.toList.eraseIdx j := by
     simp
    refine ⟨es.eraseIdxIfInBounds j, ?_, by rw [htl]; exact g3, ?_, ?_⟩
    .simp only [Gb _ hb, Result.andThen_ok, Sem.run_pure, Sem.run_bind]
    .rw [htl]; exact hgr.1.sublist ((List.eraseIdx_sublist _ _).map _)
    .intro e he'
     rw [htl] at he'
     exact hgr.2 e ((List.eraseIdx_sublist _ _).subset he')
 obtain ⟨es', h1, h2, h3⟩ := key
 unfold eY
 rw [h1]
 exact hk _ ⟨es', c, by show (w.heap.setIfInBounds m _)[m]? = _; rw [ZZ hlt], h2, h3, hnd.sublist ((S8 l).map _)⟩ (hext _) (by simp)
theorem GR : ∀ {l : List MapEntry} {i : Nat} (hi : i < l.length), (l.map (·.born)).Pairwise (· ≠ ·) -> (l.filter fun e => decide (e.born ≠ (l[i]).born)) = l.eraseIdx i
 | [], i, hi, _ => by simp at hi
 | x :: l, 0, hi, h => by
   rw [ZT, List.pairwise_cons] at h
   rw [List.getElem_cons_zero, List.filter_cons_of_neg (by simp), List.eraseIdx_cons_zero, List.filter_eq_self]
   intro a ha
   have := h.1 a.born (aaK.2 ⟨a, ha, rfl⟩)
   simpa using fun e => this e.symm
 | x :: l, i + 1, hi, h => by
   rw [ZT, List.pairwise_cons] at h
   have hi' : i < l.length := by simpa using hi
   have := h.1 (l[i]).born (aaK.2 ⟨l[i], abR hi', rfl⟩)
   rw [List.getElem_cons_succ, List.filter_cons_of_pos (by simpa using this), aaW, GR hi' h.2]
theorem EJ {α β : Type} (f : α -> β) : ∀ (l : List α) (i : Nat), (l.eraseIdx i).map f = (l.map f).eraseIdx i
 | [], i => by simp
 | x :: l, 0 => by simp
 | x :: l, i + 1 => by rw [aaW, ZT, ZT, aaW, EJ f l i]
def Xs {κ : Type} (w : adH) (it m : Nat) (enc : κ -> adI) (rest : List (κ × adI)) : Prop :=
 ∃ es clock seen, w.heap[m]? = some (.map es clock) /\ w.heap[it]? = some (.mapIter (some m) clock seen clock) /\ Grown es clock /\
   (es.toList.filter fun e => !seen.contains e.born).map (fun e => (e.key, e.val)) = rest.map fun p => (enc p.1, p.2)
theorem Xs.ext {κ : Type} {w w' : adH} {it m : Nat} {enc : κ -> adI} {rest : List (κ × adI)} {M : Nat -> Prop} (h : Xs w it m enc rest) (hx : gT w w' M) (hm : ¬ M m) (hi : ¬ M it) : Xs w' it m enc rest := by
 obtain ⟨es, c, seen, h1, h2, h3⟩ := h
 have lt : ∀ {b : Nat} {o : Obj}, w.heap[b]? = some o -> b < w.heap.size := fun {b o} h => by
  rcases aaN b w.heap.size with h' | h'
  .exact h'
  .rw [Z8 h'] at h; cases h
 exact ⟨es, c, seen, by rw [hx.keep m (lt h1) hm]; exact h1, by rw [hx.keep it (lt h2) hi]; exact h2, h3⟩
theorem Pe : ∀ {l : List MapEntry} {e : MapEntry}, (l.map (·.born)).Pairwise (· < ·) -> e ∈ l -> l.find? (fun x => x.born == e.born) = some e
 | [], e, _, h => by simp at h
 | x :: l, e, hp, h => by
   rw [ZT, List.pairwise_cons] at hp
   rw [List.find?_cons]
   rcases aaE.1 h with rfl | h
   .simp
   .have := hp.1 e.born (aaK.2 ⟨e, h, rfl⟩)
    have hb : (x.born == e.born) = false := by simp; omega
    rw [hb]
    exact Pe hp.2 h
def Yk {κ : Type} (w : adH) (it m : Nat) (enc : κ -> adI) (p : κ × adI) : Prop :=
 ∃ es clock c0 seen e, w.heap[m]? = some (.map es clock) /\ w.heap[it]? = some (.mapIter (some m) c0 seen clock) /\ seen.back? = some e.born /\ es.find? (fun x => x.born == e.born) = some e /\ e.key = enc p.1 /\ e.val = p.2
omit [DecidableEq κ] in
theorem Yk.ext {w w' : adH} {it m : Nat} {p : κ × adI} {M : Nat -> Prop} (h : Yk w it m enc p) (hx : gT w w' M) (hm : ¬ M m) (hi : ¬ M it) : Yk w' it m enc p := by
 obtain ⟨es, c, c0, seen, e, h1, h2, h3⟩ := h
 have lt : ∀ {b : Nat} {o : Obj}, w.heap[b]? = some o -> b < w.heap.size := fun {b o} h => by
  rcases aaN b w.heap.size with h' | h'
  .exact h'
  .rw [Z8 h'] at h; cases h
 exact ⟨es, c, c0, seen, e, by rw [hx.keep m (lt h1) hm]; exact h1, by rw [hx.keep it (lt h2) hi]; exact h2, h3⟩
omit [DecidableEq κ] in
theorem Xf {it m : Nat} {p : κ × adI} (h : Yk w it m enc p) : (Sk (.pointer (some ⟨it, 0, none⟩))).run P w = .ok (.value (.tuple #[enc p.1, p.2])) w := by
 obtain ⟨es, c, c0, seen, e, h1, h2, h3, h4, h5, h6⟩ := h
 have hgi : (getObj it).run P w = .ok (.mapIter (some m) c0 seen c) w := by simp [getObj, Sem.run, h2]
 unfold Sk; rw [mY]
 simp only [Instr.entry, Sem.run_bind, hgi, Result.andThen_ok, h3, wV h1, bne_self_eq_false, ZF, if_false, h4, Sem.run_pure, h5, h6]
omit [DecidableEq κ] in
theorem Uu {kt et : TypeId} (hu : P.underlying t = some (.map kt et)) {m : Nat} {l : List (κ × adI)} (hm : Mp w m enc l) {K : adI -> adH -> Prop}
 (hk : ∀ w', Xs w' w.heap.size m enc l -> gT w w' jI -> w'.heap.size = w.heap.size + 1 -> K (.pointer (some ⟨w.heap.size, 0, none⟩)) w') : eY P (Np t (.map (some m))) w K := by
 have hlt := hm.lt
 obtain ⟨es, c, hb, he, hgr, hnd⟩ := hm
 have : (Np t (.map (some m))).run P w = .ok (.value (.pointer (some ⟨w.heap.size, 0, none⟩))) (w.alloc (.mapIter (some m) c #[] c)) := by
  unfold Np; rw [mY]
  simp only [Instr.range, underlying, Sem.run_bind, run_program, Result.andThen_ok, hu, Sem.run_pure, wV hb, run_newObj]
  rfl
 unfold eY
 rw [this]
 refine hk _ ⟨es, c, #[], ?_, ?_, hgr, ?_⟩ (gT.alloc _ _ _) (by simp)
 .show (w.heap.push _)[m]? = _
  rw [Array.getElem?_push, if_neg (by omega)]; exact hb
 .show (w.heap.push _)[w.heap.size]? = _
  simp
 .rw [<- he]
  congr 1
  rw [List.filter_eq_self]
  intro a _
  simp
omit [DecidableEq κ] in
theorem Vt {it m : Nat} {ty : TypeId} {rest : List (κ × adI)} (h : Xs w it m enc rest) (hne : it ≠ m) {K : adI -> adH -> Prop}
 (h0 : rest = [] -> K (.tuple #[.bool false]) w)
 (hk : ∀ w' (j : Nat) (hj : j < rest.length), Xs w' it m enc (rest.eraseIdx j) -> Yk w' it m enc rest[j] -> gT w w' (fun y => y = it) -> w'.heap.size = w.heap.size -> K (.tuple #[.bool true, enc rest[j].1, rest[j].2]) w') :
 eY P (Th (.pointer (some ⟨it, 0, none⟩)) false ty) w K := by
 obtain ⟨es, c, seen, hm, hi, hgr, hr⟩ := h
 have hlt : it < w.heap.size := by
  rcases aaN it w.heap.size with h' | h'
  .exact h'
  .rw [Z8 h'] at hi; cases hi
 have hgi : (getObj it).run P w = .ok (.mapIter (some m) c seen c) w := by simp [getObj, Sem.run, hi]
 have hnot : (!seen.isEmpty && !es.isEmpty && es.all fun e => decide (e.born ≥ c)) = false := by
  cases hes : es.toList with
  | nil =>
    have : es = #[] := by rw [<- Array.toArray_toList (xs := es), hes]
    subst this; simp
  | cons x r =>
    have hx : x ∈ es.toList := by rw [hes]; simp
    have := hgr.2 x hx
    have : (es.all fun e => decide (e.born ≥ c)) = false := by
     rw [Array.all_eq_false']
     exact ⟨x, by simpa using hx, by simp; omega⟩
    rw [this]; simp
 have hold : ((es.filter fun e => !seen.contains e.born).filter fun e => decide (e.born < c)) = es.filter fun e => !seen.contains e.born := by
  rw [Array.filter_eq_self]
  intro a ha
  have := hgr.2 a (by simpa using (Array.mem_filter.1 ha).1)
  simpa using this
 have hnew : ((es.filter fun e => !seen.contains e.born).filter fun e => decide (e.born ≥ c)) = #[] := by
  rw [Array.filter_eq_empty_iff]
  intro a ha
  have := hgr.2 a (by simpa using (Array.mem_filter.1 ha).1)
  simp; omega
 have hll : (es.filter fun e => !seen.contains e.born).toList = es.toList.filter fun e => !seen.contains e.born := by simp
 generalize hL : (es.filter fun e => !seen.contains e.born) = L at *
 have hlen : L.size = rest.length := by
  have := congrArg List.length hr
  rw [ZM, ZM, <- hll] at this
  simpa using this
 have hrun : (Th (.pointer (some ⟨it, 0, none⟩)) false ty).run P w = ((choose (.mapNext ((if L.isEmpty then #[none] else #[]) ++ (L ++ #[]).map some).size)).run P w).andThen fun i w =>
     ((match ((if L.isEmpty then #[none] else #[]) ++ (L ++ #[]).map some)[i]? with
       | some (some e) => do
         setObj it (.mapIter (some m) c (seen.push e.born) c)
         pure (.tuple #[.bool true, e.key, e.val])
       | some none => pure (.tuple #[.bool false])
       | none => stuck "Next: no such candidate" : Sem adI).run P w).andThen fun v w => .ok (.value v) w := by
  unfold Th; rw [mY]
  simp only [Instr.next, Sem.run_bind, hgi, Result.andThen_ok, wV hm, hnot, ZF, if_false, hL, hold, hnew]
  cases (choose (.mapNext ((if L.isEmpty then #[none] else #[]) ++ (L ++ #[]).map some).size)).run P w with
  | ok a w' => rfl
  | _ => rfl
 unfold eY
 rw [hrun]
 by_cases hz : L.size = 0
 .have hLe : L = #[] := Array.eq_empty_of_size_eq_zero hz
  subst hLe
  have hre : rest = [] := Z3.1 (by omega)
  have hf : (Question.mapNext 1).forced = true := rfl
  simp only [Array.isEmpty_empty, if_true, Array.append_empty, Array.map_empty, abP, abU, run_choose, hf]
  exact h0 hre
 .have hLe : L.isEmpty = false := by
   simp [Array.isEmpty]; intro h; subst h; simp at hz
  have hsz : ((if L.isEmpty then #[none] else #[]) ++ (L ++ #[]).map some).size = L.size := by rw [hLe]; simp
  have hat : ∀ i (h : i < L.size), ((if L.isEmpty then #[none] else #[]) ++ (L ++ #[]).map some)[i]? = some (some L[i]) := by
   intro i h; rw [hLe]; simp [h]
  obtain ⟨i, w', hi', hw', hch⟩ : ∃ i w', i < L.size /\ (w' = w ∨ w' = dr w) /\ (choose (.mapNext ((if L.isEmpty then #[none] else #[]) ++ (L ++ #[]).map some).size)).run P w = .ok i w' := by
   rw [hsz, run_choose]
   by_cases hf : (Question.mapNext L.size).forced = true
   .rw [if_pos hf]
    exact ⟨0, w, by omega, .inl rfl, rfl⟩
   .rw [if_neg hf]
    exact ⟨_, dr w, acQ _ (by omega), .inr rfl, rfl⟩
  rw [hch]
  have hi2 : w'.heap[it]? = some (.mapIter (some m) c seen c) := by rcases hw' with rfl | rfl <;> exact hi
  have hm2 : w'.heap[m]? = some (.map es c) := by rcases hw' with rfl | rfl <;> exact hm
  have hx0 : gT w w' (fun y => y = it) := by
   rcases hw' with rfl | rfl
   .exact gT.refl _ _
   .exact gT.dr _ _
  have hset : (setObj it (.mapIter (some m) c (seen.push (L[i]).born) c)).run P w' = .ok () { w' with heap := w'.heap.setIfInBounds it (.mapIter (some m) c (seen.push (L[i]).born) c) } := by simp [setObj, Sem.run, hi2]
  simp only [Result.andThen_ok, hat i hi', Sem.run_bind, hset, Sem.run_pure]
  have hri : i < rest.length := by omega
  have hkv : ((L[i]).key, (L[i]).val) = (enc rest[i].1, rest[i].2) := by
   have := congrArg (fun (x : List (adI × adI)) => x[i]?) hr
   simp only [<- hll, aaS] at this
   rw [abT, ZX hi', ZO hri] at this
   simpa using this
  obtain ⟨hk1, hk2⟩ := Prod.mk.inj hkv
  have hkk : (Value.tuple #[.bool true, L[i].key, L[i].val]) = .tuple #[.bool true, enc rest[i].1, rest[i].2] := by rw [hk1, hk2]
  rw [hkk]
  have hsize : ({ w' with heap := w'.heap.setIfInBounds it (.mapIter (some m) c (seen.push (L[i]).born) c) } : adH).heap.size = w.heap.size := by
   rcases hw' with rfl | rfl
   .simp
   .simp; rfl
  have hwlt : it < w'.heap.size := by rcases hw' with rfl | rfl <;> exact hlt
  have hwm : ({ w' with heap := w'.heap.setIfInBounds it (.mapIter (some m) c (seen.push (L[i]).born) c) } : adH).heap[m]? = some (.map es c) := by
   show (w'.heap.setIfInBounds it _)[m]? = _
   rw [Z1 hne]; exact hm2
  have hwi : ({ w' with heap := w'.heap.setIfInBounds it (.mapIter (some m) c (seen.push (L[i]).born) c) } : adH).heap[it]? = some (.mapIter (some m) c (seen.push (L[i]).born) c) := by
   show (w'.heap.setIfInBounds it _)[it]? = _
   rw [ZZ hwlt]
  have hmemL : L[i] ∈ es.toList := by
   have hm0 : L[i] ∈ es.filter fun e => !seen.contains e.born := by rw [hL]; exact Array.getElem_mem hi'
   simpa using (Array.mem_filter.1 hm0).1
  have hcur : Yk ({ w' with heap := w'.heap.setIfInBounds it (.mapIter (some m) c (seen.push (L[i]).born) c) } : adH) it m enc rest[i] :=
   ⟨es, c, c, _, L[i], hwm, hwi, by simp, by rw [<- Array.find?_toList]; exact Pe hgr.1 hmemL, hk1, hk2⟩
  refine hk _ i hri ⟨es, c, seen.push (L[i]).born, ?_, ?_, hgr, ?_⟩ hcur (hx0.seq ⟨rfl, rfl, rfl, by simp, fun b hb hn => by
   show (w'.heap.setIfInBounds it _)[b]? = _
   rw [Z1 (fun e => hn e.symm)]⟩) hsize
  .show (w'.heap.setIfInBounds it _)[m]? = _
   rw [Z1 hne]; exact hm2
  .show (w'.heap.setIfInBounds it _)[it]? = _
   rw [ZZ hwlt]
  .
   have hfil : (es.toList.filter fun e => !(seen.push (L[i]).born).contains e.born) = (es.toList.filter fun e => !seen.contains e.born).filter fun e => decide (e.born ≠ (L[i]).born) := by
    rw [List.filter_filter]
    congr 1
    funext e
    simp only [Array.contains_push]
    by_cases h : e.born = (L[i]).born
    .simp [h]
    .have h' : ¬ (L[i]).born = e.born := fun x => h x.symm
     simp [h, h']
   have hLi : L[i] = L.toList[i]'(by simpa using hi') := by simp
   rw [hfil, <- hll, hLi, GR, EJ, hll, hr, <- EJ]
   rw [hll]
   exact (hgr.1.imp (fun h => acD h)).sublist ((List.filter_sublist).map _)
end
end Go.En
namespace Go.Proofs.YteelnmpbnaohpaaDoor
open Go Go.En
set_option maxRecDepth 4000
theorem eA {ty : TypeId} (x : Option Addr) (n c : Nat) (w : adH) : (mS .len #[22] ty [.slice x n c]).run pg w = .ok (.value (.int .i64 n)) w := Mf Tryd.underlying22 x n c
theorem dW {k : IntKind} (a : Int) (w : adH) : (kP 5 3 (.int k a)).run pg w = .ok (.value (.int .i64 (IntKind.i64.wrap a))) w := BR Tryd.underlying5 Tryd.underlying3
theorem QQ : (pg).info? 28 = some Tryd.t28 := by kernel_rfl
theorem rI {w : adH} {K : adI -> adH -> Prop} (hk : ∀ w', jF w' w.heap.size [(.int .u64 0), (.int .u32 0), (.slice none 0 0)] -> gT w w' jI -> w'.heap.size = w.heap.size + 1 -> K (.pointer (some ⟨w.heap.size, 0, none⟩)) w') : eY pg (lQ 28) w K := uO (i := Tryd.t28) QQ rfl hk
theorem pU {b off : Nat} {cs : List adI} {w : adH} {xs : Array adI} {K : adI -> adH -> Prop} (ho : jF w b cs) (hs : xs.size = 3) (hv : ∀ x ∈ xs.toList, one x = true) (h : off + 3 <= cs.length) (hk : ∀ w', jF w' b (mZ cs off xs.toList) -> gT w w' (fun x => x = b) -> w'.heap.size = w.heap.size -> K undef w') : eY pg (iB 28 (.pointer (some ⟨b, off, none⟩)) (.agg xs)) w K := Cu (v := .agg xs) QQ ho hs hv h hk
theorem pZ {b off : Nat} {cs : List adI} {w : adH} (ho : jF w b cs) (h : off + 3 <= cs.length) : (gJ 28 (.pointer (some ⟨b, off, none⟩))).run pg w = .ok (.value (.agg ((cs.drop off).take 3).toArray)) w := Gj Tryd.underlying28 rfl QQ ho h
theorem Xh : (pg).info? 26 = some Tryd.t26 := by kernel_rfl
theorem aB (b o : Nat) (w : adH) : (gK 28 (.pointer (some ⟨b, o, none⟩)) 2).run pg w = .ok (.value (.pointer (some ⟨b, o + 2, none⟩))) w := kI (i := 2) Tryd.underlying28 rfl Xh (by decide) _
theorem dI (x : Addr) (w : adH) : (gJ 26 (.pointer (some x))).run pg w = Oc (w.cell? x) w (OQ pg 26 x w) := Jf Tryd.underlying26 rfl x w
theorem dH {ty : TypeId} (x : Option Addr) (n c : Nat) (w : adH) : (mS .len #[26] ty [.slice x n c]).run pg w = .ok (.value (.int .i64 n)) w := Mf Tryd.underlying26 x n c
theorem Ie : (pg).info? 5 = some Tryd.t5 := by kernel_rfl
theorem cG {k k' : IntKind} {lo hi : Int} (a : Option Addr) (n c : Nat) (w : adH) (h0 : 0 <= lo) (h1 : lo <= hi) (h2 : hi <= c) : (lL 22 (.slice a n c) (some (.int k lo)) (some (.int k' hi)) none).run pg w = .ok (.value (.slice (jO a c (lo.toNat) 1) (hi.toNat - lo.toNat) (c - lo.toNat))) w := PL Tryd.underlying22 Ie _ n c h0 h1 h2
theorem jN {l : List UInt8} {v : adI} {w : adH} (h : Bs w v l) : (kP 22 9 v).run pg w = .ok (.value (.string ⟨l.toArray⟩)) w := UD Tryd.underlying22 Tryd.underlying9 Tryd.underlying5 h
theorem R1 : (pg).info? 4 = some Tryd.t4 := by kernel_rfl
theorem NG {k : IntKind} {n : Int} {w : adH} {K : adI -> adH -> Prop} (h0 : 0 <= n) (hn : 1 * n <= 2 ^ 48) (hk : ∀ w', jF w' w.heap.size (List.replicate n.toNat (.bool false)) -> gT w w' jI -> w'.heap.size = w.heap.size + 1 -> K (.slice (some ⟨w.heap.size, 0, none⟩) n.toNat n.toNat) w') : eY pg (vT 45 (.int k n) (.int k n)) w K := Rm (i := Tryd.t4) Tryd.underlying45 R1 rfl rfl rfl h0 hn (by omega) hk
theorem eB {k : IntKind} {a : Int} (b o n c : Nat) (w : adH) (h0 : 0 <= a) (h1 : a < n) : (iF 22 (.slice (some ⟨b, o, none⟩) n c) (.int k a)).run pg w = .ok (.value (.pointer (some ⟨b, o + a.toNat, none⟩))) w := Mb rfl Tryd.underlying22 Ie b o n c h0 h1
theorem eS (x : Addr) (w : adH) : (gJ 5 (.pointer (some x))).run pg w = Oc (w.cell? x) w (OQ pg 5 x w) := Jf Tryd.underlying5 rfl x w
theorem eC {k : IntKind} {a : Int} (b o n c : Nat) (w : adH) (h0 : 0 <= a) (h1 : a < n) : (iF 45 (.slice (some ⟨b, o, none⟩) n c) (.int k a)).run pg w = .ok (.value (.pointer (some ⟨b, o + a.toNat, none⟩))) w := Mb rfl Tryd.underlying45 R1 b o n c h0 h1
theorem Gw {b off : Nat} {cs : List adI} {w : adH} {v : adI} {K : adI -> adH -> Prop} (ho : jF w b cs) (hv : one v = true) (h : off < cs.length) (hk : ∀ w', jF w' b (cs.set off v) -> gT w w' (fun x => x = b) -> w'.heap.size = w.heap.size -> K undef w') : eY pg (iB 4 (.pointer (some ⟨b, off, none⟩)) v) w K := nP R1 rfl ho hv h hk
theorem dO {k : IntKind} (a : Int) (w : adH) : (kP 44 3 (.int k a)).run pg w = .ok (.value (.int .i64 (IntKind.i64.wrap a))) w := BR Tryd.underlying44 Tryd.underlying3
theorem Vf {b off : Nat} {cs : List adI} {w : adH} {v : adI} {K : adI -> adH -> Prop} (ho : jF w b cs) (hv : one v = true) (h : off < cs.length) (hk : ∀ w', jF w' b (cs.set off v) -> gT w w' (fun x => x = b) -> w'.heap.size = w.heap.size -> K undef w') : eY pg (iB 5 (.pointer (some ⟨b, off, none⟩)) v) w K := nP Ie rfl ho hv h hk
theorem eD {ty : TypeId} (x : Option Addr) (n c : Nat) (w : adH) : (mS .len #[45] ty [.slice x n c]).run pg w = .ok (.value (.int .i64 n)) w := Mf Tryd.underlying45 x n c
theorem fA (x : Addr) (w : adH) : (gJ 4 (.pointer (some x))).run pg w = Oc (w.cell? x) w (OQ pg 4 x w) := Jf Tryd.underlying4 rfl x w
theorem Lu : (pg).info? 49 = some Tryd.t49 := by kernel_rfl
theorem dL {k : IntKind} {a : Int} (b o n c : Nat) (w : adH) (h0 : 0 <= a) (h1 : a < n) : (iF 26 (.slice (some ⟨b, o, none⟩) n c) (.int k a)).run pg w = .ok (.value (.pointer (some ⟨b, o + a.toNat * 32, none⟩))) w := LM rfl Tryd.underlying26 Lu b o n c h0 h1
theorem QT {b off : Nat} {l : List adI} {w : adH} (hl : l.length = 32) (h : ∀ j, j < l.length -> w.cell? ⟨b, off + j, none⟩ = l[j]?) : (gJ 49 (.pointer (some ⟨b, off, none⟩))).run pg w = .ok (.value (.agg l.toArray)) w := SO Tryd.underlying49 rfl Lu hl.symm h
theorem QJ {b off : Nat} {cs : List adI} {w : adH} (ho : jF w b cs) (h : off + 32 <= cs.length) : (gJ 49 (.pointer (some ⟨b, off, none⟩))).run pg w = .ok (.value (.agg ((cs.drop off).take 32).toArray)) w := Gj Tryd.underlying49 rfl Lu ho h
theorem eN {ox oy : Operand} (c d : Bool) (w : adH) : (gO .neq 4 ox oy (.bool c) (.bool d)).run pg w = .ok (.value (.bool (!(c == d)))) w := X3 c d Tryd.underlying4
theorem bQ {ox oy : Operand} (x : Option Addr) (w : adH) : (gO .eql 35 ox oy (.pointer x) (.pointer none)).run pg w = .ok (.value (.bool x.isNone)) w := J1 Tryd.underlying35 x
theorem Ee {n : Nat} {ps : List (Nat × adI)} {cells : Array adI} {w : adH} (h1 : ¬ n * 1 > 2 ^ 24) (h0 : ¬ n * 1 = 0) (hf : Go.Instr.fill (fun j => some (j * 1, 1)) ((Array.range (n * 1)).map ((Tryd.t5.zero.get!).cells[· % (Tryd.t5.zero.get!).cells.size]!)) ps = some cells) {K : adI -> adH -> Prop} (hk : ∀ w', jF w' w.heap.size cells.toList -> gT w w' jI -> w'.heap.size = w.heap.size + 1 -> K (.slice (some ⟨w.heap.size, 0, none⟩) n n) w') : eY pg (iC 22 n ps) w K := Du (i := Tryd.t5) Tryd.underlying22 Ie rfl h1 h0 hf hk
theorem Ql {b off n c : Nat} {cs : List adI} {w : adH} (ho : jF w b cs) {K : adI -> adH -> Prop} (hk : ∀ w', jF w' b cs -> gT w w' (fun y => y = b) -> w'.heap.size = w.heap.size -> K (.slice (some ⟨b, off, none⟩) n c) w') : eY pg (kP 22 22 (.slice (some ⟨b, off, none⟩) n c)) w K := WN Tryd.underlying22 Tryd.underlying5 ho hk
theorem Jt {b off : Nat} {cs : List adI} {w : adH} (ho : jF w b cs) (h : off + 3 <= cs.length) {K : adI -> Prop} (hk : K (.agg ((cs.drop off).take 3).toArray)) : Uw pg 28 (.pointer (some ⟨b, off, none⟩)) w K := PK Tryd.underlying28 rfl QQ ho h hk
theorem dG {k : IntKind} (a : Int) (w : adH) : (kP 3 24 (.int k a)).run pg w = .ok (.value (.int .u64 (IntKind.u64.wrap a))) w := BR Tryd.underlying3 Tryd.underlying24
theorem bG  (w : adH) : (lK 28 []).run pg w = .ok (.value (.agg #[(.int .u64 0), (.int .u32 0), (.slice none 0 0)])) w := by kernel_rfl
theorem dN {k : IntKind} (a : Int) (w : adH) : (kP 3 25 (.int k a)).run pg w = .ok (.value (.int .u32 (IntKind.u32.wrap a))) w := BR Tryd.underlying3 Tryd.underlying25
theorem aK (n0 : Int) (n1 : Int) (w : adH) : (lK 28 [(0, (.int .u64 n0)), (1, (.int .u32 n1))]).run pg w = .ok (.value (.agg #[(.int .u64 n0), (.int .u32 n1), (.slice none 0 0)])) w := by kernel_rfl
theorem PD : (pg).info? 24 = some Tryd.t24 := by kernel_rfl
theorem aG (b o : Nat) (w : adH) : (gK 28 (.pointer (some ⟨b, o, none⟩)) 0).run pg w = .ok (.value (.pointer (some ⟨b, o, none⟩))) w := kI (i := 0) Tryd.underlying28 rfl PD (by decide) _
theorem eJ (x : Addr) (w : adH) : (gJ 24 (.pointer (some x))).run pg w = Oc (w.cell? x) w (OQ pg 24 x w) := Jf Tryd.underlying24 rfl x w
theorem OF {n : Nat} {ps : List (Nat × adI)} {cells : Array adI} {w : adH} (h1 : ¬ n * 32 > 2 ^ 24) (h0 : ¬ n * 32 = 0) (hf : Go.Instr.fill (fun j => some (j * 32, 32)) ((Array.range (n * 32)).map ((Tryd.t49.zero.get!).cells[· % (Tryd.t49.zero.get!).cells.size]!)) ps = some cells) {K : adI -> adH -> Prop} (hk : ∀ w', jF w' w.heap.size cells.toList -> gT w w' jI -> w'.heap.size = w.heap.size + 1 -> K (.slice (some ⟨w.heap.size, 0, none⟩) n n) w') : eY pg (iC 26 n ps) w K := Du (i := Tryd.t49) Tryd.underlying26 Lu rfl h1 h0 hf hk
theorem vW {base n m : Nat} {ty : TypeId} {w : adH} {v x : adI} {l news : List adI} (h : yK w base 32 v n l) (hx : Cl w 32 x m news) (hone : ∀ y ∈ news, one y = true) (hb : base <= w.heap.size) (hbytes : (n + m) * 32 <= 140737488355328) {K : adI -> adH -> Prop} (hk : ∀ v' w', yK w' base 32 v' (n + m) (l ++ news) -> gT w w' (fun y => base <= y) -> K v' w') : eY pg (mS .append #[26, 26] ty [v, x]) w K := Kj (i := Tryd.t49) Tryd.underlying26 Tryd.underlying26 Lu rfl rfl rfl h hx hone hb (by omega) hbytes (by decide) hk
theorem JD {b off : Nat} {cs : List adI} {w : adH} {v : adI} {K : adI -> adH -> Prop} (ho : jF w b cs) (hv : one v = true) (h : off < cs.length) (hk : ∀ w', jF w' b (cs.set off v) -> gT w w' (fun x => x = b) -> w'.heap.size = w.heap.size -> K undef w') : eY pg (iB 26 (.pointer (some ⟨b, off, none⟩)) v) w K := nP Xh rfl ho hv h hk
theorem JN {w : adH} {K : adI -> adH -> Prop} (hk : ∀ w', Mp w' w.heap.size (fun s : ByteArray => Value.string s) ([] : List (ByteArray × adI)) -> gT w w' jI -> w'.heap.size = w.heap.size + 1 -> K (.map (some w.heap.size)) w') : eY pg (LL 61 none) w K := Ug _ hk
theorem aY (n0 : Int) (m1 : Option Nat) (m2 : Option Nat) (n3 : Int) (w : adH) : (lK 64 [(0, (.int .i64 n0)), (1, (.map m1)), (2, (.map m2)), (4, (.int .i64 n3))]).run pg w = .ok (.value (.agg #[(.int .i64 n0), (.map m1), (.map m2), (.slice none 0 0), (.int .i64 n3), (.bool false)])) w := by kernel_rfl
theorem cA {ox oy : Operand} (x : Option Addr) (w : adH) : (gO .eql 32 ox oy (.pointer x) (.pointer none)).run pg w = .ok (.value (.bool x.isNone)) w := J1 Tryd.underlying32 x
theorem eK {ty : TypeId} (x : ByteArray) (w : adH) : (mS .len #[9] ty [.string x]).run pg w = .ok (.value (.int .i64 x.size)) w := XG Tryd.underlying9 x
theorem Lq : (pg).info? 25 = some Tryd.t25 := by kernel_rfl
theorem aD (b o : Nat) (w : adH) : (gK 28 (.pointer (some ⟨b, o, none⟩)) 1).run pg w = .ok (.value (.pointer (some ⟨b, o + 1, none⟩))) w := kI (i := 1) Tryd.underlying28 rfl Lq (by decide) _
theorem eM (x : Addr) (w : adH) : (gJ 25 (.pointer (some x))).run pg w = Oc (w.cell? x) w (OQ pg 25 x w) := Jf Tryd.underlying25 rfl x w
theorem dM {k : IntKind} (a : Int) (w : adH) : (kP 25 3 (.int k a)).run pg w = .ok (.value (.int .i64 (IntKind.i64.wrap a))) w := BR Tryd.underlying25 Tryd.underlying3
theorem aS (p0 : Option Addr) (s1 : ByteArray) (YW YG YX : adI) (w : adH) : (lK 67 [(0, (.pointer p0)), (1, (.string s1)), (2, (.agg #[YW, YG, YX]))]).run pg w = .ok (.value (.agg #[(.pointer p0), (.string s1), YW, YG, YX, (.int .u64 0), (.slice none 0 0), (.int .i64 0), (.bool false), (.int .i64 0)])) w := by kernel_rfl
theorem Xo : (pg).info? 45 = some Tryd.t45 := by kernel_rfl
theorem bJ (b o : Nat) (w : adH) : (gK 67 (.pointer (some ⟨b, o, none⟩)) 4).run pg w = .ok (.value (.pointer (some ⟨b, o + 6, none⟩))) w := kI (i := 4) Tryd.underlying67 rfl Xo (by decide) _
theorem Kf {b off : Nat} {cs : List adI} {w : adH} {v : adI} {K : adI -> adH -> Prop} (ho : jF w b cs) (hv : one v = true) (h : off < cs.length) (hk : ∀ w', jF w' b (cs.set off v) -> gT w w' (fun x => x = b) -> w'.heap.size = w.heap.size -> K undef w') : eY pg (iB 45 (.pointer (some ⟨b, off, none⟩)) v) w K := nP Xo rfl ho hv h hk
theorem eE (x : Addr) (w : adH) : (gJ 45 (.pointer (some x))).run pg w = Oc (w.cell? x) w (OQ pg 45 x w) := Jf Tryd.underlying45 rfl x w
theorem bH (b o : Nat) (w : adH) : (gK 67 (.pointer (some ⟨b, o, none⟩)) 6).run pg w = .ok (.value (.pointer (some ⟨b, o + 8, none⟩))) w := kI (i := 6) Tryd.underlying67 rfl R1 (by decide) _
theorem bF {ty : TypeId} (x : Option Addr) (n c : Nat) (w : adH) : (mS .len #[72] ty [.slice x n c]).run pg w = .ok (.value (.int .i64 n)) w := Mf Tryd.underlying72 x n c
theorem NI : (pg).info? 77 = some Tryd.t77 := by kernel_rfl
theorem bC {k : IntKind} {a : Int} (b o n c : Nat) (w : adH) (h0 : 0 <= a) (h1 : a < n) : (iF 72 (.slice (some ⟨b, o, none⟩) n c) (.int k a)).run pg w = .ok (.value (.pointer (some ⟨b, o + a.toNat * 2, none⟩))) w := LM rfl Tryd.underlying72 NI b o n c h0 h1
theorem Ly {b off : Nat} {l : List adI} {w : adH} (hl : l.length = 2) (h : ∀ j, j < l.length -> w.cell? ⟨b, off + j, none⟩ = l[j]?) : (gJ 77 (.pointer (some ⟨b, off, none⟩))).run pg w = .ok (.value (.agg l.toArray)) w := SO Tryd.underlying77 rfl NI hl.symm h
theorem tB {b off : Nat} {cs : List adI} {w : adH} (ho : jF w b cs) (h : off + 2 <= cs.length) : (gJ 77 (.pointer (some ⟨b, off, none⟩))).run pg w = .ok (.value (.agg ((cs.drop off).take 2).toArray)) w := Gj Tryd.underlying77 rfl NI ho h
theorem A5 {w : adH} {K : adI -> adH -> Prop} (hk : ∀ w', jF w' w.heap.size [(.int .u8 0), (.int .u64 0)] -> gT w w' jI -> w'.heap.size = w.heap.size + 1 -> K (.pointer (some ⟨w.heap.size, 0, none⟩)) w') : eY pg (lQ 77) w K := uO (i := Tryd.t77) NI rfl hk
theorem Ah {b off : Nat} {cs : List adI} {w : adH} {xs : Array adI} {K : adI -> adH -> Prop} (ho : jF w b cs) (hs : xs.size = 2) (hv : ∀ x ∈ xs.toList, one x = true) (h : off + 2 <= cs.length) (hk : ∀ w', jF w' b (mZ cs off xs.toList) -> gT w w' (fun x => x = b) -> w'.heap.size = w.heap.size -> K undef w') : eY pg (iB 77 (.pointer (some ⟨b, off, none⟩)) (.agg xs)) w K := Cu (v := .agg xs) NI ho hs hv h hk
theorem aP (b o : Nat) (w : adH) : (gK 77 (.pointer (some ⟨b, o, none⟩)) 0).run pg w = .ok (.value (.pointer (some ⟨b, o, none⟩))) w := kI (i := 0) Tryd.underlying77 rfl Ie (by decide) _
theorem aM (b o : Nat) (w : adH) : (gK 77 (.pointer (some ⟨b, o, none⟩)) 1).run pg w = .ok (.value (.pointer (some ⟨b, o + 1, none⟩))) w := kI (i := 1) Tryd.underlying77 rfl PD (by decide) _
theorem cB (x : Addr) (w : adH) : (gJ 35 (.pointer (some x))).run pg w = Oc (w.cell? x) w (OQ pg 35 x w) := Jf Tryd.underlying35 rfl x w
theorem fF (x : Addr) (w : adH) : (gJ 3 (.pointer (some x))).run pg w = Oc (w.cell? x) w (OQ pg 3 x w) := Jf Tryd.underlying3 rfl x w
theorem dY (x : Addr) (w : adH) : (gJ 22 (.pointer (some x))).run pg w = Oc (w.cell? x) w (OQ pg 22 x w) := Jf Tryd.underlying22 rfl x w
theorem bZ (b o : Nat) (w : adH) : (gK 67 (.pointer (some ⟨b, o, none⟩)) 2).run pg w = .ok (.value (.pointer (some ⟨b, o + 2, none⟩))) w := kI (i := 2) Tryd.underlying67 rfl QQ (by decide) _
theorem PC {w : adH} {K : adI -> adH -> Prop} (hk : ∀ w', jF w' w.heap.size [(.int .u64 0)] -> gT w w' jI -> w'.heap.size = w.heap.size + 1 -> K (.pointer (some ⟨w.heap.size, 0, none⟩)) w') : eY pg (lQ 24) w K := uO (i := Tryd.t24) PD rfl hk
theorem I4 {b off : Nat} {cs : List adI} {w : adH} {v : adI} {K : adI -> adH -> Prop} (ho : jF w b cs) (hv : one v = true) (h : off < cs.length) (hk : ∀ w', jF w' b (cs.set off v) -> gT w w' (fun x => x = b) -> w'.heap.size = w.heap.size -> K undef w') : eY pg (iB 24 (.pointer (some ⟨b, off, none⟩)) v) w K := nP PD rfl ho hv h hk
theorem YP : (pg).info? 32 = some Tryd.t32 := by kernel_rfl
theorem cH (b o : Nat) (w : adH) : (gK 67 (.pointer (some ⟨b, o, none⟩)) 0).run pg w = .ok (.value (.pointer (some ⟨b, o, none⟩))) w := kI (i := 0) Tryd.underlying67 rfl YP (by decide) _
theorem dB (x : Addr) (w : adH) : (gJ 32 (.pointer (some x))).run pg w = Oc (w.cell? x) w (OQ pg 32 x w) := Jf Tryd.underlying32 rfl x w
theorem Xy : (pg).info? 39 = some Tryd.t39 := by kernel_rfl
theorem zK {n : Nat} {ps : List (Nat × adI)} {cells : Array adI} {w : adH} (h1 : ¬ n * 1 > 2 ^ 24) (h0 : ¬ n * 1 = 0) (hf : Go.Instr.fill (fun j => some (j * 1, 1)) ((Array.range (n * 1)).map ((Tryd.t39.zero.get!).cells[· % (Tryd.t39.zero.get!).cells.size]!)) ps = some cells) {K : adI -> adH -> Prop} (hk : ∀ w', jF w' w.heap.size cells.toList -> gT w w' jI -> w'.heap.size = w.heap.size + 1 -> K (.slice (some ⟨w.heap.size, 0, none⟩) n n) w') : eY pg (iC 98 n ps) w K := Du (i := Tryd.t39) Tryd.underlying98 Xy rfl h1 h0 hf hk
theorem UW : (pg).info? 29 = some Tryd.t29 := by kernel_rfl
theorem cD (b o : Nat) (w : adH) : (gK 67 (.pointer (some ⟨b, o, none⟩)) 7).run pg w = .ok (.value (.pointer (some ⟨b, o + 9, none⟩))) w := kI (i := 7) Tryd.underlying67 rfl UW (by decide) _
theorem Co {b off : Nat} {cs : List adI} {w : adH} {v : adI} {K : adI -> adH -> Prop} (ho : jF w b cs) (hv : one v = true) (h : off < cs.length) (hk : ∀ w', jF w' b (cs.set off v) -> gT w w' (fun x => x = b) -> w'.heap.size = w.heap.size -> K undef w') : eY pg (iB 29 (.pointer (some ⟨b, off, none⟩)) v) w K := nP UW rfl ho hv h hk
theorem dT (x : Addr) (w : adH) : (gJ 29 (.pointer (some x))).run pg w = Oc (w.cell? x) w (OQ pg 29 x w) := Jf Tryd.underlying29 rfl x w
theorem Ye : (pg).info? 9 = some Tryd.t9 := by kernel_rfl
theorem bE (b o : Nat) (w : adH) : (gK 67 (.pointer (some ⟨b, o, none⟩)) 1).run pg w = .ok (.value (.pointer (some ⟨b, o + 1, none⟩))) w := kI (i := 1) Tryd.underlying67 rfl Ye (by decide) _
theorem eI (x : Addr) (w : adH) : (gJ 9 (.pointer (some x))).run pg w = Oc (w.cell? x) w (OQ pg 9 x w) := Jf Tryd.underlying9 rfl x w
theorem Vc : (pg).info? 61 = some Tryd.t61 := by kernel_rfl
theorem bY (b o : Nat) (w : adH) : (gK 64 (.pointer (some ⟨b, o, none⟩)) 2).run pg w = .ok (.value (.pointer (some ⟨b, o + 2, none⟩))) w := kI (i := 2) Tryd.underlying64 rfl Vc (by decide) _
theorem dF (x : Addr) (w : adH) : (gJ 61 (.pointer (some x))).run pg w = Oc (w.cell? x) w (OQ pg 61 x w) := Jf Tryd.underlying61 rfl x w
theorem Pb : (pg).info? 22 = some Tryd.t22 := by kernel_rfl
theorem A7 {w : adH} {m : Nat} {l : List (ByteArray × adI)} (hm : Mp w m (fun s : ByteArray => Value.string s) l) (k : ByteArray) : (yN 61 (.map (some m)) ((fun s : ByteArray => Value.string s) k) true).run pg w = .ok (.value (.tuple #[(GY k l).getD (.slice none 0 0), .bool (GY k l).isSome])) w := XF Tryd.underlying61 Pb rfl (I8 Tryd.underlying9) hm k
theorem NF {w : adH} {m : Nat} {l : List (ByteArray × adI)} (hm : Mp w m (fun s : ByteArray => Value.string s) l) (k : ByteArray) : (yN 61 (.map (some m)) ((fun s : ByteArray => Value.string s) k) false).run pg w = .ok (.value ((GY k l).getD (.slice none 0 0))) w := WH Tryd.underlying61 Pb rfl (I8 Tryd.underlying9) hm k
theorem bP {ox oy : Operand} (x : Option Addr) (w : adH) : (gO .neq 35 ox oy (.pointer x) (.pointer none)).run pg w = .ok (.value (.bool (!x.isNone))) w := UI Tryd.underlying35 x
theorem aZ (b o : Nat) (w : adH) : (gK 67 (.pointer (some ⟨b, o, none⟩)) 3).run pg w = .ok (.value (.pointer (some ⟨b, o + 5, none⟩))) w := kI (i := 3) Tryd.underlying67 rfl PD (by decide) _
theorem Q5 : (pg).info? 3 = some Tryd.t3 := by kernel_rfl
theorem bX (b o : Nat) (w : adH) : (gK 64 (.pointer (some ⟨b, o, none⟩)) 0).run pg w = .ok (.value (.pointer (some ⟨b, o, none⟩))) w := kI (i := 0) Tryd.underlying64 rfl Q5 (by decide) _
theorem aC (n0 : Int) (s1 : ByteArray) (n2 : Int) (a3 : Option Addr) (l3 c3 : Nat) (w : adH) : (lK 88 [(0, (.int .i64 n0)), (1, (.string s1)), (3, (.int .i64 n2)), (4, (.slice a3 l3 c3))]).run pg w = .ok (.value (.agg #[(.int .i64 n0), (.string s1), (.string ⟨#[]⟩), (.int .i64 n2), (.slice a3 l3 c3)])) w := by kernel_rfl
theorem Ir {b off : Nat} {cs : List adI} {w : adH} (ho : jF w b cs) (h : off + 32 <= cs.length) {K : adI -> Prop} (hk : K (.agg ((cs.drop off).take 32).toArray)) : Uw pg 49 (.pointer (some ⟨b, off, none⟩)) w K := PK Tryd.underlying49 rfl Lu ho h hk
theorem Gc {w : adH} {K : adI -> adH -> Prop} (hk : ∀ w', jF w' w.heap.size [(.int .u8 0), (.int .u8 0), (.int .u8 0), (.int .u8 0), (.int .u8 0), (.int .u8 0), (.int .u8 0), (.int .u8 0), (.int .u8 0), (.int .u8 0), (.int .u8 0), (.int .u8 0), (.int .u8 0), (.int .u8 0), (.int .u8 0), (.int .u8 0), (.int .u8 0), (.int .u8 0), (.int .u8 0), (.int .u8 0), (.int .u8 0), (.int .u8 0), (.int .u8 0), (.int .u8 0), (.int .u8 0), (.int .u8 0), (.int .u8 0), (.int .u8 0), (.int .u8 0), (.int .u8 0), (.int .u8 0), (.int .u8 0)] -> gT w w' jI -> w'.heap.size = w.heap.size + 1 -> K (.pointer (some ⟨w.heap.size, 0, none⟩)) w') : eY pg (lQ 49) w K := uO (i := Tryd.t49) Lu rfl hk
theorem BE {base n m : Nat} {ty : TypeId} {w : adH} {v x : adI} {l news : List adI} (h : yK w base 1 v n l) (hx : Cl w 1 x m news) (hone : ∀ y ∈ news, one y = true) (hb : base <= w.heap.size) (hbytes : (n + m) * 1 <= 140737488355328) {K : adI -> adH -> Prop} (hk : ∀ v' w', yK w' base 1 v' (n + m) (l ++ news) -> gT w w' (fun y => base <= y) -> K v' w') : eY pg (mS .append #[22, 22] ty [v, x]) w K := Kj (i := Tryd.t5) Tryd.underlying22 Tryd.underlying22 Ie rfl rfl rfl h hx hone hb (by omega) hbytes (by decide) hk
theorem H3 {b off : Nat} {cs : List adI} {w : adH} {xs : Array adI} {K : adI -> adH -> Prop} (ho : jF w b cs) (hs : xs.size = 32) (hv : ∀ x ∈ xs.toList, one x = true) (h : off + 32 <= cs.length) (hk : ∀ w', jF w' b (mZ cs off xs.toList) -> gT w w' (fun x => x = b) -> w'.heap.size = w.heap.size -> K undef w') : eY pg (iB 49 (.pointer (some ⟨b, off, none⟩)) (.agg xs)) w K := Cu (v := .agg xs) Lu ho hs hv h hk
theorem bV (b o : Nat) (w : adH) : (gK 64 (.pointer (some ⟨b, o, none⟩)) 1).run pg w = .ok (.value (.pointer (some ⟨b, o + 1, none⟩))) w := kI (i := 1) Tryd.underlying64 rfl Vc (by decide) _
theorem OK {b off : Nat} {cs : List adI} {w : adH} {v : adI} {K : adI -> adH -> Prop} (ho : jF w b cs) (hv : one v = true) (h : off < cs.length) (hk : ∀ w', jF w' b (cs.set off v) -> gT w w' (fun x => x = b) -> w'.heap.size = w.heap.size -> K undef w') : eY pg (iB 61 (.pointer (some ⟨b, off, none⟩)) v) w K := nP Vc rfl ho hv h hk
theorem Xj : (pg).info? 62 = some Tryd.t62 := by kernel_rfl
theorem bR (b o : Nat) (w : adH) : (gK 64 (.pointer (some ⟨b, o, none⟩)) 3).run pg w = .ok (.value (.pointer (some ⟨b, o + 3, none⟩))) w := kI (i := 3) Tryd.underlying64 rfl Xj (by decide) _
theorem Br {b off : Nat} {cs : List adI} {w : adH} {v : adI} {K : adI -> adH -> Prop} (ho : jF w b cs) (hv : one v = true) (h : off < cs.length) (hk : ∀ w', jF w' b (cs.set off v) -> gT w w' (fun x => x = b) -> w'.heap.size = w.heap.size -> K undef w') : eY pg (iB 62 (.pointer (some ⟨b, off, none⟩)) v) w K := nP Xj rfl ho hv h hk
theorem cI {ox oy : Operand} (x : Option Addr) (w : adH) : (gO .neq 32 ox oy (.pointer x) (.pointer none)).run pg w = .ok (.value (.bool (!x.isNone))) w := UI Tryd.underlying32 x
theorem bW (b o : Nat) (w : adH) : (gK 64 (.pointer (some ⟨b, o, none⟩)) 4).run pg w = .ok (.value (.pointer (some ⟨b, o + 4, none⟩))) w := kI (i := 4) Tryd.underlying64 rfl Q5 (by decide) _
theorem J3 {b off : Nat} {cs : List adI} {w : adH} {v : adI} {K : adI -> adH -> Prop} (ho : jF w b cs) (hv : one v = true) (h : off < cs.length) (hk : ∀ w', jF w' b (cs.set off v) -> gT w w' (fun x => x = b) -> w'.heap.size = w.heap.size -> K undef w') : eY pg (iB 3 (.pointer (some ⟨b, off, none⟩)) v) w K := nP Q5 rfl ho hv h hk
theorem bA (x : Addr) (w : adH) : (gJ 62 (.pointer (some x))).run pg w = Oc (w.cell? x) w (OQ pg 62 x w) := Jf Tryd.underlying62 rfl x w
theorem aT {ty : TypeId} (x : Option Addr) (n c : Nat) (w : adH) : (mS .len #[62] ty [.slice x n c]).run pg w = .ok (.value (.int .i64 n)) w := Mf Tryd.underlying62 x n c
theorem Tg : (pg).info? 88 = some Tryd.t88 := by kernel_rfl
theorem aU {k : IntKind} {a : Int} (b o n c : Nat) (w : adH) (h0 : 0 <= a) (h1 : a < n) : (iF 62 (.slice (some ⟨b, o, none⟩) n c) (.int k a)).run pg w = .ok (.value (.pointer (some ⟨b, o + a.toNat * 5, none⟩))) w := LM rfl Tryd.underlying62 Tg b o n c h0 h1
theorem CG {b off : Nat} {cs : List adI} {w : adH} (ho : jF w b cs) (h : off + 5 <= cs.length) : (gJ 88 (.pointer (some ⟨b, off, none⟩))).run pg w = .ok (.value (.agg ((cs.drop off).take 5).toArray)) w := Gj Tryd.underlying88 rfl Tg ho h
theorem bT (b o : Nat) (w : adH) : (gK 64 (.pointer (some ⟨b, o, none⟩)) 5).run pg w = .ok (.value (.pointer (some ⟨b, o + 5, none⟩))) w := kI (i := 5) Tryd.underlying64 rfl R1 (by decide) _
theorem dS {k : IntKind} (a : Int) (w : adH) : (kP 24 3 (.int k a)).run pg w = .ok (.value (.int .i64 (IntKind.i64.wrap a))) w := BR Tryd.underlying24 Tryd.underlying3
theorem cR {ox oy : Operand} (x : Option Addr) (n c : Nat) (w : adH) : (gO .eql 26 ox oy (.slice x n c) (.slice none 0 0)).run pg w = .ok (.value (.bool x.isNone)) w := Qo Tryd.underlying26 x n c
theorem bO (b o : Nat) (w : adH) : (gK 67 (.pointer (some ⟨b, o, none⟩)) 5).run pg w = .ok (.value (.pointer (some ⟨b, o + 7, none⟩))) w := kI (i := 5) Tryd.underlying67 rfl Q5 (by decide) _
theorem aV (n0 : Int) (n1 : Int) (w : adH) : (lK 77 [(0, (.int .u8 n0)), (1, (.int .u64 n1))]).run pg w = .ok (.value (.agg #[(.int .u8 n0), (.int .u64 n1)])) w := by kernel_rfl
theorem ME {k : IntKind} {n : Int} {w : adH} {K : adI -> adH -> Prop} (h0 : 0 <= n) (hn : 1 * n <= 2 ^ 48) (hk : ∀ w', jF w' w.heap.size (List.replicate n.toNat (.int .u8 0)) -> gT w w' jI -> w'.heap.size = w.heap.size + 1 -> K (.slice (some ⟨w.heap.size, 0, none⟩) n.toNat n.toNat) w') : eY pg (vT 22 (.int k n) (.int k n)) w K := Rm (i := Tryd.t5) Tryd.underlying22 Ie rfl rfl rfl h0 hn (by omega) hk
theorem aJ {ty : TypeId} (x : Option Addr) (n c : Nat) (w : adH) : (mS .len #[98] ty [.slice x n c]).run pg w = .ok (.value (.int .i64 n)) w := Mf Tryd.underlying98 x n c
theorem aL {k : IntKind} {a : Int} (b o n c : Nat) (w : adH) (h0 : 0 <= a) (h1 : a < n) : (iF 98 (.slice (some ⟨b, o, none⟩) n c) (.int k a)).run pg w = .ok (.value (.pointer (some ⟨b, o + a.toNat, none⟩))) w := Mb rfl Tryd.underlying98 Xy b o n c h0 h1
theorem bD (x : Addr) (w : adH) : (gJ 39 (.pointer (some x))).run pg w = Oc (w.cell? x) w (OQ pg 39 x w) := Jf Tryd.underlying39 rfl x w
theorem aH (n0 : Int) (s1 : ByteArray) (s2 : ByteArray) (w : adH) : (lK 88 [(0, (.int .i64 n0)), (1, (.string s1)), (2, (.string s2))]).run pg w = .ok (.value (.agg #[(.int .i64 n0), (.string s1), (.string s2), (.int .i64 0), (.slice none 0 0)])) w := by kernel_rfl
theorem dC {ox oy : Operand} (x : Option Addr) (n c : Nat) (w : adH) : (gO .eql 22 ox oy (.slice x n c) (.slice none 0 0)).run pg w = .ok (.value (.bool x.isNone)) w := Qo Tryd.underlying22 x n c
theorem OZ {w : adH} {m : Nat} {l : List (ByteArray × adI)} (hm : Mp w m (fun s : ByteArray => Value.string s) l) {K : adI -> adH -> Prop} (hk : ∀ w', Xs w' w.heap.size m (fun s : ByteArray => Value.string s) l -> gT w w' jI -> w'.heap.size = w.heap.size + 1 -> K (.pointer (some ⟨w.heap.size, 0, none⟩)) w') : eY pg (Np 61 (.map (some m))) w K := Uu Tryd.underlying61 hm hk
theorem IL {n : Nat} {ps : List (Nat × adI)} {cells : Array adI} {w : adH} (h1 : ¬ n * 5 > 2 ^ 24) (h0 : ¬ n * 5 = 0) (hf : Go.Instr.fill (fun j => some (j * 5, 5)) ((Array.range (n * 5)).map ((Tryd.t88.zero.get!).cells[· % (Tryd.t88.zero.get!).cells.size]!)) ps = some cells) {K : adI -> adH -> Prop} (hk : ∀ w', jF w' w.heap.size cells.toList -> gT w w' jI -> w'.heap.size = w.heap.size + 1 -> K (.slice (some ⟨w.heap.size, 0, none⟩) n n) w') : eY pg (iC 62 n ps) w K := Du (i := Tryd.t88) Tryd.underlying62 Tg rfl h1 h0 hf hk
theorem dV {ox oy : Operand} (x : Option Addr) (n c : Nat) (w : adH) : (gO .eql 45 ox oy (.slice x n c) (.slice none 0 0)).run pg w = .ok (.value (.bool x.isNone)) w := Qo Tryd.underlying45 x n c
theorem JX {base n m : Nat} {ty : TypeId} {w : adH} {v x : adI} {l news : List adI} (h : yK w base 1 v n l) (hx : Cl w 1 x m news) (hone : ∀ y ∈ news, one y = true) (hb : base <= w.heap.size) (hbytes : (n + m) * 1 <= 140737488355328) {K : adI -> adH -> Prop} (hk : ∀ v' w', yK w' base 1 v' (n + m) (l ++ news) -> gT w w' (fun y => base <= y) -> K v' w') : eY pg (mS .append #[45, 45] ty [v, x]) w K := Kj (i := Tryd.t4) Tryd.underlying45 Tryd.underlying45 R1 rfl rfl rfl h hx hone hb (by omega) hbytes (by decide) hk
theorem aI (b o : Nat) (w : adH) : (gK 88 (.pointer (some ⟨b, o, none⟩)) 1).run pg w = .ok (.value (.pointer (some ⟨b, o + 1, none⟩))) w := kI (i := 1) Tryd.underlying88 rfl Ye (by decide) _
theorem aN (b o : Nat) (w : adH) : (gK 88 (.pointer (some ⟨b, o, none⟩)) 0).run pg w = .ok (.value (.pointer (some ⟨b, o, none⟩))) w := kI (i := 0) Tryd.underlying88 rfl Q5 (by decide) _
theorem aX (b o : Nat) (w : adH) : (gK 88 (.pointer (some ⟨b, o, none⟩)) 3).run pg w = .ok (.value (.pointer (some ⟨b, o + 3, none⟩))) w := kI (i := 3) Tryd.underlying88 rfl Q5 (by decide) _
theorem aF (b o : Nat) (w : adH) : (gK 88 (.pointer (some ⟨b, o, none⟩)) 4).run pg w = .ok (.value (.pointer (some ⟨b, o + 4, none⟩))) w := kI (i := 4) Tryd.underlying88 rfl Pb (by decide) _
theorem Em {ty : TypeId} {w : adH} {b off dl c : Nat} {cs : List adI} (ho : jF w b cs) (hl : off + dl <= cs.length) {v : adI} {l : List adI} (h : Sl w v l) (hv : ∀ x ∈ l, one x = true) {K : adI -> adH -> Prop} (hk : ∀ w', jF w' b (mZ cs off (l.take (min l.length dl))) -> gT w w' (fun x => x = b) -> w'.heap.size = w.heap.size -> K (.int .i64 (min l.length dl : Nat)) w') : eY pg (mS .copy #[22, 22] ty [.slice (some ⟨b, off, none⟩) dl c, v]) w K := Rh Tryd.underlying22 Ie rfl ho hl h hv hk
theorem cX {k : IntKind} {lo : Int} (a : Option Addr) (n c : Nat) (w : adH) (h0 : 0 <= lo) (h1 : lo <= n) : (lL 22 (.slice a n c) (some (.int k lo)) none none).run pg w = .ok (.value (.slice (jO a c (lo.toNat) 1) (n - lo.toNat) (c - lo.toNat))) w := Sa Tryd.underlying22 Ie _ n c h0 h1
theorem JO {w : adH} {m : Nat} {l : List (ByteArray × adI)} (hm : Mp w m (fun s : ByteArray => Value.string s) l) (k : ByteArray) (v : adI) {K : adI -> adH -> Prop} (hk : ∀ w', Mp w' m (fun s : ByteArray => Value.string s) (Sz k v l) -> gT w w' (fun y => y = m) -> w'.heap.size = w.heap.size -> K undef w') : eY pg (Ka 61 (.map (some m)) ((fun s : ByteArray => Value.string s) k) v) w K := Uo Tryd.underlying61 (I8 Tryd.underlying9) hm k v hk
theorem JK {ty : TypeId} {w : adH} {m : Nat} {l : List (ByteArray × adI)} (hm : Mp w m (fun s : ByteArray => Value.string s) l) (k : ByteArray) {K : adI -> adH -> Prop} (hk : ∀ w', Mp w' m (fun s : ByteArray => Value.string s) (del k l) -> gT w w' (fun y => y = m) -> w'.heap.size = w.heap.size -> K (.tuple #[]) w') : eY pg (mS .delete #[61, 9] ty [.map (some m), .string k]) w K := RU Tryd.underlying61 (I8 Tryd.underlying9) hm k hk
theorem aE (b o : Nat) (w : adH) : (gK 88 (.pointer (some ⟨b, o, none⟩)) 2).run pg w = .ok (.value (.pointer (some ⟨b, o + 2, none⟩))) w := kI (i := 2) Tryd.underlying88 rfl Ye (by decide) _
theorem Xp : (pg).info? 72 = some Tryd.t72 := by kernel_rfl
theorem Js {w : adH} {K : adI -> adH -> Prop} (hk : ∀ w', jF w' w.heap.size [(.slice none 0 0)] -> gT w w' jI -> w'.heap.size = w.heap.size + 1 -> K (.pointer (some ⟨w.heap.size, 0, none⟩)) w') : eY pg (lQ 72) w K := uO (i := Tryd.t72) Xp rfl hk
theorem XC {w : adH} {K : adI -> adH -> Prop} (hk : ∀ w', jF w' w.heap.size [(.int .i64 0)] -> gT w w' jI -> w'.heap.size = w.heap.size + 1 -> K (.pointer (some ⟨w.heap.size, 0, none⟩)) w') : eY pg (lQ 3) w K := uO (i := Tryd.t3) Q5 rfl hk
theorem cL {k : IntKind} (a : Int) (w : adH) : (kP 24 5 (.int k a)).run pg w = .ok (.value (.int .u8 (IntKind.u8.wrap a))) w := BR Tryd.underlying24 Tryd.underlying5
theorem bU  (w : adH) : (lK 77 []).run pg w = .ok (.value (.agg #[(.int .u8 0), (.int .u64 0)])) w := by kernel_rfl
theorem bB (x : Addr) (w : adH) : (gJ 72 (.pointer (some x))).run pg w = Oc (w.cell? x) w (OQ pg 72 x w) := Jf Tryd.underlying72 rfl x w
theorem Jn {n : Nat} {ps : List (Nat × adI)} {cells : Array adI} {w : adH} (h1 : ¬ n * 2 > 2 ^ 24) (h0 : ¬ n * 2 = 0) (hf : Go.Instr.fill (fun j => some (j * 2, 2)) ((Array.range (n * 2)).map ((Tryd.t77.zero.get!).cells[· % (Tryd.t77.zero.get!).cells.size]!)) ps = some cells) {K : adI -> adH -> Prop} (hk : ∀ w', jF w' w.heap.size cells.toList -> gT w w' jI -> w'.heap.size = w.heap.size + 1 -> K (.slice (some ⟨w.heap.size, 0, none⟩) n n) w') : eY pg (iC 72 n ps) w K := Du (i := Tryd.t77) Tryd.underlying72 NI rfl h1 h0 hf hk
theorem Jj {b off : Nat} {cs : List adI} {w : adH} {v : adI} {K : adI -> adH -> Prop} (ho : jF w b cs) (hv : one v = true) (h : off < cs.length) (hk : ∀ w', jF w' b (cs.set off v) -> gT w w' (fun x => x = b) -> w'.heap.size = w.heap.size -> K undef w') : eY pg (iB 72 (.pointer (some ⟨b, off, none⟩)) v) w K := nP Xp rfl ho hv h hk
theorem aO (n0 : Int) (s1 : ByteArray) (w : adH) : (lK 88 [(0, (.int .i64 n0)), (1, (.string s1))]).run pg w = .ok (.value (.agg #[(.int .i64 n0), (.string s1), (.string ⟨#[]⟩), (.int .i64 0), (.slice none 0 0)])) w := by kernel_rfl
theorem cM {k : IntKind} (a : Int) (w : adH) : (kP 5 24 (.int k a)).run pg w = .ok (.value (.int .u64 (IntKind.u64.wrap a))) w := BR Tryd.underlying5 Tryd.underlying24
theorem cJ {k : IntKind} (a : Int) (w : adH) : (kP 25 24 (.int k a)).run pg w = .ok (.value (.int .u64 (IntKind.u64.wrap a))) w := BR Tryd.underlying25 Tryd.underlying24
theorem aA (n0 : Int) (n1 : Int) (n2 : Int) (n3 : Int) (n4 : Int) (n5 : Int) (n6 : Int) (n7 : Int) (w : adH) : (lK 119 [(0, (.int .u32 n0)), (1, (.int .u32 n1)), (2, (.int .u32 n2)), (3, (.int .u32 n3)), (4, (.int .u32 n4)), (5, (.int .u32 n5)), (6, (.int .u32 n6)), (7, (.int .u32 n7))]).run pg w = .ok (.value (.agg #[(.int .u32 n0), (.int .u32 n1), (.int .u32 n2), (.int .u32 n3), (.int .u32 n4), (.int .u32 n5), (.int .u32 n6), (.int .u32 n7)])) w := by kernel_rfl
theorem dR (YH Yw YU Yo YI YA YN Yl : adI) (w : adH) : (lK 122 [(0, (.agg #[YH, Yw, YU, Yo, YI, YA, YN, Yl]))]).run pg w = .ok (.value (.agg #[YH, Yw, YU, Yo, YI, YA, YN, Yl, (.int .u8 0), (.int .u8 0), (.int .u8 0), (.int .u8 0), (.int .u8 0), (.int .u8 0), (.int .u8 0), (.int .u8 0), (.int .u8 0), (.int .u8 0), (.int .u8 0), (.int .u8 0), (.int .u8 0), (.int .u8 0), (.int .u8 0), (.int .u8 0), (.int .u8 0), (.int .u8 0), (.int .u8 0), (.int .u8 0), (.int .u8 0), (.int .u8 0), (.int .u8 0), (.int .u8 0), (.int .u8 0), (.int .u8 0), (.int .u8 0), (.int .u8 0), (.int .u8 0), (.int .u8 0), (.int .u8 0), (.int .u8 0), (.int .u8 0), (.int .u8 0), (.int .u8 0), (.int .u8 0), (.int .u8 0), (.int .u8 0), (.int .u8 0), (.int .u8 0), (.int .u8 0), (.int .u8 0), (.int .u8 0), (.int .u8 0), (.int .u8 0), (.int .u8 0), (.int .u8 0), (.int .u8 0), (.int .u8 0), (.int .u8 0), (.int .u8 0), (.int .u8 0), (.int .u8 0), (.int .u8 0), (.int .u8 0), (.int .u8 0), (.int .u8 0), (.int .u8 0), (.int .u8 0), (.int .u8 0), (.int .u8 0), (.int .u8 0), (.int .u8 0), (.int .u8 0), (.int .i64 0), (.int .u64 0)])) w := by kernel_rfl
theorem cP {ox oy : Operand} (x : Option Addr) (w : adH) : (gO .eql 100 ox oy (.pointer x) (.pointer none)).run pg w = .ok (.value (.bool x.isNone)) w := J1 Tryd.underlying100 x
theorem cQ (b o : Nat) (w : adH) : (gK 122 (.pointer (some ⟨b, o, none⟩)) 3).run pg w = .ok (.value (.pointer (some ⟨b, o + 73, none⟩))) w := kI (i := 3) Tryd.underlying122 rfl PD (by decide) _
theorem VG : (pg).info? 120 = some Tryd.t120 := by kernel_rfl
theorem cF (b o : Nat) (w : adH) : (gK 122 (.pointer (some ⟨b, o, none⟩)) 1).run pg w = .ok (.value (.pointer (some ⟨b, o + 8, none⟩))) w := kI (i := 1) Tryd.underlying122 rfl VG (by decide) _
theorem dK (b o : Nat) (w : adH) : (gK 122 (.pointer (some ⟨b, o, none⟩)) 2).run pg w = .ok (.value (.pointer (some ⟨b, o + 72, none⟩))) w := kI (i := 2) Tryd.underlying122 rfl Q5 (by decide) _
theorem cC {k : IntKind} {lo : Int} (b o : Nat) (w : adH) (h0 : 0 <= lo) (h1 : lo <= 64) : (lL 120 (.pointer (some ⟨b, o, none⟩)) (some (.int k lo)) none none).run pg w = .ok (.value (.slice (some (BS ⟨b, o, none⟩ 64 (lo.toNat) 1)) (64 - lo.toNat) (64 - lo.toNat))) w := Ml Tryd.underlying120 Ie _ h0 (by simpa using h1)
theorem Oj : (pg).info? 119 = some Tryd.t119 := by kernel_rfl
theorem dJ (b o : Nat) (w : adH) : (gK 122 (.pointer (some ⟨b, o, none⟩)) 0).run pg w = .ok (.value (.pointer (some ⟨b, o, none⟩))) w := kI (i := 0) Tryd.underlying122 rfl Oj (by decide) _
theorem Ez {b off : Nat} {cs : List adI} {w : adH} (ho : jF w b cs) (h : off + 8 <= cs.length) : (gJ 119 (.pointer (some ⟨b, off, none⟩))).run pg w = .ok (.value (.agg ((cs.drop off).take 8).toArray)) w := Gj Tryd.underlying119 rfl Oj ho h
theorem IA {b off : Nat} {cs : List adI} {w : adH} (ho : jF w b cs) (h : off + 64 <= cs.length) : (gJ 120 (.pointer (some ⟨b, off, none⟩))).run pg w = .ok (.value (.agg ((cs.drop off).take 64).toArray)) w := Gj Tryd.underlying120 rfl VG ho h
theorem ER {b off : Nat} {cs : List adI} {w : adH} {xs : Array adI} {K : adI -> adH -> Prop} (ho : jF w b cs) (hs : xs.size = 8) (hv : ∀ x ∈ xs.toList, one x = true) (h : off + 8 <= cs.length) (hk : ∀ w', jF w' b (mZ cs off xs.toList) -> gT w w' (fun x => x = b) -> w'.heap.size = w.heap.size -> K undef w') : eY pg (iB 119 (.pointer (some ⟨b, off, none⟩)) (.agg xs)) w K := Cu (v := .agg xs) Oj ho hs hv h hk
theorem R5 : (pg).info? 122 = some Tryd.t122 := by kernel_rfl
theorem P8 {b off : Nat} {cs : List adI} {w : adH} (ho : jF w b cs) (h : off + 74 <= cs.length) : (gJ 122 (.pointer (some ⟨b, off, none⟩))).run pg w = .ok (.value (.agg ((cs.drop off).take 74).toArray)) w := Gj Tryd.underlying122 rfl R5 ho h
theorem QD {w : adH} {K : adI -> adH -> Prop} (hk : ∀ w', jF w' w.heap.size [(.int .u32 0), (.int .u32 0), (.int .u32 0), (.int .u32 0), (.int .u32 0), (.int .u32 0), (.int .u32 0), (.int .u32 0), (.int .u8 0), (.int .u8 0), (.int .u8 0), (.int .u8 0), (.int .u8 0), (.int .u8 0), (.int .u8 0), (.int .u8 0), (.int .u8 0), (.int .u8 0), (.int .u8 0), (.int .u8 0), (.int .u8 0), (.int .u8 0), (.int .u8 0), (.int .u8 0), (.int .u8 0), (.int .u8 0), (.int .u8 0), (.int .u8 0), (.int .u8 0), (.int .u8 0), (.int .u8 0), (.int .u8 0), (.int .u8 0), (.int .u8 0), (.int .u8 0), (.int .u8 0), (.int .u8 0), (.int .u8 0), (.int .u8 0), (.int .u8 0), (.int .u8 0), (.int .u8 0), (.int .u8 0), (.int .u8 0), (.int .u8 0), (.int .u8 0), (.int .u8 0), (.int .u8 0), (.int .u8 0), (.int .u8 0), (.int .u8 0), (.int .u8 0), (.int .u8 0), (.int .u8 0), (.int .u8 0), (.int .u8 0), (.int .u8 0), (.int .u8 0), (.int .u8 0), (.int .u8 0), (.int .u8 0), (.int .u8 0), (.int .u8 0), (.int .u8 0), (.int .u8 0), (.int .u8 0), (.int .u8 0), (.int .u8 0), (.int .u8 0), (.int .u8 0), (.int .u8 0), (.int .u8 0), (.int .i64 0), (.int .u64 0)] -> gT w w' jI -> w'.heap.size = w.heap.size + 1 -> K (.pointer (some ⟨w.heap.size, 0, none⟩)) w') : eY pg (lQ 122) w K := uO (i := Tryd.t122) R5 rfl hk
theorem Qj {b off : Nat} {cs : List adI} {w : adH} {xs : Array adI} {K : adI -> adH -> Prop} (ho : jF w b cs) (hs : xs.size = 74) (hv : ∀ x ∈ xs.toList, one x = true) (h : off + 74 <= cs.length) (hk : ∀ w', jF w' b (mZ cs off xs.toList) -> gT w w' (fun x => x = b) -> w'.heap.size = w.heap.size -> K undef w') : eY pg (iB 122 (.pointer (some ⟨b, off, none⟩)) (.agg xs)) w K := Cu (v := .agg xs) R5 ho hs hv h hk
theorem dU {k : IntKind} {a : Int} (b o : Nat) (w : adH) (h0 : 0 <= a) (h1 : a < 8) : (iF 119 (.pointer (some ⟨b, o, none⟩)) (.int k a)).run pg w = .ok (.value (.pointer (some ⟨b, o + a.toNat, none⟩))) w := I7 rfl Tryd.underlying119 Lq b o h0 (by simpa using h1)
theorem cV {k : IntKind} (a : Int) (w : adH) : (kP 25 5 (.int k a)).run pg w = .ok (.value (.int .u8 (IntKind.u8.wrap a))) w := BR Tryd.underlying25 Tryd.underlying5
theorem eF {k : IntKind} {a : Int} (b o : Nat) (w : adH) (h0 : 0 <= a) (h1 : a < 32) : (iF 49 (.pointer (some ⟨b, o, none⟩)) (.int k a)).run pg w = .ok (.value (.pointer (some ⟨b, o + a.toNat, none⟩))) w := I7 rfl Tryd.underlying49 Ie b o h0 (by simpa using h1)
theorem eL {ox oy : Operand} (c d : Bool) (w : adH) : (gO .eql 4 ox oy (.bool c) (.bool d)).run pg w = .ok (.value (.bool (c == d))) w := XI c d Tryd.underlying4
theorem bN (a0 : Option Addr) (l0 c0 : Nat) (w : adH) : (lK 126 [(0, (.slice a0 l0 c0))]).run pg w = .ok (.value (.agg #[(.slice a0 l0 c0), (.int .i64 0)])) w := by kernel_rfl
theorem aR {ox oy : Operand} (x : Option Addr) (w : adH) : (gO .eql 109 ox oy (.pointer x) (.pointer none)).run pg w = .ok (.value (.bool x.isNone)) w := J1 Tryd.underlying109 x
theorem dZ {k : IntKind} (a : Int) (w : adH) : (kP 3 128 (.int k a)).run pg w = .ok (.value (.int .u64 (IntKind.u64.wrap a))) w := BR Tryd.underlying3 Tryd.underlying128
theorem bS  (w : adH) : (lK 130 []).run pg w = .ok (.value (.agg #[(.slice none 0 0)])) w := by kernel_rfl
theorem aQ {ox oy : Operand} (x : Option Addr) (w : adH) : (gO .eql 113 ox oy (.pointer x) (.pointer none)).run pg w = .ok (.value (.bool x.isNone)) w := J1 Tryd.underlying113 x
theorem bL (b o : Nat) (w : adH) : (gK 130 (.pointer (some ⟨b, o, none⟩)) 0).run pg w = .ok (.value (.pointer (some ⟨b, o, none⟩))) w := kI (i := 0) Tryd.underlying130 rfl Pb (by decide) _
theorem Mv {b off : Nat} {cs : List adI} {w : adH} {v : adI} {K : adI -> adH -> Prop} (ho : jF w b cs) (hv : one v = true) (h : off < cs.length) (hk : ∀ w', jF w' b (cs.set off v) -> gT w w' (fun x => x = b) -> w'.heap.size = w.heap.size -> K undef w') : eY pg (iB 22 (.pointer (some ⟨b, off, none⟩)) v) w K := nP Pb rfl ho hv h hk
theorem OR {b off : Nat} {cs : List adI} {w : adH} (ho : jF w b cs) (h : off + 8 <= cs.length) {K : adI -> Prop} (hk : K (.agg ((cs.drop off).take 8).toArray)) : Uw pg 119 (.pointer (some ⟨b, off, none⟩)) w K := PK Tryd.underlying119 rfl Oj ho h hk
theorem KR {w : adH} {K : adI -> adH -> Prop} (hk : ∀ w', jF w' w.heap.size [(.int .u32 0), (.int .u32 0), (.int .u32 0), (.int .u32 0), (.int .u32 0), (.int .u32 0), (.int .u32 0), (.int .u32 0)] -> gT w w' jI -> w'.heap.size = w.heap.size + 1 -> K (.pointer (some ⟨w.heap.size, 0, none⟩)) w') : eY pg (lQ 119) w K := uO (i := Tryd.t119) Oj rfl hk
theorem XD : (pg).info? 134 = some Tryd.t134 := by kernel_rfl
theorem Nm {w : adH} {K : adI -> adH -> Prop} (hk : ∀ w', jF w' w.heap.size [(.int .u32 0), (.int .u32 0), (.int .u32 0), (.int .u32 0), (.int .u32 0), (.int .u32 0), (.int .u32 0), (.int .u32 0), (.int .u32 0), (.int .u32 0), (.int .u32 0), (.int .u32 0), (.int .u32 0), (.int .u32 0), (.int .u32 0), (.int .u32 0), (.int .u32 0), (.int .u32 0), (.int .u32 0), (.int .u32 0), (.int .u32 0), (.int .u32 0), (.int .u32 0), (.int .u32 0), (.int .u32 0), (.int .u32 0), (.int .u32 0), (.int .u32 0), (.int .u32 0), (.int .u32 0), (.int .u32 0), (.int .u32 0), (.int .u32 0), (.int .u32 0), (.int .u32 0), (.int .u32 0), (.int .u32 0), (.int .u32 0), (.int .u32 0), (.int .u32 0), (.int .u32 0), (.int .u32 0), (.int .u32 0), (.int .u32 0), (.int .u32 0), (.int .u32 0), (.int .u32 0), (.int .u32 0), (.int .u32 0), (.int .u32 0), (.int .u32 0), (.int .u32 0), (.int .u32 0), (.int .u32 0), (.int .u32 0), (.int .u32 0), (.int .u32 0), (.int .u32 0), (.int .u32 0), (.int .u32 0), (.int .u32 0), (.int .u32 0), (.int .u32 0), (.int .u32 0)] -> gT w w' jI -> w'.heap.size = w.heap.size + 1 -> K (.pointer (some ⟨w.heap.size, 0, none⟩)) w') : eY pg (lQ 134) w K := uO (i := Tryd.t134) XD rfl hk
theorem dE {k : IntKind} {a : Int} (cs : Array adI) (w : adH) (h0 : 0 <= a) (h1 : a < 64) : (TZ 120 (.agg cs) (.int k a)).run pg w = Oc cs[a.toNat]? w (YK pg 120 cs k a w) := Xz Tryd.underlying120 Tryd.underlying5 rfl Ie rfl cs h0 (by simpa using h1)
theorem dA {k : IntKind} {a : Int} (b o : Nat) (w : adH) (h0 : 0 <= a) (h1 : a < 64) : (iF 134 (.pointer (some ⟨b, o, none⟩)) (.int k a)).run pg w = .ok (.value (.pointer (some ⟨b, o + a.toNat, none⟩))) w := I7 rfl Tryd.underlying134 Lq b o h0 (by simpa using h1)
theorem cU {k : IntKind} (a : Int) (w : adH) : (kP 5 25 (.int k a)).run pg w = .ok (.value (.int .u32 (IntKind.u32.wrap a))) w := BR Tryd.underlying5 Tryd.underlying25
theorem yJ {b off : Nat} {cs : List adI} {w : adH} {v : adI} {K : adI -> adH -> Prop} (ho : jF w b cs) (hv : one v = true) (h : off < cs.length) (hk : ∀ w', jF w' b (cs.set off v) -> gT w w' (fun x => x = b) -> w'.heap.size = w.heap.size -> K undef w') : eY pg (iB 25 (.pointer (some ⟨b, off, none⟩)) v) w K := nP Lq rfl ho hv h hk
theorem cO {k : IntKind} {lo : Int} (b o : Nat) (w : adH) (h0 : 0 <= lo) (h1 : lo <= 8) : (lL 119 (.pointer (some ⟨b, o, none⟩)) (some (.int k lo)) none none).run pg w = .ok (.value (.slice (some (BS ⟨b, o, none⟩ 8 (lo.toNat) 1)) (8 - lo.toNat) (8 - lo.toNat))) w := Ml Tryd.underlying119 Lq _ h0 (by simpa using h1)
theorem cS {k : IntKind} {hi : Int} (b o : Nat) (w : adH) (h0 : 0 <= hi) (h1 : hi <= 8) : (lL 119 (.pointer (some ⟨b, o, none⟩)) none (some (.int k hi)) none).run pg w = .ok (.value (.slice (some (BS ⟨b, o, none⟩ 8 (0) 1)) (hi.toNat - 0) (8 - 0))) w := RE Tryd.underlying119 Lq _ h0 (by simpa using h1)
theorem Qp {ty : TypeId} {w : adH} {b off dl c : Nat} {cs : List adI} (ho : jF w b cs) (hl : off + dl <= cs.length) {v : adI} {l : List adI} (h : Sl w v l) (hv : ∀ x ∈ l, one x = true) {K : adI -> adH -> Prop} (hk : ∀ w', jF w' b (mZ cs off (l.take (min l.length dl))) -> gT w w' (fun x => x = b) -> w'.heap.size = w.heap.size -> K (.int .i64 (min l.length dl : Nat)) w') : eY pg (mS .copy #[136, 136] ty [.slice (some ⟨b, off, none⟩) dl c, v]) w K := Rh Tryd.underlying136 Lq rfl ho hl h hv hk
theorem bM (b o : Nat) (w : adH) : (gK 126 (.pointer (some ⟨b, o, none⟩)) 1).run pg w = .ok (.value (.pointer (some ⟨b, o + 1, none⟩))) w := kI (i := 1) Tryd.underlying126 rfl UW (by decide) _
theorem bK (b o : Nat) (w : adH) : (gK 126 (.pointer (some ⟨b, o, none⟩)) 0).run pg w = .ok (.value (.pointer (some ⟨b, o, none⟩))) w := kI (i := 0) Tryd.underlying126 rfl Pb (by decide) _
theorem cY {k k' : IntKind} {hi mx : Int} (a : Option Addr) (n c : Nat) (w : adH) (h0 : 0 <= hi) (h1 : hi <= mx) (h2 : mx <= c) : (lL 22 (.slice a n c) none (some (.int k hi)) (some (.int k' mx))).run pg w = .ok (.value (.slice (jO a mx.toNat 0 1) (hi.toNat - 0) (mx.toNat - 0))) w := Sx Tryd.underlying22 Ie a n c h0 h1 h2
theorem dD (n0 : Int) (w : adH) : (lK 138 [(0, (.int .u32 n0))]).run pg w = .ok (.value (.agg #[(.int .u32 n0)])) w := by kernel_rfl
theorem cN {ox oy : Operand} (x : Option Addr) (w : adH) : (gO .eql 131 ox oy (.pointer x) (.pointer none)).run pg w = .ok (.value (.bool x.isNone)) w := J1 Tryd.underlying131 x
theorem dQ (b o : Nat) (w : adH) : (gK 138 (.pointer (some ⟨b, o, none⟩)) 0).run pg w = .ok (.value (.pointer (some ⟨b, o, none⟩))) w := kI (i := 0) Tryd.underlying138 rfl Lq (by decide) _
theorem cZ {k : IntKind} {a : Int} (b o : Nat) (w : adH) (h0 : 0 <= a) (h1 : a < 16) : (iF 139 (.pointer (some ⟨b, o, none⟩)) (.int k a)).run pg w = .ok (.value (.pointer (some ⟨b, o + a.toNat, none⟩))) w := I7 rfl Tryd.underlying139 Lq b o h0 (by simpa using h1)
end Go.Proofs.YteelnmpbnaohpaaDoor
namespace Go.Pu
def J7 (p : Int) : Int := if p < 0 then 1 else p
def fits : Int -> List Int -> Bool
 | left, [] => left == 0
 | left, p :: r => if p < -1 ∨ left < J7 p then false else fits (left - J7 p) r
def RJ (ps : List Int) : Int := (ps.map J7).sum
def Xg (log : Int) (ps : List Int) : Bool := decide (5 <= log /\ log <= 15 /\ 1 <= ps.length /\ ps.length <= 256 /\ ps.getLast? ≠ some 0)
def Yy (log : Int) (ps : List Int) : Bool := Xg log ps && fits (2 ^ log.toNat) ps
theorem Pc (p : Int) (ps : List Int) : RJ (p :: ps) = J7 p + RJ ps := by simp [RJ]
theorem OE {p : Int} (h : -1 <= p) : 0 <= J7 p := by unfold J7; split <;> omega
theorem QC {ps : List Int} (h : ∀ p ∈ ps, -1 <= p) : 0 <= RJ ps := by
 induction ps with
 | nil => simp [RJ]
 | cons p r ih =>
   rw [Pc]
   have := OE (h p (by simp))
   have := ih fun q hq => h q (ZV _ hq)
   omega
theorem Rj : ∀ {ps : List Int} {left : Int}, fits left ps = true ↔ (∀ p ∈ ps, -1 <= p) /\ RJ ps = left
 | [], left => by simp [fits, RJ]; constructor <;> intro h <;> omega
 | p :: r, left => by
   rw [fits, Pc]
   by_cases h : p < -1 ∨ left < J7 p
   .rw [if_pos h]
    constructor
    .intro h; cases h
    .rintro ⟨h1, h2⟩
     have hp := h1 p (by simp)
     have := QC (ps := r) fun q hq => h1 q (ZV _ hq)
     omega
   .rw [if_neg h, Rj]
    constructor
    .rintro ⟨h1, h2⟩
     exact ⟨fun q hq => by rcases aaE.1 hq with rfl | hq; · omega
                           .exact h1 q hq, by omega⟩
    .rintro ⟨h1, h2⟩
     exact ⟨fun q hq => h1 q (ZV _ hq), by omega⟩
structure Zq (log : Nat) (ps : List Int) : Prop where
 log5 : 5 <= log
 log15 : log <= 15
 len1 : 1 <= ps.length
 len256 : ps.length <= 256
 last : ps.getLast? ≠ some 0
 low : ∀ p ∈ ps, -1 <= p
 sum : RJ ps = 2 ^ log
theorem Zq.b {log : Nat} {ps : List Int} (h : Zq log ps) : Yy log ps = true := by
 unfold Yy Xg
 simp only [ZR, decide_eq_true_eq]
 have h1 := h.log5
 have h2 := h.log15
 refine ⟨⟨by omega, by omega, h.len1, h.len256, h.last⟩, ?_⟩
 rw [Rj, ZI]
 exact ⟨h.low, h.sum⟩
def pos (n j : Nat) : Nat := (j * (n / 2 + n / 8 + 3)) % n
end Go.Pu
namespace Go.Pu
open Go Go.En
def Yu (c : UInt8) : List Bool := (List.range 8).map c.toNat.testBit
def Xu : List UInt8 -> List Bool
 | [] => []
 | c :: l => Yu c ++ Xu l
theorem XS {x i : Nat} (h : x < 2 ^ i) (b : Nat) : x ||| (b * 2 ^ i) = x + 2 ^ i * b := by
 rw [Nat.or_comm, Nat.mul_comm b, <- Nat.two_pow_add_eq_or_of_lt h b, Nat.add_comm]
theorem WG {a b : Nat} (ha : a < 2 ^ 64) (hb : b < 2 ^ 64) : Yh .u64 (a : Int) (b : Int) = ((a ||| b : Nat) : Int) := by
 have h := Nat.or_lt_two_pow ha hb
 unfold Yh
 have e : IntKind.u64.bits = 64 := rfl
 rw [e, BitVec.ofInt_natCast, BitVec.ofInt_natCast, BitVec.toNat_or, BitVec.toNat_ofNat, BitVec.toNat_ofNat, abE ha, abE hb]
 exact fI (by omega) (by have : ((a ||| b : Nat) : Int) < ((2 ^ 64 : Nat) : Int) := by exact_mod_cast h
                         omega)
end Go.Pu
namespace Go.Pu
open Go.En
abbrev tE : Nat := 4294967296
theorem SX {a b : Nat} (ha : a < tE) (hb : b < tE) : Yh .u32 (a : Int) (b : Int) = ((a ||| b : Nat) : Int) := by
 have h := Nat.or_lt_two_pow (n := 32) ha hb
 unfold Yh
 have e : IntKind.u32.bits = 32 := rfl
 rw [e, BitVec.ofInt_natCast, BitVec.ofInt_natCast, BitVec.toNat_or, BitVec.toNat_ofNat, BitVec.toNat_ofNat, abE ha, abE hb]
 exact fM (by omega) (by have : ((a ||| b : Nat) : Int) < ((2 ^ 32 : Nat) : Int) := by exact_mod_cast h
                         omega)
theorem tU {a b : Nat} (ha : a < tE) (hb : b < tE) : Qh .u32 (a : Int) (b : Int) = ((a ^^^ b : Nat) : Int) := by
 have h := Nat.xor_lt_two_pow (n := 32) ha hb
 unfold Qh
 have e : IntKind.u32.bits = 32 := rfl
 rw [e, BitVec.ofInt_natCast, BitVec.ofInt_natCast, BitVec.toNat_xor, BitVec.toNat_ofNat, BitVec.toNat_ofNat, abE ha, abE hb]
 exact fM (by omega) (by have : ((a ^^^ b : Nat) : Int) < ((2 ^ 32 : Nat) : Int) := by exact_mod_cast h
                         omega)
theorem Fw {a b : Nat} (ha : a < tE) (hb : b < tE) : TX .u32 (a : Int) (b : Int) = ((a &&& b : Nat) : Int) := by
 have h := Nat.and_lt_two_pow (n := 32) a hb
 unfold TX
 have e : IntKind.u32.bits = 32 := rfl
 rw [e, BitVec.ofInt_natCast, BitVec.ofInt_natCast, BitVec.toNat_and, BitVec.toNat_ofNat, BitVec.toNat_ofNat, abE ha, abE hb]
 exact fM (by omega) (by have : ((a &&& b : Nat) : Int) < ((2 ^ 32 : Nat) : Int) := by exact_mod_cast h
                         omega)
theorem RC (a : Nat) : IntKind.u32.wrap (a : Int) = ((a % tE : Nat) : Int) := by
 show (a : Int) % 4294967296 = ((a % 4294967296 : Nat) : Int)
 omega
theorem Nv (a b : Nat) : IntKind.u32.wrap ((a : Int) + (b : Int)) = (((a + b) % tE : Nat) : Int) := by
 rw [<- RC]; congr 1
theorem QV (a k : Nat) : IntKind.u32.wrap ((a : Int) * 2 ^ k) = ((a * 2 ^ k % tE : Nat) : Int) := by
 have e : ((a : Int) * 2 ^ k) = ((a * 2 ^ k : Nat) : Int) := by simp
 rw [e, RC]
theorem Nn (a k : Nat) : (a : Int).fdiv (2 ^ k) = ((a / 2 ^ k : Nat) : Int) := by
 rw [Int.fdiv_eq_ediv_of_nonneg _ (by exact Int.le_of_lt (Int.pow_pos (by decide)))]
 simp
theorem H0 {a b : Nat} (ha : a < tE) (hb : b < tE) : a ^^^ b < tE := Nat.xor_lt_two_pow (n := 32) ha hb
theorem Xk {a b : Nat} (ha : a < tE) (hb : b < tE) : a ||| b < tE := Nat.or_lt_two_pow (n := 32) ha hb
theorem JT (a : Nat) {b : Nat} (hb : b < tE) : a &&& b < tE := Nat.and_lt_two_pow (n := 32) a hb
theorem Eg (a : Nat) : a % tE < tE := acQ _ (by decide)
theorem OA {a : Nat} (h : a < tE) (k : Nat) : a / 2 ^ k < tE := Nat.lt_of_le_of_lt (Nat.div_le_self _ _) h
def Rs (x k : Nat) : Nat := (x * 2 ^ (32 - k) % tE) ||| (x / 2 ^ k)
theorem Cq {x k : Nat} (h : x < tE) : Rs x k < tE := Xk (Eg _) (OA h k)
def Px (x a b c : Nat) : Nat := Rs x a ^^^ Rs x b ^^^ Rs x c
def Tx (x a b d : Nat) : Nat := Rs x a ^^^ Rs x b ^^^ (x / 2 ^ d)
def Sp (b : List UInt8) : Nat -> List Nat
 | 0 => List.replicate 64 0
 | i + 1 => (Sp b i).set (i / 4) (((Sp b i).getD (i / 4) 0 * 2 ^ 8 % tE) ||| (b.getD i 0).toNat)
def TW (l : List Nat) : Nat -> List Nat
 | 0 => l
 | j + 1 => (TW l j).set (16 + j) (((((TW l j).getD j 0 + Tx ((TW l j).getD (j + 1) 0) 7 18 3) % tE + (TW l j).getD (j + 9) 0) % tE + Tx ((TW l j).getD (j + 14) 0) 17 19 10) % tE)
def kN : List Nat := [1116352408, 1899447441, 3049323471, 3921009573, 961987163, 1508970993, 2453635748, 2870763221, 3624381080, 310598401, 607225278, 1426881987, 1925078388, 2162078206, 2614888103, 3248222580, 3835390401, 4022224774, 264347078, 604807628, 770255983, 1249150122, 1555081692, 1996064986, 2554220882, 2821834349, 2952996808, 3210313671, 3336571891, 3584528711, 113926993, 338241895, 666307205, 773529912, 1294757372, 1396182291, 1695183700, 1986661051, 2177026350, 2456956037, 2730485921, 2820302411, 3259730800, 3345764771, 3516065817, 3600352804, 4094571909, 275423344, 430227734, 506948616, 659060556, 883997877, 958139571, 1322822218, 1537002063, 1747873779, 1955562222, 2024104815, 2227730452, 2361852424, 2428436474, 2756734187, 3204031479, 3329325298]
def XP (v : List Nat) (k w : Nat) : Nat :=
 ((((v.getD 7 0 + Px (v.getD 4 0) 6 11 25) % tE + ((v.getD 4 0 &&& v.getD 5 0) ^^^ ((4294967295 ^^^ v.getD 4 0) &&& v.getD 6 0))) % tE + k) % tE + w) % tE
def YC (v : List Nat) : Nat := (Px (v.getD 0 0) 2 13 22 + ((v.getD 0 0 &&& v.getD 1 0) ^^^ (v.getD 0 0 &&& v.getD 2 0) ^^^ (v.getD 1 0 &&& v.getD 2 0))) % tE
def RM (v : List Nat) (k w : Nat) : List Nat :=
 [(XP v k w + YC v) % tE, v.getD 0 0, v.getD 1 0, v.getD 2 0, (v.getD 3 0 + XP v k w) % tE, v.getD 4 0, v.getD 5 0, v.getD 6 0]
def wE (W : List Nat) (s : List Nat) : Nat -> List Nat
 | 0 => s
 | t + 1 => RM (wE W s t) (kN.getD t 0) (W.getD t 0)
def Bn (v s : List Nat) (i : Nat) : List Nat := v.mapIdx fun j x => if j < i then (x + s.getD j 0) % tE else x
def JC (s : List Nat) (b : List UInt8) : List Nat := Bn (wE (TW (Sp b 64) 48) s 64) s 8
def Cs (l : List Nat) : Prop := ∀ x ∈ l, x < tE
theorem Cs.getD {l : List Nat} (h : Cs l) (i : Nat) : l.getD i 0 < tE := by
 rw [ZS]
 cases e : l[i]? with
 | none => decide
 | some x => exact h x (adB e)
theorem Cs.set {l : List Nat} (h : Cs l) {i x : Nat} (hx : x < tE) : Cs (l.set i x) := fun y hy => by
 rcases List.mem_or_eq_of_mem_set hy with h1 | h1
 .exact h y h1
 .rw [h1]; exact hx
theorem Tc (b : List UInt8) : ∀ i, (Sp b i).length = 64
 | 0 => by simp [Sp]
 | i + 1 => by rw [Sp, abV, Tc b i]
theorem RW (b : List UInt8) : ∀ i, Cs (Sp b i)
 | 0 => fun x hx => by
   rw [Sp] at hx
   rw [(List.mem_replicate.1 hx).2]; decide
 | i + 1 => by
   have h2 := (b.getD i 0).toNat_lt
   exact (RW b i).set (Xk (Eg _) (by have : tE = 4294967296 := rfl
                                     omega))
theorem Tj (l : List Nat) : ∀ j, (TW l j).length = l.length
 | 0 => rfl
 | j + 1 => by rw [TW, abV, Tj l j]
theorem VZ {l : List Nat} (h : Cs l) : ∀ j, Cs (TW l j)
 | 0 => h
 | j + 1 => (VZ h j).set (Eg _)
theorem Ub (v : List Nat) (k w : Nat) : (RM v k w).length = 8 := rfl
theorem VT {v : List Nat} (h : Cs v) (k w : Nat) : Cs (RM v k w) := fun x hx => by
 unfold RM at hx
 simp only [aaE, List.not_mem_nil, or_false] at hx
 rcases hx with rfl | rfl | rfl | rfl | rfl | rfl | rfl | rfl
 .exact Eg _
 .exact h.getD 0
 .exact h.getD 1
 .exact h.getD 2
 .exact Eg _
 .exact h.getD 4
 .exact h.getD 5
 .exact h.getD 6
theorem Mh {W s : List Nat} (h : s.length = 8) : ∀ t, (wE W s t).length = 8
 | 0 => h
 | t + 1 => Ub _ _ _
theorem JU {W s : List Nat} (h : Cs s) : ∀ t, Cs (wE W s t)
 | 0 => h
 | t + 1 => VT (JU h t) _ _
theorem L1 (v s : List Nat) (i : Nat) : (Bn v s i).length = v.length := by simp [Bn]
theorem Sy (v s : List Nat) : Bn v s 0 = v := by
 apply acW
 .simp [Bn]
 .intro i h1 h2; simp [Bn]
theorem T3 {v s : List Nat} {i : Nat} (h : i < v.length) : (Bn v s i).getD i 0 = v.getD i 0 := by
 rw [ZS, ZS, ZO (by rw [L1]; exact h), ZO h]
 simp [Bn]
theorem Ut {v s : List Nat} {i : Nat} (h : i < v.length) : (Bn v s i).set i ((v.getD i 0 + s.getD i 0) % tE) = Bn v s (i + 1) := by
 have hv : v.getD i 0 = v[i] := by rw [ZS, ZO h] <;> rfl
 rw [hv]
 apply acW
 .simp [Bn]
 .intro j h1 h2
  rw [List.getElem_set]
  simp only [Bn, List.getElem_mapIdx]
  by_cases hij : i = j
  .subst hij; simp
  .simp only [hij, if_false]
   by_cases hj : j < i
   .rw [if_pos hj, if_pos (by omega)]
   .rw [if_neg hj, if_neg (by omega)]
theorem VV {v s : List Nat} (hv : Cs v) (i : Nat) : Cs (Bn v s i) := fun x hx => by
 unfold Bn at hx
 obtain ⟨j, hj, rfl⟩ := List.mem_mapIdx.1 hx
 split
 .exact Eg _
 .exact hv _ (abR hj)
theorem PG {s : List Nat} (b : List UInt8) (h : s.length = 8) : (JC s b).length = 8 := by unfold JC; rw [L1, Mh h]
theorem U7 {s : List Nat} (b : List UInt8) (h : Cs s) : Cs (JC s b) := VV (JU h _) _
def V9 : List Nat := [1779033703, 3144134277, 1013904242, 2773480762, 1359893119, 2600822924, 528734635, 1541459225]
def II : Nat -> List UInt8 -> List Nat
 | 0, _ => V9
 | k + 1, L => JC (II k L) ((L.drop (64 * k)).take 64)
theorem Bj : ∀ k L, (II k L).length = 8
 | 0, _ => rfl
 | k + 1, L => PG _ (Bj k L)
theorem PM : ∀ k L, Cs (II k L)
 | 0, _ => by
   show Cs V9
   unfold Cs V9; decide
 | k + 1, L => U7 _ (PM k L)
theorem Mj : ∀ k (L M : List UInt8), 64 * k <= L.length -> II k (L ++ M) = II k L
 | 0, _, _, _ => rfl
 | k + 1, L, M, h => by
   rw [II, II, Mj k L M (by omega)]
   congr 1
   rw [aaC (by omega), Z9 (by rw [ZW]; omega)]
def Wc (x : Nat) (k : Nat) : List UInt8 := (List.range k).map fun i => UInt8.ofNat (x / 2 ^ (56 - 8 * i) % 256)
theorem SR (x k : Nat) : (Wc x k).length = k := by simp [Wc]
theorem VF (x k : Nat) : Wc x (k + 1) = Wc x k ++ [UInt8.ofNat (x / 2 ^ (56 - 8 * k) % 256)] := by simp [Wc, adF]
def Tz (L : List UInt8) : List UInt8 := L ++ [128] ++ List.replicate ((119 - L.length % 64) % 64) 0 ++ Wc (8 * L.length) 8
def OM (s : List Nat) (k : Nat) : List UInt8 := (List.range k).map fun i => UInt8.ofNat (s.getD (i / 4) 0 / 2 ^ (24 - i % 4 * 8) % 256)
theorem Uc (s : List Nat) (k : Nat) : OM s (k + 1) = OM s k ++ [UInt8.ofNat (s.getD (k / 4) 0 / 2 ^ (24 - k % 4 * 8) % 256)] := by simp [OM, adF]
theorem KB (s : List Nat) (k : Nat) : (OM s k).length = k := by simp [OM]
def Q7 (L : List UInt8) : List UInt8 := OM (II ((Tz L).length / 64) (Tz L)) 32
theorem yR (L : List UInt8) : (Q7 L).length = 32 := KB _ _
def gV (l : List UInt8) : List UInt8 := Q7 (0 :: l)
def hN : List Nat := [0, 274646895, 549293790, 820201905, 1098587580, 1361435347, 1640403810, 1905808397, 2197175160, 2460548119, 2722870694, 2987750089, 3280807620, 3553878443, 3811616794, 4084100981]
theorem Xw : Cs hN := by unfold Cs hN; decide
def O5 (x : Nat) : Nat := x / 2 ^ 4 ^^^ hN.getD (x &&& 15) 0
def WL (x : Nat) (c : UInt8) : Nat := O5 (O5 (x ^^^ c.toNat))
theorem NV {x : Nat} (h : x < tE) : O5 x < tE := H0 (OA h _) (Xw.getD _)
theorem I3 (c : UInt8) : c.toNat < tE := by
 have := c.toNat_lt
 have : tE = 4294967296 := rfl
 omega
theorem WZ {x : Nat} (h : x < tE) (c : UInt8) : WL x c < tE := NV (NV (H0 h (I3 c)))
def No (x : Nat) (l : List UInt8) : Nat := l.foldl WL x
theorem Qd {x : Nat} (h : x < tE) (l : List UInt8) : No x l < tE := by
 unfold No
 induction l generalizing x with
 | nil => exact h
 | cons c l ih => exact ih (WZ h c)
theorem Up (x : Nat) (l : List UInt8) (c : UInt8) : No x (l ++ [c]) = WL (No x l) c := by unfold No; rw [List.foldl_append] <;> rfl
def gZ (l : List UInt8) : Nat := 4294967295 ^^^ No 4294967295 l
theorem Xe (l : List UInt8) : gZ l < tE := H0 (by decide) (Qd (by decide) l)
end Go.Pu
namespace Go.Proofs.YteelnmpbnaohpaaDoor
open Go Go.En Go.Pu
set_option maxRecDepth 4000
structure qL (w : adH) : Prop where
 sh : ∀ i, i < 64 -> w.cell? ⟨0, i, none⟩ = some (.int .u32 (kN.getD i 0 : Nat))
 cr : ∀ i, i < 16 -> w.cell? ⟨1, i, none⟩ = some (.int .u32 (hN.getD i 0 : Nat))
theorem FO {w w' : adH} {g i : Nat} {v : adI} {M : Nat -> Prop} (hc : w.cell? ⟨g, i, none⟩ = some v) (x : gT w w' M) (hM : ¬ M g) : w'.cell? ⟨g, i, none⟩ = some v := by
 have hg : g < w.heap.size := by
  rcases aaN g w.heap.size with h | h
  .exact h
  .unfold World.cell? at hc
   rw [Z8 h] at hc
   cases hc
 rw [<- hc]
 unfold World.cell?
 rw [x.keep g hg hM]
theorem qL.extM {w w' : adH} {M : Nat -> Prop} (h : qL w) (x : gT w w' M) (h1 : ¬ M 0) (h2 : ¬ M 1) : qL w' :=
 ⟨fun i hi => FO (h.sh i hi) x h1, fun i hi => FO (h.cr i hi) x h2⟩
theorem qL.ext {w w' : adH} (h : qL w) (x : gT w w' jI) : qL w' := h.extM x (fun h => h) (fun h => h)
theorem qL.lt {w : adH} (h : qL w) : 0 < w.heap.size /\ 1 < w.heap.size := by
 have q : ∀ {g : Nat} {v : adI}, w.cell? ⟨g, 0, none⟩ = some v -> g < w.heap.size := fun {g v} hc => by
  rcases aaN g w.heap.size with h | h
  .exact h
  .unfold World.cell? at hc
   rw [Z8 h] at hc
   cases hc
 exact ⟨q (h.sh 0 (by omega)), q (h.cr 0 (by omega))⟩
theorem X5 : ∀ k : Fin 31, TX .u64 (IntKind.u64.wrap (-((k.val + 1 : Nat) : Int))) 31 = ((31 - k.val : Nat) : Int) := by decide
theorem Yg : ∀ k : Fin 31, IntKind.u64.wrap (32 - ((31 - k.val : Nat) : Int)) = ((k.val + 1 : Nat) : Int) := by decide
theorem Oe {x k : Nat} (hx : x < tE) (h1 : 1 <= k) (h2 : k <= 31) (w : adH) :
 gS pg jJ #[.int .u32 (x : Nat), .int .i64 (-(k : Int))] w (fun r w' => r = .int .u32 (Rs x k : Nat) /\ w' = w) := by
 refine Ct ?_
 have e1 := X5 ⟨k - 1, by omega⟩
 have e2 := Yg ⟨k - 1, by omega⟩
 simp only [show k - 1 + 1 = k from by omega, show 31 - (k - 1) = 32 - k from by omega] at e1 e2
 have m1 : min (32 - k) IntKind.u32.bits = 32 - k := aaD (by have : IntKind.u32.bits = 32 := rfl
                                                             omega)
 have m2 : min k IntKind.u32.bits = k := aaD (by have : IntKind.u32.bits = 32 := rfl
                                                 omega)
 have e3 := QV x (32 - k)
 have e4 := Nn x k
 have e5 := SX (a := x * 2 ^ (32 - k) % tE) (b := x / 2 ^ k) (Eg _) (OA hx k)
 unfold yY pB Rs
 simp (disch := omega) only [eY, gM, dX, stepR_skip, fO, gD, fN, gC, gI, fW, gR, fX, eU, fU, fS, gH, fP, fL, fT, fR, fV, gE, gG, fQ, fC, fY, gB, fK, iO, iJ, iH, iL, iI, iM, iK, iG, iN, eP, Result.ok.injEq, Next.value.injEq, true_and, and_true, fJ, fI, fZ, fM, gA, gQ, ZI, fE, fH, fG, fD, eZ, eT, fB, eX, eQ, eH, if_true, if_false, ZF, ZL, ZG, ZH, ZK, ZJ, ZE, ZD, eA, dW, aB, dI, dH, cG, eB, eS, eC, dO, eD, fA, dL, eN, bQ, dG, bG, dN, aK, aG, eJ, aY, cA, eK, aD, eM, dM, aS, bJ, eE, bH, bF, bC, aP, aM, cB, fF, dY, bZ, cH, dB, cD, dT, bE, eI, bY, dF, bP, aZ, bX, aC, bV, bR, cI, bW, bA, aT, aU, bT, dS, cR, bO, aV, aJ, aL, bD, aH, dC, dV, aI, aN, aX, aF, cX, aE, cL, bU, bB, aO, cM, cJ, aA, dR, cP, cQ, cF, dK, cC, dJ, dU, cV, eF, eL, bN, aR, dZ, bS, aQ, bL, dE, dA, cU, cO, cS, bM, bK, cY, dD, cN, dQ, cZ, e1, e2, m1, m2, e3, e4, e5]
theorem Rd {x a b c : Nat} (hx : x < tE) (ha : 1 <= a /\ a <= 31) (hb : 1 <= b /\ b <= 31) (hc : 1 <= c /\ c <= 31) (w : adH) :
 gS pg zR #[.int .u32 (x : Nat), .int .i64 (a : Nat), .int .i64 (b : Nat), .int .i64 (c : Nat)] w (fun r w' => r = .int .u32 (Px x a b c : Nat) /\ w' = w) := by
 refine MR ?_
 unfold NB EV Px
 have n1 : ∀ k : Nat, k <= 31 -> IntKind.i64.wrap (0 - (k : Int)) = -(k : Int) := fun k hk => by rw [Int.zero_sub]; exact fJ (by omega) (by omega)
 simp (disch := omega) only [eY, gM, dX, stepR_skip, fO, gD, fN, gC, gI, fW, gR, fX, eU, fU, fS, gH, fP, fL, fT, fR, fV, gE, gG, fQ, fC, fY, gB, fK, iO, iJ, iH, iL, iI, iM, iK, iG, iN, eP, Result.ok.injEq, Next.value.injEq, true_and, and_true, fJ, fI, fZ, fM, gA, gQ, ZI, fE, fH, fG, fD, eZ, eT, fB, eX, eQ, eH, if_true, if_false, ZF, ZL, ZG, ZH, ZK, ZJ, ZE, ZD, eA, dW, aB, dI, dH, cG, eB, eS, eC, dO, eD, fA, dL, eN, bQ, dG, bG, dN, aK, aG, eJ, aY, cA, eK, aD, eM, dM, aS, bJ, eE, bH, bF, bC, aP, aM, cB, fF, dY, bZ, cH, dB, cD, dT, bE, eI, bY, dF, bP, aZ, bX, aC, bV, bR, cI, bW, bA, aT, aU, bT, dS, cR, bO, aV, aJ, aL, bD, aH, dC, dV, aI, aN, aX, aF, cX, aE, cL, bU, bB, aO, cM, cJ, aA, dR, cP, cQ, cF, dK, cC, dJ, dU, cV, eF, eL, bN, aR, dZ, bS, aQ, bL, dE, dA, cU, cO, cS, bM, bK, cY, dD, cN, dQ, cZ, n1 a ha.2, n1 b hb.2, n1 c hc.2]
 refine (Oe hx ha.1 ha.2 w).mono ?_
 rintro r w1 ⟨rfl, hw⟩
 rw [hw]; clear hw w1
 refine (Oe hx hb.1 hb.2 w).mono ?_
 rintro r w1 ⟨rfl, hw⟩
 rw [hw]; clear hw w1
 have e1 := tU (Cq (k := a) hx) (Cq (k := b) hx)
 simp (disch := omega) only [eY, gM, dX, stepR_skip, fO, gD, fN, gC, gI, fW, gR, fX, eU, fU, fS, gH, fP, fL, fT, fR, fV, gE, gG, fQ, fC, fY, gB, fK, iO, iJ, iH, iL, iI, iM, iK, iG, iN, eP, Result.ok.injEq, Next.value.injEq, true_and, and_true, fJ, fI, fZ, fM, gA, gQ, ZI, fE, fH, fG, fD, eZ, eT, fB, eX, eQ, eH, if_true, if_false, ZF, ZL, ZG, ZH, ZK, ZJ, ZE, ZD, eA, dW, aB, dI, dH, cG, eB, eS, eC, dO, eD, fA, dL, eN, bQ, dG, bG, dN, aK, aG, eJ, aY, cA, eK, aD, eM, dM, aS, bJ, eE, bH, bF, bC, aP, aM, cB, fF, dY, bZ, cH, dB, cD, dT, bE, eI, bY, dF, bP, aZ, bX, aC, bV, bR, cI, bW, bA, aT, aU, bT, dS, cR, bO, aV, aJ, aL, bD, aH, dC, dV, aI, aN, aX, aF, cX, aE, cL, bU, bB, aO, cM, cJ, aA, dR, cP, cQ, cF, dK, cC, dJ, dU, cV, eF, eL, bN, aR, dZ, bS, aQ, bL, dE, dA, cU, cO, cS, bM, bK, cY, dD, cN, dQ, cZ, n1 c hc.2, e1]
 refine (Oe hx hc.1 hc.2 w).mono ?_
 rintro r w1 ⟨rfl, hw⟩
 rw [hw]; clear hw w1
 have e2 := tU (H0 (Cq (k := a) hx) (Cq (k := b) hx)) (Cq (k := c) hx)
 simp (disch := omega) only [eY, gM, dX, stepR_skip, fO, gD, fN, gC, gI, fW, gR, fX, eU, fU, fS, gH, fP, fL, fT, fR, fV, gE, gG, fQ, fC, fY, gB, fK, iO, iJ, iH, iL, iI, iM, iK, iG, iN, eP, Result.ok.injEq, Next.value.injEq, true_and, and_true, fJ, fI, fZ, fM, gA, gQ, ZI, fE, fH, fG, fD, eZ, eT, fB, eX, eQ, eH, if_true, if_false, ZF, ZL, ZG, ZH, ZK, ZJ, ZE, ZD, eA, dW, aB, dI, dH, cG, eB, eS, eC, dO, eD, fA, dL, eN, bQ, dG, bG, dN, aK, aG, eJ, aY, cA, eK, aD, eM, dM, aS, bJ, eE, bH, bF, bC, aP, aM, cB, fF, dY, bZ, cH, dB, cD, dT, bE, eI, bY, dF, bP, aZ, bX, aC, bV, bR, cI, bW, bA, aT, aU, bT, dS, cR, bO, aV, aJ, aL, bD, aH, dC, dV, aI, aN, aX, aF, cX, aE, cL, bU, bB, aO, cM, cJ, aA, dR, cP, cQ, cF, dK, cC, dJ, dU, cV, eF, eL, bN, aR, dZ, bS, aQ, bL, dE, dA, cU, cO, cS, bM, bK, cY, dD, cN, dQ, cZ, e2]
theorem Pt {x a b d : Nat} (hx : x < tE) (ha : 1 <= a /\ a <= 31) (hb : 1 <= b /\ b <= 31) (hd : d <= 31) (w : adH) :
 gS pg Dr #[.int .u32 (x : Nat), .int .i64 (a : Nat), .int .i64 (b : Nat), .int .i64 (d : Nat)] w (fun r w' => r = .int .u32 (Tx x a b d : Nat) /\ gT w w' jI) := by
 refine OI ?_
 unfold Rn IQ Tx
 have n1 : ∀ k : Nat, k <= 31 -> IntKind.i64.wrap (0 - (k : Int)) = -(k : Int) := fun k hk => by rw [Int.zero_sub]; exact fJ (by omega) (by omega)
 have m2 : min d IntKind.u32.bits = d := aaD (by have : IntKind.u32.bits = 32 := rfl
                                                 omega)
 have e4 := Nn x d
 simp (disch := omega) only [eY, gM, dX, stepR_skip, fO, gD, fN, gC, gI, fW, gR, fX, eU, fU, fS, gH, fP, fL, fT, fR, fV, gE, gG, fQ, fC, fY, gB, fK, iO, iJ, iH, iL, iI, iM, iK, iG, iN, eP, Result.ok.injEq, Next.value.injEq, true_and, and_true, fJ, fI, fZ, fM, gA, gQ, ZI, fE, fH, fG, fD, eZ, eT, fB, eX, eQ, eH, if_true, if_false, ZF, ZL, ZG, ZH, ZK, ZJ, ZE, ZD, eA, dW, aB, dI, dH, cG, eB, eS, eC, dO, eD, fA, dL, eN, bQ, dG, bG, dN, aK, aG, eJ, aY, cA, eK, aD, eM, dM, aS, bJ, eE, bH, bF, bC, aP, aM, cB, fF, dY, bZ, cH, dB, cD, dT, bE, eI, bY, dF, bP, aZ, bX, aC, bV, bR, cI, bW, bA, aT, aU, bT, dS, cR, bO, aV, aJ, aL, bD, aH, dC, dV, aI, aN, aX, aF, cX, aE, cL, bU, bB, aO, cM, cJ, aA, dR, cP, cQ, cF, dK, cC, dJ, dU, cV, eF, eL, bN, aR, dZ, bS, aQ, bL, dE, dA, cU, cO, cS, bM, bK, cY, dD, cN, dQ, cZ, n1 a ha.2, n1 b hb.2, m2, e4]
 refine (Oe hx ha.1 ha.2 _).mono ?_
 rintro r w1 ⟨rfl, hw⟩
 rw [hw]; clear hw w1
 refine (Oe hx hb.1 hb.2 _).mono ?_
 rintro r w1 ⟨rfl, hw⟩
 rw [hw]; clear hw w1
 have e1 := tU (Cq (k := a) hx) (Cq (k := b) hx)
 have e2 := tU (H0 (Cq (k := a) hx) (Cq (k := b) hx)) (OA hx d)
 simp (disch := omega) only [eY, gM, dX, stepR_skip, fO, gD, fN, gC, gI, fW, gR, fX, eU, fU, fS, gH, fP, fL, fT, fR, fV, gE, gG, fQ, fC, fY, gB, fK, iO, iJ, iH, iL, iI, iM, iK, iG, iN, eP, Result.ok.injEq, Next.value.injEq, true_and, and_true, fJ, fI, fZ, fM, gA, gQ, ZI, fE, fH, fG, fD, eZ, eT, fB, eX, eQ, eH, if_true, if_false, ZF, ZL, ZG, ZH, ZK, ZJ, ZE, ZD, eA, dW, aB, dI, dH, cG, eB, eS, eC, dO, eD, fA, dL, eN, bQ, dG, bG, dN, aK, aG, eJ, aY, cA, eK, aD, eM, dM, aS, bJ, eE, bH, bF, bC, aP, aM, cB, fF, dY, bZ, cH, dB, cD, dT, bE, eI, bY, dF, bP, aZ, bX, aC, bV, bR, cI, bW, bA, aT, aU, bT, dS, cR, bO, aV, aJ, aL, bD, aH, dC, dV, aI, aN, aX, aF, cX, aE, cL, bU, bB, aO, cM, cJ, aA, dR, cP, cQ, cF, dK, cC, dJ, dU, cV, eF, eL, bN, aR, dZ, bS, aQ, bL, dE, dA, cU, cO, cS, bM, bK, cY, dD, cN, dQ, cZ, n1 b hb.2, m2, e4, e1, e2]
 exact gT.dr _ _
theorem WR {l : List UInt8} {v : adI} {w : adH} (hg : qL w) (hv : Bs w v l) (hl : l.length <= 1000000000) :
 gS pg Lb #[v] w (fun r w' => r = .int .u32 (gZ l : Nat) /\ gT w w' jI) := by
 refine Qs ?_
 obtain ⟨RR, hRR⟩ : ∃ RR : adI -> adH -> Prop, RR = fun r w' => r = .int .u32 (gZ l : Nat) /\ gT w w' jI := ⟨_, rfl⟩
 rw [<- hRR]
 obtain ⟨hg0, hg1⟩ := hg.lt
 unfold VI Ma
 refine PS ?_
 unfold Ta Kc
 simp (disch := omega) only [eY, gM, dX, stepR_skip, fO, gD, fN, gC, gI, fW, gR, fX, eU, fU, fS, gH, fP, fL, fT, fR, fV, gE, gG, fQ, fC, fY, gB, fK, iO, iJ, iH, iL, iI, iM, iK, iG, iN, eP, Result.ok.injEq, Next.value.injEq, true_and, and_true, fJ, fI, fZ, fM, gA, gQ, ZI, fE, fH, fG, fD, eZ, eT, fB, eX, eQ, eH, if_true, if_false, ZF, ZL, ZG, ZH, ZK, ZJ, ZE, ZD, eA, dW, aB, dI, dH, cG, eB, eS, eC, dO, eD, fA, dL, eN, bQ, dG, bG, dN, aK, aG, eJ, aY, cA, eK, aD, eM, dM, aS, bJ, eE, bH, bF, bC, aP, aM, cB, fF, dY, bZ, cH, dB, cD, dT, bE, eI, bY, dF, bP, aZ, bX, aC, bV, bR, cI, bW, bA, aT, aU, bT, dS, cR, bO, aV, aJ, aL, bD, aH, dC, dV, aI, aN, aX, aF, cX, aE, cL, bU, bB, aO, cM, cJ, aA, dR, cP, cQ, cF, dK, cC, dJ, dU, cV, eF, eL, bN, aR, dZ, bS, aQ, bL, dE, dA, cU, cO, cS, bM, bK, cY, dD, cN, dQ, cZ]
 refine oA fun w1 o1 x1 s1 => ?_
 obtain ⟨p, hp⟩ : ∃ p, p = w.heap.size := ⟨_, rfl⟩
 rw [<- hp] at o1 ⊢
 have o1 : jF w1 p [.int .u32 (No 4294967295 (l.take 0) : Nat)] := o1
 refine Jv ?_
 unfold Ic zY zP
 obtain ⟨va, vc, rfl, _⟩ := hv.len
 rw [ZM] at hv
 simp (disch := omega) only [eY, gM, dX, stepR_skip, fO, gD, fN, gC, gI, fW, gR, fX, eU, fU, fS, gH, fP, fL, fT, fR, fV, gE, gG, fQ, fC, fY, gB, fK, iO, iJ, iH, iL, iI, iM, iK, iG, iN, eP, Result.ok.injEq, Next.value.injEq, true_and, and_true, fJ, fI, fZ, fM, gA, gQ, ZI, fE, fH, fG, fD, eZ, eT, fB, eX, eQ, eH, if_true, if_false, ZF, ZL, ZG, ZH, ZK, ZJ, ZE, ZD, eA, dW, aB, dI, dH, cG, eB, eS, eC, dO, eD, fA, dL, eN, bQ, dG, bG, dN, aK, aG, eJ, aY, cA, eK, aD, eM, dM, aS, bJ, eE, bH, bF, bC, aP, aM, cB, fF, dY, bZ, cH, dB, cD, dT, bE, eI, bY, dF, bP, aZ, bX, aC, bV, bR, cI, bW, bA, aT, aU, bT, dS, cR, bO, aV, aJ, aL, bD, aH, dC, dV, aI, aN, aX, aF, cX, aE, cL, bU, bB, aO, cM, cJ, aA, dR, cP, cQ, cF, dK, cC, dJ, dU, cV, eF, eL, bN, aR, dZ, bS, aQ, bL, dE, dA, cU, cO, cS, bM, bK, cY, dD, cN, dQ, cZ, ZM]
 unfold Ag zE
 refine kF.rule (fun m (t : adI) w' => ∃ i : Nat, m = l.length - i /\ i <= l.length /\ t = .int .i64 (i : Nat) /\ jF w' p [.int .u32 (No 4294967295 (l.take i) : Nat)] /\ gT w1 w' (fun y => y = p)) l.length ⟨0, rfl, by omega, rfl, o1, gT.refl _ _⟩ ?_
 clear o1
 rintro m t w2 ⟨i, rfl, hi, rfl, o2, x2⟩
 unfold sT
 have x02 : gT w w2 jI := x1.trans x2 fun y hy h => by omega
 by_cases hlt : i < l.length
 .have d1 : decide ((i : Int) < (l.length : Int)) = true := by simp; omega
  have hv2 := hv.ext x02 (jA _)
  obtain ⟨b, off, c', hv', hc', hcell⟩ := hv2.openV (by rw [ZM]; omega)
  have g1 := hcell i (by rw [ZM]; exact hlt)
  rw [ZM] at hv'
  cases hv'
  rw [acX] at g1
  obtain ⟨c, hc⟩ : ∃ c, c = l[i]'hlt := ⟨_, rfl⟩
  rw [<- hc] at g1
  simp only [oZ] at g1
  have htk : l.take (i + 1) = l.take i ++ [c] := by rw [acR, ZO hlt, <- hc] <;> rfl
  have hx := Qd (x := 4294967295) (by decide) (l.take i)
  obtain ⟨x, hxx⟩ : ∃ x, x = No 4294967295 (l.take i) := ⟨_, rfl⟩
  rw [<- hxx] at hx o2
  have c1 := o2.cell (off := 0)
  simp only [ZD] at c1
  have hcb : c.toNat < 256 := c.toNat_lt
  have e0 : IntKind.u32.wrap ((c.toNat : Nat) : Int) = ((c.toNat : Nat) : Int) := fM (by omega) (by omega)
  have e1 := tU hx (I3 c)
  have hy : x ^^^ c.toNat < tE := H0 hx (I3 c)
  simp (disch := omega) only [eY, gM, dX, stepR_skip, fO, gD, fN, gC, gI, fW, gR, fX, eU, fU, fS, gH, fP, fL, fT, fR, fV, gE, gG, fQ, fC, fY, gB, fK, iO, iJ, iH, iL, iI, iM, iK, iG, iN, eP, Result.ok.injEq, Next.value.injEq, true_and, and_true, fJ, fI, fZ, fM, gA, gQ, ZI, fE, fH, fG, fD, eZ, eT, fB, eX, eQ, eH, if_true, if_false, ZF, ZL, ZG, ZH, ZK, ZJ, ZE, ZD, eA, dW, aB, dI, dH, cG, eB, eS, eC, dO, eD, fA, dL, eN, bQ, dG, bG, dN, aK, aG, eJ, aY, cA, eK, aD, eM, dM, aS, bJ, eE, bH, bF, bC, aP, aM, cB, fF, dY, bZ, cH, dB, cD, dT, bE, eI, bY, dF, bP, aZ, bX, aC, bV, bR, cI, bW, bA, aT, aU, bT, dS, cR, bO, aV, aJ, aL, bD, aH, dC, dV, aI, aN, aX, aF, cX, aE, cL, bU, bB, aO, cM, cJ, aA, dR, cP, cQ, cF, dK, cC, dJ, dU, cV, eF, eL, bN, aR, dZ, bS, aQ, bL, dE, dA, cU, cO, cS, bM, bK, cY, dD, cN, dQ, cZ, d1, g1, c1, e0, e1]
  refine yJ o2 rfl (by simp) fun w3 o3 x3 s3 => ?_
  simp only [Z0] at o3
  obtain ⟨y, hyy⟩ : ∃ y, y = x ^^^ c.toNat := ⟨_, rfl⟩
  rw [<- hyy] at hy o3
  have b32 : IntKind.u32.bits = 32 := rfl
  have m4 : min (4 : Int).toNat IntKind.u32.bits = 4 := rfl
  have half : ∀ {y : Nat} {w' : adH}, y < tE -> jF w' p [.int .u32 (y : Nat)] -> gT w w' jI →
      w'.cell? ⟨1, y &&& 15, none⟩ = some (.int .u32 (hN.getD (y &&& 15) 0 : Nat)) /\ w'.cell? ⟨p, 0, none⟩ = some (.int .u32 (y : Nat)) /\ TX .u32 (y : Int) 15 = ((y &&& 15 : Nat) : Int) /\ y &&& 15 < 16 /\ (y : Int).fdiv (2 ^ 4) = ((y / 2 ^ 4 : Nat) : Int) /\ Qh .u32 ((y / 2 ^ 4 : Nat) : Int) ((hN.getD (y &&& 15) 0 : Nat) : Int) = ((O5 y : Nat) : Int) := fun {y w'} hy o x => by
   have h16 : y &&& 15 < 16 := Nat.and_lt_two_pow (n := 4) y (by decide)
   have c := o.cell (off := 0)
   simp only [ZD] at c
   exact ⟨(hg.ext x).cr _ h16, c, Fw (b := 15) hy (by decide), h16, Nn y 4, tU (OA hy 4) (Xw.getD _)⟩
  have x03 : gT w w3 jI := x02.trans x3 fun y hy h => by omega
  have od := kL o3
  obtain ⟨a1, a2, a3, a4, a5, a6⟩ := half hy od (x03.seq (gT.dr _ _))
  obtain ⟨b1, b2, -, -, -, -⟩ := half hy o3 x03
  obtain ⟨yy, hyd⟩ : ∃ yy, yy = y &&& 15 := ⟨_, rfl⟩
  rw [<- hyd] at a1 a3 a4 a6 b1
  simp (disch := omega) only [eY, gM, dX, stepR_skip, fO, gD, fN, gC, gI, fW, gR, fX, eU, fU, fS, gH, fP, fL, fT, fR, fV, gE, gG, fQ, fC, fY, gB, fK, iO, iJ, iH, iL, iI, iM, iK, iG, iN, eP, Result.ok.injEq, Next.value.injEq, true_and, and_true, fJ, fI, fZ, fM, gA, gQ, ZI, fE, fH, fG, fD, eZ, eT, fB, eX, eQ, eH, if_true, if_false, ZF, ZL, ZG, ZH, ZK, ZJ, ZE, ZD, eA, dW, aB, dI, dH, cG, eB, eS, eC, dO, eD, fA, dL, eN, bQ, dG, bG, dN, aK, aG, eJ, aY, cA, eK, aD, eM, dM, aS, bJ, eE, bH, bF, bC, aP, aM, cB, fF, dY, bZ, cH, dB, cD, dT, bE, eI, bY, dF, bP, aZ, bX, aC, bV, bR, cI, bW, bA, aT, aU, bT, dS, cR, bO, aV, aJ, aL, bD, aH, dC, dV, aI, aN, aX, aF, cX, aE, cL, bU, bB, aO, cM, cJ, aA, dR, cP, cQ, cF, dK, cC, dJ, dU, cV, eF, eL, bN, aR, dZ, bS, aQ, bL, dE, dA, cU, cO, cS, bM, bK, cY, dD, cN, dQ, cZ, a1, a2, a3, a5, a6, b1, b2, m4]
  refine yJ od rfl (by simp) fun w4 o4 x4 s4 => ?_
  simp only [Z0] at o4
  obtain ⟨z, hz⟩ : ∃ z, z = O5 y := ⟨_, rfl⟩
  have hz32 : z < tE := hz ▸ NV hy
  rw [<- hz] at o4
  have x04 : gT w w4 jI := (x03.seq (gT.dr _ _)).trans x4 fun y hy h => by omega
  have oe := kL o4
  obtain ⟨a1, a2, a3, a4, a5, a6⟩ := half hz32 oe (x04.seq (gT.dr _ _))
  obtain ⟨yy, hyd⟩ : ∃ yy, yy = z &&& 15 := ⟨_, rfl⟩
  rw [<- hyd] at a1 a3 a4 a6
  simp (disch := omega) only [eY, gM, dX, stepR_skip, fO, gD, fN, gC, gI, fW, gR, fX, eU, fU, fS, gH, fP, fL, fT, fR, fV, gE, gG, fQ, fC, fY, gB, fK, iO, iJ, iH, iL, iI, iM, iK, iG, iN, eP, Result.ok.injEq, Next.value.injEq, true_and, and_true, fJ, fI, fZ, fM, gA, gQ, ZI, fE, fH, fG, fD, eZ, eT, fB, eX, eQ, eH, if_true, if_false, ZF, ZL, ZG, ZH, ZK, ZJ, ZE, ZD, eA, dW, aB, dI, dH, cG, eB, eS, eC, dO, eD, fA, dL, eN, bQ, dG, bG, dN, aK, aG, eJ, aY, cA, eK, aD, eM, dM, aS, bJ, eE, bH, bF, bC, aP, aM, cB, fF, dY, bZ, cH, dB, cD, dT, bE, eI, bY, dF, bP, aZ, bX, aC, bV, bR, cI, bW, bA, aT, aU, bT, dS, cR, bO, aV, aJ, aL, bD, aH, dC, dV, aI, aN, aX, aF, cX, aE, cL, bU, bB, aO, cM, cJ, aA, dR, cP, cQ, cF, dK, cC, dJ, dU, cV, eF, eL, bN, aR, dZ, bS, aQ, bL, dE, dA, cU, cO, cS, bM, bK, cY, dD, cN, dQ, cZ, a1, a2, a3, a5, a6, m4]
  refine yJ oe rfl (by simp) fun w5 o5 x5 s5 => ?_
  simp only [Z0] at o5
  refine ⟨l.length - (i + 1), by omega, i + 1, rfl, by omega, rfl, ?_, ((((x2.seq x3).seq (gT.dr _ _)).seq x4).seq (gT.dr _ _)).seq x5⟩
  have e : No 4294967295 (l.take (i + 1)) = O5 z := by rw [htk, Up, <- hxx, WL, <- hyy, <- hz]
  rw [e]
  exact o5
 have d1 : decide ((i : Int) < (l.length : Int)) = false := by simp; omega
 obtain rfl : i = l.length := by omega
 rw [ZQ (ZU _)] at o2
 simp (disch := omega) only [eY, gM, dX, stepR_skip, fO, gD, fN, gC, gI, fW, gR, fX, eU, fU, fS, gH, fP, fL, fT, fR, fV, gE, gG, fQ, fC, fY, gB, fK, iO, iJ, iH, iL, iI, iM, iK, iG, iN, eP, Result.ok.injEq, Next.value.injEq, true_and, and_true, fJ, fI, fZ, fM, gA, gQ, ZI, fE, fH, fG, fD, eZ, eT, fB, eX, eQ, eH, if_true, if_false, ZF, ZL, ZG, ZH, ZK, ZJ, ZE, ZD, eA, dW, aB, dI, dH, cG, eB, eS, eC, dO, eD, fA, dL, eN, bQ, dG, bG, dN, aK, aG, eJ, aY, cA, eK, aD, eM, dM, aS, bJ, eE, bH, bF, bC, aP, aM, cB, fF, dY, bZ, cH, dB, cD, dT, bE, eI, bY, dF, bP, aZ, bX, aC, bV, bR, cI, bW, bA, aT, aU, bT, dS, cR, bO, aV, aJ, aL, bD, aH, dC, dV, aI, aN, aX, aF, cX, aE, cL, bU, bB, aO, cM, cJ, aA, dR, cP, cQ, cF, dK, cC, dJ, dU, cV, eF, eL, bN, aR, dZ, bS, aQ, bL, dE, dA, cU, cO, cS, bM, bK, cY, dD, cN, dQ, cZ, d1]
 refine Kn ?_
 unfold Kr BO
 have c1 := o2.cell (off := 0)
 simp only [ZD] at c1
 have hx := Qd (x := 4294967295) (by decide) l
 have g1 : IntKind.u32.signed = false := rfl
 have g2 : IntKind.u32.max = 4294967295 := rfl
 have e2 : Qh .u32 (4294967295 : Int) ((No 4294967295 l : Nat) : Int) = ((gZ l : Nat) : Int) := tU (a := 4294967295) (by decide) hx
 simp (disch := omega) only [eY, gM, dX, stepR_skip, fO, gD, fN, gC, gI, fW, gR, fX, eU, fU, fS, gH, fP, fL, fT, fR, fV, gE, gG, fQ, fC, fY, gB, fK, iO, iJ, iH, iL, iI, iM, iK, iG, iN, eP, Result.ok.injEq, Next.value.injEq, true_and, and_true, fJ, fI, fZ, fM, gA, gQ, ZI, fE, fH, fG, fD, eZ, eT, fB, eX, eQ, eH, if_true, if_false, ZF, ZL, ZG, ZH, ZK, ZJ, ZE, ZD, eA, dW, aB, dI, dH, cG, eB, eS, eC, dO, eD, fA, dL, eN, bQ, dG, bG, dN, aK, aG, eJ, aY, cA, eK, aD, eM, dM, aS, bJ, eE, bH, bF, bC, aP, aM, cB, fF, dY, bZ, cH, dB, cD, dT, bE, eI, bY, dF, bP, aZ, bX, aC, bV, bR, cI, bW, bA, aT, aU, bT, dS, cR, bO, aV, aJ, aL, bD, aH, dC, dV, aI, aN, aX, aF, cX, aE, cL, bU, bB, aO, cM, cJ, aA, dR, cP, cQ, cF, dK, cC, dJ, dU, cV, eF, eL, bN, aR, dZ, bS, aQ, bL, dE, dA, cU, cO, cS, bM, bK, cY, dD, cN, dQ, cZ, c1, g1, g2, e2]
 rw [hRR]
 exact ⟨rfl, x02⟩
end Go.Proofs.YteelnmpbnaohpaaDoor

/- Parts of the proof of StoreWhole: merged and given short names by a program of ours. -/
import Derived.Laws.IdiomStrings
import Derived.Test.YteelnmpbnaohpaaDoorZwA
set_option linter.unusedVariables false
set_option linter.unusedSimpArgs false
open Array renaming getElem?_eq_getElem → aaA, getElem?_setIfInBounds_self_of_lt → aaC, getElem?_setIfInBounds_ne → aaE, getElem?_eq_none → aaL, getElem?_modify → abZ, getElem?_toList → acE
open Bool renaming and_eq_true → Z4, false_eq_true → ZS, not_false → ZW, not_true → ZX, or_eq_false_iff → acT
open Int renaming toNat_natCast → ZV
open List renaming getElem?_eq_getElem → Z0, length_append → Z1, take_of_length_le → Z3, getD_eq_getElem?_getD → Z5, map_cons → Z6, mem_cons_of_mem → Z7, length_drop → Z9, getElem?_cons_zero → ZQ, getElem?_cons_succ → ZR, length_map → ZZ, length_take → aaB, set_cons_zero → aaD, nil_append → aaF, length_eq_zero_iff → aaG, append_assoc → aaH, length_cons → aaK, take_append_of_le_length → aaM, getElem?_append_left → aaO, drop_append_of_le_length → aaP, mem_cons → aaR, getElem?_map → aaV, set_cons_succ → aaW, mem_map → aaY, getElem?_eq_none → aaZ, map_append → abD, mem_cons_self → abH, eraseIdx_cons_succ → abJ, mem_append → abN, length_nil → abO, getElem?_toArray → abP, set_append_right → abQ, getElem?_take_of_lt → abR, getElem_mem → abX, size_toArray → acB, nodup_cons → acF, length_singleton → acG, getElem?_drop → acK, length_set → acL, ext_getElem? → acO, cons_append → acV, drop_eq_getElem_cons → adB, take_add_one → adD, ext_getElem → adI, getElem_map → adJ, mem_of_getElem? → adO, mem_of_mem_take → adP, range_succ → adS
open List.cons renaming injEq → adR
open Nat renaming le_refl → Z8, zero_add → ZY, min_eq_left → aaQ, lt_or_ge → abB, mod_eq_of_lt → abS, mul_one → abV, lt_of_lt_of_le → acD, add_assoc → acI, ne_of_lt → acP, le_trans → acR, mod_lt → acU, add_mul → adG, sub_self → adQ
open Option renaming isNone_some → ZT, isNone_none → ZU, map_some → aaX, getD_some → abL
open Option.some renaming injEq → aaN, inj → abG
open Prod.mk renaming injEq → acW
namespace Go.Proofs.YteelnmpbnaohpaaDoor
open Go Go.En
set_option maxRecDepth 20000
attribute [local irreducible] Go.En.iL
variable (Q : Exit -> Env -> adV -> Prop) (g : Env) (w : adV)
def jT : FA := ⟨lU, fun i => match Nat.beq i 5 with | true => .leaf ([12], []) [(false, []), (false, []), (false, []), (false, []), (false, []), (false, []), (false, []), (false, []), (false, []), (false, []), (false, []), (false, []), (true, []), (false, []), (false, []), (false, []), (false, []), (false, []), (false, []), (false, [])] | false => .leaf ([], []) []⟩
def sG : List ResultVar := [.tmp 4]
noncomputable def jP : Code := iZ Tryd.f27
def oZ (R : K1) (jY : adW) (w : adV) : Prop :=
 R jY w
theorem FB (R : K1) (hr : HR sG R Q) (h : oZ R (g 5) w) : iL pg jT (fI 1 (fI 2 jP)) Q g w :=
 kW (kn := no) (l := []) h lX hr trivial
def pC (kn : K5) (k0 : K1) (lF AI jY c9 d0 : adW) (w : adV) : Prop :=
 eY pg (gO .lss 3 gZ gZ d0 c9) w fun d1 w =>
 lQ d1
  ((dr w) = (dr w) /\
  eY pg (jB lF) (dr w) fun d5 w_ => w_ = (dr w) /\
  eY pg (gM 67 d5 2) (dr w) fun d6 w_ => w_ = (dr w) /\
  eY pg (gM 28 d6 0) (dr w) fun d7 w_ => w_ = (dr w) /\
  eY pg (fW 24 d7) (dr w) fun d8 w_ => w_ = (dr w) /\
  (dr w) = (dr w) /\
  eY pg (jB lF) (dr w) fun e0 w_ => w_ = (dr w) /\
  eY pg (gM 67 e0 2) (dr w) fun e1 w_ => w_ = (dr w) /\
  eY pg (gM 28 e1 1) (dr w) fun e2 w_ => w_ = (dr w) /\
  eY pg (fW 25 e2) (dr w) fun e3 w_ => w_ = (dr w) /\
  eY pg (kX 25 3 e3) (dr w) fun e4 w_ => w_ = (dr w) /\
  (dr w) = (dr w) /\
  gU pg pN #[d8, e4, d0] (dr w) fun e6 DG =>
  DG = DG /\
  eY pg (iW e6 0) DG fun e7 w_ => w_ = DG /\
  eY pg (iW e6 1) DG fun e8 w_ => w_ = DG /\
  eY pg (iW e6 2) DG fun e9 w_ => w_ = DG /\
  DG = DG /\
  DG = DG /\
  DG = DG /\
  eY pg (kX 3 24 e8) DG fun f2 w =>
  eY pg (gO .add 24 gZ gZ e7 f2) w fun f3 w =>
  eY pg (gO .eql 29 (.tmp 46) (.const (adX 0)) e9 (adX 0)) w fun f7 w =>
  Gd (kP f7 true) (fun K => K f3 w) w fun f9 w =>
  Gd (kP f7 true) (fun K => K AI w) w fun i0 w =>
  Gd (kP f7 true) (fun K => eY pg (nG .len #[22] 3 [i0]) w K) w fun i1 w =>
  Gd (kP f7 true) (fun K => eY pg (kX 3 24 i1) w K) w fun i2 w =>
  Gd (kP f7 true) (fun K => eY pg (gO .leq 24 gZ gZ f9 i2) w K) w fun i3 w =>
  eY pg (lE f7 i3 (.bool false)) w fun i4 w =>
  Gd (kP i4 true) (fun K => K lF w) w fun i6 w =>
  Gd (kP i4 true) (fun K => K d0 w) w fun i7 w =>
  Gd (kP i4 true) (fun K => K AI w) w fun i8 w =>
  Gd (kP i4 true) (fun K => K e7 w) w fun i9 w =>
  Gd (kP i4 true) (fun K => K f3 w) w fun j0 w =>
  Gd (kP i4 true) (fun K => eY pg (lO 22 i8 (some i9) (some j0) none) w K) w fun j1 w =>
  Gd (kP i4 true) (fun K => gU pg nU #[i6, i7, j1] w K) w fun j2 w =>
  eY pg (lE i4 j2 (.bool false)) w fun j3 w =>
  eY pg (iJ 45 jY d0) w fun j4 w =>
  eY pg (iD 4 j4 j3) w fun _u w =>
  eY pg (gO .add 3 gZ gZ d0 (adX 1)) w fun j5 w =>
  kn lF AI jY c9 j5 w)
  (k0 jY w)
theorem Fh (kn : K5) (k0 : K1) (hn : N5 Q kn 0 1 5 19 20) (h0 : E1 Q k0 0 5) (h : pC kn k0 (g 0) (g 1) (g 5) (g 19) (g 20) w) : iL pg jT (bI (bI (fI 1 (gW 1 (fI 2 jP))))) Q g w :=
 kW (kr := no) (l := [(0, fun g w => k0 (g 5) w)]) h hn lX ⟨h0, trivial⟩
def sL (k0 : K1) (lF AI jY c9 d0 : adW) (w : adV) : Prop :=
 jW (fun (X : adW -> K0) (t : adW) (w : adV) => pC (fun _ _ _ _ d0 w => X d0 w) k0 lF AI jY c9 t w) d0 w
theorem Fl (k0 : K1) (h0 : E1 Q k0 0 5) (h : sL k0 (g 0) (g 1) (g 5) (g 19) (g 20) w) : iL pg jT (bI (fI 1 (gW 1 (fI 2 jP)))) Q g w := by
 refine Pb (fun g : Env => g 20) (fun X t w => pC (fun _ _ _ _ d0 w => X d0 w) k0 (g 0) (g 1) (g 5) (g 19) t w) h (fun X g1 w1 ha hL => ?_)
 rw [<- qQ 0 ha, <- qQ 1 ha, <- qQ 5 ha, <- qQ 19 ha] at hL
 exact (Fh _ g1 w1 (fun _ _ _ _ d0 w => X d0 w) k0 (fun _ _ h => h) h0 hL)
def sK (kn : K1) (lF AI jY c9 d0 : adW) (w : adV) : Prop :=
 sL kn lF AI jY c9 d0 w
def sB (kn : K5) (lF AI jY : adW) (w : adV) : Prop :=
 eY pg (nG .len #[45] 3 [jY]) w fun c9 w =>
 kn lF AI jY c9 (adX 0) w
theorem EW (kn : K5) (hn : N5 Q kn 0 1 5 19 20) (h : sB kn (g 0) (g 1) (g 5) w) : iL pg jT (gW 1 (gW 1 (fI 2 jP))) Q g w :=
 kW (kr := no) (l := []) h hn lX trivial
def sU (kn : K1) (lF AI jY : adW) (w : adV) : Prop :=
 sB (fun lF AI jY c9 d0 w => sK kn lF AI jY c9 d0 w) lF AI jY w
def sC (R : K1) (lF AI jY : adW) (w : adV) : Prop :=
 sU (fun jY w => oZ R jY w) lF AI jY w
theorem EU (kn : K1) (hn : N1 Q kn 5) (h : sU kn (g 0) (g 1) (g 5) w) : iL pg jT (gW 1 (fI 2 jP)) Q g w :=
 rV 1 (EW _ g w (sK kn) (fun g w h => gY (MJ 0 (Fl _ g w kn hn h))) h)
def sM (kn : K3) (lF AI : adW) (w : adV) : Prop :=
 eY pg (jB lF) w fun c2 w =>
 eY pg (gM 67 c2 2) w fun c3 w =>
 eY pg (gM 28 c3 2) w fun c4 w =>
 eY pg (fW 26 c4) w fun c5 w =>
 eY pg (nG .len #[26] 3 [c5]) w fun c6 w =>
 eY pg (wP 45 c6 c6) w fun c7 w =>
 kn lF AI c7 w
theorem EZ (kn : K3) (hn : N3 Q kn 0 1 5) (h : sM kn (g 0) (g 1) w) : iL pg jT (gW 2 jP) Q g w :=
 kW (kr := no) (l := []) h hn lX trivial
def sH (R : K1) (lF AI : adW) (w : adV) : Prop :=
 sM (fun lF AI jY w => sC R lF AI jY w) lF AI w
theorem EY (R : K1) (hr : HR sG R Q) (h : sH R (g 0) (g 1) w) : iL pg jT jP Q g w :=
 rV 2 (EZ _ g w (sC R) (fun g w h => gY (rV 1 (EU _ g w (oZ R) (fun g w h => gY (FB _ g w R hr h)) h))) h)
def Dx (a0 a1 : adW) (w : adV) (R : K1) : Prop :=
 sH R a0 a1 w
theorem FV {a0 a1 : adW} {w : adV} {R : K1} (h : Dx a0 a1 w R) : gU pg lU #[a0, a1] w R := by
 refine xA (ann := jT) Tryd.f27 jP [a0, a1] sG 67 TrydM.mixed Tryd.func27 ?_
 exact (EY _ _ _ R (fun _ _ h => h) h)
def Kr : FA := ⟨yW, fun i => .leaf ([], []) []⟩
def Lx : List ResultVar := [.tmp 2]
noncomputable def Je : Code := iZ Tryd.f28
def Hp (R : K1) (Sp : adW) (w : adV) : Prop :=
 gU pg rH #[Sp, (.bool false)] w fun b4 w =>
 eY pg (KP .not b4) w fun b5 w =>
 R b5 w
theorem Nz (R : K1) (hr : HR Lx R Q) (h : Hp R (g 0) w) : iL pg Kr Je Q g w :=
 kW (kn := no) (l := []) h lX hr trivial
def PL (a0 : adW) (w : adV) (R : K1) : Prop :=
 Hp R a0 w
theorem OB {a0 : adW} {w : adV} {R : K1} (h : PL a0 w R) : gU pg yW #[a0] w R := by
 refine xA (ann := Kr) Tryd.f28 Je [a0] Lx 6 TrydM.mixed Tryd.func28 ?_
 exact (Nz _ _ _ R (fun _ _ h => h) h)
def An : FA := ⟨nD, fun i => .leaf ([], []) []⟩
def AQ : List ResultVar := [.tmp 2, .tmp 3]
noncomputable def yU : Code := iZ Tryd.f29
def sT (R : K1) (lF : adW) (w : adV) : Prop :=
 eY pg (jB lF) w fun c4 w =>
 eY pg (gM 67 c4 1) w fun c5 w =>
 eY pg (fW 9 c5) w fun c6 w =>
 eY pg (gO .add 9 gZ gZ c6 (.string ⟨#[46, 108, 111, 103]⟩)) w fun c7 w =>
 gU pg mQ #[lF, c7] w fun c8 w =>
 eY pg (iW c8 0) w fun c9 w =>
 eY pg (iW c8 1) w fun d0 w =>
 eY pg (iW c8 2) w fun d1 w =>
 eY pg (gO .neq 29 (.tmp 22) (.const (adX 0)) d1 (adX 0)) w fun d3 w =>
 lQ d3
  (R (.tuple #[(.slice none 0 0), d1]) w)
  (gU pg kS #[c9] w fun d7 w =>
  eY pg (iW d7 0) w fun d8 w =>
  eY pg (iW d7 1) w fun d9 w =>
  gU pg Bv #[d8, (.int .u8 1)] w fun e2 w =>
  eY pg (iW e2 0) w fun e3 w =>
  eY pg (iW e2 1) w fun e4 w =>
  eY pg (gO .eql 24 (.tmp 35) (.const (.int .u64 18446744073709551615)) e3 (.int .u64 18446744073709551615)) w fun e6 w =>
  lQ e6
   (R (.tuple #[(.slice none 0 0), (adX 23)]) w)
   (eY pg (gO .add 24 gZ gZ e3 (.int .u64 1)) w fun f0 w =>
   eY pg (jB lF) w fun f2 w =>
   eY pg (gM 67 f2 3) w fun f3 w =>
   eY pg (iD 24 f3 f0) w fun _u w =>
   eY pg (jB lF) w fun f4 w =>
   eY pg (gM 67 f4 5) w fun f5 w =>
   eY pg (iD 3 f5 d9) w fun _u w =>
   eY pg (jB lF) w fun f9 w =>
   eY pg (gM 67 f9 3) w fun i0 w =>
   eY pg (fW 24 i0) w fun i1 w =>
   eY pg (lK 77 [(0, (.int .u8 1)), (1, i1)]) w fun i2 w =>
   gU pg nC #[lF, i2] w fun i3 w =>
   R (.tuple #[d8, i3]) w))
theorem EX (R : K1) (hr : HR AQ R Q) (h : sT R (g 0) w) : iL pg An yU Q g w :=
 kW (kn := no) (l := []) h lX hr trivial
def Dq (a0 : adW) (w : adV) (R : K1) : Prop :=
 sT R a0 w
theorem FD {a0 : adW} {w : adV} {R : K1} (h : Dq a0 w R) : gU pg nD #[a0] w R := by
 refine xA (ann := An) Tryd.f29 yU [a0] AQ 54 TrydM.mixed Tryd.func29 ?_
 exact (EX _ _ _ R (fun _ _ h => h) h)
def oI : FA := ⟨pP, fun i => match Nat.beq i 5 with | true => .leaf ([9], []) [(false, []), (false, []), (false, []), (false, []), (false, []), (false, []), (false, []), (false, []), (false, []), (true, []), (false, [])] | false => match Nat.beq i 11 with | true => .leaf ([13, 14], [(2, 13), (3, 13), (4, 13), (6, 13), (7, 13), (8, 13), (9, 13), (11, 13)]) [(false, []), (false, []), (false, []), (false, []), (false, []), (false, []), (false, []), (false, []), (false, []), (false, []), (false, []), (false, []), (false, []), (true, [1, 3, 4, 5, 6, 8, 9, 10]), (true, []), (false, []), (false, [])] | false => .leaf ([], []) []⟩
def pD : List ResultVar := [.tmp 2, .tmp 3]
noncomputable def nH : Code := iZ Tryd.f30
def mL (R : K1) (lF Xl b5 : adW) (w : adV) : Prop :=
 eY pg (jB lF) w fun f6 w =>
 eY pg (gM 67 f6 2) w fun f7 w =>
 eY pg (gM 28 f7 0) w fun f8 w =>
 eY pg (fW 24 f8) w fun f9 w =>
 eY pg (kX 24 3 f9) w fun i0 w =>
 eY pg (nG .len #[22] 3 [Xl]) w fun i2 w =>
 eY pg (gO .sub 3 gZ gZ i0 i2) w fun i3 w =>
 eY pg (gO .gtr 3 gZ gZ i3 (adX 0)) w fun i5 w =>
 Gd (kP i5 false) (fun K => K b5 w) w fun i7 w =>
 Gd (kP i5 false) (fun K => eY pg (KP .not i7) w K) w fun i8 w =>
 eY pg (lE i5 (.bool true) i8) w fun i9 w =>
 lQ i9
  ((dr w) = (dr w) /\
  (dr w) = (dr w) /\
  eY pg (jB lF) (dr w) fun j2 w_ => w_ = (dr w) /\
  eY pg (gM 67 j2 0) (dr w) fun j3 w_ => w_ = (dr w) /\
  eY pg (fW 32 j3) (dr w) fun j4 w_ => w_ = (dr w) /\
  (dr w) = (dr w) /\
  eY pg (jB lF) (dr w) fun j6 w_ => w_ = (dr w) /\
  eY pg (gM 67 j6 1) (dr w) fun j7 w_ => w_ = (dr w) /\
  eY pg (fW 9 j7) (dr w) fun j8 w_ => w_ = (dr w) /\
  eY pg (gO .add 9 gZ gZ j8 (.string ⟨#[46, 112, 97, 114, 116]⟩)) (dr w) fun j9 w_ => w_ = (dr w) /\
  (dr w) = (dr w) /\
  eY pg (nG .len #[22] 3 [Xl]) (dr w) fun l1 w_ => w_ = (dr w) /\
  (dr w) = (dr w) /\
  eY pg (wP 22 i3 i3) (dr w) fun l3 DR =>
  (gN pg (nG .len #[22] 3 [Xl]) l1 DR /\ gN pg (gO .add 9 gZ gZ j8 (.string ⟨#[46, 112, 97, 114, 116]⟩)) j9 DR /\ gN pg (fW 9 j7) j8 DR /\ gN pg (gM 67 j6 1) j7 DR /\ gN pg (jB lF) j6 DR /\ gN pg (fW 32 j3) j4 DR /\ gN pg (gM 67 j2 0) j3 DR /\ gN pg (jB lF) j2 DR /\ True) /\
  gU pg lM #[j4, j9, l1, l3] DR fun l4 OU =>
  OU = OU /\
  OU = OU /\
  R (.tuple #[Xl, l4]) OU)
  (R (.tuple #[Xl, (adX 0)]) w)
theorem Fi (R : K1) (hr : HR pD R Q) (h : mL R (g 0) (g 4) (g 5) w) : iL pg oI (fI 4 nH) Q g w :=
 kW (kn := no) (l := []) h lX hr trivial
def sJ (kn : K3) (R : K1) (lF : adW) (w : adV) : Prop :=
 eY pg (jB lF) w fun c2 w =>
 eY pg (gM 67 c2 1) w fun c3 w =>
 eY pg (fW 9 c3) w fun c4 w =>
 eY pg (gO .add 9 gZ gZ c4 (.string ⟨#[46, 112, 97, 114, 116]⟩)) w fun c5 w =>
 gU pg mQ #[lF, c5] w fun c6 w =>
 eY pg (iW c6 0) w fun c7 w =>
 eY pg (iW c6 1) w fun c8 w =>
 eY pg (iW c6 2) w fun c9 w =>
 eY pg (gO .neq 29 (.tmp 20) (.const (adX 0)) c9 (adX 0)) w fun d1 w =>
 lQ d1
  (R (.tuple #[(.slice none 0 0), c9]) w)
  (eY pg (nG .len #[22] 3 [c7]) w fun d4 w =>
  eY pg (kX 3 24 d4) w fun d5 w =>
  eY pg (jB lF) w fun d7 w =>
  eY pg (gM 67 d7 2) w fun d8 w =>
  eY pg (gM 28 d8 0) w fun d9 w =>
  eY pg (fW 24 d9) w fun e0 w =>
  eY pg (gO .gtr 24 gZ gZ d5 e0) w fun e1 w =>
  lQ e1
   ((dr w) = (dr w) /\
   eY pg (jB lF) (dr w) fun e3 w_ => w_ = (dr w) /\
   eY pg (gM 67 e3 0) (dr w) fun e4 w_ => w_ = (dr w) /\
   eY pg (fW 32 e4) (dr w) fun e5 w_ => w_ = (dr w) /\
   (dr w) = (dr w) /\
   eY pg (jB lF) (dr w) fun e7 w_ => w_ = (dr w) /\
   eY pg (gM 67 e7 1) (dr w) fun e8 w_ => w_ = (dr w) /\
   eY pg (fW 9 e8) (dr w) fun e9 w_ => w_ = (dr w) /\
   eY pg (gO .add 9 gZ gZ e9 (.string ⟨#[46, 112, 97, 114, 116]⟩)) (dr w) fun f0 w_ => w_ = (dr w) /\
   gU pg rJ #[e5, f0] (dr w) fun f1 X7 =>
   X7 = X7 /\
   eY pg (gO .neq 29 (.tmp 42) (.const (adX 0)) f1 (adX 0)) X7 fun f3 w =>
   lQ f3
    (R (.tuple #[(.slice none 0 0), f1]) w)
    (kn lF (.slice none 0 0) (.bool false) w))
   (kn lF c7 c8 w))
theorem Fw (kn : K3) (R : K1) (hn : N3 Q kn 0 4 5) (hr : HR pD R Q) (h : sJ kn R (g 0) w) : iL pg oI (gW 4 nH) Q g w :=
 kW (l := []) h hn hr trivial
def sP (R : K1) (lF : adW) (w : adV) : Prop :=
 sJ (fun lF Xl b5 w => mL R lF Xl b5 w) R lF w
theorem ET (R : K1) (hr : HR pD R Q) (h : sP R (g 0) w) : iL pg oI nH Q g w :=
 rV 4 (Fw _ g w (mL R) R (fun g w h => gY (Fi _ g w R hr h)) hr h)
def DV (a0 : adW) (w : adV) (R : K1) : Prop :=
 sP R a0 w
theorem GA {a0 : adW} {w : adV} {R : K1} (h : DV a0 w R) : gU pg pP #[a0] w R := by
 refine xA (ann := oI) Tryd.f30 nH [a0] pD 76 TrydM.mixed Tryd.func30 ?_
 exact (ET _ _ _ R (fun _ _ h => h) h)
def AS : FA := ⟨nU, fun i => match Nat.beq i 1 with | true => .leaf ([12], []) [(false, []), (false, []), (false, []), (false, []), (false, []), (false, []), (false, []), (false, []), (false, []), (false, []), (false, []), (false, []), (true, []), (false, []), (false, []), (false, []), (false, []), (false, []), (false, []), (false, [])] | false => match Nat.beq i 2 with | true => .leaf ([10], [(10, 12), (10, 13), (10, 14), (10, 15), (10, 17), (10, 18)]) [(false, []), (false, []), (false, []), (false, []), (false, []), (false, []), (false, []), (false, []), (false, []), (false, []), (true, []), (false, []), (false, [1]), (false, [2]), (false, [3]), (false, [4]), (false, []), (false, [6]), (false, [7]), (false, []), (false, []), (false, [])] | false => .leaf ([], []) []⟩
def BZ : List ResultVar := [.tmp 6]
noncomputable def Ax : Code := iZ Tryd.f31
def tP (R : K1) (lF Yw V7 : adW) (w : adV) : Prop :=
 (dr w) = (dr w) /\
 eY pg (jB lF) (dr w) fun c2 w_ => w_ = (dr w) /\
 eY pg (gM 67 c2 2) (dr w) fun c3 w_ => w_ = (dr w) /\
 eY pg (gM 28 c3 0) (dr w) fun c4 w_ => w_ = (dr w) /\
 eY pg (fW 24 c4) (dr w) fun c5 w_ => w_ = (dr w) /\
 (dr w) = (dr w) /\
 eY pg (jB lF) (dr w) fun c7 w_ => w_ = (dr w) /\
 eY pg (gM 67 c7 2) (dr w) fun c8 w_ => w_ = (dr w) /\
 eY pg (gM 28 c8 1) (dr w) fun c9 w_ => w_ = (dr w) /\
 eY pg (fW 25 c9) (dr w) fun d0 w_ => w_ = (dr w) /\
 eY pg (kX 25 3 d0) (dr w) fun d1 w_ => w_ = (dr w) /\
 (dr w) = (dr w) /\
 gU pg pN #[c5, d1, Yw] (dr w) fun d3 kR =>
 kR = kR /\
 eY pg (iW d3 0) kR fun d4 w_ => w_ = kR /\
 eY pg (iW d3 1) kR fun d5 w_ => w_ = kR /\
 eY pg (iW d3 2) kR fun d6 w_ => w_ = kR /\
 kR = kR /\
 kR = kR /\
 kR = kR /\
 (dr kR) = (dr kR) /\
 eY pg (gO .eql 29 (.tmp 27) (.const (adX 0)) d6 (adX 0)) (dr kR) fun d8 w_ => w_ = (dr kR) /\
 (dr kR) = (dr kR) /\
 Gd (kP d8 true) (fun K => K V7 (dr kR)) (dr kR) fun e0 w_ => w_ = (dr kR) /\
 Gd (kP d8 true) (fun K => eY pg (nG .len #[22] 3 [e0]) (dr kR) K) (dr kR) fun e1 w_ => w_ = (dr kR) /\
 Gd (kP d8 true) (fun K => K d5 (dr kR)) (dr kR) fun e2 w_ => w_ = (dr kR) /\
 Gd (kP d8 true) (fun K => eY pg (gO .eql 3 (.tmp 31) (.tmp 32) e1 e2) (dr kR) K) (dr kR) fun e3 w_ => w_ = (dr kR) /\
 eY pg (lE d8 e3 (.bool false)) (dr kR) fun e4 w_ => w_ = (dr kR) /\
 (dr kR) = (dr kR) /\
 Gd (kP e4 true) (fun K => K V7 (dr kR)) (dr kR) fun e6 w_ => w_ = (dr kR) /\
 Gd (kP e4 true) (fun K => gU pg wX #[e6] (dr kR) K) (dr kR) fun e7 oM =>
 Gd (kP e4 true) (fun K => K lF oM) oM fun e8 w_ => w_ = oM /\
 Gd (kP e4 true) (fun K => eY pg (jB e8) oM K) oM fun e9 w_ => w_ = oM /\
 (Gs (kP e4 true) (gN pg (jB e8) e9 (dr kR)) /\ True) /\
 Gd (kP e4 true) (fun K => eY pg (gM 67 e9 2) oM K) oM fun f0 w_ => w_ = oM /\
 (Gs (kP e4 true) (gN pg (gM 67 e9 2) f0 (dr kR)) /\ True) /\
 Gd (kP e4 true) (fun K => eY pg (gM 28 f0 2) oM K) oM fun f1 w_ => w_ = oM /\
 (Gs (kP e4 true) (gN pg (gM 28 f0 2) f1 (dr kR)) /\ True) /\
 Gd (kP e4 true) (fun K => eY pg (fW 26 f1) oM K) oM fun f2 w_ => w_ = oM /\
 (Gs (kP e4 true) (gN pg (fW 26 f1) f2 (dr kR)) /\ True) /\
 Gd (kP e4 true) (fun K => K Yw oM) oM fun f3 w_ => w_ = oM /\
 Gd (kP e4 true) (fun K => eY pg (iJ 26 f2 f3) oM K) oM fun f4 w_ => w_ = oM /\
 (Gs (kP e4 true) (gN pg (iJ 26 f2 f3) f4 (dr kR)) /\ True) /\
 Gd (kP e4 true) (fun K => eY pg (fW 49 f4) oM K) oM fun f5 w_ => w_ = oM /\
 (Gs (kP e4 true) (gN pg (fW 49 f4) f5 (dr kR)) /\ True) /\
 Gd (kP e4 true) (fun K => eY pg (gO .eql 49 (.tmp 37) (.tmp 45) e7 f5) oM K) oM fun f6 w_ => w_ = oM /\
 eY pg (lE e4 f6 (.bool false)) oM fun f7 w_ => w_ = oM /\
 oM = oM /\
 R f7 oM
theorem FW (R : K1) (hr : HR BZ R Q) (h : tP R (g 0) (g 1) (g 2) w) : iL pg AS Ax Q g w :=
 kW (kn := no) (l := []) h lX hr trivial
def Eu (a0 a1 a2 : adW) (w : adV) (R : K1) : Prop :=
 tP R a0 a1 a2 w
theorem G0 {a0 a1 a2 : adW} {w : adV} {R : K1} (h : Eu a0 a1 a2 w R) : gU pg nU #[a0, a1, a2] w R := by
 refine xA (ann := AS) Tryd.f31 Ax [a0, a1, a2] BZ 48 TrydM.mixed Tryd.func31 ?_
 exact (FW _ _ _ R (fun _ _ h => h) h)
def mH : FA := ⟨wV, fun i => .leaf ([], []) []⟩
def rA : List ResultVar := [.tmp 2]
noncomputable def lT : Code := iZ Tryd.f32
def zO (R : K1)  (w : adV) : Prop :=
 R (adX 0) w
theorem LY (R : K1) (hr : HR rA R Q) (h : zO R w) : iL pg mH (fI 1 (fI 1 lT)) Q g w :=
 kW (kn := no) (l := []) h lX hr trivial
def zK (kn : K3) (k0 : K0) (R : K1) (b6 b7 b8 : adW) (w : adV) : Prop :=
 eY pg (gO .lss 3 gZ gZ b8 b7) w fun b9 w =>
 lQ b9
  (eY pg (iJ 98 b6 b8) w fun c0 w =>
  eY pg (fW 39 c0) w fun c1 w =>
  eY pg (xZ c1 []) w fun c3 w =>
  eY pg (gO .neq 29 (.tmp 14) (.const (adX 0)) c3 (adX 0)) w fun c5 w =>
  lQ c5
   (R c3 w)
   (eY pg (gO .add 3 gZ gZ b8 (adX 1)) w fun c7 w =>
   kn b6 b7 c7 w))
  (k0 w)
theorem Lm (kn : K3) (k0 : K0) (R : K1) (hn : N3 Q kn 6 7 8) (h0 : E0 Q k0 0) (hr : HR rA R Q) (h : zK kn k0 R (g 6) (g 7) (g 8) w) : iL pg mH (bI (bI (fI 1 (gW 1 (fI 1 lT))))) Q g w :=
 kW (l := [(0, fun g w => k0 w)]) h hn hr ⟨h0, trivial⟩
def C9 (k0 : K0) (R : K1) (b6 b7 b8 : adW) (w : adV) : Prop :=
 jW (fun (X : adW -> K0) (t : adW) (w : adV) => zK (fun _ _ b8 w => X b8 w) k0 R b6 b7 t w) b8 w
theorem LB (k0 : K0) (R : K1) (h0 : E0 Q k0 0) (hr : HR rA R Q) (h : C9 k0 R (g 6) (g 7) (g 8) w) : iL pg mH (bI (fI 1 (gW 1 (fI 1 lT)))) Q g w := by
 refine Pb (fun g : Env => g 8) (fun X t w => zK (fun _ _ b8 w => X b8 w) k0 R (g 6) (g 7) t w) h (fun X g1 w1 ha hL => ?_)
 rw [<- qQ 6 ha, <- qQ 7 ha] at hL
 exact (Lm _ g1 w1 (fun _ _ b8 w => X b8 w) k0 R (fun _ _ h => h) h0 hr hL)
def Df (kn : K0) (R : K1) (b6 b7 b8 : adW) (w : adV) : Prop :=
 C9 kn R b6 b7 b8 w
def Dg (kn : K3) (sZ : adW) (w : adV) : Prop :=
 eY pg (nG .len #[98] 3 [sZ]) w fun b7 w =>
 kn sZ b7 (adX 0) w
theorem Lh (kn : K3) (hn : N3 Q kn 6 7 8) (h : Dg kn (g 0) w) : iL pg mH (gW 1 (gW 1 (fI 1 lT))) Q g w :=
 kW (kr := no) (l := []) h hn lX trivial
def De (kn : K0) (R : K1) (sZ : adW) (w : adV) : Prop :=
 Dg (fun b6 b7 b8 w => Df kn R b6 b7 b8 w) sZ w
def DE (R : K1) (sZ : adW) (w : adV) : Prop :=
 De (fun  w => zO R w) R sZ w
theorem Lt (kn : K0) (R : K1) (hn : N0 Q kn) (hr : HR rA R Q) (h : De kn R (g 0) w) : iL pg mH (gW 1 (fI 1 lT)) Q g w :=
 rV 1 (Lh _ g w (Df kn R) (fun g w h => gY (MJ 0 (LB _ g w kn R hn hr h))) h)
def DD (kn : K1) (sZ : adW) (w : adV) : Prop :=
 kn sZ w
theorem L5 (kn : K1) (hn : N1 Q kn 0) (h : DD kn (g 0) w) : iL pg mH (gW 1 lT) Q g w :=
 kW (kr := no) (l := []) h hn lX trivial
def C3 (R : K1) (sZ : adW) (w : adV) : Prop :=
 DD (fun sZ w => DE R sZ w) sZ w
theorem Lg (R : K1) (hr : HR rA R Q) (h : C3 R (g 0) w) : iL pg mH lT Q g w :=
 rV 1 (L5 _ g w (DE R) (fun g w h => gY (rV 1 (Lt _ g w (fun  w => zO R w) R (fun g w h => gY (LY _ g w R hr h)) hr h))) h)
def Nl (a0 : adW) (w : adV) (R : K1) : Prop :=
 C3 R a0 w
theorem Mh {a0 : adW} {w : adV} {R : K1} (h : Nl a0 w R) : gU pg wV #[a0] w R := by
 refine xA (ann := mH) Tryd.f32 lT [a0] rA 18 TrydM.mixed Tryd.func32 ?_
 exact (Lg _ _ _ R (fun _ _ h => h) h)
def AO : FA := ⟨oA, fun i => match Nat.beq i 1 with | true => .leaf ([12], []) [(false, []), (false, []), (false, []), (false, []), (false, []), (false, []), (false, []), (false, []), (false, []), (false, []), (false, []), (false, []), (true, []), (false, [])] | false => .leaf ([], []) []⟩
def BW : List ResultVar := [.tmp 3]
noncomputable def zT : Code := iZ Tryd.f33
def uR (R : K1) (b0 b1 b2 : adW) (w : adV) : Prop :=
 eY pg (fW 35 b0) (dr w) fun b4 w_ => w_ = (dr w) /\
 eY pg (jB b4) (dr w) fun b5 w_ => w_ = (dr w) /\
 eY pg (gM 67 b5 0) (dr w) fun b6 w_ => w_ = (dr w) /\
 eY pg (fW 32 b6) (dr w) fun b7 w_ => w_ = (dr w) /\
 eY pg (fW 35 b0) (dr w) fun b8 w_ => w_ = (dr w) /\
 eY pg (jB b8) (dr w) fun b9 w_ => w_ = (dr w) /\
 eY pg (gM 67 b9 1) (dr w) fun c0 w_ => w_ = (dr w) /\
 eY pg (fW 9 c0) (dr w) fun c1 w_ => w_ = (dr w) /\
 eY pg (gO .add 9 gZ gZ c1 (.string ⟨#[46, 112, 97, 114, 116]⟩)) (dr w) fun c2 w_ => w_ = (dr w) /\
 eY pg (fW 24 b1) (dr w) fun c3 w_ => w_ = (dr w) /\
 eY pg (kX 24 3 c3) (dr w) fun c4 w_ => w_ = (dr w) /\
 eY pg (fW 22 b2) (dr w) fun c5 w_ => w_ = (dr w) /\
 gU pg lM #[b7, c2, c4, c5] (dr w) fun c6 kR =>
 kR = kR /\
 R c6 kR
theorem FT (R : K1) (hr : HR BW R Q) (h : uR R (g 0) (g 1) (g 2) w) : iL pg AO zT Q g w :=
 kW (kn := no) (l := []) h lX hr trivial
def ED (a0 a1 a2 : adW) (w : adV) (R : K1) : Prop :=
 uR R a0 a1 a2 w
theorem Hq {a0 a1 a2 : adW} {w : adV} {R : K1} (h : ED a0 a1 a2 w R) : gU pg oA #[a0, a1, a2] w R := by
 refine xA (ann := AO) Tryd.f33 zT [a0, a1, a2] BW 17 TrydM.mixed Tryd.func33 ?_
 exact (FT _ _ _ R (fun _ _ h => h) h)
def AN : FA := ⟨nZ, fun i => .leaf ([], []) []⟩
def BO : List ResultVar := [.tmp 2]
noncomputable def Ap : Code := iZ Tryd.f34
def uP (R : K1) (b0 b1 : adW) (w : adV) : Prop :=
 eY pg (fW 35 b0) w fun b3 w =>
 eY pg (fW 3 b1) w fun b4 w =>
 eY pg (kX 3 24 b4) w fun b5 w =>
 eY pg (lK 77 [(0, (.int .u8 2)), (1, b5)]) w fun b6 w =>
 gU pg nC #[b3, b6] w fun b7 w =>
 R b7 w
theorem FL (R : K1) (hr : HR BO R Q) (h : uP R (g 0) (g 1) w) : iL pg AN Ap Q g w :=
 kW (kn := no) (l := []) h lX hr trivial
def ER (a0 a1 : adW) (w : adV) (R : K1) : Prop :=
 uP R a0 a1 w
theorem Hl {a0 a1 : adW} {w : adV} {R : K1} (h : ER a0 a1 w R) : gU pg nZ #[a0, a1] w R := by
 refine xA (ann := AN) Tryd.f34 Ap [a0, a1] BO 8 TrydM.mixed Tryd.func34 ?_
 exact (FL _ _ _ R (fun _ _ h => h) h)
def mA : FA := ⟨nC, fun i => match Nat.beq i 3 with | true => .leaf ([14], []) [(false, []), (false, []), (false, []), (false, []), (false, []), (false, []), (false, []), (false, []), (false, []), (false, []), (false, []), (false, []), (false, []), (false, []), (true, []), (false, [])] | false => .leaf ([], []) []⟩
def sQ : List ResultVar := [.tmp 4]
noncomputable def lV : Code := iZ Tryd.f35
def pA (R : K1) (S9 : adW) (w : adV) : Prop :=
 R S9 w
theorem EV (R : K1) (hr : HR sQ R Q) (h : pA R (g 6) w) : iL pg mA (fI 1 (fI 3 lV)) Q g w :=
 kW (kn := no) (l := []) h lX hr trivial
def sR (kn : K1) (lF RG S9 : adW) (w : adV) : Prop :=
 eY pg (gO .eql 29 (.tmp 29) (.const (adX 0)) S9 (adX 0)) w fun e0 w =>
 lQ e0
  (eY pg (jB lF) w fun e2 w =>
  eY pg (gM 67 e2 5) w fun e3 w =>
  eY pg (fW 3 e3) w fun e4 w =>
  eY pg (nG .len #[22] 3 [RG]) w fun e6 w =>
  eY pg (gO .add 3 gZ gZ e4 e6) w fun e7 w =>
  eY pg (jB lF) w fun e8 w =>
  eY pg (gM 67 e8 5) w fun e9 w =>
  eY pg (iD 3 e9 e7) w fun _u w =>
  kn S9 w)
  (kn S9 w)
theorem Fa (kn : K1) (hn : N1 Q kn 6) (h : sR kn (g 0) (g 5) (g 6) w) : iL pg mA (gW 1 (fI 3 lV)) Q g w :=
 kW (kr := no) (l := []) h hn lX trivial
def sN (R : K1) (lF RG S9 : adW) (w : adV) : Prop :=
 sR (fun S9 w => pA R S9 w) lF RG S9 w
def sE (kn : K3) (lF XB : adW) (w : adV) : Prop :=
 eY pg (Eo 77 XB) w fun ZK w =>
 eY pg (fW 77 ZK) w fun b8 w =>
 gU pg zX #[b8] w fun b9 w =>
 eY pg (iW b9 0) w fun c0 w =>
 eY pg (iW b9 1) w fun c1 w =>
 eY pg (gO .eql 29 (.tmp 12) (.const (adX 0)) c1 (adX 0)) w fun c3 w =>
 lQ c3
  ((dr w) = (dr w) /\
  eY pg (jB lF) (dr w) fun c5 w_ => w_ = (dr w) /\
  eY pg (gM 67 c5 0) (dr w) fun c6 w_ => w_ = (dr w) /\
  eY pg (fW 32 c6) (dr w) fun c7 w_ => w_ = (dr w) /\
  (dr w) = (dr w) /\
  eY pg (jB lF) (dr w) fun c9 w_ => w_ = (dr w) /\
  eY pg (gM 67 c9 1) (dr w) fun d0 w_ => w_ = (dr w) /\
  eY pg (fW 9 d0) (dr w) fun d1 w_ => w_ = (dr w) /\
  eY pg (gO .add 9 gZ gZ d1 (.string ⟨#[46, 108, 111, 103]⟩)) (dr w) fun d2 w_ => w_ = (dr w) /\
  (dr w) = (dr w) /\
  eY pg (jB lF) (dr w) fun d4 w_ => w_ = (dr w) /\
  eY pg (gM 67 d4 5) (dr w) fun d5 w_ => w_ = (dr w) /\
  eY pg (fW 3 d5) (dr w) fun d6 w_ => w_ = (dr w) /\
  (dr w) = (dr w) /\
  gU pg lM #[c7, d2, d6, c0] (dr w) fun d8 U8 =>
  U8 = U8 /\
  kn lF c0 d8 U8)
  (kn lF c0 c1 w)
theorem Fk (kn : K3) (hn : N3 Q kn 0 5 6) (h : sE kn (g 0) (g 1) w) : iL pg mA (gW 3 lV) Q g w :=
 kW (kr := no) (l := []) h hn lX trivial
def sI (R : K1) (lF XB : adW) (w : adV) : Prop :=
 sE (fun lF RG S9 w => sN R lF RG S9 w) lF XB w
theorem Fz (R : K1) (hr : HR sQ R Q) (h : sI R (g 0) (g 1) w) : iL pg mA lV Q g w :=
 rV 3 (Fk _ g w (sN R) (fun g w h => gY (rV 1 (Fa _ g w (pA R) (fun g w h => gY (EV _ g w R hr h)) h))) h)
def CX (a0 a1 : adW) (w : adV) (R : K1) : Prop :=
 sI R a0 a1 w
theorem Gn {a0 a1 : adW} {w : adV} {R : K1} (h : CX a0 a1 w R) : gU pg nC #[a0, a1] w R := by
 refine xA (ann := mA) Tryd.f35 lV [a0, a1] sQ 41 TrydM.mixed Tryd.func35 ?_
 exact (Fz _ _ _ R (fun _ _ h => h) h)
def wQ : FA := ⟨mC, fun i => match Nat.beq i 1 with | true => .leaf ([13], []) [(false, []), (false, []), (false, []), (false, []), (false, []), (false, []), (false, []), (false, []), (false, []), (false, []), (false, []), (false, []), (false, []), (true, []), (false, [])] | false => .leaf ([], []) []⟩
def yY : List ResultVar := [.tmp 1]
noncomputable def vX : Code := iZ Tryd.f36
def qR (R : K1) (b0 : adW) (w : adV) : Prop :=
 eY pg (fW 35 b0) (dr w) fun b2 w_ => w_ = (dr w) /\
 eY pg (jB b2) (dr w) fun b3 w_ => w_ = (dr w) /\
 eY pg (gM 67 b3 0) (dr w) fun b4 w_ => w_ = (dr w) /\
 eY pg (fW 32 b4) (dr w) fun b5 w_ => w_ = (dr w) /\
 eY pg (fW 35 b0) (dr w) fun b6 w_ => w_ = (dr w) /\
 eY pg (jB b6) (dr w) fun b7 w_ => w_ = (dr w) /\
 eY pg (gM 67 b7 1) (dr w) fun b8 w_ => w_ = (dr w) /\
 eY pg (fW 9 b8) (dr w) fun b9 w_ => w_ = (dr w) /\
 eY pg (gO .add 9 gZ gZ b9 (.string ⟨#[46, 112, 97, 114, 116]⟩)) (dr w) fun c0 w_ => w_ = (dr w) /\
 eY pg (fW 35 b0) (dr w) fun c1 w_ => w_ = (dr w) /\
 eY pg (jB c1) (dr w) fun c2 w_ => w_ = (dr w) /\
 eY pg (gM 67 c2 1) (dr w) fun c3 w_ => w_ = (dr w) /\
 eY pg (fW 9 c3) (dr w) fun c4 w_ => w_ = (dr w) /\
 gU pg rL #[b5, c0, c4] (dr w) fun c5 Vo =>
 Vo = Vo /\
 R c5 Vo
theorem Eb (R : K1) (hr : HR yY R Q) (h : qR R (g 0) w) : iL pg wQ vX Q g w :=
 kW (kn := no) (l := []) h lX hr trivial
def BQ (a0 : adW) (w : adV) (R : K1) : Prop :=
 qR R a0 w
theorem Em {a0 : adW} {w : adV} {R : K1} (h : BQ a0 w R) : gU pg mC #[a0] w R := by
 refine xA (ann := wQ) Tryd.f36 vX [a0] yY 16 TrydM.mixed Tryd.func36 ?_
 exact (Eb _ _ _ R (fun _ _ h => h) h)
def B0 : FA := ⟨rL, fun i => .leaf ([], []) []⟩
def CE : List ResultVar := [.tmp 6]
noncomputable def AV : Code := iZ Tryd.f37
def wH (R : K1) (nI V4 Vd : adW) (w : adV) : Prop :=
 gU pg nE #[nI] w fun c1 w =>
 eY pg (gO .neq 29 (.tmp 12) (.const (adX 0)) c1 (adX 0)) w fun c3 w =>
 lQ c3
  (R c1 w)
  (gU pg A5 #[V4] w fun c6 w =>
  eY pg (KP .not c6) w fun c7 w =>
  Gd (kP c7 false) (fun K => K Vd w) w fun c9 w =>
  Gd (kP c7 false) (fun K => gU pg A5 #[c9] w K) w fun d0 w =>
  Gd (kP c7 false) (fun K => eY pg (KP .not d0) w K) w fun d1 w =>
  eY pg (lE c7 (.bool true) d1) w fun d2 w =>
  lQ d2
   (R (adX 1) w)
   (eY pg (jB nI) w fun d5 w =>
   eY pg (gM 64 d5 2) w fun d6 w =>
   eY pg (fW 61 d6) w fun d7 w =>
   eY pg (Ak 61 d7 V4 true) w fun d9 w =>
   eY pg (iW d9 0) w fun e0 w =>
   eY pg (iW d9 1) w fun e1 w =>
   eY pg (KP .not e1) w fun e3 w =>
   lQ e3
    (R (adX 21) w)
    (eY pg (lK 88 [(0, (adX 1)), (1, V4), (2, Vd)]) w fun e7 w =>
    gU pg oN #[nI, e7] w fun e8 w =>
    R e8 w)))
theorem G6 (R : K1) (hr : HR CE R Q) (h : wH R (g 0) (g 1) (g 2) w) : iL pg B0 AV Q g w :=
 kW (kn := no) (l := []) h lX hr trivial
def Gh (a0 a1 a2 : adW) (w : adV) (R : K1) : Prop :=
 wH R a0 a1 a2 w
theorem Ie {a0 a1 a2 : adW} {w : adV} {R : K1} (h : Gh a0 a1 a2 w R) : gU pg rL #[a0, a1, a2] w R := by
 refine xA (ann := B0) Tryd.f37 AV [a0, a1, a2] CE 39 TrydM.mixed Tryd.func37 ?_
 exact (G6 _ _ _ R (fun _ _ h => h) h)
def GK : FA := ⟨nE, fun i => .leaf ([], []) []⟩
def HK : List ResultVar := [.tmp 2]
noncomputable def Ex : Code := iZ Tryd.f38
def Cn (R : K1) (nI : adW) (w : adV) : Prop :=
 eY pg (gO .eql 32 (.tmp 4) (.const (.pointer none)) nI (.pointer none)) w fun b5 w =>
 lQ b5
  (R (adX 1) w)
  (eY pg (jB nI) w fun b8 w =>
  eY pg (gM 64 b8 5) w fun b9 w =>
  eY pg (fW 4 b9) w fun c0 w =>
  lQ c0
   (R (adX 20) w)
   (R (adX 0) w))
theorem Kt (R : K1) (hr : HR HK R Q) (h : Cn R (g 0) w) : iL pg GK Ex Q g w :=
 kW (kn := no) (l := []) h lX hr trivial
def LI (a0 : adW) (w : adV) (R : K1) : Prop :=
 Cn R a0 w
theorem Ln {a0 : adW} {w : adV} {R : K1} (h : LI a0 w R) : gU pg nE #[a0] w R := by
 refine xA (ann := GK) Tryd.f38 Ex [a0] HK 11 TrydM.mixed Tryd.func38 ?_
 exact (Kt _ _ _ R (fun _ _ h => h) h)
def wS : FA := ⟨kM, fun i => .leaf ([], []) []⟩
def zC : List ResultVar := [.tmp 2]
noncomputable def vW : Code := iZ Tryd.f39
def qM (R : K1) (lF : adW) (w : adV) : Prop :=
 eY pg (gO .eql 22 (.tmp 3) (.const (.slice none 0 0)) lF (.slice none 0 0)) w fun b4 w =>
 lQ b4
  (R (.slice none 0 0) w)
  (eY pg (iF 22 0 []) w fun b5 w =>
  eY pg (nG .append #[22, 22] 22 [b5, lF]) w fun b7 w =>
  R b7 w)
theorem D8 (R : K1) (hr : HR zC R Q) (h : qM R (g 0) w) : iL pg wS vW Q g w :=
 kW (kn := no) (l := []) h lX hr trivial
def BK (a0 : adW) (w : adV) (R : K1) : Prop :=
 qM R a0 w
theorem Er {a0 : adW} {w : adV} {R : K1} (h : BK a0 w R) : gU pg kM #[a0] w R := by
 refine xA (ann := wS) Tryd.f39 vW [a0] zC 8 TrydM.mixed Tryd.func39 ?_
 exact (D8 _ _ _ R (fun _ _ h => h) h)
def Lo : FA := ⟨A5, fun i => .leaf ([], []) []⟩
def M7 : List ResultVar := [.tmp 2]
noncomputable def Kd : Code := iZ Tryd.f40
def IV (R : K1) (Vk : adW) (w : adV) : Prop :=
 eY pg (nG .len #[9] 3 [Vk]) w fun b4 w =>
 eY pg (gO .geq 3 gZ gZ b4 (adX 1)) w fun b5 w =>
 Gd (kP b5 true) (fun K => K Vk w) w fun b7 w =>
 Gd (kP b5 true) (fun K => eY pg (nG .len #[9] 3 [b7]) w K) w fun b8 w =>
 Gd (kP b5 true) (fun K => eY pg (gO .leq 3 gZ gZ b8 (adX 32)) w K) w fun b9 w =>
 eY pg (lE b5 b9 (.bool false)) w fun c0 w =>
 R c0 w
theorem Ob (R : K1) (hr : HR M7 R Q) (h : IV R (g 0) w) : iL pg Lo Kd Q g w :=
 kW (kn := no) (l := []) h lX hr trivial
def Rh (a0 : adW) (w : adV) (R : K1) : Prop :=
 IV R a0 w
theorem Pj {a0 : adW} {w : adV} {R : K1} (h : Rh a0 w R) : gU pg A5 #[a0] w R := by
 refine xA (ann := Lo) Tryd.f40 Kd [a0] M7 11 TrydM.mixed Tryd.func40 ?_
 exact (Ob _ _ _ R (fun _ _ h => h) h)
def kV : FA := ⟨tD, fun i => .leaf ([], []) []⟩
def xN : List ResultVar := [.tmp 2]
noncomputable def kK : Code := iZ Tryd.f41
def rT (R : K1) (FC : adW) (w : adV) : Prop :=
 R FC w
theorem H8 (R : K1) (hr : HR xN R Q) (h : rT R (g 3) w) : iL pg kV (fI 1 (fI 2 kK)) Q g w :=
 kW (kn := no) (l := []) h lX hr trivial
def rO (kn : K2) (k0 : K1) (FC b7 : adW) (w : adV) : Prop :=
 eY pg (Tr b7 false 0) w fun b8 w =>
 eY pg (iW b8 0) w fun b9 w =>
 lQ b9
  (eY pg (SN b7) w fun c0 w =>
  eY pg (iW c0 1) w fun c1 w =>
  eY pg (nG .len #[22] 3 [c1]) w fun c4 w =>
  eY pg (gO .add 3 gZ gZ FC c4) w fun c5 w =>
  kn c5 b7 w)
  (k0 FC w)
theorem Ij (kn : K2) (k0 : K1) (hn : N2 Q kn 3 7) (h0 : E1 Q k0 0 3) (h : rO kn k0 (g 3) (g 7) w) : iL pg kV (bI (bI (fI 1 (gW 1 (fI 2 kK))))) Q g w :=
 kW (kr := no) (l := [(0, fun g w => k0 (g 3) w)]) h hn lX ⟨h0, trivial⟩
def xM (k0 : K1) (FC b7 : adW) (w : adV) : Prop :=
 jW (fun (X : adW -> K0) (t : adW) (w : adV) => rO (fun FC _ w => X FC w) k0 t b7 w) FC w
theorem Il (k0 : K1) (h0 : E1 Q k0 0 3) (h : xM k0 (g 3) (g 7) w) : iL pg kV (bI (fI 1 (gW 1 (fI 2 kK)))) Q g w := by
 refine Pb (fun g : Env => g 3) (fun X t w => rO (fun FC _ w => X FC w) k0 t (g 7) w) h (fun X g1 w1 ha hL => ?_)
 rw [<- qQ 7 ha] at hL
 exact (Ij _ g1 w1 (fun FC _ w => X FC w) k0 (fun _ _ h => h) h0 hL)
def xK (kn : K1) (FC b7 : adW) (w : adV) : Prop :=
 xM kn FC b7 w
def xP (kn : K2) (QC FC : adW) (w : adV) : Prop :=
 eY pg (Ok 61 QC) w fun b7 w =>
 kn FC b7 w
theorem Im (kn : K2) (hn : N2 Q kn 3 7) (h : xP kn (g 0) (g 3) w) : iL pg kV (gW 1 (gW 1 (fI 2 kK))) Q g w :=
 kW (kr := no) (l := []) h hn lX trivial
def yQ (kn : K1) (QC FC : adW) (w : adV) : Prop :=
 xP (fun FC b7 w => xK kn FC b7 w) QC FC w
def xH (R : K1) (QC FC : adW) (w : adV) : Prop :=
 yQ (fun FC w => rT R FC w) QC FC w
theorem H0 (kn : K1) (hn : N1 Q kn 3) (h : yQ kn (g 0) (g 3) w) : iL pg kV (gW 1 (fI 2 kK)) Q g w :=
 rV 1 (Im _ g w (xK kn) (fun g w h => gY (MJ 0 (Il _ g w kn hn h))) h)
def yF (kn : K2) (QC : adW) (w : adV) : Prop :=
 kn QC (adX 0) w
theorem Ig (kn : K2) (hn : N2 Q kn 0 3) (h : yF kn (g 0) w) : iL pg kV (gW 2 kK) Q g w :=
 kW (kr := no) (l := []) h hn lX trivial
def xR (R : K1) (QC : adW) (w : adV) : Prop :=
 yF (fun QC FC w => xH R QC FC w) QC w
theorem Iw (R : K1) (hr : HR xN R Q) (h : xR R (g 0) w) : iL pg kV kK Q g w :=
 rV 2 (Ig _ g w (xH R) (fun g w h => gY (rV 1 (H0 _ g w (rT R) (fun g w h => gY (H8 _ g w R hr h)) h))) h)
def HE (a0 : adW) (w : adV) (R : K1) : Prop :=
 xR R a0 w
theorem Jm {a0 : adW} {w : adV} {R : K1} (h : HE a0 w R) : gU pg tD #[a0] w R := by
 refine xA (ann := kV) Tryd.f41 kK [a0] xN 17 TrydM.mixed Tryd.func41 ?_
 exact (Iw _ _ _ R (fun _ _ h => h) h)
def DN : FA := ⟨oN, fun i => match Nat.beq i 3 with | true => .leaf ([6, 7, 10], [(2, 6), (3, 6), (4, 6)]) [(false, []), (false, []), (false, []), (false, []), (false, []), (false, []), (true, [1, 2, 3]), (true, []), (false, []), (false, []), (true, [])] | false => match Nat.beq i 4 with | true => .leaf ([5], []) [(false, []), (false, []), (false, []), (false, []), (false, []), (true, [])] | false => .leaf ([], []) []⟩
def EF : List ResultVar := [.tmp 4]
noncomputable def CF : Code := iZ Tryd.f42
def Av (R : K1) (nI Zp : adW) (w : adV) : Prop :=
 eY pg (Eo 88 Zp) w fun T3 w =>
 gU pg pI #[nI] w fun b6 w =>
 lQ b6
  (R (adX 20) w)
  ((dr w) = (dr w) /\
  (dr w) = (dr w) /\
  eY pg (jB nI) (dr w) fun b9 w_ => w_ = (dr w) /\
  eY pg (gM 64 b9 3) (dr w) fun c0 w_ => w_ = (dr w) /\
  eY pg (fW 62 c0) (dr w) fun c1 w_ => w_ = (dr w) /\
  eY pg (fW 88 T3) (dr w) fun c2 w_ => w_ = (dr w) /\
  eY pg (iF 62 1 [(0, c2)]) (dr w) fun c3 Xg =>
  (gN pg (fW 62 c0) c1 Xg /\ gN pg (gM 64 b9 3) c0 Xg /\ gN pg (jB nI) b9 Xg /\ True) /\
  eY pg (nG .append #[62, 62] 62 [c1, c3]) Xg fun c4 We =>
  eY pg (jB nI) We fun c5 w_ => w_ = We /\
  eY pg (gM 64 c5 3) We fun c6 w_ => w_ = We /\
  eY pg (iD 62 c6 c4) We fun _u10 IP =>
  (dr IP) = (dr IP) /\
  eY pg (jB nI) (dr IP) fun c8 w_ => w_ = (dr IP) /\
  eY pg (gM 64 c8 2) (dr IP) fun c9 w_ => w_ = (dr IP) /\
  eY pg (fW 61 c9) (dr IP) fun d0 w_ => w_ = (dr IP) /\
  eY pg (fW 88 T3) (dr IP) fun d1 w_ => w_ = (dr IP) /\
  gU pg xB #[d0, d1] (dr IP) fun d2 Zu =>
  R (adX 0) Zu)
theorem IM (R : K1) (hr : HR EF R Q) (h : Av R (g 0) (g 1) w) : iL pg DN CF Q g w :=
 kW (kn := no) (l := []) h lX hr trivial
def Jq (a0 a1 : adW) (w : adV) (R : K1) : Prop :=
 Av R a0 a1 w
theorem JX {a0 a1 : adW} {w : adV} {R : K1} (h : Jq a0 a1 w R) : gU pg oN #[a0, a1] w R := by
 refine xA (ann := DN) Tryd.f42 CF [a0, a1] EF 23 TrydM.mixed Tryd.func42 ?_
 exact (IM _ _ _ R (fun _ _ h => h) h)
def wU : FA := ⟨oH, fun i => .leaf ([], []) []⟩
def zD : List ResultVar := [.tmp 2]
noncomputable def wA : Code := iZ Tryd.f43
def qY (R : K1) (lF : adW) (w : adV) : Prop :=
 eY pg (gO .eql 45 (.tmp 3) (.const (.slice none 0 0)) lF (.slice none 0 0)) w fun b4 w =>
 lQ b4
  (R (.slice none 0 0) w)
  (eY pg (iF 45 0 []) w fun b5 w =>
  eY pg (nG .append #[45, 45] 45 [b5, lF]) w fun b7 w =>
  R b7 w)
theorem Ee (R : K1) (hr : HR zD R Q) (h : qY R (g 0) w) : iL pg wU wA Q g w :=
 kW (kn := no) (l := []) h lX hr trivial
def BH (a0 : adW) (w : adV) (R : K1) : Prop :=
 qY R a0 w
theorem Eh {a0 : adW} {w : adV} {R : K1} (h : BH a0 w R) : gU pg oH #[a0] w R := by
 refine xA (ann := wU) Tryd.f43 wA [a0] zD 8 TrydM.mixed Tryd.func43 ?_
 exact (Ee _ _ _ R (fun _ _ h => h) h)
def O8 : FA := ⟨IJ, fun i => .leaf ([], []) []⟩
def Qe : List ResultVar := [.cell 2 49]
noncomputable def M8 : Code := iZ Tryd.f44
def MH (R : K1) (AH : adW) (w : adV) : Prop :=
 eY pg (lR 49) w fun b2 w =>
 gU pg JE #[] w fun b4 w =>
 gU pg lW #[b4, AH] w fun b7 w =>
 gU pg AF #[b4] w fun b9 w =>
 eY pg (iD 49 b2 b9) w fun _u w =>
 U0 pg 49 b2 w fun r0 => R r0 w
theorem Qy (R : K1) (hr : HR Qe R Q) (h : MH R (g 0) w) : iL pg O8 M8 Q g w :=
 kW (kn := no) (l := []) h lX hr trivial
def Vf (a0 : adW) (w : adV) (R : K1) : Prop :=
 MH R a0 w
theorem Re {a0 : adW} {w : adV} {R : K1} (h : Vf a0 w R) : gU pg IJ #[a0] w R := by
 refine xA (ann := O8) Tryd.f44 M8 [a0] Qe 10 TrydM.mixed Tryd.func44 ?_
 exact (Qy _ _ _ R (fun _ _ h => h) h)
def qG : FA := ⟨pI, fun i => .leaf ([], []) []⟩
def xO : List ResultVar := [.tmp 2]
noncomputable def pK : Code := iZ Tryd.f45
def mR (R : K1) (nI : adW) (w : adV) : Prop :=
 eY pg (jB nI) w fun d6 w =>
 eY pg (gM 64 d6 5) w fun d7 w =>
 eY pg (fW 4 d7) w fun d8 w =>
 R d8 w
theorem HX (R : K1) (hr : HR xO R Q) (h : mR R (g 0) w) : iL pg qG (fI 2 pK) Q g w :=
 kW (kn := no) (l := []) h lX hr trivial
def yB (kn : K1) (nI : adW) (w : adV) : Prop :=
 eY pg (jB nI) w fun b5 w =>
 eY pg (gM 64 b5 4) w fun b6 w =>
 eY pg (fW 3 b6) w fun b7 w =>
 eY pg (gO .eql 3 (.tmp 7) (.const (adX 0)) b7 (adX 0)) w fun b8 w =>
 lQ b8
  (eY pg (jB nI) w fun c0 w =>
  eY pg (gM 64 c0 5) w fun c1 w =>
  eY pg (iD 4 c1 (.bool true)) w fun _u w =>
  kn nI w)
  (eY pg (jB nI) w fun c4 w =>
  eY pg (gM 64 c4 4) w fun c5 w =>
  eY pg (fW 3 c5) w fun c6 w =>
  eY pg (gO .gtr 3 gZ gZ c6 (adX 0)) w fun c7 w =>
  lQ c7
   (eY pg (jB nI) w fun c9 w =>
   eY pg (gM 64 c9 4) w fun d0 w =>
   eY pg (fW 3 d0) w fun d1 w =>
   eY pg (gO .sub 3 gZ gZ d1 (adX 1)) w fun d2 w =>
   eY pg (jB nI) w fun d3 w =>
   eY pg (gM 64 d3 4) w fun d4 w =>
   eY pg (iD 3 d4 d2) w fun _u w =>
   kn nI w)
   (kn nI w))
theorem Ih (kn : K1) (hn : N1 Q kn 0) (h : yB kn (g 0) w) : iL pg qG (gW 2 pK) Q g w :=
 kW (kr := no) (l := []) h hn lX trivial
def xY (R : K1) (nI : adW) (w : adV) : Prop :=
 yB (fun nI w => mR R nI w) nI w
theorem Ip (R : K1) (hr : HR xO R Q) (h : xY R (g 0) w) : iL pg qG pK Q g w :=
 rV 2 (Ih _ g w (mR R) (fun g w h => gY (HX _ g w R hr h)) h)
def HI (a0 : adW) (w : adV) (R : K1) : Prop :=
 xY R a0 w
theorem Jr {a0 : adW} {w : adV} {R : K1} (h : HI a0 w R) : gU pg pI #[a0] w R := by
 refine xA (ann := qG) Tryd.f45 pK [a0] xO 29 TrydM.mixed Tryd.func45 ?_
 exact (Ip _ _ _ R (fun _ _ h => h) h)
def EC : FA := ⟨xB, fun i => match Nat.beq i 6 with | true => .leaf ([6], []) [(false, []), (false, []), (false, []), (false, []), (false, []), (false, []), (true, [])] | false => .leaf ([], []) []⟩
def MU : List ResultVar := []
noncomputable def Ed : Code := iZ Tryd.f47
def Bq (kn : K0) (QC Zp : adW) (w : adV) : Prop :=
 eY pg (Eo 88 Zp) w fun T3 w =>
 eY pg (gM 88 T3 1) w fun b9 w =>
 eY pg (fW 9 b9) w fun c0 w =>
 eY pg (Ak 61 QC c0 true) w fun c1 w =>
 eY pg (iW c1 0) w fun c2 w =>
 eY pg (iW c1 1) w fun c3 w =>
 eY pg (gM 88 T3 0) w fun c4 w =>
 eY pg (fW 3 c4) w fun c5 w =>
 eY pg (gO .eql 3 (.tmp 15) (.const (adX 0)) c5 (adX 0)) w fun c7 w =>
 lQ c7
  (eY pg (nG .len #[22] 3 [c2]) w fun c9 w =>
  eY pg (gM 88 T3 3) w fun d0 w =>
  eY pg (fW 3 d0) w fun d1 w =>
  eY pg (gM 88 T3 4) w fun d2 w =>
  eY pg (fW 22 d2) w fun d3 w =>
  eY pg (nG .len #[22] 3 [d3]) w fun d4 w =>
  eY pg (gO .add 3 gZ gZ d1 d4) w fun d5 w =>
  eY pg (nG .max #[3, 3] 3 [c9, d5]) w fun d6 w =>
  eY pg (wP 22 d6 d6) w fun d7 w =>
  eY pg (nG .copy #[22, 22] 3 [d7, c2]) w fun e0 w =>
  (dr w) = (dr w) /\
  eY pg (gM 88 T3 3) (dr w) fun e2 w_ => w_ = (dr w) /\
  eY pg (fW 3 e2) (dr w) fun e3 w_ => w_ = (dr w) /\
  eY pg (lO 22 d7 (some e3) none none) (dr w) fun e4 w_ => w_ = (dr w) /\
  eY pg (gM 88 T3 4) (dr w) fun e5 w_ => w_ = (dr w) /\
  eY pg (fW 22 e5) (dr w) fun e6 w_ => w_ = (dr w) /\
  eY pg (nG .copy #[22, 22] 3 [e4, e6]) (dr w) fun e7 Zw =>
  eY pg (gM 88 T3 1) Zw fun e9 w =>
  eY pg (fW 9 e9) w fun f0 w =>
  eY pg (Kw 61 QC f0 d7) w fun _u w =>
  kn w)
  (eY pg (gO .eql 3 (.tmp 15) (.const (adX 1)) c5 (adX 1)) w fun f3 w =>
  lQ f3
   (lQ c3
    (eY pg (gM 88 T3 1) w fun f6 w =>
    eY pg (fW 9 f6) w fun f7 w =>
    eY pg (nG .delete #[61, 9] 0 [QC, f7]) w fun _u w =>
    eY pg (gM 88 T3 2) w fun f9 w =>
    eY pg (fW 9 f9) w fun i0 w =>
    eY pg (Kw 61 QC i0 c2) w fun _u w =>
    kn w)
    (kn w))
   (eY pg (gO .eql 3 (.tmp 15) (.const (adX 2)) c5 (adX 2)) w fun i3 w =>
   lQ i3
    (eY pg (gM 88 T3 1) w fun i5 w =>
    eY pg (fW 9 i5) w fun i6 w =>
    eY pg (nG .delete #[61, 9] 0 [QC, i6]) w fun _u w =>
    kn w)
    (kn w)))
theorem JV (kn : K0) (hn : N0 Q kn) (h : Bq kn (g 0) (g 1) w) : iL pg EC Ed Q g w :=
 kW (kr := no) (l := []) h hn lX trivial
def Kh (a0 a1 : adW) (w : adV) (R : K1) : Prop :=
 Bq (fun  w => R (.tuple #[]) w) a0 a1 w
theorem KM {a0 a1 : adW} {w : adV} {R : K1} (h : Kh a0 a1 w R) : gU pg xB #[a0, a1] w R := by
 refine xA (ann := EC) Tryd.f47 Ed [a0, a1] MU 57 TrydM.mixed Tryd.func47 ?_
 exact (JV _ _ _ (fun  w => R (.tuple #[]) w) (fun _ _ h => h) h)
def wW : FA := ⟨rH, fun i => .leaf ([], []) []⟩
def zE : List ResultVar := [.tmp 4]
noncomputable def vZ : Code := iZ Tryd.f48
def qN (R : K1) (lF Na : adW) (w : adV) : Prop :=
 gU pg wK #[lF, Na] w fun b7 w =>
 eY pg (gO .geq 3 gZ gZ b7 (adX 0)) w fun b8 w =>
 R b8 w
theorem C0 (R : K1) (hr : HR zE R Q) (h : qN R (g 0) (g 1) w) : iL pg wW vZ Q g w :=
 kW (kn := no) (l := []) h lX hr trivial
def BU (a0 a1 : adW) (w : adV) (R : K1) : Prop :=
 qN R a0 a1 w
theorem Ej {a0 a1 : adW} {w : adV} {R : K1} (h : BU a0 a1 w R) : gU pg rH #[a0, a1] w R := by
 refine xA (ann := wW) Tryd.f48 vZ [a0, a1] zE 9 TrydM.mixed Tryd.func48 ?_
 exact (C0 _ _ _ R (fun _ _ h => h) h)
def kF : FA := ⟨kS, fun i => match Nat.beq i 12 with | true => .leaf ([], []) [(false, []), (false, []), (false, []), (false, [])] | false => .leaf ([], []) []⟩
def DM : List ResultVar := [.tmp 2, .tmp 3]
noncomputable def hZ : Code := iZ Tryd.f49
def tA (kn : K0) (k0 : K0) (mS Iy Mg : adW) (w : adV) : Prop :=
 gU pg rI #[Mg] w fun c5 w =>
 gU pg mB #[c5, (adX 1)] w fun c7 w =>
 eY pg (kX 24 5 c7) w fun c8 w =>
 gU pg mB #[c5, (adX 8)] w fun d0 w =>
 eY pg (lK 77 [(0, c8), (1, d0)]) w fun d1 w =>
 eY pg (lR 77) w fun Ze w =>
 eY pg (iD 77 Ze d1) w fun _u w =>
 eY pg (fW 77 Ze) w fun d2 w =>
 eY pg (lK 77 []) w fun d3 w =>
 eY pg (gO .eql 77 (.tmp 22) (.tmp 23) d2 d3) w fun d4 w =>
 lQ d4
  (k0 w)
  (eY pg (fW 77 Ze) w fun d6 w =>
  gU pg zX #[d6] w fun d7 w =>
  eY pg (iW d7 0) w fun d8 w =>
  eY pg (iW d7 1) w fun d9 w =>
  eY pg (gO .neq 29 (.tmp 30) (.const (adX 0)) d9 (adX 0)) w fun e1 w =>
  Gd (kP e1 false) (fun K => K d8 w) w fun e3 w =>
  Gd (kP e1 false) (fun K => K Mg w) w fun e4 w =>
  Gd (kP e1 false) (fun K => gU pg qB #[e3, e4] w K) w fun e5 w =>
  Gd (kP e1 false) (fun K => eY pg (KP .not e5) w K) w fun e6 w =>
  eY pg (lE e1 (.bool true) e6) w fun e7 w =>
  lQ e7
   (k0 w)
   (eY pg (fW 72 mS) w fun e8 w =>
   eY pg (fW 77 Ze) w fun e9 w =>
   eY pg (iF 72 1 [(0, e9)]) w fun f0 w =>
   eY pg (nG .append #[72, 72] 72 [e8, f0]) w fun f1 w =>
   eY pg (iD 72 mS f1) w fun _u w =>
   eY pg (fW 3 Iy) w fun f2 w =>
   eY pg (gO .add 3 gZ gZ f2 (adX 13)) w fun f3 w =>
   eY pg (iD 3 Iy f3) w fun _u w =>
   kn w))
theorem IN (kn : K0) (k0 : K0) (hn : N0 Q kn) (h0 : E0 Q k0 0) (h : tA kn k0 (g 4) (g 5) (g 6) w) : iL pg kF (Tg hZ) Q g w :=
 kW (kr := no) (l := [(0, fun g w => k0 w)]) h hn lX ⟨h0, trivial⟩
def Aq (kn : K3) (mS Iy c3 : adW) (w : adV) : Prop :=
 kn mS Iy c3 w
theorem Jo (kn : K3) (hn : N3 Q kn 4 5 6) (h : Aq kn (g 4) (g 5) (g 13) w) : iL pg kF (UH hZ) Q g w :=
 kW (kr := no) (l := []) h hn lX trivial
def HJ (l : Nat) (R : K1) (mS Iy c3 : adW) (w : adV) : Prop :=
 Aq (fun mS Iy Mg w => Zr l w fun w => tA (fun w => R6 l none R w) (fun w => R6 l (some (.exit 0)) R w) mS Iy Mg w) mS Iy c3 w
theorem LM {l : Nat} {tmps : Array adW} {w : adV} {R : K1} (hsz : tmps.size = 46) (h : HJ l R (JM tmps 4) (JM tmps 5) (JM tmps 13) w) : Qk pg l kS tmps (UH hZ) (Tg hZ) w R :=
 ZN (ann := kF) 46 TrydM.mixed hsz (Jo (Zj pg kF l (Tg hZ) R) (JM tmps) w (fun mS Iy Mg w => Zr l w fun w => tA (R6 l none R) (fun w => R6 l (some (.exit 0)) R w) mS Iy Mg w) (fun g w h => let ⟨r, h1, h2, h3⟩ := h; ⟨r, h1, h2, (IN (QW l R) g _ (R6 l none R) (fun w => R6 l (some (.exit 0)) R w) (fun _ _ h => h) (fun _ _ h => h) h3)⟩) h) (by kernel_rfl) (by kernel_rfl) (by kernel_rfl)
def oT (R : K1) (mS Iy t1000003 : adW) (w : adV) : Prop :=
 eY pg (fW 72 mS) (dr w) fun f4 w_ => w_ = (dr w) /\
 eY pg (fW 3 Iy) (dr w) fun f5 w_ => w_ = (dr w) /\
 (dr w) = (dr w) /\
 (dr w) = (dr w) /\
 CA t1000003 (dr w) fun w => R (.tuple #[f4, f5]) w
theorem L6 (R : K1) (hr : ZE DM R Q) (h : oT R (g 4) (g 5) (g 1000003) w) : iL pg kF (fI 1 (fI 3 (bI (fI 1 hZ)))) Q g w :=
 kW (kn := no) (l := []) h lX hr trivial
def DW (kn : K3) (k0 : K3) (mS Iy c2 t1000003 : adW) (w : adV) : Prop :=
 ∀ g : Env, g 4 = mS -> g 5 = Iy -> g 12 = c2 -> g 1000003 = t1000003 -> RF pg kS (.tmp 12) (Wq hZ) (UH hZ) (Tg hZ) (Zt (fun g w => kn (g 4) (g 5) (g 1000003) w) no [(0, (fun g w => k0 (g 4) (g 5) (g 1000003) w))]) g w
theorem LD (kn : K3) (k0 : K3) (hn : N3 Q kn 4 5 1000003) (h0 : E3 Q k0 0 4 5 1000003) (h : DW kn k0 (g 4) (g 5) (g 12) (g 1000003) w) : iL pg kF (bI (fI 1 (gW 1 (fI 3 (bI (fI 1 hZ)))))) Q g w :=
 kW (kr := no) (l := [(0, fun g w => k0 (g 4) (g 5) (g 1000003) w)]) (h g rfl rfl rfl rfl) hn lX ⟨h0, trivial⟩
def D6 (kn : K3) (mS Iy c2 t1000003 : adW) (w : adV) : Prop :=
 DW kn kn mS Iy c2 t1000003 w
def Ec (kn : K4) (AH mS Iy t1000003 : adW) (w : adV) : Prop :=
 gU pg wO #[AH, (adX 13)] w fun c2 w =>
 kn mS Iy c2 t1000003 w
theorem LQ (kn : K4) (hn : N4 Q kn 4 5 12 1000003) (h : Ec kn (g 0) (g 4) (g 5) (g 1000003) w) : iL pg kF (gW 1 (gW 1 (fI 3 (bI (fI 1 hZ))))) Q g w :=
 kW (kr := no) (l := []) h hn lX trivial
def C4 (kn : K3) (AH mS Iy t1000003 : adW) (w : adV) : Prop :=
 Ec (fun mS Iy c2 t1000003 w => D6 kn mS Iy c2 t1000003 w) AH mS Iy t1000003 w
def Dp (R : K1) (AH mS Iy t1000003 : adW) (w : adV) : Prop :=
 C4 (fun mS Iy t1000003 w => oT R mS Iy t1000003 w) AH mS Iy t1000003 w
theorem LX (kn : K3) (hn : N3 Q kn 4 5 1000003) (h : C4 kn (g 0) (g 4) (g 5) (g 1000003) w) : iL pg kF (gW 1 (fI 3 (bI (fI 1 hZ)))) Q g w :=
 rV 1 (LQ _ g w (D6 kn) (fun g w h => gY (MJ 0 (LD _ g w kn kn hn hn h))) h)
def Dr (kn : K4) (AH t1000003 : adW) (w : adV) : Prop :=
 eY pg (lR 72) w fun mS w =>
 eY pg (lR 3) w fun Iy w =>
 eY pg (iD 3 Iy (adX 0)) w fun _u w =>
 kn AH mS Iy t1000003 w
theorem L3 (kn : K4) (hn : N4 Q kn 0 4 5 1000003) (h : Dr kn (g 0) (g 1000003) w) : iL pg kF (gW 3 (bI (fI 1 hZ))) Q g w :=
 kW (kr := no) (l := []) h hn lX trivial
def IG (R : K1) (AH t1000003 : adW) (w : adV) : Prop :=
 Dr (fun AH mS Iy t1000003 w => Dp R AH mS Iy t1000003 w) AH t1000003 w
def DA (R : K1) (AH t1000003 : adW) (w : adV) : Prop :=
 IG R AH t1000003 w
def Cg (kn : K2) (AH t1000003 : adW) (w : adV) : Prop :=
 kn AH t1000003 w
theorem KE (kn : K2) (hn : N2 Q kn 0 1000003) (h : Cg kn (g 0) (g 1000003) w) : iL pg kF (gW 1 hZ) Q g w :=
 kW (kr := no) (l := []) h hn lX trivial
def Cf (R : K1) (AH t1000003 : adW) (w : adV) : Prop :=
 Cg (fun AH t1000003 w => DA R AH t1000003 w) AH t1000003 w
theorem KX (R : K1) (hr : ZE DM R Q) (h : Cf R (g 0) (g 1000003) w) : iL pg kF hZ Q g w :=
 rV 1 (KE _ g w (DA R) (fun g w h => gY (ZL (rV 3 (L3 _ g w (Dp R) (fun g w h => gY (rV 1 (LX _ g w (oT R) (fun g w h => gY (L6 _ g w R hr h)) h))) h)))) h)
def Ni (a0 : adW) (w : adV) (R : K1) : Prop :=
 Cf R a0 undef w
theorem MA {a0 : adW} {w : adV} {R : K1} (h : Ni a0 w R) : gU pg kS #[a0] w R := by
 refine ZO (ann := kF) Tryd.f49 hZ [a0] DM 46 TrydM.mixed Tryd.func49 ?_
 exact (KX _ _ _ R (fun _ _ h => h) h)
def lD : FA := ⟨Bv, fun i => .leaf ([], []) []⟩
def CZ : List ResultVar := [.tmp 4, .tmp 5]
noncomputable def kT : Code := iZ Tryd.f50
def Aj (R : K1) (kG b7 : adW) (w : adV) : Prop :=
 R (.tuple #[kG, b7]) w
theorem Ls (R : K1) (hr : HR CZ R Q) (h : Aj R (g 6) (g 7) w) : iL pg lD (fI 1 (fI 2 kT)) Q g w :=
 kW (kn := no) (l := []) h lX hr trivial
def uN (kn : K6) (lL kG b7 c0 c1 c2 : adW) (w : adV) : Prop :=
 eY pg (gO .add 3 gZ gZ c2 (adX 1)) w fun d4 w =>
 kn lL kG b7 c0 c1 d4 w
theorem Lu (kn : K6) (hn : N6 Q kn 1 6 7 10 11 12) (h : uN kn (g 1) (g 6) (g 7) (g 10) (g 11) (g 12) w) : iL pg lD (fI 3 (bI (bI (fI 1 (gW 1 (fI 2 kT)))))) Q g w :=
 kW (kr := no) (l := []) h hn lX trivial
def DF (kn : K6) (k0 : K2) (lL kG b7 c0 c1 c2 : adW) (w : adV) : Prop :=
 eY pg (gO .lss 3 gZ gZ c2 c1) w fun c3 w =>
 lQ c3
  (eY pg (iJ 72 c0 c2) w fun c4 w =>
  eY pg (fW 77 c4) w fun c5 w =>
  eY pg (lR 77) w fun Zl w =>
  eY pg (iD 77 Zl c5) w fun _u w =>
  eY pg (gM 77 Zl 0) w fun c6 w =>
  eY pg (fW 5 c6) w fun c7 w =>
  eY pg (gO .eql 5 (.tmp 17) (.tmp 18) c7 lL) w fun c9 w =>
  lQ c9
   (eY pg (gM 77 Zl 1) w fun d1 w =>
   eY pg (fW 24 d1) w fun d2 w =>
   eY pg (nG .max #[24, 24] 24 [kG, d2]) w fun d3 w =>
   kn lL d3 (.bool true) c0 c1 c2 w)
   (kn lL kG b7 c0 c1 c2 w))
  (k0 kG b7 w)
theorem Md (kn : K6) (k0 : K2) (hn : N6 Q kn 1 6 7 10 11 12) (h0 : E2 Q k0 0 6 7) (h : DF kn k0 (g 1) (g 6) (g 7) (g 10) (g 11) (g 12) w) : iL pg lD (gW 3 (bI (bI (fI 1 (gW 1 (fI 2 kT)))))) Q g w :=
 kW (kr := no) (l := [(0, fun g w => k0 (g 6) (g 7) w)]) h hn lX ⟨h0, trivial⟩
def Al (kn : K6) (k0 : K2) (lL kG b7 c0 c1 c2 : adW) (w : adV) : Prop :=
 DF (fun lL kG b7 c0 c1 c2 w => uN kn lL kG b7 c0 c1 c2 w) k0 lL kG b7 c0 c1 c2 w
def Dy (k0 : K2) (lL kG b7 c0 c1 c2 : adW) (w : adV) : Prop :=
 jW (fun (X : (adW × adW × adW) -> K0) (t : adW × adW × adW) (w : adV) => Al (fun _ kG b7 _ _ c2 w => X (kG, b7, c2) w) k0 lL t.1 t.2.1 c0 c1 t.2.2 w) (kG, b7, c2) w
theorem L4 (kn : K6) (k0 : K2) (hn : N6 Q kn 1 6 7 10 11 12) (h0 : E2 Q k0 0 6 7) (h : Al kn k0 (g 1) (g 6) (g 7) (g 10) (g 11) (g 12) w) : iL pg lD (bI (bI (fI 1 (gW 1 (fI 2 kT))))) Q g w :=
 rV 3 (Md _ g w (uN kn) k0 (fun g w h => gY (Lu _ g w kn hn h)) h0 h)
theorem Lp (k0 : K2) (h0 : E2 Q k0 0 6 7) (h : Dy k0 (g 1) (g 6) (g 7) (g 10) (g 11) (g 12) w) : iL pg lD (bI (fI 1 (gW 1 (fI 2 kT)))) Q g w := by
 refine Pb (fun g : Env => (g 6, g 7, g 12)) (fun X t w => Al (fun _ kG b7 _ _ c2 w => X (kG, b7, c2) w) k0 (g 1) t.1 t.2.1 (g 10) (g 11) t.2.2 w) h (fun X g1 w1 ha hL => ?_)
 rw [<- qQ 1 ha, <- qQ 10 ha, <- qQ 11 ha] at hL
 exact (L4 _ g1 w1 (fun _ kG b7 _ _ c2 w => X (kG, b7, c2) w) k0 (fun _ _ h => h) h0 hL)
def Dt (kn : K2) (lL kG b7 c0 c1 c2 : adW) (w : adV) : Prop :=
 Dy kn lL kG b7 c0 c1 c2 w
def C6 (kn : K6) (Sp lL kG b7 : adW) (w : adV) : Prop :=
 eY pg (nG .len #[72] 3 [Sp]) w fun c1 w =>
 kn lL kG b7 Sp c1 (adX 0) w
theorem Me (kn : K6) (hn : N6 Q kn 1 6 7 10 11 12) (h : C6 kn (g 0) (g 1) (g 6) (g 7) w) : iL pg lD (gW 1 (gW 1 (fI 2 kT))) Q g w :=
 kW (kr := no) (l := []) h hn lX trivial
def DP (kn : K2) (Sp lL kG b7 : adW) (w : adV) : Prop :=
 C6 (fun lL kG b7 c0 c1 c2 w => Dt kn lL kG b7 c0 c1 c2 w) Sp lL kG b7 w
def DK (R : K1) (Sp lL kG b7 : adW) (w : adV) : Prop :=
 DP (fun kG b7 w => Aj R kG b7 w) Sp lL kG b7 w
theorem LG (kn : K2) (hn : N2 Q kn 6 7) (h : DP kn (g 0) (g 1) (g 6) (g 7) w) : iL pg lD (gW 1 (fI 2 kT)) Q g w :=
 rV 1 (Me _ g w (Dt kn) (fun g w h => gY (MJ 0 (Lp _ g w kn hn h))) h)
def Cq (kn : K4) (Sp lL : adW) (w : adV) : Prop :=
 kn Sp lL (.int .u64 0) (.bool false) w
theorem KL (kn : K4) (hn : N4 Q kn 0 1 6 7) (h : Cq kn (g 0) (g 1) w) : iL pg lD (gW 2 kT) Q g w :=
 kW (kr := no) (l := []) h hn lX trivial
def Ch (R : K1) (Sp lL : adW) (w : adV) : Prop :=
 Cq (fun Sp lL kG b7 w => DK R Sp lL kG b7 w) Sp lL w
theorem KD (R : K1) (hr : HR CZ R Q) (h : Ch R (g 0) (g 1) w) : iL pg lD kT Q g w :=
 rV 2 (KL _ g w (DK R) (fun g w h => gY (rV 1 (LG _ g w (Aj R) (fun g w h => gY (Ls _ g w R hr h)) h))) h)
def MX (a0 a1 : adW) (w : adV) (R : K1) : Prop :=
 Ch R a0 a1 w
theorem Mu {a0 a1 : adW} {w : adV} {R : K1} (h : MX a0 a1 w R) : gU pg Bv #[a0, a1] w R := by
 refine xA (ann := lD) Tryd.f50 kT [a0, a1] CZ 27 TrydM.mixed Tryd.func50 ?_
 exact (KD _ _ _ R (fun _ _ h => h) h)
def BT : FA := ⟨rJ, fun i => .leaf ([], []) []⟩
def CD : List ResultVar := [.tmp 4]
noncomputable def AY : Code := iZ Tryd.f51
def wE (R : K1) (nI uV : adW) (w : adV) : Prop :=
 gU pg nE #[nI] w fun b9 w =>
 eY pg (gO .neq 29 (.tmp 10) (.const (adX 0)) b9 (adX 0)) w fun c1 w =>
 lQ c1
  (R b9 w)
  (eY pg (jB nI) w fun c5 w =>
  eY pg (gM 64 c5 2) w fun c6 w =>
  eY pg (fW 61 c6) w fun c7 w =>
  eY pg (Ak 61 c7 uV true) w fun c9 w =>
  eY pg (iW c9 0) w fun d0 w =>
  eY pg (iW c9 1) w fun d1 w =>
  eY pg (KP .not d1) w fun d3 w =>
  lQ d3
   (R (adX 21) w)
   (eY pg (lK 88 [(0, (adX 2)), (1, uV)]) w fun d6 w =>
   gU pg oN #[nI, d6] w fun d7 w =>
   R d7 w))
theorem Hz (R : K1) (hr : HR CD R Q) (h : wE R (g 0) (g 1) w) : iL pg BT AY Q g w :=
 kW (kn := no) (l := []) h lX hr trivial
def FK (a0 a1 : adW) (w : adV) (R : K1) : Prop :=
 wE R a0 a1 w
theorem Io {a0 a1 : adW} {w : adV} {R : K1} (h : FK a0 a1 w R) : gU pg rJ #[a0, a1] w R := by
 refine xA (ann := BT) Tryd.f51 AY [a0, a1] CD 28 TrydM.mixed Tryd.func51 ?_
 exact (Hz _ _ _ R (fun _ _ h => h) h)
def I7 : FA := ⟨zX, fun i => .leaf ([], []) []⟩
def Kk : List ResultVar := [.tmp 2, .tmp 3]
noncomputable def HL : Code := iZ Tryd.f52
def Fs (R : K1) (NS : adW) (w : adV) : Prop :=
 eY pg (Eo 77 NS) w fun XB w =>
 eY pg (gM 77 XB 0) w fun b5 w =>
 eY pg (fW 5 b5) w fun b6 w =>
 eY pg (gO .lss 5 gZ gZ b6 (.int .u8 1)) w fun b7 w =>
 Gd (kP b7 false) (fun K => eY pg (gM 77 XB 0) w K) w fun b9 w =>
 Gd (kP b7 false) (fun K => eY pg (fW 5 b9) w K) w fun c0 w =>
 Gd (kP b7 false) (fun K => eY pg (gO .gtr 5 gZ gZ c0 (.int .u8 2)) w K) w fun c1 w =>
 eY pg (lE b7 (.bool true) c1) w fun c2 w =>
 lQ c2
  (R (.tuple #[(.slice none 0 0), (adX 1)]) w)
  (gU pg rM #[] w fun c3 w =>
  eY pg (gM 77 XB 0) w fun c5 w =>
  eY pg (fW 5 c5) w fun c6 w =>
  eY pg (kX 5 24 c6) w fun c7 w =>
  gU pg lH #[c3, c7, (adX 1)] w fun c8 w =>
  eY pg (gM 77 XB 1) w fun d0 w =>
  eY pg (fW 24 d0) w fun d1 w =>
  gU pg lH #[c3, d1, (adX 8)] w fun d2 w =>
  gU pg nY #[c3] w fun d5 w =>
  gU pg Le #[d5] w fun d6 w =>
  eY pg (kX 25 24 d6) w fun d7 w =>
  gU pg lH #[c3, d7, (adX 4)] w fun d8 w =>
  gU pg nY #[c3] w fun e0 w =>
  R (.tuple #[e0, (adX 0)]) w)
theorem MK (R : K1) (hr : HR Kk R Q) (h : Fs R (g 0) w) : iL pg I7 HL Q g w :=
 kW (kn := no) (l := []) h lX hr trivial
def O7 (a0 : adW) (w : adV) (R : K1) : Prop :=
 Fs R a0 w
theorem Ny {a0 : adW} {w : adV} {R : K1} (h : O7 a0 w R) : gU pg zX #[a0] w R := by
 refine xA (ann := I7) Tryd.f52 HL [a0] Kk 31 TrydM.mixed Tryd.func52 ?_
 exact (MK _ _ _ R (fun _ _ h => h) h)
def M6 : FA := ⟨JE, fun i => .leaf ([], []) []⟩
def Oc : List ResultVar := [.tmp 0]
noncomputable def Mf : Code := iZ Tryd.f53
def KQ (R : K1)  (w : adV) : Prop :=
 eY pg (lK 119 [(0, (.int .u32 1779033703)), (1, (.int .u32 3144134277)), (2, (.int .u32 1013904242)), (3, (.int .u32 2773480762)), (4, (.int .u32 1359893119)), (5, (.int .u32 2600822924)), (6, (.int .u32 528734635)), (7, (.int .u32 1541459225))]) w fun b1 w =>
 eY pg (lK 122 [(0, b1)]) w fun b2 w =>
 eY pg (Eo 122 b2) w fun b3 w =>
 R b3 w
theorem Px (R : K1) (hr : HR Oc R Q) (h : KQ R w) : iL pg M6 Mf Q g w :=
 kW (kn := no) (l := []) h lX hr trivial
def Tz (w : adV) (R : K1) : Prop :=
 KQ R w
theorem Qr {w : adV} {R : K1} (h : Tz w R) : gU pg JE #[] w R := by
 refine xA (ann := M6) Tryd.f53 Mf [] Oc 4 TrydM.mixed Tryd.func53 ?_
 exact (Px _ _ _ R (fun _ _ h => h) h)
def oQ : FA := ⟨lW, fun i => match Nat.beq i 3 with | true => .leaf ([9], []) [(false, []), (false, []), (false, []), (false, []), (false, []), (false, []), (false, []), (false, []), (false, []), (true, []), (false, [])] | false => match Nat.beq i 7 with | true => .leaf ([9, 12], []) [(false, []), (false, []), (false, []), (false, []), (false, []), (false, []), (false, []), (false, []), (false, []), (true, []), (false, []), (false, []), (true, [])] | false => .leaf ([], []) []⟩
def Aa : List ResultVar := []
noncomputable def nX : Code := iZ Tryd.f54
def tH (kn : K2) (k0 : K0) (pE AI : adW) (w : adV) : Prop :=
 eY pg (nG .len #[22] 3 [AI]) w fun c8 w =>
 eY pg (gO .gtr 3 gZ gZ c8 (adX 0)) w fun c9 w =>
 lQ c9
  ((dr w) = (dr w) /\
  eY pg (jB pE) (dr w) fun d1 w_ => w_ = (dr w) /\
  eY pg (gM 122 d1 1) (dr w) fun d2 w_ => w_ = (dr w) /\
  (dr w) = (dr w) /\
  eY pg (jB pE) (dr w) fun d4 w_ => w_ = (dr w) /\
  eY pg (gM 122 d4 2) (dr w) fun d5 w_ => w_ = (dr w) /\
  eY pg (fW 3 d5) (dr w) fun d6 w_ => w_ = (dr w) /\
  eY pg (lO 120 d2 (some d6) none none) (dr w) fun d7 w_ => w_ = (dr w) /\
  (dr w) = (dr w) /\
  eY pg (nG .copy #[22, 22] 3 [d7, AI]) (dr w) fun d9 Yv =>
  Yv = Yv /\
  eY pg (jB pE) Yv fun e1 w =>
  eY pg (gM 122 e1 2) w fun e2 w =>
  eY pg (fW 3 e2) w fun e3 w =>
  eY pg (gO .add 3 gZ gZ e3 d9) w fun e5 w =>
  eY pg (jB pE) w fun e6 w =>
  eY pg (gM 122 e6 2) w fun e7 w =>
  eY pg (iD 3 e7 e5) w fun _u w =>
  eY pg (lO 22 AI (some d9) none none) w fun f0 w =>
  eY pg (jB pE) w fun f2 w =>
  eY pg (gM 122 f2 2) w fun f3 w =>
  eY pg (fW 3 f3) w fun f4 w =>
  eY pg (gO .eql 3 (.tmp 44) (.const (adX 64)) f4 (adX 64)) w fun f5 w =>
  lQ f5
   ((dr w) = (dr w) /\
   (dr w) = (dr w) /\
   eY pg (jB pE) (dr w) fun f8 w_ => w_ = (dr w) /\
   eY pg (gM 122 f8 0) (dr w) fun f9 w_ => w_ = (dr w) /\
   eY pg (fW 119 f9) (dr w) fun i0 w_ => w_ = (dr w) /\
   (dr w) = (dr w) /\
   eY pg (jB pE) (dr w) fun i2 w_ => w_ = (dr w) /\
   eY pg (gM 122 i2 1) (dr w) fun i3 w_ => w_ = (dr w) /\
   eY pg (fW 120 i3) (dr w) fun i4 w_ => w_ = (dr w) /\
   gU pg vQ #[i0, i4] (dr w) fun i5 Ji =>
   eY pg (jB pE) Ji fun i6 w_ => w_ = Ji /\
   eY pg (gM 122 i6 0) Ji fun i7 w_ => w_ = Ji /\
   eY pg (iD 119 i7 i5) Ji fun _u12 YX =>
   eY pg (jB pE) YX fun i9 w =>
   eY pg (gM 122 i9 2) w fun j0 w =>
   eY pg (iD 3 j0 (adX 0)) w fun _u w =>
   kn pE f0 w)
   (kn pE f0 w))
  (k0 w)
theorem I2 (kn : K2) (k0 : K0) (hn : N2 Q kn 0 1) (h0 : E0 Q k0 0) (h : tH kn k0 (g 0) (g 1) w) : iL pg oQ (bI (bI (fI 2 nX))) Q g w :=
 kW (kr := no) (l := [(0, fun g w => k0 w)]) h hn lX ⟨h0, trivial⟩
def tG (k0 : K0) (pE AI : adW) (w : adV) : Prop :=
 jW (fun (X : adW -> K0) (t : adW) (w : adV) => tH (fun _ AI w => X AI w) k0 pE t w) AI w
theorem Jw (k0 : K0) (h0 : E0 Q k0 0) (h : tG k0 (g 0) (g 1) w) : iL pg oQ (bI (fI 2 nX)) Q g w := by
 refine Pb (fun g : Env => g 1) (fun X t w => tH (fun _ AI w => X AI w) k0 (g 0) t w) h (fun X g1 w1 ha hL => ?_)
 rw [<- qQ 0 ha] at hL
 exact (I2 _ g1 w1 (fun _ AI w => X AI w) k0 (fun _ _ h => h) h0 hL)
def Ad (kn : K0) (pE AI : adW) (w : adV) : Prop :=
 tG kn pE AI w
def Ah (kn : K2) (R : K1) (pE AI : adW) (w : adV) : Prop :=
 eY pg (gO .eql 100 (.tmp 5) (.const (.pointer none)) pE (.pointer none)) w fun b6 w =>
 lQ b6
  (R (.tuple #[]) w)
  (eY pg (jB pE) w fun b8 w =>
  eY pg (gM 122 b8 3) w fun b9 w =>
  eY pg (fW 24 b9) w fun c0 w =>
  eY pg (nG .len #[22] 3 [AI]) w fun c2 w =>
  eY pg (kX 3 24 c2) w fun c3 w =>
  eY pg (gO .add 24 gZ gZ c0 c3) w fun c4 w =>
  eY pg (jB pE) w fun c5 w =>
  eY pg (gM 122 c5 3) w fun c6 w =>
  eY pg (iD 24 c6 c4) w fun _u w =>
  kn pE AI w)
theorem IE (kn : K2) (R : K1) (hn : N2 Q kn 0 1) (hr : HR Aa R Q) (h : Ah kn R (g 0) (g 1) w) : iL pg oQ (gW 2 nX) Q g w :=
 kW (l := []) h hn hr trivial
def zN (kn : K0) (R : K1) (pE AI : adW) (w : adV) : Prop :=
 Ah (fun pE AI w => Ad kn pE AI w) R pE AI w
theorem IL (kn : K0) (R : K1) (hn : N0 Q kn) (hr : HR Aa R Q) (h : zN kn R (g 0) (g 1) w) : iL pg oQ nX Q g w :=
 rV 2 (IE _ g w (Ad kn) R (fun g w h => gY (MJ 0 (Jw _ g w kn hn h))) hr h)
def JC (a0 a1 : adW) (w : adV) (R : K1) : Prop :=
 zN (fun  w => R (.tuple #[]) w) R a0 a1 w
theorem JP {a0 a1 : adW} {w : adV} {R : K1} (h : JC a0 a1 w R) : gU pg lW #[a0, a1] w R := by
 refine xA (ann := oQ) Tryd.f54 nX [a0, a1] Aa 61 TrydM.mixed Tryd.func54 ?_
 exact (IL _ _ _ (fun  w => R (.tuple #[]) w) R (fun _ _ h => h) (fun _ _ h => h) h)
def jD : FA := ⟨AF, fun i => .leaf ([], []) []⟩
def wY : List ResultVar := [.cell 2 49]
noncomputable def jA : Code := iZ Tryd.f55
def xG (R : K1) (b2 jY : adW) (w : adV) : Prop :=
 eY pg (fW 49 jY) w fun i1 w =>
 eY pg (iD 49 b2 i1) w fun _u w =>
 U0 pg 49 b2 w fun r0 => R r0 w
theorem KT (R : K1) (hr : HR wY R Q) (h : xG R (g 2) (g 5) w) : iL pg jD (fI 1 (fI 1 (fI 1 (fI 1 (fI 4 jA))))) Q g w :=
 kW (kn := no) (l := []) h lX hr trivial
def xC (kn : K4) (k4 : K2) (b2 vV jY e4 : adW) (w : adV) : Prop :=
 eY pg (gO .lss 3 gZ gZ e4 (adX 32)) w fun e5 w =>
 lQ e5
  (eY pg (gO .quo 3 gZ gZ e4 (adX 4)) w fun e9 w =>
  eY pg (gM 122 vV 0) w fun f0 w =>
  eY pg (iJ 119 f0 e9) w fun f1 w =>
  eY pg (fW 25 f1) w fun f2 w =>
  eY pg (gO .rem 3 gZ gZ e4 (adX 4)) w fun f4 w =>
  eY pg (gO .mul 3 gZ gZ f4 (adX 8)) w fun f5 w =>
  eY pg (gO .sub 3 gZ gZ (adX 24) f5) w fun f6 w =>
  eY pg (gO .shr 25 gZ gZ f2 f6) w fun f7 w =>
  eY pg (kX 25 5 f7) w fun f8 w =>
  eY pg (iJ 49 jY e4) w fun f9 w =>
  eY pg (iD 5 f9 f8) w fun _u w =>
  eY pg (gO .add 3 gZ gZ e4 (adX 1)) w fun i0 w =>
  kn b2 vV jY i0 w)
  (k4 b2 jY w)
theorem KH (kn : K4) (k4 : K2) (hn : N4 Q kn 2 3 5 34) (h4 : E2 Q k4 4 2 5) (h : xC kn k4 (g 2) (g 3) (g 5) (g 34) w) : iL pg jD (bI (bI (fI 1 (gW 1 (fI 1 (fI 1 (fI 1 (fI 4 jA)))))))) Q g w :=
 kW (kr := no) (l := [(4, fun g w => k4 (g 2) (g 5) w)]) h hn lX ⟨h4, trivial⟩
def Ct (k4 : K2) (b2 vV jY e4 : adW) (w : adV) : Prop :=
 jW (fun (X : adW -> K0) (t : adW) (w : adV) => xC (fun _ _ _ e4 w => X e4 w) k4 b2 vV jY t w) e4 w
theorem KR (k4 : K2) (h4 : E2 Q k4 4 2 5) (h : Ct k4 (g 2) (g 3) (g 5) (g 34) w) : iL pg jD (bI (fI 1 (gW 1 (fI 1 (fI 1 (fI 1 (fI 4 jA))))))) Q g w := by
 refine Pb (fun g : Env => g 34) (fun X t w => xC (fun _ _ _ e4 w => X e4 w) k4 (g 2) (g 3) (g 5) t w) h (fun X g1 w1 ha hL => ?_)
 rw [<- qQ 2 ha, <- qQ 3 ha, <- qQ 5 ha] at hL
 exact (KH _ g1 w1 (fun _ _ _ e4 w => X e4 w) k4 (fun _ _ h => h) h4 hL)
def Ck (kn : K2) (b2 vV jY e4 : adW) (w : adV) : Prop :=
 Ct kn b2 vV jY e4 w
def Cu (kn : K4) (b2 vV jY : adW) (w : adV) : Prop :=
 kn b2 vV jY (adX 0) w
theorem KW (kn : K4) (hn : N4 Q kn 2 3 5 34) (h : Cu kn (g 2) (g 3) (g 5) w) : iL pg jD (gW 1 (gW 1 (fI 1 (fI 1 (fI 1 (fI 4 jA)))))) Q g w :=
 kW (kr := no) (l := []) h hn lX trivial
def Cm (kn : K2) (b2 vV jY : adW) (w : adV) : Prop :=
 Cu (fun b2 vV jY e4 w => Ck kn b2 vV jY e4 w) b2 vV jY w
def Cj (R : K1) (b2 vV jY : adW) (w : adV) : Prop :=
 Cm (fun b2 jY w => xG R b2 jY w) b2 vV jY w
theorem KU (kn : K2) (hn : N2 Q kn 2 5) (h : Cm kn (g 2) (g 3) (g 5) w) : iL pg jD (gW 1 (fI 1 (fI 1 (fI 1 (fI 4 jA))))) Q g w :=
 rV 1 (KW _ g w (Ck kn) (fun g w h => gY (MJ 4 (KR _ g w kn hn h))) h)
def Ce (kn : K3) (b2 vV : adW) (w : adV) : Prop :=
 eY pg (lR 49) w fun jY w =>
 kn b2 vV jY w
theorem Ky (kn : K3) (hn : N3 Q kn 2 3 5) (h : Ce kn (g 2) (g 3) w) : iL pg jD (gW 1 (fI 1 (fI 1 (fI 4 jA)))) Q g w :=
 kW (kr := no) (l := []) h hn lX trivial
def Cc (R : K1) (b2 vV : adW) (w : adV) : Prop :=
 Ce (fun b2 vV jY w => Cj R b2 vV jY w) b2 vV w
def vT (kn : K4) (k2 : K2) (pE b2 vV pV : adW) (w : adV) : Prop :=
 eY pg (gO .geq 3 gZ gZ pV (adX 0)) w fun d1 w =>
 lQ d1
  (eY pg (jB pE) w fun d5 w =>
  eY pg (gM 122 d5 3) w fun d6 w =>
  eY pg (fW 24 d6) w fun d7 w =>
  eY pg (gO .mul 24 gZ gZ (.int .u64 8) d7) w fun d8 w =>
  eY pg (gO .shr 24 gZ gZ d8 pV) w fun e0 w =>
  eY pg (kX 24 5 e0) w fun e1 w =>
  eY pg (iF 22 1 [(0, e1)]) w fun e2 w =>
  gU pg lW #[vV, e2] w fun e3 w =>
  eY pg (gO .sub 3 gZ gZ pV (adX 8)) w fun d3 w =>
  kn pE b2 vV d3 w)
  (k2 b2 vV w)
theorem JN (kn : K4) (k2 : K2) (hn : N4 Q kn 0 2 3 4) (h2 : E2 Q k2 2 2 3) (h : vT kn k2 (g 0) (g 2) (g 3) (g 4) w) : iL pg jD (bI (bI (fI 1 (gW 1 (fI 1 (fI 4 jA)))))) Q g w :=
 kW (kr := no) (l := [(2, fun g w => k2 (g 2) (g 3) w)]) h hn lX ⟨h2, trivial⟩
def Bj (k2 : K2) (pE b2 vV pV : adW) (w : adV) : Prop :=
 jW (fun (X : adW -> K0) (t : adW) (w : adV) => vT (fun _ _ _ pV w => X pV w) k2 pE b2 vV t w) pV w
theorem JW (k2 : K2) (h2 : E2 Q k2 2 2 3) (h : Bj k2 (g 0) (g 2) (g 3) (g 4) w) : iL pg jD (bI (fI 1 (gW 1 (fI 1 (fI 4 jA))))) Q g w := by
 refine Pb (fun g : Env => g 4) (fun X t w => vT (fun _ _ _ pV w => X pV w) k2 (g 0) (g 2) (g 3) t w) h (fun X g1 w1 ha hL => ?_)
 rw [<- qQ 0 ha, <- qQ 2 ha, <- qQ 3 ha] at hL
 exact (JN _ g1 w1 (fun _ _ _ pV w => X pV w) k2 (fun _ _ h => h) h2 hL)
def Bg (kn : K2) (pE b2 vV pV : adW) (w : adV) : Prop :=
 Bj kn pE b2 vV pV w
def A9 (kn : K4) (pE b2 vV : adW) (w : adV) : Prop :=
 kn pE b2 vV (adX 56) w
theorem JU (kn : K4) (hn : N4 Q kn 0 2 3 4) (h : A9 kn (g 0) (g 2) (g 3) w) : iL pg jD (gW 1 (gW 1 (fI 1 (fI 4 jA)))) Q g w :=
 kW (kr := no) (l := []) h hn lX trivial
def Bm (kn : K2) (pE b2 vV : adW) (w : adV) : Prop :=
 A9 (fun pE b2 vV pV w => Bg kn pE b2 vV pV w) pE b2 vV w
def Bd (R : K1) (pE b2 vV : adW) (w : adV) : Prop :=
 Bm (fun b2 vV w => Cc R b2 vV w) pE b2 vV w
theorem JT (kn : K2) (hn : N2 Q kn 2 3) (h : Bm kn (g 0) (g 2) (g 3) w) : iL pg jD (gW 1 (fI 1 (fI 4 jA))) Q g w :=
 rV 1 (JU _ g w (Bg kn) (fun g w h => gY (MJ 2 (JW _ g w kn hn h))) h)
def vS (kn : K3) (k0 : K3) (pE b2 vV : adW) (w : adV) : Prop :=
 eY pg (gM 122 vV 2) w fun c5 w =>
 eY pg (fW 3 c5) w fun c6 w =>
 eY pg (gO .neq 3 (.tmp 16) (.const (adX 56)) c6 (adX 56)) w fun c7 w =>
 lQ c7
  (eY pg (iF 22 1 [(0, (.int .u8 0))]) w fun c8 w =>
  gU pg lW #[vV, c8] w fun c9 w =>
  kn pE b2 vV w)
  (k0 pE b2 vV w)
theorem J8 (kn : K3) (k0 : K3) (hn : N3 Q kn 0 2 3) (h0 : E3 Q k0 0 0 2 3) (h : vS kn k0 (g 0) (g 2) (g 3) w) : iL pg jD (bI (bI (gW 1 (fI 4 jA)))) Q g w :=
 kW (kr := no) (l := [(0, fun g w => k0 (g 0) (g 2) (g 3) w)]) h hn lX ⟨h0, trivial⟩
def A8 (k0 : K3) (pE b2 vV : adW) (w : adV) : Prop :=
 jW (fun (X : Unit -> K0) (t : Unit) (w : adV) => vS (fun _ _ _ w => X () w) k0 pE b2 vV w) () w
theorem J2 (k0 : K3) (h0 : E3 Q k0 0 0 2 3) (h : A8 k0 (g 0) (g 2) (g 3) w) : iL pg jD (bI (gW 1 (fI 4 jA))) Q g w := by
 refine Pb (fun _ : Env => ()) (fun X t w => vS (fun _ _ _ w => X () w) k0 (g 0) (g 2) (g 3) w) h (fun X g1 w1 ha hL => ?_)
 rw [<- qQ 0 ha, <- qQ 2 ha, <- qQ 3 ha] at hL
 exact (J8 _ g1 w1 (fun _ _ _ w => X () w) k0 (fun _ _ h => h) h0 hL)
def Bt (kn : K3) (pE b2 vV : adW) (w : adV) : Prop :=
 A8 kn pE b2 vV w
def Bi (R : K1) (pE b2 vV : adW) (w : adV) : Prop :=
 Bt (fun pE b2 vV w => Bd R pE b2 vV w) pE b2 vV w
theorem JY (kn : K3) (hn : N3 Q kn 0 2 3) (h : Bt kn (g 0) (g 2) (g 3) w) : iL pg jD (gW 1 (fI 4 jA)) Q g w :=
 MJ 0 (J2 _ g w kn hn h)
def Be (kn : K3) (R : K1) (pE : adW) (w : adV) : Prop :=
 eY pg (lR 49) w fun b2 w =>
 eY pg (gO .eql 100 (.tmp 7) (.const (.pointer none)) pE (.pointer none)) w fun b8 w =>
 lQ b8
  (gU pg IJ #[(.slice none 0 0)] w fun b9 w =>
  eY pg (iD 49 b2 b9) w fun _u w =>
  U0 pg 49 b2 w fun r0 => R r0 w)
  (eY pg (jB pE) w fun c1 w =>
  eY pg (fW 122 c1) w fun c2 w =>
  eY pg (lR 122) w fun vV w =>
  eY pg (iD 122 vV c2) w fun _u w =>
  eY pg (iF 22 1 [(0, (.int .u8 128))]) w fun c3 w =>
  gU pg lW #[vV, c3] w fun c4 w =>
  kn pE b2 vV w)
theorem J5 (kn : K3) (R : K1) (hn : N3 Q kn 0 2 3) (hr : HR wY R Q) (h : Be kn R (g 0) w) : iL pg jD (gW 4 jA) Q g w :=
 kW (l := []) h hn hr trivial
def Bc (R : K1) (pE : adW) (w : adV) : Prop :=
 Be (fun pE b2 vV w => Bi R pE b2 vV w) R pE w
theorem J0 (R : K1) (hr : HR wY R Q) (h : Bc R (g 0) w) : iL pg jD jA Q g w :=
 rV 4 (J5 _ g w (Bi R) R (fun g w h => gY (rV 1 (JY _ g w (Bd R) (fun g w h => gY (rV 1 (JT _ g w (Cc R) (fun g w h => gY (rV 1 (Ky _ g w (Cj R) (fun g w h => gY (rV 1 (KU _ g w (xG R) (fun g w h => gY (KT _ g w R hr h)) h))) h))) h))) h))) hr h)
def Mb (a0 : adW) (w : adV) (R : K1) : Prop :=
 Bc R a0 w
theorem LJ {a0 : adW} {w : adV} {R : K1} (h : Mb a0 w R) : gU pg AF #[a0] w R := by
 refine xA (ann := jD) Tryd.f55 jA [a0] wY 52 TrydM.mixed Tryd.func55 ?_
 exact (J0 _ _ _ R (fun _ _ h => h) h)
def kD : FA := ⟨wK, fun i => .leaf ([], []) []⟩
def lS : List ResultVar := [.tmp 4]
noncomputable def jV : Code := iZ Tryd.f57
def pQ (R : K1)  (w : adV) : Prop :=
 R (adX (-1)) w
theorem FN (R : K1) (hr : HR lS R Q) (h : pQ R w) : iL pg kD (fI 1 (fI 1 jV)) Q g w :=
 kW (kn := no) (l := []) h lX hr trivial
def pH (kn : K4) (k0 : K0) (R : K1) (lF Na b7 b8 : adW) (w : adV) : Prop :=
 eY pg (gO .lss 3 gZ gZ b8 b7) w fun b9 w =>
 lQ b9
  (eY pg (iJ 45 lF b8) w fun c4 w =>
  eY pg (fW 4 c4) w fun c5 w =>
  eY pg (gO .eql 4 (.tmp 11) (.tmp 15) Na c5) w fun c6 w =>
  lQ c6
   (R b8 w)
   (eY pg (gO .add 3 gZ gZ b8 (adX 1)) w fun c8 w =>
   kn lF Na b7 c8 w))
  (k0 w)
theorem FY (kn : K4) (k0 : K0) (R : K1) (hn : N4 Q kn 0 1 7 8) (h0 : E0 Q k0 0) (hr : HR lS R Q) (h : pH kn k0 R (g 0) (g 1) (g 7) (g 8) w) : iL pg kD (bI (bI (fI 1 (gW 1 (fI 1 jV))))) Q g w :=
 kW (l := [(0, fun g w => k0 w)]) h hn hr ⟨h0, trivial⟩
def uJ (k0 : K0) (R : K1) (lF Na b7 b8 : adW) (w : adV) : Prop :=
 jW (fun (X : adW -> K0) (t : adW) (w : adV) => pH (fun _ _ _ b8 w => X b8 w) k0 R lF Na b7 t w) b8 w
theorem GC (k0 : K0) (R : K1) (h0 : E0 Q k0 0) (hr : HR lS R Q) (h : uJ k0 R (g 0) (g 1) (g 7) (g 8) w) : iL pg kD (bI (fI 1 (gW 1 (fI 1 jV)))) Q g w := by
 refine Pb (fun g : Env => g 8) (fun X t w => pH (fun _ _ _ b8 w => X b8 w) k0 R (g 0) (g 1) (g 7) t w) h (fun X g1 w1 ha hL => ?_)
 rw [<- qQ 0 ha, <- qQ 1 ha, <- qQ 7 ha] at hL
 exact (FY _ g1 w1 (fun _ _ _ b8 w => X b8 w) k0 R (fun _ _ h => h) h0 hr hL)
def uL (kn : K0) (R : K1) (lF Na b7 b8 : adW) (w : adV) : Prop :=
 uJ kn R lF Na b7 b8 w
def vD (kn : K4) (lF Na : adW) (w : adV) : Prop :=
 eY pg (nG .len #[45] 3 [lF]) w fun b7 w =>
 kn lF Na b7 (adX 0) w
theorem Gy (kn : K4) (hn : N4 Q kn 0 1 7 8) (h : vD kn (g 0) (g 1) w) : iL pg kD (gW 1 (gW 1 (fI 1 jV))) Q g w :=
 kW (kr := no) (l := []) h hn lX trivial
def vM (kn : K0) (R : K1) (lF Na : adW) (w : adV) : Prop :=
 vD (fun lF Na b7 b8 w => uL kn R lF Na b7 b8 w) lF Na w
def tT (R : K1) (lF Na : adW) (w : adV) : Prop :=
 vM (fun  w => pQ R w) R lF Na w
theorem Gx (kn : K0) (R : K1) (hn : N0 Q kn) (hr : HR lS R Q) (h : vM kn R (g 0) (g 1) w) : iL pg kD (gW 1 (fI 1 jV)) Q g w :=
 rV 1 (Gy _ g w (uL kn R) (fun g w h => gY (MJ 0 (GC _ g w kn R hn hr h))) h)
def tW (kn : K2) (lF Na : adW) (w : adV) : Prop :=
 kn lF Na w
theorem F7 (kn : K2) (hn : N2 Q kn 0 1) (h : tW kn (g 0) (g 1) w) : iL pg kD (gW 1 jV) Q g w :=
 kW (kr := no) (l := []) h hn lX trivial
def uD (R : K1) (lF Na : adW) (w : adV) : Prop :=
 tW (fun lF Na w => tT R lF Na w) lF Na w
theorem FP (R : K1) (hr : HR lS R Q) (h : uD R (g 0) (g 1) w) : iL pg kD jV Q g w :=
 rV 1 (F7 _ g w (tT R) (fun g w h => gY (rV 1 (Gx _ g w (fun  w => pQ R w) R (fun g w h => gY (FN _ g w R hr h)) hr h))) h)
def Ey (a0 a1 : adW) (w : adV) (R : K1) : Prop :=
 uD R a0 a1 w
theorem Hh {a0 a1 : adW} {w : adV} {R : K1} (h : Ey a0 a1 w R) : gU pg wK #[a0, a1] w R := by
 refine xA (ann := kD) Tryd.f57 jV [a0, a1] lS 19 TrydM.mixed Tryd.func57 ?_
 exact (FP _ _ _ R (fun _ _ h => h) h)
def pB : FA := ⟨wO, fun i => .leaf ([], []) []⟩
def vC : List ResultVar := [.tmp 4]
noncomputable def oF : Code := iZ Tryd.f58
def pS (R : K1) (nR FC : adW) (w : adV) : Prop :=
 eY pg (Jg (.func 67) [] [nR, FC]) w fun b8 w =>
 R b8 w
theorem Gm (R : K1) (hr : HR vC R Q) (h : pS R (g 2) (g 3) w) : iL pg pB (fI 2 oF) Q g w :=
 kW (kn := no) (l := []) h lX hr trivial
def uI (kn : K2) (lF NL : adW) (w : adV) : Prop :=
 eY pg (Eo 22 lF) w fun nR w =>
 eY pg (Eo 3 NL) w fun FC w =>
 eY pg (fW 3 FC) w fun b5 w =>
 eY pg (gO .lss 3 gZ gZ b5 (adX 1)) w fun b6 w =>
 lQ b6
  (eY pg (X5 9 (.string ⟨#[99, 97, 110, 110, 111, 116, 32, 98, 101, 32, 108, 101, 115, 115, 32, 116, 104, 97, 110, 32, 49]⟩)) w fun b7 w =>
  eY pg (V (Instr.panic b7)) w fun _u w =>
  kn nR FC w)
  (kn nR FC w)
theorem GG (kn : K2) (hn : N2 Q kn 2 3) (h : uI kn (g 0) (g 1) w) : iL pg pB (gW 2 oF) Q g w :=
 kW (kr := no) (l := []) h hn lX trivial
def vJ (R : K1) (lF NL : adW) (w : adV) : Prop :=
 uI (fun nR FC w => pS R nR FC w) lF NL w
theorem Gz (R : K1) (hr : HR vC R Q) (h : vJ R (g 0) (g 1) w) : iL pg pB oF Q g w :=
 rV 2 (GG _ g w (pS R) (fun g w h => gY (Gm _ g w R hr h)) h)
def EJ (a0 a1 : adW) (w : adV) (R : K1) : Prop :=
 vJ R a0 a1 w
theorem Hi {a0 a1 : adW} {w : adV} {R : K1} (h : EJ a0 a1 w R) : gU pg wO #[a0, a1] w R := by
 refine xA (ann := pB) Tryd.f58 oF [a0, a1] vC 9 TrydM.mixed Tryd.func58 ?_
 exact (Gz _ _ _ R (fun _ _ h => h) h)
def BP : FA := ⟨rI, fun i => .leaf ([], []) []⟩
def Cy : List ResultVar := [.tmp 2]
noncomputable def AP : Code := iZ Tryd.f59
def wF (R : K1) (AH : adW) (w : adV) : Prop :=
 gU pg kM #[AH] w fun b4 w =>
 eY pg (lK 126 [(0, b4)]) w fun b5 w =>
 eY pg (Eo 126 b5) w fun b6 w =>
 R b6 w
theorem Hj (R : K1) (hr : HR Cy R Q) (h : wF R (g 0) w) : iL pg BP AP Q g w :=
 kW (kn := no) (l := []) h lX hr trivial
def GJ (a0 : adW) (w : adV) (R : K1) : Prop :=
 wF R a0 w
theorem HV {a0 : adW} {w : adV} {R : K1} (h : GJ a0 w R) : gU pg rI #[a0] w R := by
 refine xA (ann := BP) Tryd.f59 AP [a0] Cy 7 TrydM.mixed Tryd.func59 ?_
 exact (Hj _ _ _ R (fun _ _ h => h) h)
def jM : FA := ⟨mB, fun i => .leaf ([], []) []⟩
def nL : List ResultVar := [.tmp 4]
noncomputable def jI : Code := iZ Tryd.f60
def nP (R : K1) (Ki : adW) (w : adV) : Prop :=
 R Ki w
theorem DJ (R : K1) (hr : HR nL R Q) (h : nP R (g 5) w) : iL pg jM (fI 1 (fI 3 jI)) Q g w :=
 kW (kn := no) (l := []) h lX hr trivial
def nJ (kn : K4) (k0 : K1) (Ki c8 c9 d0 : adW) (w : adV) : Prop :=
 eY pg (gO .lss 3 gZ gZ d0 c9) w fun d1 w =>
 lQ d1
  (eY pg (iJ 22 c8 d0) w fun d3 w =>
  eY pg (fW 5 d3) w fun d4 w =>
  eY pg (kX 5 24 d4) w fun d7 w =>
  eY pg (gO .mul 3 gZ gZ (adX 8) d0) w fun d9 w =>
  eY pg (kX 3 128 d9) w fun e0 w =>
  eY pg (gO .shl 24 gZ gZ d7 e0) w fun e1 w =>
  eY pg (gO .or 24 gZ gZ Ki e1) w fun e2 w =>
  eY pg (gO .add 3 gZ gZ d0 (adX 1)) w fun e3 w =>
  kn e2 c8 c9 e3 w)
  (k0 Ki w)
theorem Ds (kn : K4) (k0 : K1) (hn : N4 Q kn 5 18 19 20) (h0 : E1 Q k0 0 5) (h : nJ kn k0 (g 5) (g 18) (g 19) (g 20) w) : iL pg jM (bI (bI (fI 1 (gW 1 (fI 3 jI))))) Q g w :=
 kW (kr := no) (l := [(0, fun g w => k0 (g 5) w)]) h hn lX ⟨h0, trivial⟩
def rE (k0 : K1) (Ki c8 c9 d0 : adW) (w : adV) : Prop :=
 jW (fun (X : (adW × adW) -> K0) (t : adW × adW) (w : adV) => nJ (fun Ki _ _ d0 w => X (Ki, d0) w) k0 t.1 c8 c9 t.2 w) (Ki, d0) w
theorem D9 (k0 : K1) (h0 : E1 Q k0 0 5) (h : rE k0 (g 5) (g 18) (g 19) (g 20) w) : iL pg jM (bI (fI 1 (gW 1 (fI 3 jI)))) Q g w := by
 refine Pb (fun g : Env => (g 5, g 20)) (fun X t w => nJ (fun Ki _ _ d0 w => X (Ki, d0) w) k0 t.1 (g 18) (g 19) t.2 w) h (fun X g1 w1 ha hL => ?_)
 rw [<- qQ 18 ha, <- qQ 19 ha] at hL
 exact (Ds _ g1 w1 (fun Ki _ _ d0 w => X (Ki, d0) w) k0 (fun _ _ h => h) h0 hL)
def qP (kn : K1) (Ki c8 c9 d0 : adW) (w : adV) : Prop :=
 rE kn Ki c8 c9 d0 w
def rC (kn : K4) (NS NL Ki : adW) (w : adV) : Prop :=
 eY pg (gO .geq 3 gZ gZ NL (adX 1)) w fun c3 w =>
 Gd (kP c3 true) (fun K => K NL w) w fun c5 w =>
 Gd (kP c3 true) (fun K => eY pg (gO .leq 3 gZ gZ c5 (adX 8)) w K) w fun c6 w =>
 eY pg (lE c3 c6 (.bool false)) w fun c7 w =>
 gU pg pL #[NS, NL, c7] w fun c8 w =>
 eY pg (nG .len #[22] 3 [c8]) w fun c9 w =>
 kn Ki c8 c9 (adX 0) w
theorem DB (kn : K4) (hn : N4 Q kn 5 18 19 20) (h : rC kn (g 0) (g 1) (g 5) w) : iL pg jM (gW 1 (gW 1 (fI 3 jI))) Q g w :=
 kW (kr := no) (l := []) h hn lX trivial
def qT (kn : K1) (NS NL Ki : adW) (w : adV) : Prop :=
 rC (fun Ki c8 c9 d0 w => qP kn Ki c8 c9 d0 w) NS NL Ki w
def qL (R : K1) (NS NL Ki : adW) (w : adV) : Prop :=
 qT (fun Ki w => nP R Ki w) NS NL Ki w
theorem C8 (kn : K1) (hn : N1 Q kn 5) (h : qT kn (g 0) (g 1) (g 5) w) : iL pg jM (gW 1 (fI 3 jI)) Q g w :=
 rV 1 (DB _ g w (qP kn) (fun g w h => gY (MJ 0 (D9 _ g w kn hn h))) h)
def rB (kn : K3) (R : K1) (NS NL : adW) (w : adV) : Prop :=
 eY pg (gO .eql 109 (.tmp 8) (.const (.pointer none)) NS (.pointer none)) w fun b9 w =>
 lQ b9
  (R (.int .u64 0) w)
  (kn NS NL (.int .u64 0) w)
theorem Di (kn : K3) (R : K1) (hn : N3 Q kn 0 1 5) (hr : HR nL R Q) (h : rB kn R (g 0) (g 1) w) : iL pg jM (gW 3 jI) Q g w :=
 kW (l := []) h hn hr trivial
def qS (R : K1) (NS NL : adW) (w : adV) : Prop :=
 rB (fun NS NL Ki w => qL R NS NL Ki w) R NS NL w
theorem DI (R : K1) (hr : HR nL R Q) (h : qS R (g 0) (g 1) w) : iL pg jM jI Q g w :=
 rV 3 (Di _ g w (qL R) R (fun g w h => gY (rV 1 (C8 _ g w (nP R) (fun g w h => gY (DJ _ g w R hr h)) h))) hr h)
def B1 (a0 a1 : adW) (w : adV) (R : K1) : Prop :=
 qS R a0 a1 w
theorem El {a0 a1 : adW} {w : adV} {R : K1} (h : B1 a0 a1 w R) : gU pg mB #[a0, a1] w R := by
 refine xA (ann := jM) Tryd.f60 jI [a0, a1] nL 35 TrydM.mixed Tryd.func60 ?_
 exact (DI _ _ _ R (fun _ _ h => h) h)
def kC : FA := ⟨qB, fun i => match Nat.beq i 6 with | true => .leaf ([], []) [(false, []), (false, []), (false, []), (false, []), (false, []), (false, []), (false, []), (false, []), (false, [])] | false => .leaf ([], []) []⟩
def lC : List ResultVar := [.tmp 4]
noncomputable def jU : Code := iZ Tryd.f61
def pT (R : K1)  (w : adV) : Prop :=
 R (.bool true) w
theorem Ga (R : K1) (hr : HR lC R Q) (h : pT R w) : iL pg kC (fI 1 (fI 2 jU)) Q g w :=
 kW (kn := no) (l := []) h lX hr trivial
def pW (kn : K4) (k0 : K0) (R : K1) (B7 Ca c2 c3 : adW) (w : adV) : Prop :=
 eY pg (gO .lss 3 gZ gZ c3 c2) w fun c4 w =>
 lQ c4
  ((dr w) = (dr w) /\
  (dr w) = (dr w) /\
  eY pg (iJ 22 B7 c3) (dr w) fun c8 w_ => w_ = (dr w) /\
  eY pg (fW 5 c8) (dr w) fun c9 w_ => w_ = (dr w) /\
  (dr w) = (dr w) /\
  (dr w) = (dr w) /\
  eY pg (iJ 22 Ca c3) (dr w) fun d2 w_ => w_ = (dr w) /\
  eY pg (fW 5 d2) (dr w) fun d3 w_ => w_ = (dr w) /\
  eY pg (gO .neq 5 (.tmp 19) (.tmp 23) c9 d3) (dr w) fun d4 w_ => w_ = (dr w) /\
  lQ d4
   (R (.bool false) (dr w))
   (eY pg (gO .add 3 gZ gZ c3 (adX 1)) (dr w) fun d5 w =>
   kn B7 Ca c2 d5 w))
  (k0 w)
theorem GB (kn : K4) (k0 : K0) (R : K1) (hn : N4 Q kn 0 1 12 13) (h0 : E0 Q k0 0) (hr : HR lC R Q) (h : pW kn k0 R (g 0) (g 1) (g 12) (g 13) w) : iL pg kC (bI (bI (fI 1 (gW 1 (fI 2 jU))))) Q g w :=
 kW (l := [(0, fun g w => k0 w)]) h hn hr ⟨h0, trivial⟩
def tM (k0 : K0) (R : K1) (B7 Ca c2 c3 : adW) (w : adV) : Prop :=
 jW (fun (X : adW -> K0) (t : adW) (w : adV) => pW (fun _ _ _ c3 w => X c3 w) k0 R B7 Ca c2 t w) c3 w
theorem Gq (k0 : K0) (R : K1) (h0 : E0 Q k0 0) (hr : HR lC R Q) (h : tM k0 R (g 0) (g 1) (g 12) (g 13) w) : iL pg kC (bI (fI 1 (gW 1 (fI 2 jU)))) Q g w := by
 refine Pb (fun g : Env => g 13) (fun X t w => pW (fun _ _ _ c3 w => X c3 w) k0 R (g 0) (g 1) (g 12) t w) h (fun X g1 w1 ha hL => ?_)
 rw [<- qQ 0 ha, <- qQ 1 ha, <- qQ 12 ha] at hL
 exact (GB _ g1 w1 (fun _ _ _ c3 w => X c3 w) k0 R (fun _ _ h => h) h0 hr hL)
def tS (kn : K0) (R : K1) (B7 Ca c2 c3 : adW) (w : adV) : Prop :=
 tM kn R B7 Ca c2 c3 w
def vF (kn : K4) (B7 Ca : adW) (w : adV) : Prop :=
 eY pg (nG .len #[22] 3 [B7]) w fun c2 w =>
 kn B7 Ca c2 (adX 0) w
theorem Ge (kn : K4) (hn : N4 Q kn 0 1 12 13) (h : vF kn (g 0) (g 1) w) : iL pg kC (gW 1 (gW 1 (fI 2 jU))) Q g w :=
 kW (kr := no) (l := []) h hn lX trivial
def uZ (kn : K0) (R : K1) (B7 Ca : adW) (w : adV) : Prop :=
 vF (fun B7 Ca c2 c3 w => tS kn R B7 Ca c2 c3 w) B7 Ca w
def tV (R : K1) (B7 Ca : adW) (w : adV) : Prop :=
 uZ (fun  w => pT R w) R B7 Ca w
theorem GM (kn : K0) (R : K1) (hn : N0 Q kn) (hr : HR lC R Q) (h : uZ kn R (g 0) (g 1) w) : iL pg kC (gW 1 (fI 2 jU)) Q g w :=
 rV 1 (Ge _ g w (tS kn R) (fun g w h => gY (MJ 0 (Gq _ g w kn R hn hr h))) h)
def vO (kn : K2) (R : K1) (B7 Ca : adW) (w : adV) : Prop :=
 eY pg (nG .len #[22] 3 [B7]) w fun b7 w =>
 eY pg (nG .len #[22] 3 [Ca]) w fun b9 w =>
 eY pg (gO .neq 3 (.tmp 7) (.tmp 9) b7 b9) w fun c0 w =>
 lQ c0
  (R (.bool false) w)
  (kn B7 Ca w)
theorem FR (kn : K2) (R : K1) (hn : N2 Q kn 0 1) (hr : HR lC R Q) (h : vO kn R (g 0) (g 1) w) : iL pg kC (gW 2 jU) Q g w :=
 kW (l := []) h hn hr trivial
def uF (R : K1) (B7 Ca : adW) (w : adV) : Prop :=
 vO (fun B7 Ca w => tV R B7 Ca w) R B7 Ca w
theorem FZ (R : K1) (hr : HR lC R Q) (h : uF R (g 0) (g 1) w) : iL pg kC jU Q g w :=
 rV 2 (FR _ g w (tV R) R (fun g w h => gY (rV 1 (GM _ g w (fun  w => pT R w) R (fun g w h => gY (Ga _ g w R hr h)) hr h))) hr h)
def ES (a0 a1 : adW) (w : adV) (R : K1) : Prop :=
 uF R a0 a1 w
theorem Hr {a0 a1 : adW} {w : adV} {R : K1} (h : ES a0 a1 w R) : gU pg qB #[a0, a1] w R := by
 refine xA (ann := kC) Tryd.f61 jU [a0, a1] lC 26 TrydM.mixed Tryd.func61 ?_
 exact (FZ _ _ _ R (fun _ _ h => h) h)
def BS : FA := ⟨rM, fun i => .leaf ([], []) []⟩
def CC : List ResultVar := [.tmp 0]
noncomputable def AX : Code := iZ Tryd.f62
def wG (R : K1)  (w : adV) : Prop :=
 eY pg (lK 130 []) w fun b1 w =>
 eY pg (Eo 130 b1) w fun b2 w =>
 R b2 w
theorem GX (R : K1) (hr : HR CC R Q) (h : wG R w) : iL pg BS AX Q g w :=
 kW (kn := no) (l := []) h lX hr trivial
def F1 (w : adV) (R : K1) : Prop :=
 wG R w
theorem H4 {w : adV} {R : K1} (h : F1 w R) : gU pg rM #[] w R := by
 refine xA (ann := BS) Tryd.f62 AX [] CC 3 TrydM.mixed Tryd.func62 ?_
 exact (GX _ _ _ R (fun _ _ h => h) h)
def lP : FA := ⟨lH, fun i => .leaf ([], []) []⟩
def qO : List ResultVar := []
noncomputable def lI : Code := iZ Tryd.f63
def nK (kn : K4) (k0 : K0) (QY Ts c7 c8 : adW) (w : adV) : Prop :=
 eY pg (gO .lss 3 gZ gZ c8 c7) w fun c9 w =>
 lQ c9
  (eY pg (jB QY) w fun d3 w =>
  eY pg (gM 130 d3 0) w fun d4 w =>
  eY pg (fW 22 d4) w fun d5 w =>
  eY pg (gO .mul 3 gZ gZ (adX 8) c8) w fun d8 w =>
  eY pg (kX 3 128 d8) w fun d9 w =>
  eY pg (gO .shr 24 gZ gZ Ts d9) w fun e0 w =>
  eY pg (kX 24 5 e0) w fun e1 w =>
  eY pg (iF 22 1 [(0, e1)]) w fun e2 w =>
  eY pg (nG .append #[22, 22] 22 [d5, e2]) w fun e3 w =>
  eY pg (jB QY) w fun e4 w =>
  eY pg (gM 130 e4 0) w fun e5 w =>
  eY pg (iD 22 e5 e3) w fun _u w =>
  eY pg (gO .add 3 gZ gZ c8 (adX 1)) w fun e6 w =>
  kn QY Ts c7 e6 w)
  (k0 w)
theorem Dv (kn : K4) (k0 : K0) (hn : N4 Q kn 0 1 17 18) (h0 : E0 Q k0 0) (h : nK kn k0 (g 0) (g 1) (g 17) (g 18) w) : iL pg lP (bI (bI (fI 2 lI))) Q g w :=
 kW (kr := no) (l := [(0, fun g w => k0 w)]) h hn lX ⟨h0, trivial⟩
def qK (k0 : K0) (QY Ts c7 c8 : adW) (w : adV) : Prop :=
 jW (fun (X : adW -> K0) (t : adW) (w : adV) => nK (fun _ _ _ c8 w => X c8 w) k0 QY Ts c7 t w) c8 w
theorem C5 (k0 : K0) (h0 : E0 Q k0 0) (h : qK k0 (g 0) (g 1) (g 17) (g 18) w) : iL pg lP (bI (fI 2 lI)) Q g w := by
 refine Pb (fun g : Env => g 18) (fun X t w => nK (fun _ _ _ c8 w => X c8 w) k0 (g 0) (g 1) (g 17) t w) h (fun X g1 w1 ha hL => ?_)
 rw [<- qQ 0 ha, <- qQ 1 ha, <- qQ 17 ha] at hL
 exact (Dv _ g1 w1 (fun _ _ _ c8 w => X c8 w) k0 (fun _ _ h => h) h0 hL)
def qZ (kn : K0) (QY Ts c7 c8 : adW) (w : adV) : Prop :=
 qK kn QY Ts c7 c8 w
def qI (kn : K4) (R : K1) (QY Ts Y3 : adW) (w : adV) : Prop :=
 eY pg (gO .eql 113 (.tmp 7) (.const (.pointer none)) QY (.pointer none)) w fun b8 w =>
 Gd (kP b8 false) (fun K => K Y3 w) w fun c0 w =>
 Gd (kP b8 false) (fun K => eY pg (gO .lss 3 gZ gZ c0 (adX 1)) w K) w fun c1 w =>
 eY pg (lE b8 (.bool true) c1) w fun c2 w =>
 Gd (kP c2 false) (fun K => K Y3 w) w fun c4 w =>
 Gd (kP c2 false) (fun K => eY pg (gO .gtr 3 gZ gZ c4 (adX 8)) w K) w fun c5 w =>
 eY pg (lE c2 (.bool true) c5) w fun c6 w =>
 lQ c6
  (R (.tuple #[]) w)
  (kn QY Ts Y3 (adX 0) w)
theorem Da (kn : K4) (R : K1) (hn : N4 Q kn 0 1 17 18) (hr : HR qO R Q) (h : qI kn R (g 0) (g 1) (g 2) w) : iL pg lP (gW 2 lI) Q g w :=
 kW (l := []) h hn hr trivial
def qJ (kn : K0) (R : K1) (QY Ts Y3 : adW) (w : adV) : Prop :=
 qI (fun QY Ts c7 c8 w => qZ kn QY Ts c7 c8 w) R QY Ts Y3 w
theorem DQ (kn : K0) (R : K1) (hn : N0 Q kn) (hr : HR qO R Q) (h : qJ kn R (g 0) (g 1) (g 2) w) : iL pg lP lI Q g w :=
 rV 2 (Da _ g w (qZ kn) R (fun g w h => gY (MJ 0 (C5 _ g w kn hn h))) hr h)
def BF (a0 a1 a2 : adW) (w : adV) (R : K1) : Prop :=
 qJ (fun  w => R (.tuple #[]) w) R a0 a1 a2 w
theorem Ek {a0 a1 a2 : adW} {w : adV} {R : K1} (h : BF a0 a1 a2 w R) : gU pg lH #[a0, a1, a2] w R := by
 refine xA (ann := lP) Tryd.f63 lI [a0, a1, a2] qO 37 TrydM.mixed Tryd.func63 ?_
 exact (DQ _ _ _ (fun  w => R (.tuple #[]) w) R (fun _ _ h => h) (fun _ _ h => h) h)
def Oo : FA := ⟨Le, fun i => .leaf ([], []) []⟩
def PT : List ResultVar := [.tmp 2]
noncomputable def Nc : Code := iZ Tryd.f64
def MG (R : K1) (AH : adW) (w : adV) : Prop :=
 gU pg Mt #[] w fun b4 w =>
 gU pg A6 #[b4, AH] w fun b7 w =>
 gU pg Dd #[b4] w fun b9 w =>
 R b9 w
theorem Q0 (R : K1) (hr : HR PT R Q) (h : MG R (g 0) w) : iL pg Oo Nc Q g w :=
 kW (kn := no) (l := []) h lX hr trivial
def VR (a0 : adW) (w : adV) (R : K1) : Prop :=
 MG R a0 w
theorem RM {a0 : adW} {w : adV} {R : K1} (h : VR a0 w R) : gU pg Le #[a0] w R := by
 refine xA (ann := Oo) Tryd.f64 Nc [a0] PT 10 TrydM.mixed Tryd.func64 ?_
 exact (Q0 _ _ _ R (fun _ _ h => h) h)
def AJ : FA := ⟨nY, fun i => .leaf ([], []) []⟩
def BE : List ResultVar := [.tmp 2]
noncomputable def zI : Code := iZ Tryd.f65
def uM (R : K1) (QY : adW) (w : adV) : Prop :=
 eY pg (gO .eql 113 (.tmp 3) (.const (.pointer none)) QY (.pointer none)) w fun b4 w =>
 lQ b4
  (R (.slice none 0 0) w)
  (eY pg (jB QY) w fun b6 w =>
  eY pg (gM 130 b6 0) w fun b7 w =>
  eY pg (fW 22 b7) w fun b8 w =>
  gU pg kM #[b8] w fun b9 w =>
  R b9 w)
theorem FH (R : K1) (hr : HR BE R Q) (h : uM R (g 0) w) : iL pg AJ zI Q g w :=
 kW (kn := no) (l := []) h lX hr trivial
def EN (a0 : adW) (w : adV) (R : K1) : Prop :=
 uM R a0 w
theorem Hw {a0 : adW} {w : adV} {R : K1} (h : EN a0 w R) : gU pg nY #[a0] w R := by
 refine xA (ann := AJ) Tryd.f65 zI [a0] BE 10 TrydM.mixed Tryd.func65 ?_
 exact (FH _ _ _ R (fun _ _ h => h) h)
def iB : FA := ⟨vQ, fun i => match Nat.beq i 10 with | true => .leaf ([9, 20, 23], [(2, 9), (2, 20), (3, 9), (3, 20), (4, 9), (4, 20), (9, 12), (9, 13), (9, 14), (9, 17), (9, 18), (9, 19), (10, 20), (12, 20), (13, 20), (14, 20), (15, 20)]) [(false, []), (false, []), (false, []), (false, []), (false, []), (false, []), (false, []), (false, []), (false, []), (true, [4, 5, 6]), (false, []), (false, []), (false, [2]), (false, [3]), (false, [4]), (false, []), (false, []), (false, [7]), (false, [8]), (false, [9]), (true, [4, 5, 6, 7, 9, 15, 16, 17]), (false, []), (false, []), (true, [])] | false => match Nat.beq i 15 with | true => .leaf ([], []) [(false, []), (false, []), (false, []), (false, []), (false, []), (false, [])] | false => match Nat.beq i 16 with | true => .leaf ([3], [(0, 3), (1, 3), (3, 6), (3, 7), (3, 8), (3, 10), (3, 11), (3, 12), (3, 13), (3, 14), (3, 17), (3, 18), (3, 21), (3, 22)]) [(false, []), (false, []), (false, []), (true, [1, 2]), (false, []), (false, []), (false, [2]), (false, [3]), (false, [4]), (false, []), (false, [6]), (false, [7]), (false, [8]), (false, [9]), (false, [10]), (false, []), (false, []), (false, [13]), (false, [14]), (false, []), (false, []), (false, [17]), (false, [18]), (false, []), (false, [])] | false => match Nat.beq i 17 with | true => .leaf ([1], [(1, 3), (1, 4), (1, 5), (1, 7), (1, 8), (1, 9), (1, 10), (1, 11), (1, 12), (1, 13), (1, 14), (1, 15), (1, 16)]) [(false, []), (true, []), (false, []), (false, [1]), (false, [2]), (false, [3]), (false, []), (false, [5]), (false, [6]), (false, [7]), (false, [8]), (false, [9]), (false, [10]), (false, [11]), (false, [12]), (false, [13]), (false, [14]), (false, []), (false, [])] | false => match Nat.beq i 18 with | true => .leaf ([2], []) [(false, []), (false, []), (true, [])] | false => match Nat.beq i 25 with | true => .leaf ([8], []) [(false, []), (false, []), (false, []), (false, []), (false, []), (false, []), (false, []), (false, []), (true, [])] | false => .leaf ([], []) []⟩
def zL : List ResultVar := [.cell 4 119]
noncomputable def iA : Code := iZ Tryd.f66
def sY (R : K1) (b4 tK : adW) (w : adV) : Prop :=
 eY pg (fW 119 tK) w fun s5 w =>
 eY pg (iD 119 b4 s5) w fun _u w =>
 U0 pg 119 b4 w fun r0 => R r0 w
theorem IF (R : K1) (hr : HR zL R Q) (h : sY R (g 4) (g 9) w) : iL pg iB (fI 1 (fI 1 (fI 1 (fI 1 (fI 1 (fI 2 iA)))))) Q g w :=
 kW (kn := no) (l := []) h lX hr trivial
def sX (kn : K4) (k6 : K2) (nR b4 tK q3 : adW) (w : adV) : Prop :=
 eY pg (gO .lss 3 gZ gZ q3 (adX 8)) w fun q4 w =>
 lQ q4
  ((dr w) = (dr w) /\
  eY pg (iJ 119 tK q3) (dr w) fun q7 w_ => w_ = (dr w) /\
  eY pg (fW 25 q7) (dr w) fun q8 w_ => w_ = (dr w) /\
  (dr w) = (dr w) /\
  eY pg (iJ 119 nR q3) (dr w) fun s0 w_ => w_ = (dr w) /\
  eY pg (fW 25 s0) (dr w) fun s1 w_ => w_ = (dr w) /\
  eY pg (gO .add 25 gZ gZ q8 s1) (dr w) fun s2 w_ => w_ = (dr w) /\
  eY pg (iJ 119 tK q3) (dr w) fun s3 w_ => w_ = (dr w) /\
  eY pg (iD 25 s3 s2) (dr w) fun _u8 YL =>
  eY pg (gO .add 3 gZ gZ q3 (adX 1)) YL fun s4 w =>
  kn nR b4 tK s4 w)
  (k6 b4 tK w)
theorem Jy (kn : K4) (k6 : K2) (hn : N4 Q kn 2 4 9 123) (h6 : E2 Q k6 6 4 9) (h : sX kn k6 (g 2) (g 4) (g 9) (g 123) w) : iL pg iB (bI (bI (fI 1 (gW 1 (fI 1 (fI 1 (fI 1 (fI 1 (fI 2 iA))))))))) Q g w :=
 kW (kr := no) (l := [(6, fun g w => k6 (g 4) (g 9) w)]) h hn lX ⟨h6, trivial⟩
def Ae (k6 : K2) (nR b4 tK q3 : adW) (w : adV) : Prop :=
 jW (fun (X : adW -> K0) (t : adW) (w : adV) => sX (fun _ _ _ q3 w => X q3 w) k6 nR b4 tK t w) q3 w
theorem I4 (k6 : K2) (h6 : E2 Q k6 6 4 9) (h : Ae k6 (g 2) (g 4) (g 9) (g 123) w) : iL pg iB (bI (fI 1 (gW 1 (fI 1 (fI 1 (fI 1 (fI 1 (fI 2 iA)))))))) Q g w := by
 refine Pb (fun g : Env => g 123) (fun X t w => sX (fun _ _ _ q3 w => X q3 w) k6 (g 2) (g 4) (g 9) t w) h (fun X g1 w1 ha hL => ?_)
 rw [<- qQ 2 ha, <- qQ 4 ha, <- qQ 9 ha] at hL
 exact (Jy _ g1 w1 (fun _ _ _ q3 w => X q3 w) k6 (fun _ _ h => h) h6 hL)
def AE (kn : K2) (nR b4 tK q3 : adW) (w : adV) : Prop :=
 Ae kn nR b4 tK q3 w
def Az (kn : K4) (nR b4 tK : adW) (w : adV) : Prop :=
 kn nR b4 tK (adX 0) w
theorem JA (kn : K4) (hn : N4 Q kn 2 4 9 123) (h : Az kn (g 2) (g 4) (g 9) w) : iL pg iB (gW 1 (gW 1 (fI 1 (fI 1 (fI 1 (fI 1 (fI 2 iA))))))) Q g w :=
 kW (kr := no) (l := []) h hn lX trivial
def Ay (kn : K2) (nR b4 tK : adW) (w : adV) : Prop :=
 Az (fun nR b4 tK q3 w => AE kn nR b4 tK q3 w) nR b4 tK w
def zV (R : K1) (nR b4 tK : adW) (w : adV) : Prop :=
 Ay (fun b4 tK w => sY R b4 tK w) nR b4 tK w
theorem Js (kn : K2) (hn : N2 Q kn 4 9) (h : Ay kn (g 2) (g 4) (g 9) w) : iL pg iB (gW 1 (fI 1 (fI 1 (fI 1 (fI 1 (fI 2 iA)))))) Q g w :=
 rV 1 (JA _ g w (AE kn) (fun g w h => gY (MJ 6 (I4 _ g w kn hn h))) h)
def tF (kn : K5) (k4 : K3) (nR b4 pY tK j1 : adW) (w : adV) : Prop :=
 eY pg (gO .lss 3 gZ gZ j1 (adX 64)) w fun j2 w =>
 lQ j2
  (eY pg (iJ 119 tK (adX 0)) (dr w) fun j4 w_ => w_ = (dr w) /\
  eY pg (fW 25 j4) (dr w) fun j5 w_ => w_ = (dr w) /\
  eY pg (iJ 119 tK (adX 4)) (dr w) fun j6 w_ => w_ = (dr w) /\
  eY pg (fW 25 j6) (dr w) fun j7 w_ => w_ = (dr w) /\
  (dr w) = (dr w) /\
  (dr w) = (dr w) /\
  eY pg (iJ 119 tK (adX 7)) (dr (dr w)) fun j8 w_ => w_ = (dr (dr w)) /\
  eY pg (fW 25 j8) (dr (dr w)) fun j9 w_ => w_ = (dr (dr w)) /\
  (dr (dr w)) = (dr (dr w)) /\
  gU pg Am #[j7, (adX 6), (adX 11), (adX 25)] (dr (dr w)) fun l1 jR =>
  (gN pg (fW 25 j8) j9 jR /\ gN pg (iJ 119 tK (adX 7)) j8 jR /\ True) /\
  eY pg (gO .add 25 gZ gZ j9 l1) jR fun l2 w_ => w_ = jR /\
  jR = jR /\
  eY pg (iJ 119 tK (adX 5)) jR fun l4 w_ => w_ = jR /\
  (gN pg (iJ 119 tK (adX 5)) l4 (dr (dr w)) /\ True) /\
  eY pg (fW 25 l4) jR fun l5 w_ => w_ = jR /\
  (gN pg (fW 25 l4) l5 (dr (dr w)) /\ True) /\
  eY pg (gO .and 25 gZ gZ j7 l5) jR fun l6 w_ => w_ = jR /\
  (gN pg (gO .and 25 gZ gZ j7 l5) l6 (dr (dr w)) /\ True) /\
  jR = jR /\
  eY pg (KP .xor j7) jR fun l8 w_ => w_ = jR /\
  (gN pg (KP .xor j7) l8 (dr (dr w)) /\ True) /\
  eY pg (iJ 119 tK (adX 6)) jR fun l9 w_ => w_ = jR /\
  (gN pg (iJ 119 tK (adX 6)) l9 (dr (dr w)) /\ True) /\
  eY pg (fW 25 l9) jR fun m0 w_ => w_ = jR /\
  (gN pg (fW 25 l9) m0 (dr (dr w)) /\ True) /\
  eY pg (gO .and 25 gZ gZ l8 m0) jR fun m1 w_ => w_ = jR /\
  (gN pg (gO .and 25 gZ gZ l8 m0) m1 (dr (dr w)) /\ True) /\
  eY pg (gO .xor 25 gZ gZ l6 m1) jR fun m2 w_ => w_ = jR /\
  (gN pg (gO .xor 25 gZ gZ l6 m1) m2 (dr (dr w)) /\ True) /\
  eY pg (gO .add 25 gZ gZ l2 m2) jR fun m3 w_ => w_ = jR /\
  jR = jR /\
  eY pg (iJ 134 (.pointer (some ⟨0, 0, none⟩)) j1) jR fun m5 w_ => w_ = jR /\
  (gN pg (iJ 134 (.pointer (some ⟨0, 0, none⟩)) j1) m5 (dr (dr w)) /\ True) /\
  eY pg (fW 25 m5) jR fun m6 w_ => w_ = jR /\
  (gN pg (fW 25 m5) m6 (dr (dr w)) /\ True) /\
  eY pg (gO .add 25 gZ gZ m3 m6) jR fun m7 w_ => w_ = jR /\
  jR = jR /\
  eY pg (iJ 134 pY j1) jR fun m9 w_ => w_ = jR /\
  (gN pg (iJ 134 pY j1) m9 (dr (dr w)) /\ True) /\
  eY pg (fW 25 m9) jR fun n0 w_ => w_ = jR /\
  (gN pg (fW 25 m9) n0 (dr (dr w)) /\ True) /\
  eY pg (gO .add 25 gZ gZ m7 n0) jR fun n1 w_ => w_ = jR /\
  jR = jR /\
  (dr jR) = (dr jR) /\
  gU pg Am #[j5, (adX 2), (adX 13), (adX 22)] (dr jR) fun n3 mF =>
  mF = mF /\
  eY pg (iJ 119 tK (adX 1)) mF fun n5 w_ => w_ = mF /\
  (gN pg (iJ 119 tK (adX 1)) n5 (dr jR) /\ True) /\
  eY pg (fW 25 n5) mF fun n6 w_ => w_ = mF /\
  (gN pg (fW 25 n5) n6 (dr jR) /\ True) /\
  eY pg (gO .and 25 gZ gZ j5 n6) mF fun n7 w_ => w_ = mF /\
  (gN pg (gO .and 25 gZ gZ j5 n6) n7 (dr jR) /\ True) /\
  mF = mF /\
  eY pg (iJ 119 tK (adX 2)) mF fun n9 w_ => w_ = mF /\
  (gN pg (iJ 119 tK (adX 2)) n9 (dr jR) /\ True) /\
  eY pg (fW 25 n9) mF fun o0 w_ => w_ = mF /\
  (gN pg (fW 25 n9) o0 (dr jR) /\ True) /\
  eY pg (gO .and 25 gZ gZ j5 o0) mF fun o1 w_ => w_ = mF /\
  (gN pg (gO .and 25 gZ gZ j5 o0) o1 (dr jR) /\ True) /\
  eY pg (gO .xor 25 gZ gZ n7 o1) mF fun o2 w_ => w_ = mF /\
  (gN pg (gO .xor 25 gZ gZ n7 o1) o2 (dr jR) /\ True) /\
  eY pg (iJ 119 tK (adX 1)) mF fun o3 w_ => w_ = mF /\
  (gN pg (iJ 119 tK (adX 1)) o3 (dr jR) /\ True) /\
  eY pg (fW 25 o3) mF fun o4 w_ => w_ = mF /\
  (gN pg (fW 25 o3) o4 (dr jR) /\ True) /\
  eY pg (iJ 119 tK (adX 2)) mF fun o5 w_ => w_ = mF /\
  (gN pg (iJ 119 tK (adX 2)) o5 (dr jR) /\ True) /\
  eY pg (fW 25 o5) mF fun o6 w_ => w_ = mF /\
  (gN pg (fW 25 o5) o6 (dr jR) /\ True) /\
  eY pg (gO .and 25 gZ gZ o4 o6) mF fun o7 w_ => w_ = mF /\
  (gN pg (gO .and 25 gZ gZ o4 o6) o7 (dr jR) /\ True) /\
  eY pg (gO .xor 25 gZ gZ o2 o7) mF fun o8 w_ => w_ = mF /\
  (gN pg (gO .xor 25 gZ gZ o2 o7) o8 (dr jR) /\ True) /\
  eY pg (gO .add 25 gZ gZ n3 o8) mF fun o9 w_ => w_ = mF /\
  mF = mF /\
  eY pg (lO 119 tK (some (adX 1)) none none) (dr mF) fun p0 w_ => w_ = (dr mF) /\
  eY pg (lO 119 tK none (some (adX 7)) none) (dr mF) fun p1 w_ => w_ = (dr mF) /\
  eY pg (nG .copy #[136, 136] 3 [p0, p1]) (dr mF) fun p2 YV =>
  eY pg (iJ 119 tK (adX 4)) YV fun p3 w =>
  eY pg (fW 25 p3) w fun p4 w =>
  eY pg (gO .add 25 gZ gZ p4 n1) w fun p6 w =>
  eY pg (iJ 119 tK (adX 4)) w fun p7 w =>
  eY pg (iD 25 p7 p6) w fun _u w =>
  eY pg (gO .add 25 gZ gZ n1 o9) w fun q0 w =>
  eY pg (iJ 119 tK (adX 0)) w fun q1 w =>
  eY pg (iD 25 q1 q0) w fun _u w =>
  eY pg (gO .add 3 gZ gZ j1 (adX 1)) w fun q2 w =>
  kn nR b4 pY tK q2 w)
  (k4 nR b4 tK w)
theorem II (kn : K5) (k4 : K3) (hn : N5 Q kn 2 4 5 9 61) (h4 : E3 Q k4 4 2 4 9) (h : tF kn k4 (g 2) (g 4) (g 5) (g 9) (g 61) w) : iL pg iB (bI (bI (fI 1 (gW 1 (fI 1 (fI 1 (fI 1 (fI 2 iA)))))))) Q g w :=
 kW (kr := no) (l := [(4, fun g w => k4 (g 2) (g 4) (g 9) w)]) h hn lX ⟨h4, trivial⟩
def Ag (k4 : K3) (nR b4 pY tK j1 : adW) (w : adV) : Prop :=
 jW (fun (X : adW -> K0) (t : adW) (w : adV) => tF (fun _ _ _ _ j1 w => X j1 w) k4 nR b4 pY tK t w) j1 w
theorem Jl (k4 : K3) (h4 : E3 Q k4 4 2 4 9) (h : Ag k4 (g 2) (g 4) (g 5) (g 9) (g 61) w) : iL pg iB (bI (fI 1 (gW 1 (fI 1 (fI 1 (fI 1 (fI 2 iA))))))) Q g w := by
 refine Pb (fun g : Env => g 61) (fun X t w => tF (fun _ _ _ _ j1 w => X j1 w) k4 (g 2) (g 4) (g 5) (g 9) t w) h (fun X g1 w1 ha hL => ?_)
 rw [<- qQ 2 ha, <- qQ 4 ha, <- qQ 5 ha, <- qQ 9 ha] at hL
 exact (II _ g1 w1 (fun _ _ _ _ j1 w => X j1 w) k4 (fun _ _ h => h) h4 hL)
def xL (kn : K3) (nR b4 pY tK j1 : adW) (w : adV) : Prop :=
 Ag kn nR b4 pY tK j1 w
def yR (kn : K5) (nR b4 pY tK : adW) (w : adV) : Prop :=
 kn nR b4 pY tK (adX 0) w
theorem IA (kn : K5) (hn : N5 Q kn 2 4 5 9 61) (h : yR kn (g 2) (g 4) (g 5) (g 9) w) : iL pg iB (gW 1 (gW 1 (fI 1 (fI 1 (fI 1 (fI 2 iA)))))) Q g w :=
 kW (kr := no) (l := []) h hn lX trivial
def yN (kn : K3) (nR b4 pY tK : adW) (w : adV) : Prop :=
 yR (fun nR b4 pY tK j1 w => xL kn nR b4 pY tK j1 w) nR b4 pY tK w
def xT (R : K1) (nR b4 pY tK : adW) (w : adV) : Prop :=
 yN (fun nR b4 tK w => zV R nR b4 tK w) nR b4 pY tK w
theorem H3 (kn : K3) (hn : N3 Q kn 2 4 9) (h : yN kn (g 2) (g 4) (g 5) (g 9) w) : iL pg iB (gW 1 (fI 1 (fI 1 (fI 1 (fI 2 iA))))) Q g w :=
 rV 1 (IA _ g w (xL kn) (fun g w h => gY (MJ 4 (Jl _ g w kn hn h))) h)
def yT (kn : K4) (nR b4 pY : adW) (w : adV) : Prop :=
 eY pg (fW 119 nR) w fun j0 w =>
 eY pg (lR 119) w fun tK w =>
 eY pg (iD 119 tK j0) w fun _u w =>
 kn nR b4 pY tK w
theorem Ix (kn : K4) (hn : N4 Q kn 2 4 5 9) (h : yT kn (g 2) (g 4) (g 5) w) : iL pg iB (gW 1 (fI 1 (fI 1 (fI 2 iA)))) Q g w :=
 kW (kr := no) (l := []) h hn lX trivial
def yO (R : K1) (nR b4 pY : adW) (w : adV) : Prop :=
 yT (fun nR b4 pY tK w => xT R nR b4 pY tK w) nR b4 pY w
def rU (kn : K4) (k2 : K3) (nR b4 pY b8 : adW) (w : adV) : Prop :=
 eY pg (gO .lss 3 gZ gZ b8 (adX 64)) w fun e4 w =>
 lQ e4
  ((dr w) = (dr w) /\
  (dr w) = (dr w) /\
  eY pg (gO .sub 3 gZ gZ b8 (adX 16)) (dr w) fun e9 w_ => w_ = (dr w) /\
  eY pg (iJ 134 pY e9) (dr w) fun f0 w_ => w_ = (dr w) /\
  eY pg (fW 25 f0) (dr w) fun f1 w_ => w_ = (dr w) /\
  (dr w) = (dr w) /\
  eY pg (gO .sub 3 gZ gZ b8 (adX 15)) (dr w) fun f3 w_ => w_ = (dr w) /\
  eY pg (iJ 134 pY f3) (dr w) fun f4 w_ => w_ = (dr w) /\
  eY pg (fW 25 f4) (dr w) fun f5 w_ => w_ = (dr w) /\
  gU pg D4 #[f5, (adX 7), (adX 18), (adX 3)] (dr w) fun f6 tC =>
  (gN pg (fW 25 f0) f1 tC /\ gN pg (iJ 134 pY e9) f0 tC /\ gN pg (gO .sub 3 gZ gZ b8 (adX 16)) e9 tC /\ True) /\
  eY pg (gO .add 25 gZ gZ f1 f6) tC fun f7 w_ => w_ = tC /\
  tC = tC /\
  eY pg (gO .sub 3 gZ gZ b8 (adX 7)) tC fun f9 w_ => w_ = tC /\
  (gN pg (gO .sub 3 gZ gZ b8 (adX 7)) f9 (dr w) /\ True) /\
  eY pg (iJ 134 pY f9) tC fun i0 w_ => w_ = tC /\
  (gN pg (iJ 134 pY f9) i0 (dr w) /\ True) /\
  eY pg (fW 25 i0) tC fun i1 w_ => w_ = tC /\
  (gN pg (fW 25 i0) i1 (dr w) /\ True) /\
  eY pg (gO .add 25 gZ gZ f7 i1) tC fun i2 w_ => w_ = tC /\
  tC = tC /\
  eY pg (gO .sub 3 gZ gZ b8 (adX 2)) tC fun i4 w_ => w_ = tC /\
  (gN pg (gO .sub 3 gZ gZ b8 (adX 2)) i4 (dr w) /\ True) /\
  eY pg (iJ 134 pY i4) tC fun i5 w_ => w_ = tC /\
  (gN pg (iJ 134 pY i4) i5 (dr w) /\ True) /\
  eY pg (fW 25 i5) tC fun i6 w_ => w_ = tC /\
  (gN pg (fW 25 i5) i6 (dr w) /\ True) /\
  gU pg D4 #[i6, (adX 17), (adX 19), (adX 10)] tC fun i7 Bp =>
  (gN pg (gO .add 25 gZ gZ f7 i1) i2 Bp /\ gN pg (fW 25 i0) i1 Bp /\ gN pg (iJ 134 pY f9) i0 Bp /\ gN pg (gO .sub 3 gZ gZ b8 (adX 7)) f9 Bp /\ gN pg (gO .add 25 gZ gZ f1 f6) f7 Bp /\ gN pg (fW 25 f0) f1 Bp /\ gN pg (iJ 134 pY e9) f0 Bp /\ gN pg (gO .sub 3 gZ gZ b8 (adX 16)) e9 Bp /\ True) /\
  eY pg (gO .add 25 gZ gZ i2 i7) Bp fun i8 w_ => w_ = Bp /\
  eY pg (iJ 134 pY b8) Bp fun i9 w_ => w_ = Bp /\
  eY pg (iD 25 i9 i8) Bp fun _u23 X0 =>
  eY pg (gO .add 3 gZ gZ b8 (adX 1)) X0 fun e6 w =>
  kn nR b4 pY e6 w)
  (k2 nR b4 pY w)
theorem Ia (kn : K4) (k2 : K3) (hn : N4 Q kn 2 4 5 8) (h2 : E3 Q k2 2 2 4 5) (h : rU kn k2 (g 2) (g 4) (g 5) (g 8) w) : iL pg iB (bI (bI (fI 1 (gW 1 (fI 1 (fI 2 iA)))))) Q g w :=
 kW (kr := no) (l := [(2, fun g w => k2 (g 2) (g 4) (g 5) w)]) h hn lX ⟨h2, trivial⟩
def yM (k2 : K3) (nR b4 pY b8 : adW) (w : adV) : Prop :=
 jW (fun (X : adW -> K0) (t : adW) (w : adV) => rU (fun _ _ _ b8 w => X b8 w) k2 nR b4 pY t w) b8 w
theorem HZ (k2 : K3) (h2 : E3 Q k2 2 2 4 5) (h : yM k2 (g 2) (g 4) (g 5) (g 8) w) : iL pg iB (bI (fI 1 (gW 1 (fI 1 (fI 2 iA))))) Q g w := by
 refine Pb (fun g : Env => g 8) (fun X t w => rU (fun _ _ _ b8 w => X b8 w) k2 (g 2) (g 4) (g 5) t w) h (fun X g1 w1 ha hL => ?_)
 rw [<- qQ 2 ha, <- qQ 4 ha, <- qQ 5 ha] at hL
 exact (Ia _ g1 w1 (fun _ _ _ b8 w => X b8 w) k2 (fun _ _ h => h) h2 hL)
def yJ (kn : K3) (nR b4 pY b8 : adW) (w : adV) : Prop :=
 yM kn nR b4 pY b8 w
def xJ (kn : K4) (nR b4 pY : adW) (w : adV) : Prop :=
 kn nR b4 pY (adX 16) w
theorem H2 (kn : K4) (hn : N4 Q kn 2 4 5 8) (h : xJ kn (g 2) (g 4) (g 5) w) : iL pg iB (gW 1 (gW 1 (fI 1 (fI 2 iA)))) Q g w :=
 kW (kr := no) (l := []) h hn lX trivial
def yL (kn : K3) (nR b4 pY : adW) (w : adV) : Prop :=
 xJ (fun nR b4 pY b8 w => yJ kn nR b4 pY b8 w) nR b4 pY w
def yD (R : K1) (nR b4 pY : adW) (w : adV) : Prop :=
 yL (fun nR b4 pY w => yO R nR b4 pY w) nR b4 pY w
theorem Ic (kn : K3) (hn : N3 Q kn 2 4 5) (h : yL kn (g 2) (g 4) (g 5) w) : iL pg iB (gW 1 (fI 1 (fI 2 iA))) Q g w :=
 rV 1 (H2 _ g w (yJ kn) (fun g w h => gY (MJ 2 (HZ _ g w kn hn h))) h)
def rN (kn : K5) (k0 : K3) (nR b4 pY c6 c7 : adW) (w : adV) : Prop :=
 eY pg (gO .lss 3 gZ gZ c7 (adX 64)) w fun c8 w =>
 lQ c8
  (eY pg (Ua 120 c6 c7) w fun d0 w =>
  eY pg (gO .quo 3 gZ gZ c7 (adX 4)) w fun d2 w =>
  eY pg (gO .quo 3 gZ gZ c7 (adX 4)) w fun d4 w =>
  eY pg (iJ 134 pY d4) w fun d5 w =>
  eY pg (fW 25 d5) w fun d6 w =>
  eY pg (gO .shl 25 gZ gZ d6 (.int .u64 8)) w fun d7 w =>
  eY pg (kX 5 25 d0) w fun d9 w =>
  eY pg (gO .or 25 gZ gZ d7 d9) w fun e0 w =>
  eY pg (iJ 134 pY d2) w fun e1 w =>
  eY pg (iD 25 e1 e0) w fun _u w =>
  eY pg (gO .add 3 gZ gZ c7 (adX 1)) w fun e2 w =>
  kn nR b4 pY c6 e2 w)
  (k0 nR b4 pY w)
theorem H7 (kn : K5) (k0 : K3) (hn : N5 Q kn 2 4 5 16 17) (h0 : E3 Q k0 0 2 4 5) (h : rN kn k0 (g 2) (g 4) (g 5) (g 16) (g 17) w) : iL pg iB (bI (bI (fI 1 (gW 1 (fI 2 iA))))) Q g w :=
 kW (kr := no) (l := [(0, fun g w => k0 (g 2) (g 4) (g 5) w)]) h hn lX ⟨h0, trivial⟩
def yE (k0 : K3) (nR b4 pY c6 c7 : adW) (w : adV) : Prop :=
 jW (fun (X : adW -> K0) (t : adW) (w : adV) => rN (fun _ _ _ _ c7 w => X c7 w) k0 nR b4 pY c6 t w) c7 w
theorem Ii (k0 : K3) (h0 : E3 Q k0 0 2 4 5) (h : yE k0 (g 2) (g 4) (g 5) (g 16) (g 17) w) : iL pg iB (bI (fI 1 (gW 1 (fI 2 iA)))) Q g w := by
 refine Pb (fun g : Env => g 17) (fun X t w => rN (fun _ _ _ _ c7 w => X c7 w) k0 (g 2) (g 4) (g 5) (g 16) t w) h (fun X g1 w1 ha hL => ?_)
 rw [<- qQ 2 ha, <- qQ 4 ha, <- qQ 5 ha, <- qQ 16 ha] at hL
 exact (H7 _ g1 w1 (fun _ _ _ _ c7 w => X c7 w) k0 (fun _ _ h => h) h0 hL)
def yH (kn : K3) (nR b4 pY c6 c7 : adW) (w : adV) : Prop :=
 yE kn nR b4 pY c6 c7 w
def yG (kn : K5) (nR SY b4 pY : adW) (w : adV) : Prop :=
 eY pg (fW 120 SY) w fun c6 w =>
 kn nR b4 pY c6 (adX 0) w
theorem Is (kn : K5) (hn : N5 Q kn 2 4 5 16 17) (h : yG kn (g 2) (g 3) (g 4) (g 5) w) : iL pg iB (gW 1 (gW 1 (fI 2 iA))) Q g w :=
 kW (kr := no) (l := []) h hn lX trivial
def yA (kn : K3) (nR SY b4 pY : adW) (w : adV) : Prop :=
 yG (fun nR b4 pY c6 c7 w => yH kn nR b4 pY c6 c7 w) nR SY b4 pY w
def xW (R : K1) (nR SY b4 pY : adW) (w : adV) : Prop :=
 yA (fun nR b4 pY w => yD R nR b4 pY w) nR SY b4 pY w
theorem H5 (kn : K3) (hn : N3 Q kn 2 4 5) (h : yA kn (g 2) (g 3) (g 4) (g 5) w) : iL pg iB (gW 1 (fI 2 iA)) Q g w :=
 rV 1 (Is _ g w (yH kn) (fun g w h => gY (MJ 0 (Ii _ g w kn hn h))) h)
def xS (kn : K4) (lF AI : adW) (w : adV) : Prop :=
 eY pg (Eo 119 lF) w fun nR w =>
 eY pg (Eo 120 AI) w fun SY w =>
 eY pg (lR 119) w fun b4 w =>
 eY pg (lR 134) w fun pY w =>
 kn nR SY b4 pY w
theorem Iv (kn : K4) (hn : N4 Q kn 2 3 4 5) (h : xS kn (g 0) (g 1) w) : iL pg iB (gW 2 iA) Q g w :=
 kW (kr := no) (l := []) h hn lX trivial
def xQ (R : K1) (lF AI : adW) (w : adV) : Prop :=
 xS (fun nR SY b4 pY w => xW R nR SY b4 pY w) lF AI w
theorem Ib (R : K1) (hr : HR zL R Q) (h : xQ R (g 0) (g 1) w) : iL pg iB iA Q g w :=
 rV 2 (Iv _ g w (xW R) (fun g w h => gY (rV 1 (H5 _ g w (yD R) (fun g w h => gY (rV 1 (Ic _ g w (yO R) (fun g w h => gY (rV 1 (Ix _ g w (xT R) (fun g w h => gY (rV 1 (H3 _ g w (zV R) (fun g w h => gY (rV 1 (Js _ g w (sY R) (fun g w h => gY (IF _ g w R hr h)) h))) h))) h))) h))) h))) h)
def I1 (a0 a1 : adW) (w : adV) (R : K1) : Prop :=
 xQ R a0 a1 w
theorem J1 {a0 a1 : adW} {w : adV} {R : K1} (h : I1 a0 a1 w R) : gU pg vQ #[a0, a1] w R := by
 refine xA (ann := iB) Tryd.f66 iA [a0, a1] zL 136 TrydM.mixed Tryd.func66 ?_
 exact (Ib _ _ _ R (fun _ _ h => h) h)
def lN : FA := ⟨mD, fun i => match Nat.beq i 3 with | true => .leaf ([], []) [(false, []), (false, []), (false, []), (false, []), (false, []), (false, []), (false, [])] | false => .leaf ([], []) []⟩
def nN : List ResultVar := []
noncomputable def lJ : Code := iZ Tryd.f67
def nO (kn : K4) (k0 : K0) (R : K1) (tB b1 b2 Ik : adW) (w : adV) : Prop :=
 eY pg (fW 22 b1) w fun b7 w =>
 eY pg (nG .len #[22] 3 [b7]) w fun b8 w =>
 eY pg (gO .lss 3 gZ gZ Ik b8) w fun b9 w =>
 lQ b9
  (eY pg (fW 3 b2) (dr w) fun c3 w_ => w_ = (dr w) /\
  eY pg (fW 22 b1) (dr w) fun c4 w_ => w_ = (dr w) /\
  (dr w) = (dr w) /\
  eY pg (lO 22 c4 (some Ik) none none) (dr w) fun c6 w_ => w_ = (dr w) /\
  eY pg (nG .len #[22] 3 [c6]) (dr w) fun c7 w_ => w_ = (dr w) /\
  eY pg (nG .min #[3, 3] 3 [c3, c7]) (dr w) fun c8 w_ => w_ = (dr w) /\
  (dr w) = (dr w) /\
  eY pg (fW 22 b1) (dr w) fun d0 w =>
  eY pg (gO .add 3 gZ gZ Ik c8) w fun d4 w =>
  eY pg (gO .add 3 gZ gZ Ik c8) w fun d7 w =>
  eY pg (lO 22 d0 (some Ik) (some d4) (some d7)) w fun d8 w =>
  eY pg (xZ tB [d8]) w fun d9 w =>
  eY pg (KP .not d9) w fun e0 w =>
  lQ e0
   (R (.tuple #[]) w)
   (eY pg (fW 3 b2) w fun c1 w =>
   eY pg (gO .add 3 gZ gZ Ik c1) w fun c2 w =>
   kn tB b1 b2 c2 w))
  (k0 w)
theorem Dm (kn : K4) (k0 : K0) (R : K1) (hn : N4 Q kn 0 1 2 4) (h0 : E0 Q k0 0) (hr : HR nN R Q) (h : nO kn k0 R (g 0) (g 1) (g 2) (g 4) w) : iL pg lN (bI (bI (fI 1 lJ))) Q g w :=
 kW (l := [(0, fun g w => k0 w)]) h hn hr ⟨h0, trivial⟩
def qW (k0 : K0) (R : K1) (tB b1 b2 Ik : adW) (w : adV) : Prop :=
 jW (fun (X : adW -> K0) (t : adW) (w : adV) => nO (fun _ _ _ Ik w => X Ik w) k0 R tB b1 b2 t w) Ik w
theorem D0 (k0 : K0) (R : K1) (h0 : E0 Q k0 0) (hr : HR nN R Q) (h : qW k0 R (g 0) (g 1) (g 2) (g 4) w) : iL pg lN (bI (fI 1 lJ)) Q g w := by
 refine Pb (fun g : Env => g 4) (fun X t w => nO (fun _ _ _ Ik w => X Ik w) k0 R (g 0) (g 1) (g 2) t w) h (fun X g1 w1 ha hL => ?_)
 rw [<- qQ 0 ha, <- qQ 1 ha, <- qQ 2 ha] at hL
 exact (Dm _ g1 w1 (fun _ _ _ Ik w => X Ik w) k0 R (fun _ _ h => h) h0 hr hL)
def rF (kn : K0) (R : K1) (tB b1 b2 Ik : adW) (w : adV) : Prop :=
 qW kn R tB b1 b2 Ik w
def qX (kn : K4) (tB b1 b2 : adW) (w : adV) : Prop :=
 kn tB b1 b2 (adX 0) w
theorem Dw (kn : K4) (hn : N4 Q kn 0 1 2 4) (h : qX kn (g 0) (g 1) (g 2) w) : iL pg lN (gW 1 lJ) Q g w :=
 kW (kr := no) (l := []) h hn lX trivial
def qU (kn : K0) (R : K1) (tB b1 b2 : adW) (w : adV) : Prop :=
 qX (fun tB b1 b2 Ik w => rF kn R tB b1 b2 Ik w) tB b1 b2 w
theorem DX (kn : K0) (R : K1) (hn : N0 Q kn) (hr : HR nN R Q) (h : qU kn R (g 0) (g 1) (g 2) w) : iL pg lN lJ Q g w :=
 rV 1 (Dw _ g w (rF kn R) (fun g w h => gY (MJ 0 (D0 _ g w kn R hn hr h))) h)
def B2 (a0 a1 a2 : adW) (w : adV) (R : K1) : Prop :=
 qU (fun  w => R (.tuple #[]) w) R a0 a1 a2 w
theorem Ei {a0 a1 a2 : adW} {w : adV} {R : K1} (h : B2 a0 a1 a2 w R) : gU pg mD #[a0, a1, a2] w R := by
 refine xA (ann := lN) Tryd.f67 lJ [a0, a1, a2] nN 31 TrydM.mixed Tryd.func67 ?_
 exact (DX _ _ _ (fun  w => R (.tuple #[]) w) R (fun _ _ h => h) (fun _ _ h => h) h)
def Af : FA := ⟨pL, fun i => .leaf ([], []) []⟩
def AL : List ResultVar := [.tmp 6]
noncomputable def zB : Code := iZ Tryd.f68
def sS (R : K1) (NS NL YW : adW) (w : adV) : Prop :=
 eY pg (jB NS) w fun c0 w =>
 eY pg (gM 126 c0 1) w fun c1 w =>
 eY pg (fW 29 c1) w fun c2 w =>
 eY pg (gO .neq 29 (.tmp 12) (.const (adX 0)) c2 (adX 0)) w fun c3 w =>
 lQ c3
  (R (.slice none 0 0) w)
  (eY pg (KP .not YW) w fun c6 w =>
  lQ c6
   (eY pg (jB NS) w fun c8 w =>
   eY pg (gM 126 c8 1) w fun c9 w =>
   eY pg (iD 29 c9 (adX 1)) w fun _u w =>
   R (.slice none 0 0) w)
   (eY pg (jB NS) w fun d3 w =>
   eY pg (gM 126 d3 0) w fun d4 w =>
   eY pg (fW 22 d4) w fun d5 w =>
   eY pg (nG .len #[22] 3 [d5]) w fun d6 w =>
   eY pg (gO .gtr 3 gZ gZ NL d6) w fun d7 w =>
   lQ d7
    (eY pg (jB NS) w fun d9 w =>
    eY pg (gM 126 d9 1) w fun e0 w =>
    eY pg (iD 29 e0 (adX 10)) w fun _u w =>
    R (.slice none 0 0) w)
    (eY pg (jB NS) w fun e2 w =>
    eY pg (gM 126 e2 0) w fun e3 w =>
    eY pg (fW 22 e3) w fun e4 w =>
    eY pg (lO 22 e4 none (some NL) (some NL)) w fun e7 w =>
    eY pg (jB NS) w fun f0 w =>
    eY pg (gM 126 f0 0) w fun f1 w =>
    eY pg (fW 22 f1) w fun f2 w =>
    eY pg (lO 22 f2 (some NL) none none) w fun f4 w =>
    eY pg (jB NS) w fun f5 w =>
    eY pg (gM 126 f5 0) w fun f6 w =>
    eY pg (iD 22 f6 f4) w fun _u w =>
    R e7 w)))
theorem Fe (R : K1) (hr : HR AL R Q) (h : sS R (g 0) (g 1) (g 2) w) : iL pg Af zB Q g w :=
 kW (kn := no) (l := []) h lX hr trivial
def Dh (a0 a1 a2 : adW) (w : adV) (R : K1) : Prop :=
 sS R a0 a1 a2 w
theorem Gu {a0 a1 a2 : adW} {w : adV} {R : K1} (h : Dh a0 a1 a2 w R) : gU pg pL #[a0, a1, a2] w R := by
 refine xA (ann := Af) Tryd.f68 zB [a0, a1, a2] AL 48 TrydM.mixed Tryd.func68 ?_
 exact (Fe _ _ _ R (fun _ _ h => h) h)
def M4 : FA := ⟨Mt, fun i => .leaf ([], []) []⟩
def Og : List ResultVar := [.tmp 0]
noncomputable def LA : Code := iZ Tryd.f69
def KZ (R : K1)  (w : adV) : Prop :=
 eY pg (lK 138 [(0, (.int .u32 4294967295))]) w fun b1 w =>
 eY pg (Eo 138 b1) w fun b2 w =>
 R b2 w
theorem PE (R : K1) (hr : HR Og R Q) (h : KZ R w) : iL pg M4 LA Q g w :=
 kW (kn := no) (l := []) h lX hr trivial
def TS (w : adV) (R : K1) : Prop :=
 KZ R w
theorem QM {w : adV} {R : K1} (h : TS w R) : gU pg Mt #[] w R := by
 refine xA (ann := M4) Tryd.f69 LA [] Og 3 TrydM.mixed Tryd.func69 ?_
 exact (PE _ _ _ R (fun _ _ h => h) h)
def oP : FA := ⟨A6, fun i => match Nat.beq i 5 with | true => .leaf ([16], []) [(false, []), (false, []), (false, []), (false, []), (false, []), (false, []), (false, []), (false, []), (false, []), (false, []), (false, []), (false, []), (false, []), (false, []), (false, []), (false, []), (true, [])] | false => match Nat.beq i 6 with | true => .leaf ([16], []) [(false, []), (false, []), (false, []), (false, []), (false, []), (false, []), (false, []), (false, []), (false, []), (false, []), (false, []), (false, []), (false, []), (false, []), (false, []), (false, []), (true, [])] | false => .leaf ([], []) []⟩
def Ao : List ResultVar := []
noncomputable def nW : Code := iZ Tryd.f70
def tE (kn : K4) (k0 : K0) (pE b8 b9 c0 : adW) (w : adV) : Prop :=
 eY pg (gO .lss 3 gZ gZ c0 b9) w fun c1 w =>
 lQ c1
  (eY pg (iJ 22 b8 c0) w fun c2 w =>
  eY pg (fW 5 c2) w fun c3 w =>
  eY pg (jB pE) w fun c5 w =>
  eY pg (gM 138 c5 0) w fun c6 w =>
  eY pg (fW 25 c6) w fun c7 w =>
  eY pg (kX 5 25 c3) w fun c9 w =>
  eY pg (gO .xor 25 gZ gZ c7 c9) w fun d0 w =>
  eY pg (jB pE) w fun d1 w =>
  eY pg (gM 138 d1 0) w fun d2 w =>
  eY pg (iD 25 d2 d0) w fun _u w =>
  (dr w) = (dr w) /\
  (dr w) = (dr w) /\
  eY pg (jB pE) (dr w) fun d5 w_ => w_ = (dr w) /\
  eY pg (gM 138 d5 0) (dr w) fun d6 w_ => w_ = (dr w) /\
  eY pg (fW 25 d6) (dr w) fun d7 w_ => w_ = (dr w) /\
  eY pg (gO .shr 25 gZ gZ d7 (.int .u64 4)) (dr w) fun d8 w_ => w_ = (dr w) /\
  (dr w) = (dr w) /\
  eY pg (jB pE) (dr w) fun e0 w_ => w_ = (dr w) /\
  eY pg (gM 138 e0 0) (dr w) fun e1 w_ => w_ = (dr w) /\
  eY pg (fW 25 e1) (dr w) fun e2 w_ => w_ = (dr w) /\
  eY pg (gO .and 25 gZ gZ e2 (.int .u32 15)) (dr w) fun e3 w_ => w_ = (dr w) /\
  eY pg (iJ 139 (.pointer (some ⟨1, 0, none⟩)) e3) (dr w) fun e4 w_ => w_ = (dr w) /\
  eY pg (fW 25 e4) (dr w) fun e5 w_ => w_ = (dr w) /\
  eY pg (gO .xor 25 gZ gZ d8 e5) (dr w) fun e6 w_ => w_ = (dr w) /\
  eY pg (jB pE) (dr w) fun e7 w_ => w_ = (dr w) /\
  eY pg (gM 138 e7 0) (dr w) fun e8 w_ => w_ = (dr w) /\
  eY pg (iD 25 e8 e6) (dr w) fun _u16 oC =>
  (dr oC) = (dr oC) /\
  (dr oC) = (dr oC) /\
  eY pg (jB pE) (dr oC) fun f1 w_ => w_ = (dr oC) /\
  eY pg (gM 138 f1 0) (dr oC) fun f2 w_ => w_ = (dr oC) /\
  eY pg (fW 25 f2) (dr oC) fun f3 w_ => w_ = (dr oC) /\
  eY pg (gO .shr 25 gZ gZ f3 (.int .u64 4)) (dr oC) fun f4 w_ => w_ = (dr oC) /\
  (dr oC) = (dr oC) /\
  eY pg (jB pE) (dr oC) fun f6 w_ => w_ = (dr oC) /\
  eY pg (gM 138 f6 0) (dr oC) fun f7 w_ => w_ = (dr oC) /\
  eY pg (fW 25 f7) (dr oC) fun f8 w_ => w_ = (dr oC) /\
  eY pg (gO .and 25 gZ gZ f8 (.int .u32 15)) (dr oC) fun f9 w_ => w_ = (dr oC) /\
  eY pg (iJ 139 (.pointer (some ⟨1, 0, none⟩)) f9) (dr oC) fun i0 w_ => w_ = (dr oC) /\
  eY pg (fW 25 i0) (dr oC) fun i1 w_ => w_ = (dr oC) /\
  eY pg (gO .xor 25 gZ gZ f4 i1) (dr oC) fun i2 w_ => w_ = (dr oC) /\
  eY pg (jB pE) (dr oC) fun i3 w_ => w_ = (dr oC) /\
  eY pg (gM 138 i3 0) (dr oC) fun i4 w_ => w_ = (dr oC) /\
  eY pg (iD 25 i4 i2) (dr oC) fun _u16 YM =>
  eY pg (gO .add 3 gZ gZ c0 (adX 1)) YM fun i5 w =>
  kn pE b8 b9 i5 w)
  (k0 w)
theorem I3 (kn : K4) (k0 : K0) (hn : N4 Q kn 0 8 9 10) (h0 : E0 Q k0 0) (h : tE kn k0 (g 0) (g 8) (g 9) (g 10) w) : iL pg oP (bI (bI (fI 2 nW))) Q g w :=
 kW (kr := no) (l := [(0, fun g w => k0 w)]) h hn lX ⟨h0, trivial⟩
def Ab (k0 : K0) (pE b8 b9 c0 : adW) (w : adV) : Prop :=
 jW (fun (X : adW -> K0) (t : adW) (w : adV) => tE (fun _ _ _ c0 w => X c0 w) k0 pE b8 b9 t w) c0 w
theorem I5 (k0 : K0) (h0 : E0 Q k0 0) (h : Ab k0 (g 0) (g 8) (g 9) (g 10) w) : iL pg oP (bI (fI 2 nW)) Q g w := by
 refine Pb (fun g : Env => g 10) (fun X t w => tE (fun _ _ _ c0 w => X c0 w) k0 (g 0) (g 8) (g 9) t w) h (fun X g1 w1 ha hL => ?_)
 rw [<- qQ 0 ha, <- qQ 8 ha, <- qQ 9 ha] at hL
 exact (I3 _ g1 w1 (fun _ _ _ c0 w => X c0 w) k0 (fun _ _ h => h) h0 hL)
def AB (kn : K0) (pE b8 b9 c0 : adW) (w : adV) : Prop :=
 Ab kn pE b8 b9 c0 w
def zM (kn : K4) (R : K1) (pE AI : adW) (w : adV) : Prop :=
 eY pg (gO .eql 131 (.tmp 6) (.const (.pointer none)) pE (.pointer none)) w fun b7 w =>
 lQ b7
  (R (.tuple #[]) w)
  (eY pg (nG .len #[22] 3 [AI]) w fun b9 w =>
  kn pE AI b9 (adX 0) w)
theorem Jh (kn : K4) (R : K1) (hn : N4 Q kn 0 8 9 10) (hr : HR Ao R Q) (h : zM kn R (g 0) (g 1) w) : iL pg oP (gW 2 nW) Q g w :=
 kW (l := []) h hn hr trivial
def zQ (kn : K0) (R : K1) (pE AI : adW) (w : adV) : Prop :=
 zM (fun pE b8 b9 c0 w => AB kn pE b8 b9 c0 w) R pE AI w
theorem Jn (kn : K0) (R : K1) (hn : N0 Q kn) (hr : HR Ao R Q) (h : zQ kn R (g 0) (g 1) w) : iL pg oP nW Q g w :=
 rV 2 (Jh _ g w (AB kn) R (fun g w h => gY (MJ 0 (I5 _ g w kn hn h))) hr h)
def IH (a0 a1 : adW) (w : adV) (R : K1) : Prop :=
 zQ (fun  w => R (.tuple #[]) w) R a0 a1 w
theorem JZ {a0 a1 : adW} {w : adV} {R : K1} (h : IH a0 a1 w R) : gU pg A6 #[a0, a1] w R := by
 refine xA (ann := oP) Tryd.f70 nW [a0, a1] Ao 56 TrydM.mixed Tryd.func70 ?_
 exact (Jn _ _ _ (fun  w => R (.tuple #[]) w) R (fun _ _ h => h) (fun _ _ h => h) h)
def Gw : FA := ⟨Dd, fun i => .leaf ([], []) []⟩
def HO : List ResultVar := [.tmp 2]
noncomputable def EB : Code := iZ Tryd.f71
def Cr (R : K1) (pE : adW) (w : adV) : Prop :=
 eY pg (gO .eql 131 (.tmp 3) (.const (.pointer none)) pE (.pointer none)) w fun b4 w =>
 lQ b4
  (R (.int .u32 0) w)
  (eY pg (jB pE) w fun b6 w =>
  eY pg (gM 138 b6 0) w fun b7 w =>
  eY pg (fW 25 b7) w fun b8 w =>
  eY pg (KP .xor b8) w fun b9 w =>
  R b9 w)
theorem Kv (R : K1) (hr : HR HO R Q) (h : Cr R (g 0) w) : iL pg Gw EB Q g w :=
 kW (kn := no) (l := []) h lX hr trivial
def Li (a0 : adW) (w : adV) (R : K1) : Prop :=
 Cr R a0 w
theorem LC {a0 : adW} {w : adV} {R : K1} (h : Li a0 w R) : gU pg Dd #[a0] w R := by
 refine xA (ann := Gw) Tryd.f71 EB [a0] HO 10 TrydM.mixed Tryd.func71 ?_
 exact (Kv _ _ _ R (fun _ _ h => h) h)
def Mc : FA := ⟨D4, fun i => match Nat.beq i 1 with | true => .leaf ([3, 7], [(3, 6), (3, 11), (7, 11)]) [(false, []), (false, []), (false, []), (true, []), (false, []), (false, []), (false, [2]), (true, []), (false, []), (false, []), (false, []), (false, [3, 7]), (false, []), (false, [])] | false => .leaf ([], []) []⟩
def M9 : List ResultVar := [.tmp 8]
noncomputable def Kl : Code := iZ Tryd.f72
def I9 (R : K1) (UZ Zq V7 Ss : adW) (w : adV) : Prop :=
 (dr w) = (dr w) /\
 (dr w) = (dr w) /\
 eY pg (KP .neg Zq) (dr w) fun c1 w_ => w_ = (dr w) /\
 gU pg jL #[UZ, c1] (dr w) fun c2 RW =>
 RW = RW /\
 RW = RW /\
 eY pg (KP .neg V7) RW fun c5 w_ => w_ = RW /\
 (gN pg (KP .neg V7) c5 (dr w) /\ True) /\
 gU pg jL #[UZ, c5] RW fun c6 MS =>
 eY pg (gO .xor 25 gZ gZ c2 c6) MS fun c7 w_ => w_ = MS /\
 MS = MS /\
 MS = MS /\
 eY pg (gO .shr 25 gZ gZ UZ Ss) MS fun d0 w_ => w_ = MS /\
 (gN pg (gO .shr 25 gZ gZ UZ Ss) d0 RW /\ gN pg (gO .shr 25 gZ gZ UZ Ss) d0 (dr w) /\ True) /\
 eY pg (gO .xor 25 gZ gZ c7 d0) MS fun d1 w_ => w_ = MS /\
 MS = MS /\
 R d1 MS
theorem Ow (R : K1) (hr : HR M9 R Q) (h : I9 R (g 0) (g 1) (g 2) (g 3) w) : iL pg Mc Kl Q g w :=
 kW (kn := no) (l := []) h lX hr trivial
def RJ (a0 a1 a2 a3 : adW) (w : adV) (R : K1) : Prop :=
 I9 R a0 a1 a2 a3 w
theorem Pw {a0 a1 a2 a3 : adW} {w : adV} {R : K1} (h : RJ a0 a1 a2 a3 w R) : gU pg D4 #[a0, a1, a2, a3] w R := by
 refine xA (ann := Mc) Tryd.f72 Kl [a0, a1, a2, a3] M9 22 TrydM.mixed Tryd.func72 ?_
 exact (Ow _ _ _ R (fun _ _ h => h) h)
def JD : FA := ⟨Am, fun i => .leaf ([], []) []⟩
def Kq : List ResultVar := [.tmp 8]
noncomputable def HF : Code := iZ Tryd.f73
def Fc (R : K1) (UZ Zq V7 ZM : adW) (w : adV) : Prop :=
 eY pg (KP .neg Zq) w fun c1 w =>
 gU pg jL #[UZ, c1] w fun c2 w =>
 eY pg (KP .neg V7) w fun c5 w =>
 gU pg jL #[UZ, c5] w fun c6 w =>
 eY pg (gO .xor 25 gZ gZ c2 c6) w fun c7 w =>
 eY pg (KP .neg ZM) w fun d0 w =>
 gU pg jL #[UZ, d0] w fun d1 w =>
 eY pg (gO .xor 25 gZ gZ c7 d1) w fun d2 w =>
 R d2 w
theorem MT (R : K1) (hr : HR Kq R Q) (h : Fc R (g 0) (g 1) (g 2) (g 3) w) : iL pg JD HF Q g w :=
 kW (kn := no) (l := []) h lX hr trivial
def O9 (a0 a1 a2 a3 : adW) (w : adV) (R : K1) : Prop :=
 Fc R a0 a1 a2 a3 w
theorem NC {a0 a1 a2 a3 : adW} {w : adV} {R : K1} (h : O9 a0 a1 a2 a3 w R) : gU pg Am #[a0, a1, a2, a3] w R := by
 refine xA (ann := JD) Tryd.f73 HF [a0, a1, a2, a3] Kq 23 TrydM.mixed Tryd.func73 ?_
 exact (MT _ _ _ R (fun _ _ h => h) h)
def uS : FA := ⟨jL, fun i => .leaf ([], []) []⟩
def vY : List ResultVar := [.tmp 4]
noncomputable def sV : Code := iZ Tryd.f74
def pG (R : K1) (UZ ZJ : adW) (w : adV) : Prop :=
 eY pg (kX 3 128 ZJ) w fun b7 w =>
 eY pg (gO .and 128 gZ gZ b7 (.int .u64 31)) w fun b8 w =>
 eY pg (gO .shl 25 gZ gZ UZ b8) w fun c1 w =>
 eY pg (gO .sub 128 gZ gZ (.int .u64 32) b8) w fun c4 w =>
 eY pg (gO .shr 25 gZ gZ UZ c4) w fun c5 w =>
 eY pg (gO .or 25 gZ gZ c1 c5) w fun c6 w =>
 R c6 w
theorem Cs (R : K1) (hr : HR vY R Q) (h : pG R (g 0) (g 1) w) : iL pg uS sV Q g w :=
 kW (kn := no) (l := []) h lX hr trivial
def zZ (a0 a1 : adW) (w : adV) (R : K1) : Prop :=
 pG R a0 a1 w
theorem CP {a0 a1 : adW} {w : adV} {R : K1} (h : zZ a0 a1 w R) : gU pg jL #[a0, a1] w R := by
 refine xA (ann := uS) Tryd.f74 sV [a0, a1] vY 17 TrydM.mixed Tryd.func74 ?_
 exact (Cs _ _ _ R (fun _ _ h => h) h)
end Go.Proofs.YteelnmpbnaohpaaDoor
namespace Go.En
open Go
section
variable {P : Program} {w : adV} {t : TypeId} {ox oy : Operand} {k : IntKind} {a b : Int}
theorem mU (s : Sem adW) : (V s).run P w = (s.run P w).andThen fun v w => .ok (.value v) w := by
 unfold V; rw [Sem.run_bind] <;> rfl
theorem YG (s : Sem Unit) : (U s).run P w = (s.run P w).andThen fun _ w => .ok .skip w := by
 unfold U; rw [Sem.run_bind] <;> rfl
theorem fP : (gO .add t ox oy (.int k a) (.int k b)).run P w = .ok (.value (.int k (k.wrap (a + b)))) w := by
 simp [gO, Cv, mU, binOp, Op.intArith]
theorem fZ : (gO .sub t ox oy (.int k a) (.int k b)).run P w = .ok (.value (.int k (k.wrap (a - b)))) w := by
 simp [gO, Cv, mU, binOp, Op.intArith]
theorem fO : (gO .mul t ox oy (.int k a) (.int k b)).run P w = .ok (.value (.int k (k.wrap (a * b)))) w := by
 simp [gO, Cv, mU, binOp, Op.intArith]
theorem gK (h : b ≠ 0) : (gO .quo t ox oy (.int k a) (.int k b)).run P w = .ok (.value (.int k (k.wrap (a.tdiv b)))) w := by
 simp [gO, Cv, mU, binOp, Op.intDiv, h]
theorem gE (h : b ≠ 0) : (gO .rem t ox oy (.int k a) (.int k b)).run P w = .ok (.value (.int k (a.tmod b))) w := by
 simp [gO, Cv, mU, binOp, Op.intDiv, h]
def UK (k : IntKind) (a b : Int) : Int := k.wrap (BitVec.ofInt k.bits a &&& BitVec.ofInt k.bits b).toNat
def Yz (k : IntKind) (a b : Int) : Int := k.wrap (BitVec.ofInt k.bits a ||| BitVec.ofInt k.bits b).toNat
def QH (k : IntKind) (a b : Int) : Int := k.wrap (BitVec.ofInt k.bits a ^^^ BitVec.ofInt k.bits b).toNat
def Tt (k : IntKind) (a b : Int) : Int := k.wrap (BitVec.ofInt k.bits a &&& ~~~BitVec.ofInt k.bits b).toNat
theorem gC : (gO .and t ox oy (.int k a) (.int k b)).run P w = .ok (.value (.int k (UK k a b))) w := by
 simp [gO, Cv, mU, binOp, Op.intBits, UK]
theorem gR : (gO .or t ox oy (.int k a) (.int k b)).run P w = .ok (.value (.int k (Yz k a b))) w := by
 simp [gO, Cv, mU, binOp, Op.intBits, Yz]
theorem gA : (gO .xor t ox oy (.int k a) (.int k b)).run P w = .ok (.value (.int k (QH k a b))) w := by
 simp [gO, Cv, mU, binOp, Op.intBits, QH]
theorem eU : (gO .andNot t ox oy (.int k a) (.int k b)).run P w = .ok (.value (.int k (Tt k a b))) w := by
 simp [gO, Cv, mU, binOp, Op.intBits, Tt]
theorem fV {k' : IntKind} (h : 0 <= b) : (gO .shl t ox oy (.int k a) (.int k' b)).run P w = .ok (.value (.int k (k.wrap (a * 2 ^ (min b.toNat k.bits))))) w := by
 simp [gO, Cv, mU, binOp, Op.shift, Int.not_lt.2 h]
theorem fT {k' : IntKind} (h : 0 <= b) : (gO .shr t ox oy (.int k a) (.int k' b)).run P w = .ok (.value (.int k (a.fdiv (2 ^ (min b.toNat k.bits))))) w := by
 simp [gO, Cv, mU, binOp, Op.shift, Int.not_lt.2 h]
theorem gG : (gO .eql t ox oy (.int k a) (.int k b)).run P w = .ok (.value (.bool (a == b))) w := by
 simp [gO, Cv, mU, binOp, Op.intCmp, eqGuard]
theorem fS : (gO .neq t ox oy (.int k a) (.int k b)).run P w = .ok (.value (.bool (a != b))) w := by
 simp [gO, Cv, mU, binOp, Op.intCmp, eqGuard]
theorem fM : (gO .lss t ox oy (.int k a) (.int k b)).run P w = .ok (.value (.bool (decide (a < b)))) w := by
 simp [gO, Cv, mU, binOp, Op.intCmp]
theorem fU : (gO .leq t ox oy (.int k a) (.int k b)).run P w = .ok (.value (.bool (decide (a <= b)))) w := by
 simp [gO, Cv, mU, binOp, Op.intCmp]
theorem fR : (gO .gtr t ox oy (.int k a) (.int k b)).run P w = .ok (.value (.bool (decide (b < a)))) w := by
 simp [gO, Cv, mU, binOp, Op.intCmp]
theorem fX : (gO .geq t ox oy (.int k a) (.int k b)).run P w = .ok (.value (.bool (decide (b <= a)))) w := by
 simp [gO, Cv, mU, binOp, Op.intCmp]
theorem gH : (KP .neg (.int k a)).run P w = .ok (.value (.int k (k.wrap (0 - a)))) w := by
 simp [KP, mU, Op.unary, Op.intArith]
theorem fY : (KP .xor (.int k a)).run P w = .ok (.value (.int k (QH k (if k.signed then -1 else k.max) a))) w := by
 simp [KP, mU, Op.unary, Op.intBits, QH]
theorem fQ (c : Bool) : (KP .not (.bool c)).run P w = .ok (.value (.bool !c)) w := by
 simp [KP, mU, Op.unary]
theorem fC (c : Bool) (x y : adW) : (lE (.bool c) x y).run P w = .ok (.value (if c then x else y)) w := by
 simp [lE, asBool]
theorem Ot {x y : adW} {r : Bool} (hg : eqGuard .eql t ox oy x y = pure ()) (hb : binOp .eql t x y = (do pure (.bool (<- Op.equal t x y)))) (he : (Op.equal t x y).run P w = .ok r w) :
 (gO .eql t ox oy x y).run P w = .ok (.value (.bool r)) w := by
 unfold gO
 simp only [Cv, mU, hg, hb, pure_bind]
 rw [Sem.run_bind, he] <;> rfl
theorem Rr {x y : adW} {r : Bool} (hg : eqGuard .neq t ox oy x y = pure ()) (hb : binOp .neq t x y = (do pure (.bool (!(<- Op.equal t x y))))) (he : (Op.equal t x y).run P w = .ok r w) :
 (gO .neq t ox oy x y).run P w = .ok (.value (.bool (!r))) w := by
 unfold gO
 simp only [Cv, mU, hg, hb, pure_bind]
 rw [Sem.run_bind, he] <;> rfl
theorem Ub (n : Nat) (c d : Bool) (hu : P.underlying t = some .bool) : (Op.equalIn (n + 1) t (.bool c) (.bool d)).run P w = .ok (c == d) w := by
 simp only [Op.equalIn, underlying]
 simp [hu]
theorem TO (c d : Bool) (hu : P.underlying t = some .bool) : (Op.equal t (.bool c) (.bool d)).run P w = .ok (c == d) w := Ub 9999 c d hu
theorem X6 (c d : Bool) (hu : P.underlying t = some .bool) : (gO .eql t ox oy (.bool c) (.bool d)).run P w = .ok (.value (.bool (c == d))) w :=
 Ot rfl rfl (TO c d hu)
theorem X4 (c d : Bool) (hu : P.underlying t = some .bool) : (gO .neq t ox oy (.bool c) (.bool d)).run P w = .ok (.value (.bool (!(c == d)))) w :=
 Rr rfl rfl (TO c d hu)
theorem fK {n : Int} (h0 : -9223372036854775808 <= n) (h1 : n <= 9223372036854775807) : IntKind.i64.wrap n = n := by
 unfold IntKind.wrap; simp [IntKind.bits, IntKind.signed]; split <;> omega
theorem fJ {n : Int} (h0 : 0 <= n) (h1 : n <= 18446744073709551615) : IntKind.u64.wrap n = n := by
 unfold IntKind.wrap; simp [IntKind.bits, IntKind.signed]; omega
theorem gJ {n : Int} (h0 : -2147483648 <= n) (h1 : n <= 2147483647) : IntKind.i32.wrap n = n := by
 unfold IntKind.wrap; simp [IntKind.bits, IntKind.signed]; split <;> omega
theorem fN {n : Int} (h0 : 0 <= n) (h1 : n <= 4294967295) : IntKind.u32.wrap n = n := by
 unfold IntKind.wrap; simp [IntKind.bits, IntKind.signed]; omega
theorem gD {n : Int} (h0 : 0 <= n) (h1 : n <= 65535) : IntKind.u16.wrap n = n := by
 unfold IntKind.wrap; simp [IntKind.bits, IntKind.signed]; omega
theorem gS {n : Int} (h0 : 0 <= n) (h1 : n <= 255) : IntKind.u8.wrap n = n := by
 unfold IntKind.wrap; simp [IntKind.bits, IntKind.signed]; omega
theorem Wl (x y : ByteArray) (h : ((x.size + y.size : Nat) : Int) <= 9223372036854775807) : (gO .add t ox oy (.string x) (.string y)).run P w = .ok (.value (.string (x ++ y))) w := by
 have : ¬ (((x.size + y.size : Nat) : Int) > IntKind.i64.max) := by
  have e : IntKind.i64.max = 9223372036854775807 := by decide
  rw [e]; omega
 simp only [gO, Cv, mU, binOp, Op.stringOp, this, if_false]
 rfl
theorem SJ (x y : ByteArray) : (gO .eql t ox oy (.string x) (.string y)).run P w = .ok (.value (.bool (x.toList == y.toList))) w := by
 simp [gO, Cv, mU, binOp, Op.stringOp, eqGuard]
theorem VN (n : Nat) {e : TypeId} (hu : P.underlying t = some (.pointer e)) (x : Option Addr) : (Op.equalIn (n + 1) t (.pointer x) (.pointer none)).run P w = .ok x.isNone w := by
 simp only [Op.equalIn, underlying]
 cases x <;> simp [hu]
theorem Wm {e : TypeId} (hu : P.underlying t = some (.pointer e)) (x : Option Addr) : (Op.equal t (.pointer x) (.pointer none)).run P w = .ok x.isNone w := VN 9999 hu x
theorem WQ (m : Nat) {e : TypeId} (hu : P.underlying t = some (.slice e)) (x : Option Addr) (n c : Nat) : (Op.equalIn (m + 1) t (.slice x n c) (.slice none 0 0)).run P w = .ok x.isNone w := by
 simp only [Op.equalIn, underlying]
 cases x <;> simp [hu]
theorem Y9 {e : TypeId} (hu : P.underlying t = some (.slice e)) (x : Option Addr) (n c : Nat) : (Op.equal t (.slice x n c) (.slice none 0 0)).run P w = .ok x.isNone w := WQ 9999 hu x n c
theorem Mn {e : TypeId} (hu : P.underlying t = some (.pointer e)) (x : Option Addr) : (gO .eql t ox oy (.pointer x) (.pointer none)).run P w = .ok (.value (.bool x.isNone)) w :=
 Ot rfl rfl (Wm hu x)
theorem U9 {e : TypeId} (hu : P.underlying t = some (.pointer e)) (x : Option Addr) : (gO .neq t ox oy (.pointer x) (.pointer none)).run P w = .ok (.value (.bool (!x.isNone))) w :=
 Rr rfl rfl (Wm hu x)
theorem QF {e : TypeId} (hu : P.underlying t = some (.slice e)) (x : Option Addr) (n c : Nat) : (gO .eql t ox oy (.slice x n c) (.slice none 0 0)).run P w = .ok (.value (.bool x.isNone)) w :=
 Ot rfl rfl (Y9 hu x n c)
theorem Cb {s : TypeId} {d : TypeDesc} {kd : IntKind} (hs : P.underlying s = some d) (hu : P.underlying t = some (.int kd)) : (kX s t (.int k a)).run P w = .ok (.value (.int kd (kd.wrap a))) w := by
 cases d <;> simp [kX, mU, convert, underlying, hs, hu, Conv.intToInt]
theorem Mi {ty : TypeId} {e : TypeId} (hu : P.underlying t = some (.slice e)) (x : Option Addr) (n c : Nat) : (nG .len #[t] ty [.slice x n c]).run P w = .ok (.value (.int .i64 n)) w := by
 simp [nG, builtin, Builtin.len_, underlying, hu, goInt]
theorem X3 {ty : TypeId} (hu : P.underlying t = some .string) (x : ByteArray) : (nG .len #[t] ty [.string x]).run P w = .ok (.value (.int .i64 x.size)) w := by
 simp [nG, builtin, Builtin.len_, underlying, hu, goInt]
theorem gB {ats : Array TypeId} {ty : TypeId} : (nG .min ats ty [.int k a, .int k b]).run P w = .ok (.value (.int k (if b < a then b else a))) w := by
 simp [nG, builtin, Builtin.min_, Builtin.min2]
theorem gI {ats : Array TypeId} {ty : TypeId} : (nG .max ats ty [.int k a, .int k b]).run P w = .ok (.value (.int k (if b > a then b else a))) w := by
 simp [nG, builtin, Builtin.max_, Builtin.max2]
theorem iS (a b : adW) : (iW (.tuple #[a, b]) 0).run P w = .ok (.value a) w := Eq.trans rfl rfl
theorem iQ (a b : adW) : (iW (.tuple #[a, b]) 1).run P w = .ok (.value b) w := Eq.trans rfl rfl
theorem iO (a b c : adW) : (iW (.tuple #[a, b, c]) 0).run P w = .ok (.value a) w := Eq.trans rfl rfl
theorem iR (a b c : adW) : (iW (.tuple #[a, b, c]) 1).run P w = .ok (.value b) w := Eq.trans rfl rfl
theorem iM (a b c : adW) : (iW (.tuple #[a, b, c]) 2).run P w = .ok (.value c) w := Eq.trans rfl rfl
theorem iN (a b c d : adW) : (iW (.tuple #[a, b, c, d]) 0).run P w = .ok (.value a) w := Eq.trans rfl rfl
theorem iP (a b c d : adW) : (iW (.tuple #[a, b, c, d]) 1).run P w = .ok (.value b) w := Eq.trans rfl rfl
theorem iU (a b c d : adW) : (iW (.tuple #[a, b, c, d]) 2).run P w = .ok (.value c) w := Eq.trans rfl rfl
theorem iT (a b c d : adW) : (iW (.tuple #[a, b, c, d]) 3).run P w = .ok (.value d) w := Eq.trans rfl rfl
theorem fL (x : Addr) : (jB (.pointer (some x))).run P w = .ok (.value (.pointer (some x))) w := Eq.trans rfl rfl
theorem kI {fs : Array Field} {f : Field} {i : Nat} {inf : TypeInfo} (hu : P.underlying t = some (.struct fs)) (hf : fs[i]? = some f)
 (hi : P.info? f.type = some inf) (hz : inf.size ≠ 0) (x : Addr) : (gM t (.pointer (some x)) i).run P w = .ok (.value (.pointer (some (x.add f.offset)))) w := by
 simp [gM, mU, Instr.fieldAt, underlying, hu, hf, Instr.sureAddr, fieldPlace, sizeOf, typeInfo, hi, hz]
theorem R9 {e : TypeId} {inf : TypeInfo} (hu : P.underlying t = some (.slice e)) (hi : P.info? e = some inf) (x : Addr) (n c : Nat) (h0 : 0 <= a) (h1 : a < n) :
 (iJ t (.slice (some x) n c) (.int k a)).run P w = .ok (.value (.pointer (some (x.add (a.toNat * inf.size))))) w := by
 simp [iJ, mU, Instr.indexAt, asIntOf, underlying, hu, h0, h1, sizeOf, typeInfo, hi]
theorem VT {e : TypeId} {len : Nat} {inf : TypeInfo} (hu : P.underlying t = some (.array len e)) (hi : P.info? e = some inf) (x : Addr) (h0 : 0 <= a) (h1 : a < len) :
 (iJ t (.pointer (some x)) (.int k a)).run P w = .ok (.value (.pointer (some (x.add (a.toNat * inf.size))))) w := by
 simp [iJ, mU, Instr.indexAt, asIntOf, underlying, hu, h0, h1, sizeOf, typeInfo, hi, Instr.sureAddr]
end
def jG (w : adV) (b : Nat) (cs : List adW) : Prop :=
 ∃ T lo hi, w.heap[b]? = some (.cells cs.toArray T (lo, hi)) /\ (cs.length <= lo ∨ hi = lo)
structure gX (w w' : adV) (M : Nat -> Prop) : Prop where
 os : w'.os = w.os
 tape : w'.tape = w.tape
 output : w'.output = w.output
 size : w.heap.size <= w'.heap.size
 keep : ∀ b, b < w.heap.size -> ¬ M b -> w'.heap[b]? = w.heap[b]?
def jK : Nat -> Prop := fun _ => False
theorem gX.refl (w : adV) (M : Nat -> Prop) : gX w w M := ⟨rfl, rfl, rfl, Z8 _, fun _ _ _ => rfl⟩
theorem gX.mono {w w' : adV} {M N : Nat -> Prop} (h : gX w w' M) (hm : ∀ b, b < w.heap.size -> M b -> N b) : gX w w' N :=
 ⟨h.os, h.tape, h.output, h.size, fun b hb hn => h.keep b hb fun hM => hn (hm b hb hM)⟩
theorem gX.trans {a b c : adV} {M N : Nat -> Prop} (h : gX a b M) (k : gX b c N) (hn : ∀ x, x < a.heap.size -> N x -> M x) : gX a c M :=
 ⟨k.os.trans h.os, k.tape.trans h.tape, k.output.trans h.output, acR h.size k.size,
   fun x hx hM => (k.keep x (acD hx h.size) fun h => hM (hn x hx h)).trans (h.keep x hx hM)⟩
theorem gX.seq {a b c : adV} {M : Nat -> Prop} (h : gX a b M) (k : gX b c M) : gX a c M := h.trans k fun _ _ h => h
theorem gX.new {a b c : adV} {M : Nat -> Prop} {x : Nat} (h : gX a b M) (k : gX b c (fun y => y = x)) (hx : a.heap.size <= x) : gX a c M :=
 h.trans k fun y hy e => absurd hy (by subst e; omega)
theorem gX.more {a b c : adV} {M : Nat -> Prop} (h : gX a b M) (k : gX b c (fun _ => False)) : gX a c M := h.trans k fun _ _ h => h.elim
theorem gX.below {w w' : adV} (h : gX w w' jK) : Go.RowKit.Below w.heap.size w w' :=
 ⟨h.os, h.tape, h.output, h.size, fun k hk => h.keep k hk fun h => h⟩
theorem gX.dr (w : adV) (M : Nat -> Prop) : gX w (dr w) M := ⟨rfl, rfl, rfl, Z8 _, fun _ _ _ => rfl⟩
theorem gX.alloc (w : adV) (o : Obj) (M : Nat -> Prop) : gX w (w.alloc o) M :=
 ⟨rfl, rfl, rfl, by simp, fun b hb _ => by show (w.heap.push o)[b]? = _; rw [Array.getElem?_push, if_neg (by omega)]⟩
theorem ND (w : adV) (a : Addr) (v : adW) (b : Nat) (h : b ≠ a.block) : (w.setCell a v).heap[b]? = w.heap[b]? := Go.RowKit.Below.heap_setCell w a v b h
theorem gX.setCell (w : adV) (a : Addr) (v : adW) {M : Nat -> Prop} (h : a.block < w.heap.size -> M a.block) : gX w (w.setCell a v) M :=
 ⟨rfl, rfl, rfl, by simp, fun b hb hM => ND w a v b fun e => hM (e ▸ h (e ▸ hb))⟩
theorem jG.lt {w : adV} {b : Nat} {cs : List adW} (h : jG w b cs) : b < w.heap.size := by
 obtain ⟨T, lo, hi, h, _⟩ := h
 rcases abB b w.heap.size with h' | h'
 .exact h'
 .rw [aaL h'] at h; cases h
theorem jG.ext {w w' : adV} {b : Nat} {cs : List adW} {M : Nat -> Prop} (h : jG w b cs) (hx : gX w w' M) (hM : ¬ M b) : jG w' b cs := by
 have := h.lt
 obtain ⟨T, lo, hi, h, k⟩ := h
 exact ⟨T, lo, hi, by rw [hx.keep b this hM]; exact h, k⟩
theorem jG.cell {w : adV} {b off : Nat} {cs : List adW} (h : jG w b cs) : w.cell? ⟨b, off, none⟩ = cs[off]? := by
 obtain ⟨T, lo, hi, h, _⟩ := h
 simp [World.cell?, h]
theorem jG.free {w : adV} {b off : Nat} {cs : List adW} {s : Option Nat} (h : jG w b cs) (ho : off < cs.length) : w.frozen? ⟨b, off, s⟩ = false := by
 obtain ⟨T, lo, hi, h, k⟩ := h
 simp only [World.frozen?, h]
 rcases k with k | k <;> (simp; omega)
theorem jG.setCell {w : adV} {b off : Nat} {cs : List adW} (h : jG w b cs) (v : adW) : jG (w.setCell ⟨b, off, none⟩ v) b (cs.set off v) := by
 have hb := h.lt
 obtain ⟨T, lo, hi, h, k⟩ := h
 refine ⟨T, lo, hi, ?_, by simpa using k⟩
 simp only [World.setCell, abZ, h]
 simp
theorem jG.alloc (w : adV) (cs : List adW) (T : TypeId) : jG (w.alloc (.cells cs.toArray T)) w.heap.size cs :=
 ⟨T, 0, 0, by show (w.heap.push _)[w.heap.size]? = _; simp, .inr rfl⟩
theorem Vl {w w' : adV} {M : Nat -> Prop} {a : Addr} {v : adW} (h : w.cell? a = some v) (hx : gX w w' M) (hM : ¬ M a.block) : w'.cell? a = some v := by
 have hb := World.block_lt_of_cell? w a h
 have e := hx.keep _ hb hM
 unfold World.cell? at h ⊢
 rw [e]; exact h
section
variable {P : Program} {w : adV} {t : TypeId}
def Qz (d : TypeDesc) : Bool := match d with | .struct _ | .array _ _ => true | _ => false
theorem CU {d : TypeDesc} (hu : P.underlying t = some d) : (isAgg t).run P w = .ok (Qz d) w := by
 cases d <;> simp [isAgg, underlying, hu, Qz]
theorem kA {i : TypeInfo} (hi : P.info? t = some i) : (sizeOf t).run P w = .ok i.size w := by simp [sizeOf, typeInfo, hi]
theorem LP {b off : Nat} {cs : List adW} (ho : jG w b cs) : ∀ (n i : Nat) (acc : Array adW), off + i + n <= cs.length →
 (loadCellsFrom ⟨b, off, none⟩ i n acc).run P w = .ok (acc ++ ((cs.drop (off + i)).take n).toArray) w := by
 intro n
 induction n with
 | zero => intro i acc _; simp [loadCellsFrom]
 | succ n ih =>
   intro i acc h
   have hc : w.cell? ((⟨b, off, none⟩ : Addr).add i) = some cs[off + i] := by
    unfold Addr.add
    split
    .rename_i hi; subst hi; rw [ho.cell]; simp
    .show w.cell? ⟨b, off + i, none⟩ = _; rw [ho.cell]; simp
   simp only [loadCellsFrom, Sem.run_bind, run_load, hc, Result.andThen_ok]
   rw [ih (i + 1) _ (by omega)]
   congr 1
   rw [adB (by omega : off + i < cs.length)]
   simp [acI]
theorem J9 {b off n : Nat} {cs : List adW} (ho : jG w b cs) (h : off + n <= cs.length) :
 (loadCells ⟨b, off, none⟩ n).run P w = .ok ((cs.drop off).take n).toArray w := by
 unfold loadCells
 rw [LP ho n 0 #[] (by omega)]
 simp
theorem Hu {d : TypeDesc} {i : TypeInfo} (hu : P.underlying t = some d) (hd : Qz d = true) (hi : P.info? t = some i) {b off : Nat} {cs : List adW} (ho : jG w b cs) (h : off + i.size <= cs.length) :
 (fW t (.pointer (some ⟨b, off, none⟩))).run P w = .ok (.value (.agg ((cs.drop off).take i.size).toArray)) w := by
 unfold fW
 rw [mU]
 simp only [Instr.loadAt, Instr.sureAddr, loadVar, pure_bind, Sem.run_bind, CU hu, hd, Result.andThen_ok, if_true, kA hi, J9 ho h, Sem.run_pure]
def one (v : adW) : Bool := match v with | .agg _ | .tuple _ => false | _ => true
theorem S0 {a : Addr} {v x : adW} (hv : one v = true) (hc : w.cell? a = some x) (hf : w.frozen? a = false) : (store a v).run P w = .ok () (w.setCell a v) := by
 unfold store
 cases v <;> simp [one] at hv <;> simp [Sem.run, hc, hf]
def mZ (cs : List adW) (off : Nat) : List adW -> List adW
 | [] => cs
 | v :: vs => mZ (cs.set off v) (off + 1) vs
theorem DC {b : Nat} {M : Nat -> Prop} (hM : M b) : ∀ (vs : List adW) (w : adV) (off i : Nat) (cs : List adW), jG w b cs -> off + i + vs.length <= cs.length -> (∀ v ∈ vs, one v = true) →
 ∃ w', (storeCells ⟨b, off, none⟩ vs i).run P w = .ok () w' /\ jG w' b (mZ cs (off + i) vs) /\ gX w w' M /\ w'.heap.size = w.heap.size /\ w'.drawn = w.drawn := by
 intro vs
 induction vs with
 | nil => intro w off i cs ho _ _; exact ⟨w, by simp [storeCells], ho, gX.refl _ _, rfl, rfl⟩
 | cons v vs ih =>
   intro w off i cs ho h hv
   simp only [aaK] at h
   have ha : (⟨b, off, none⟩ : Addr).add i = ⟨b, off + i, none⟩ := by
    unfold Addr.add; split
    .rename_i hi; subst hi; rfl
    .rfl
   have hlt : off + i < cs.length := by omega
   have hc : w.cell? ⟨b, off + i, none⟩ = some cs[off + i] := by rw [ho.cell]; simp
   have hs := S0 (P := P) (hv v (by simp)) hc (ho.free hlt)
   obtain ⟨w', h1, h2, h3, h4, h5⟩ := ih (w.setCell ⟨b, off + i, none⟩ v) off (i + 1) (cs.set (off + i) v) (ho.setCell v) (by simp; omega) (fun x hx => hv x (Z7 _ hx))
   refine ⟨w', ?_, h2, (gX.setCell w _ v fun _ => hM).trans h3 (fun _ _ h => h), by rw [h4]; simp, by rw [h5] <;> rfl⟩
   simp only [storeCells, Sem.run_bind, ha, hs, Result.andThen_ok]
   exact h1
theorem CW {i : TypeInfo} (hi : P.info? t = some i) {b off : Nat} {cs : List adW} (ho : jG w b cs) {v : adW} (hs : v.cells.size = i.size)
 (hv : ∀ x ∈ v.cells.toList, one x = true) (h : off + i.size <= cs.length) {K : adW -> adV -> Prop}
 (hk : ∀ w', jG w' b (mZ cs off v.cells.toList) -> gX w w' (fun x => x = b) -> w'.heap.size = w.heap.size -> K undef w') : eY P (iD t (.pointer (some ⟨b, off, none⟩)) v) w K := by
 obtain ⟨w', h1, h2, h3, h4, _⟩ := DC (P := P) (M := fun x => x = b) rfl v.cells.toList w off 0 cs ho (by simp [hs]; omega) hv
 have : (iD t (.pointer (some ⟨b, off, none⟩)) v).run P w = .ok .skip w' := by
  unfold iD
  rw [YG]
  simp only [Instr.storeAt, Instr.sureAddr, storeVar, pure_bind, Sem.run_bind, kA hi, Result.andThen_ok, hs]
  simp [h1]
 unfold eY
 rw [this]
 exact hk w' h2 h3 h4
theorem Qb {v : adW} (hv : one v = true) : v.cells = #[v] := by cases v <;> simp [one] at hv <;> rfl
theorem nQ {i : TypeInfo} (hi : P.info? t = some i) (h1 : i.size = 1) {b off : Nat} {cs : List adW} (ho : jG w b cs) {v : adW} (hv : one v = true) (h : off < cs.length) {K : adW -> adV -> Prop}
 (hk : ∀ w', jG w' b (cs.set off v) -> gX w w' (fun x => x = b) -> w'.heap.size = w.heap.size -> K undef w') : eY P (iD t (.pointer (some ⟨b, off, none⟩)) v) w K := by
 have e := Qb hv
 refine CW hi ho (by rw [e, h1] <;> rfl) (by rw [e]; simpa using hv) (by omega) fun w' a b c => hk w' ?_ b c
 rw [e] at a; exact a
def NZ (c : Option adW) (w : adV) (Ps : Result Next) : Result Next := match c with | some v => .ok (.value v) w | none => Ps
def Ps (P : Program) (t : TypeId) (x : Addr) (w : adV) : Result Next := (fW t (.pointer (some x))).run P w
theorem eP (v : adW) (w : adV) (f : Result Next) : NZ (some v) w f = .ok (.value v) w := rfl
theorem JR {d : TypeDesc} (hu : P.underlying t = some d) (hd : Qz d = false) (x : Addr) (w : adV) :
 (fW t (.pointer (some x))).run P w = NZ (w.cell? x) w (Ps P t x w) := by
 cases h : w.cell? x with
 | none => rfl
 | some v =>
   unfold fW
   rw [mU]
   simp only [Instr.loadAt, Instr.sureAddr, loadVar, pure_bind, Sem.run_bind, CU hu, hd, Result.andThen_ok, ZS, if_false, run_load, h, NZ]
theorem QL {d : TypeDesc} {i : TypeInfo} (hu : P.underlying t = some d) (hd : Qz d = true) (hi : P.info? t = some i) {b off : Nat} {cs : List adW} (ho : jG w b cs) (h : off + i.size <= cs.length) {K : adW -> Prop}
 (hk : K (.agg ((cs.drop off).take i.size).toArray)) : U0 P t (.pointer (some ⟨b, off, none⟩)) w K := by
 refine ⟨_, ?_, hk⟩
 simp only [asAddr, loadVar, pure_bind, Sem.run_bind, CU hu, hd, Result.andThen_ok, if_true, kA hi, J9 ho h, Sem.run_pure]
theorem oE {v : adW} {K : adW -> adV -> Prop} (hk : ∀ w', jG w' w.heap.size v.cells.toList -> gX w w' jK -> w'.heap.size = w.heap.size + 1 -> K (.pointer (some ⟨w.heap.size, 0, none⟩)) w') :
 eY P (Eo t v) w K := by
 have : (Eo t v).run P w = .ok (.value (.pointer (some ⟨w.heap.size, 0, none⟩))) (w.alloc (.cells v.cells.toList.toArray t)) := by
  unfold Eo; rw [mU]
  simp [Instr.box, newVar, newRow]
 unfold eY
 rw [this]
 exact hk _ (jG.alloc _ _ _) (gX.alloc _ _ _) (by simp)
theorem vR {i : TypeInfo} {z : adW} (hi : P.info? t = some i) (hz : i.zero = some z) {K : adW -> adV -> Prop}
 (hk : ∀ w', jG w' w.heap.size z.cells.toList -> gX w w' jK -> w'.heap.size = w.heap.size + 1 -> K (.pointer (some ⟨w.heap.size, 0, none⟩)) w') :
 eY P (lR t) w K := by
 have : (lR t).run P w = .ok (.value (.pointer (some ⟨w.heap.size, 0, none⟩))) (w.alloc (.cells z.cells.toList.toArray t)) := by
  unfold lR; rw [mU]
  simp [Instr.alloc, zeroValue, typeInfo, hi, hz, newVar, newRow]
 unfold eY
 rw [this]
 exact hk _ (jG.alloc _ _ _) (gX.alloc _ _ _) (by simp)
end
theorem rX {P : Program} {w : adV} {k : IntKind} {a : Int} {y : Nat} {code : BoundsCode} (h0 : 0 <= a) (h1 : a <= y) : (Instr.sliceBound (.int k a) y code).run P w = .ok a.toNat w := by
 simp [Instr.sliceBound, asIntOf, h0, h1]
section
variable {P : Program} {w : adV} {t e : TypeId} {k k' : IntKind} {lo hi : Int} {i : TypeInfo}
def jO (x : Option Addr) (m l sz : Nat) : Option Addr := if m = l then x else x.map (·.add (l * sz))
theorem Sy (hu : P.underlying t = some (.slice e)) (hi' : P.info? e = some i) (x : Option Addr) (n c : Nat) (h0 : 0 <= lo) (h1 : lo <= n) :
 (lO t (.slice x n c) (some (.int k lo)) none none).run P w = .ok (.value (.slice (jO x c lo.toNat i.size) (n - lo.toNat) (c - lo.toNat))) w := by
 simp only [lO, mU, Instr.sliceAt, underlying, hu, Sem.run_bind, run_program, Result.andThen_ok, Sem.run_pure, Instr.slice, Instr.sliceBounds, pure_bind, rX h0 h1, kA hi', jO]
theorem Qw (hu : P.underlying t = some (.slice e)) (hi' : P.info? e = some i) (x : Option Addr) (n c : Nat) (h0 : 0 <= lo) (h1 : lo <= hi) (h2 : hi <= c) :
 (lO t (.slice x n c) (some (.int k lo)) (some (.int k' hi)) none).run P w = .ok (.value (.slice (jO x c lo.toNat i.size) (hi.toNat - lo.toNat) (c - lo.toNat))) w := by
 have h3 : (0 : Int) <= hi := by omega
 have h4 : lo <= (hi.toNat : Int) := by omega
 simp only [lO, mU, Instr.sliceAt, underlying, hu, Sem.run_bind, run_program, Result.andThen_ok, Sem.run_pure, Instr.slice, Instr.sliceBounds, pure_bind, rX h3 h2, rX h0 h4, kA hi', jO]
def Ci (a : Addr) (m l sz : Nat) : Addr := if m = l then a else a.add (l * sz)
theorem Nn {n : Nat} (hu : P.underlying t = some (.array n e)) (hi' : P.info? e = some i) (x : Addr) (h0 : 0 <= lo) (h1 : lo <= n) :
 (lO t (.pointer (some x)) (some (.int k lo)) none none).run P w = .ok (.value (.slice (some (Ci x n lo.toNat i.size)) (n - lo.toNat) (n - lo.toNat))) w := by
 simp only [lO, mU, Instr.sliceAt, Instr.sureAddr, underlying, hu, Sem.run_bind, run_program, Result.andThen_ok, Sem.run_pure, Instr.sliceBounds, pure_bind, rX h0 h1, kA hi', Ci]
theorem Sa {n : Nat} (hu : P.underlying t = some (.array n e)) (hi' : P.info? e = some i) (x : Addr) (h0 : 0 <= hi) (h1 : hi <= n) :
 (lO t (.pointer (some x)) none (some (.int k hi)) none).run P w = .ok (.value (.slice (some (Ci x n 0 i.size)) (hi.toNat - 0) (n - 0))) w := by
 simp only [lO, mU, Instr.sliceAt, Instr.sureAddr, underlying, hu, Sem.run_bind, run_program, Result.andThen_ok, Sem.run_pure, Instr.sliceBounds, pure_bind, rX h0 h1, kA hi', Ci]
end
def Sl (w : adV) (v : adW) (l : List adW) : Prop :=
 ∃ a n c, v = .slice a n c /\ n = l.length /\ n <= c /\ (0 < n -> ∃ b off, a = some ⟨b, off, none⟩ /\ ∀ i, i < n -> w.cell? ⟨b, off + i, none⟩ = l[i]?)
def wB (v : adW) (M : Nat -> Prop) : Prop := match v with | .slice (some a) (_ + 1) _ => M a.block | _ => False
theorem Sl.ext {w w' : adV} {v : adW} {l : List adW} {M : Nat -> Prop} (h : Sl w v l) (hx : gX w w' M) (hM : ¬ wB v M) : Sl w' v l := by
 obtain ⟨a, n, c, rfl, hn, hc, h⟩ := h
 refine ⟨a, n, c, rfl, hn, hc, fun h0 => ?_⟩
 obtain ⟨b, off, rfl, h2⟩ := h h0
 refine ⟨b, off, rfl, fun i hi => ?_⟩
 have h1 := h2 i hi
 obtain ⟨v, hv⟩ : ∃ v, l[i]? = some v := ⟨l[i], by simp⟩
 rw [hv] at h1 ⊢
 refine Vl h1 hx ?_
 obtain ⟨m, rfl⟩ : ∃ m, n = m + 1 := ⟨n - 1, by omega⟩
 exact hM
theorem Sl.old {w : adV} {v : adW} {l : List adW} (h : Sl w v l) : ¬ wB v (fun b => w.heap.size <= b) := by
 obtain ⟨a, n, c, rfl, hn, hc, h⟩ := h
 unfold wB
 split
 .rename_i x m _ e
  obtain ⟨rfl, rfl, rfl⟩ : a = some x /\ n = m + 1 /\ c = _ := by simpa using e
  obtain ⟨b, off, e, h2⟩ := h (by omega)
  have e := abG e; subst e
  have h1 := h2 0 (by omega)
  obtain ⟨v, hv⟩ : ∃ v, l[0]? = some v := ⟨l[0], by simp⟩
  rw [hv] at h1
  have := World.block_lt_of_cell? _ _ h1
  simp at this ⊢; omega
 .simp
def oY (x : UInt8) : adW := .int .u8 x.toNat
abbrev Bs (w : adV) (v : adW) (l : List UInt8) : Prop := Sl w v (l.map oY)
theorem Cd (b o n : Nat) : (⟨b, o, none⟩ : Addr).add n = ⟨b, o + n, none⟩ := by
 unfold Addr.add; split
 .rename_i h; subst h; rfl
 .rfl
section
variable {P : Program} {w : adV} {t e : TypeId} {k : IntKind} {a : Int}
theorem MB {inf : TypeInfo} {sz : Nat} (hz : inf.size = sz) (hu : P.underlying t = some (.slice e)) (hi : P.info? e = some inf) (b o n c : Nat) (h0 : 0 <= a) (h1 : a < n) :
 (iJ t (.slice (some ⟨b, o, none⟩) n c) (.int k a)).run P w = .ok (.value (.pointer (some ⟨b, o + a.toNat * sz, none⟩))) w := by
 rw [R9 hu hi _ n c h0 h1, Cd, hz]
theorem Mk {inf : TypeInfo} (hz : inf.size = 1) (hu : P.underlying t = some (.slice e)) (hi : P.info? e = some inf) (b o n c : Nat) (h0 : 0 <= a) (h1 : a < n) :
 (iJ t (.slice (some ⟨b, o, none⟩) n c) (.int k a)).run P w = .ok (.value (.pointer (some ⟨b, o + a.toNat, none⟩))) w := by
 rw [R9 hu hi _ n c h0 h1, Cd, hz, abV]
theorem JI {inf : TypeInfo} {len : Nat} (hz : inf.size = 1) (hu : P.underlying t = some (.array len e)) (hi : P.info? e = some inf) (b o : Nat) (h0 : 0 <= a) (h1 : a < (len : Int)) :
 (iJ t (.pointer (some ⟨b, o, none⟩)) (.int k a)).run P w = .ok (.value (.pointer (some ⟨b, o + a.toNat, none⟩))) w := by
 rw [VT hu hi _ h0 h1, Cd, hz, abV]
end
section
variable {P : Program} {w : adV} {s d e : TypeId}
theorem Wf (hs : P.underlying s = some (.slice e)) (hd : P.underlying d = some .string) (he : P.underlying e = some (.int .u8)) {l : List UInt8} {v : adW} (h : Bs w v l) :
 (kX s d v).run P w = .ok (.value (.string ⟨l.toArray⟩)) w := by
 obtain ⟨a, n, c, rfl, hn, hc, h⟩ := h
 simp only [ZZ] at hn
 unfold kX
 rw [mU]
 have key : (convert s d (.slice a n c)).run P w = .ok (.string ⟨l.toArray⟩) w := by
  cases a with
  | none =>
    have hl : l = [] := by
     cases l with
     | nil => rfl
     | cons x l => obtain ⟨b, off, e, _⟩ := h (by rw [hn]; simp); cases e
    subst hl
    rw [run_convert_bytes_string w s d e none n c hs he hd]
    rfl
  | some x =>
    subst hn
    refine run_convert_bytes_back w s d e x c l hs he hd fun j hj => ?_
    obtain ⟨b, off, hx, h2⟩ := h (by omega)
    have hx := abG hx
    subst hx
    rw [Cd, h2 j hj]
    simp [oY, hj]
 rw [key] <;> rfl
end
theorem Fx (l : List UInt8) : ∀ x ∈ l.map oY, one x = true := by
 intro x hx
 obtain ⟨c, _, rfl⟩ := aaY.1 hx
 rfl
theorem Ut {b o m l sz : Nat} (h : l ≠ m) : Ci ⟨b, o, none⟩ m l sz = ⟨b, o + l * sz, none⟩ := by
 unfold Ci; rw [if_neg (fun e => h e.symm), Cd]
theorem KV {b o m l : Nat} (h : l ≠ m) : Ci ⟨b, o, none⟩ m l 1 = ⟨b, o + l, none⟩ := by rw [Ut h, abV]
theorem Sl.drop {w : adV} {b o n c : Nat} {l : List adW} (h : Sl w (.slice (some ⟨b, o, none⟩) n c) l) {k : Nat} (hk : k <= n) :
 Sl w (.slice (jO (some ⟨b, o, none⟩) c k 1) (n - k) (c - k)) (l.drop k) := by
 obtain ⟨x, m, c', e, hm, hc, hh⟩ := h
 cases e
 refine ⟨_, _, _, rfl, by rw [Z9]; omega, by omega, fun h0 => ?_⟩
 obtain ⟨b', o', e, h2⟩ := hh (by omega)
 cases e
 have hne : ¬ c = k := by omega
 refine ⟨b, o + k, by unfold jO; rw [if_neg hne, aaX, Cd, abV], fun i hi => ?_⟩
 rw [acI, h2 (k + i) (by omega), acK]
theorem Sl.take {w : adV} {b o n c : Nat} {l : List adW} (h : Sl w (.slice (some ⟨b, o, none⟩) n c) l) {k : Nat} (hk : k <= n) :
 Sl w (.slice (jO (some ⟨b, o, none⟩) c 0 1) (k - 0) (c - 0)) (l.take k) := by
 obtain ⟨x, m, c', e, hm, hc, hh⟩ := h
 cases e
 refine ⟨_, _, _, rfl, by rw [aaB]; omega, by omega, fun h0 => ?_⟩
 obtain ⟨b', o', e, h2⟩ := hh (by omega)
 cases e
 have hne : ¬ c = 0 := by omega
 refine ⟨b, o, by unfold jO; rw [if_neg hne, aaX, Cd] <;> rfl, fun i hi => ?_⟩
 rw [h2 i (by omega), abR (by omega)]
theorem Us {b o n c k : Nat} {M : Nat -> Prop} (h : ¬ wB (.slice (some ⟨b, o, none⟩) n c) M) (hn : 0 < n) (m : Nat) : ¬ wB (.slice (jO (some ⟨b, o, none⟩) c k 1) m (c - k)) M := by
 have hb : ¬ M b := by
  obtain ⟨n', rfl⟩ : ∃ n', n = n' + 1 := ⟨n - 1, by omega⟩
  exact h
 unfold wB jO
 split
 .rename_i x q _ e
  simp only [Value.slice.injEq] at e
  obtain ⟨e, _, _⟩ := e
  split at e
  .cases e; exact hb
  .rw [aaX, Cd] at e; cases e; exact hb
 .simp
theorem jG.bs {w : adV} {b off c : Nat} {cs : List adW} {l : List UInt8} (h : jG w b cs) (hc : l.length <= c) (hl : ∀ i (hi : i < l.length), cs[off + i]? = some (oY l[i])) : Bs w (.slice (some ⟨b, off, none⟩) l.length c) l :=
 ⟨_, _, _, rfl, by simp, hc, fun _ => ⟨b, off, rfl, fun i hi => by rw [h.cell, hl i hi]; simp [hi]⟩⟩
section
variable {P : Program} {w : adV} {t e : TypeId} {k : IntKind} {a : Int}
theorem Ys {len : Nat} {d : TypeDesc} {i : TypeInfo} (hu : P.underlying t = some (.array len e)) (hd : P.underlying e = some d) (ha : Qz d = false) (hi : P.info? e = some i) (h1 : i.size = 1)
 (cs : Array adW) (h0 : 0 <= a) (hl : a < (len : Int)) {v : adW} (hv : cs[a.toNat]? = some v) : (Ua t (.agg cs) (.int k a)).run P w = .ok (.value v) w := by
 unfold Ua
 rw [mU]
 simp only [Instr.index, asIntOf, pure_bind, underlying, hu, Sem.run_bind, run_program, Result.andThen_ok, Sem.run_pure, h0, hl, and_self, if_true, kA hi, h1, abV, part, CU hd, ha, ZS, if_false, hv]
def YE (P : Program) (t : TypeId) (cs : Array adW) (k : IntKind) (a : Int) (w : adV) : Result Next := (Ua t (.agg cs) (.int k a)).run P w
theorem X8 {len : Nat} {d : TypeDesc} {i : TypeInfo} (hu : P.underlying t = some (.array len e)) (hd : P.underlying e = some d) (ha : Qz d = false) (hi : P.info? e = some i) (h1 : i.size = 1)
 (cs : Array adW) (h0 : 0 <= a) (hl : a < (len : Int)) : (Ua t (.agg cs) (.int k a)).run P w = NZ cs[a.toNat]? w (YE P t cs k a w) := by
 cases hv : cs[a.toNat]? with
 | none => rfl
 | some v => exact Ys hu hd ha hi h1 cs h0 hl hv
theorem LW {b off : Nat} {l : List adW} (h : ∀ i, i < l.length -> w.cell? ⟨b, off + i, none⟩ = l[i]?) (n : Nat) (hn : n <= l.length) :
 (loadCells ⟨b, off, none⟩ n).run P w = .ok (l.take n).toArray w := by
 have key : ∀ (m i : Nat) (acc : Array adW), i + m <= l.length -> (loadCellsFrom ⟨b, off, none⟩ i m acc).run P w = .ok (acc ++ ((l.drop i).take m).toArray) w := by
  intro m
  induction m with
  | zero => intro i acc _; simp [loadCellsFrom]
  | succ m ih =>
    intro i acc hm
    have hc := h i (by omega)
    rw [Z0 (by omega)] at hc
    simp only [loadCellsFrom, Sem.run_bind, run_load, Cd, hc, Result.andThen_ok]
    rw [ih (i + 1) _ (by omega), adB (by omega : i < l.length), List.take_succ_cons]
    simp
 unfold loadCells
 rw [key n 0 #[] (by omega)]
 simp
theorem PD {sz n : Nat} {v : adW} {l : List adW} (h1 : sz = 1) (h : Sl w v l) (hn : n <= l.length) : (Builtin.firstCells sz n v).run P w = .ok (l.take n).toArray w := by
 subst h1
 obtain ⟨x, m, c, rfl, hm, hc, hh⟩ := h
 cases x with
 | none =>
   have : l = [] := by
    cases l with
    | nil => rfl
    | cons y l => obtain ⟨b, off, e, _⟩ := hh (by rw [hm]; simp); cases e
   subst this
   simp [Builtin.firstCells]
 | some x =>
   simp only [Builtin.firstCells, abV]
   by_cases h0 : 0 < m
   .obtain ⟨b, off, e, h2⟩ := hh h0
    have e := abG e; subst e
    exact LW (fun i hi => h2 i (by omega)) n hn
   .have h00 : n = 0 := by omega
    subst h00
    simp [loadCells, loadCellsFrom]
theorem Yq {v : adW} {l : List adW} (h : Sl w v l) : (Builtin.lenOf v).run P w = .ok l.length w := by
 obtain ⟨x, m, c, rfl, hm, hc, hh⟩ := h
 simp [Builtin.lenOf, hm]
theorem Q2 {ty t2 : TypeId} {i : TypeInfo} (hu : P.underlying t = some (.slice e)) (hi : P.info? e = some i) (h1 : i.size = 1) {b off dl c : Nat} {cs : List adW} (ho : jG w b cs) (hl : off + dl <= cs.length)
 {v : adW} {l : List adW} (h : Sl w v l) (hv : ∀ x ∈ l, one x = true) {K : adW -> adV -> Prop}
 (hk : ∀ w', jG w' b (mZ cs off (l.take (min l.length dl))) -> gX w w' (fun x => x = b) -> w'.heap.size = w.heap.size -> K (.int .i64 (min l.length dl : Nat)) w') :
 eY P (nG .copy #[t, t2] ty [.slice (some ⟨b, off, none⟩) dl c, v]) w K := by
 have hlen : (l.take (min l.length dl)).length = min l.length dl := by rw [aaB]; omega
 obtain ⟨w', s1, s2, s3, s4, _⟩ := DC (P := P) (M := fun x => x = b) rfl (l.take (min l.length dl)) w off 0 cs ho (by rw [hlen]; omega) (fun x hx => hv x (adP hx))
 have : (nG .copy #[t, t2] ty [.slice (some ⟨b, off, none⟩) dl c, v]).run P w = .ok (.value (.int .i64 (min l.length dl : Nat))) w' := by
  unfold nG builtin
  simp only [Builtin.copy_, abP, ZQ, ZR]
  simp only [underlying, Sem.run_bind, run_program, Result.andThen_ok, hu, Sem.run_pure, Yq h, kA hi, h1]
  have := PD (P := P) (n := min l.length dl) rfl h (Nat.min_le_left _ _)
  rw [show (Nat.min l.length dl) = min l.length dl from rfl, this]
  simp only [Result.andThen_ok, s1, goInt]
 unfold eY
 rw [this]
 exact hk w' (by simpa using s2) s3 s4
theorem RA {i : TypeInfo} {z : adW} (hu : P.underlying t = some (.slice e)) (hi : P.info? e = some i) (h1 : i.size = 1) (hz : i.zero = some z) (hz1 : one z = true) {n : Int} (h0 : 0 <= n) (hn : i.bytes * n <= 2 ^ 48) (hn2 : n <= 9223372036854775807)
 {K : adW -> adV -> Prop}
 (hk : ∀ w', jG w' w.heap.size (List.replicate n.toNat z) -> gX w w' jK -> w'.heap.size = w.heap.size + 1 -> K (.slice (some ⟨w.heap.size, 0, none⟩) n.toNat n.toNat) w') :
 eY P (wP t (.int k n) (.int k n)) w K := by
 have hw : IntKind.i64.wrap n = n := fK (by omega) hn2
 have hcells : z.cells = #[z] := Qb hz1
 have harr : (Array.range n.toNat).map (fun j => (#[z] : Array adW)[j % (#[z] : Array adW).size]!) = (List.replicate n.toNat z).toArray := by
  apply Array.ext
  .simp
  .intro j h1 h2; simp [Nat.mod_one]
 have hz' : (zeroValue e).run P w = .ok z w := by simp [zeroValue, typeInfo, hi, hz]
 have : (wP t (.int k n) (.int k n)).run P w = .ok (.value (.slice (some ⟨w.heap.size, 0, none⟩) n.toNat n.toNat)) (w.alloc (.cells (List.replicate n.toNat z).toArray e)) := by
  unfold wP
  rw [mU]
  have t1 : (decide (n < 0) || decide ((i.bytes : Int) * n > 2 ^ 48) || decide (n < 0) || decide (n > n)) = false := by
   simp only [acT, decide_eq_false_iff_not]; omega
  by_cases hn0 : n.toNat = 0
  .simp only [Instr.makeSlice, underlying, typeInfo, asInt, asIntOf, pure_bind, Sem.run_bind, run_program, Result.andThen_ok, hu, hi, Sem.run_pure, hw, t1, ZS, if_false, run_askRoom, kA hi, h1, abV, hn0, if_true, newRow, run_newObj]
   have : (Array.range 0).map (fun x => (#[] : Array adW)[x % (#[] : Array adW).size]!) = (List.replicate 0 z).toArray := by simp
   rw [this]
   rfl
  .simp only [Instr.makeSlice, underlying, typeInfo, asInt, asIntOf, pure_bind, Sem.run_bind, run_program, Result.andThen_ok, hu, hi, Sem.run_pure, hw, t1, ZS, if_false, run_askRoom, kA hi, h1, abV, hn0, hz', hcells, newRow, run_newObj, harr]
   rfl
 unfold eY
 rw [this]
 exact hk _ (jG.alloc _ _ _) (gX.alloc _ _ _) (by simp)
end
def Cl (w : adV) (sz : Nat) (v : adW) (n : Nat) (l : List adW) : Prop :=
 ∃ a c, v = .slice a n c /\ l.length = n * sz /\ (0 < n -> ∃ b off, a = some ⟨b, off, none⟩ /\ ∀ i, i < l.length -> w.cell? ⟨b, off + i, none⟩ = l[i]?)
def zH (w : adV) (base sz : Nat) (v : adW) (n : Nat) (l : List adW) : Prop :=
 l.length = n * sz /\ ((v = .slice none 0 0 /\ n = 0) ∨
   ∃ b c rest, v = .slice (some ⟨b, 0, none⟩) n c /\ base <= b /\ jG w b (l ++ rest) /\ (l ++ rest).length = c * sz /\ n <= c)
def IB (w : adV) (S : Nat -> Prop) (sz : Nat) (v : adW) (n : Nat) (l : List adW) : Prop :=
 l.length = n * sz /\ ((v = .slice none 0 0 /\ n = 0) ∨
   ∃ b c rest, v = .slice (some ⟨b, 0, none⟩) n c /\ S b /\ jG w b (l ++ rest) /\ (l ++ rest).length = c * sz /\ n <= c)
theorem Sl.cl {w : adV} {v : adW} {l : List adW} (h : Sl w v l) : Cl w 1 v l.length l := by
 obtain ⟨a, n, c, rfl, rfl, hc, h⟩ := h
 exact ⟨a, c, rfl, by omega, fun h0 => h h0⟩
theorem jG.cl {w : adV} {b sz n c off : Nat} {cs l : List adW} (h : jG w b cs) (hl : l.length = n * sz) (hcs : ∀ i, i < l.length -> cs[off + i]? = l[i]?) : Cl w sz (.slice (some ⟨b, off, none⟩) n c) n l :=
 ⟨_, _, rfl, hl, fun _ => ⟨b, off, rfl, fun i hi => by rw [h.cell, hcs i hi]⟩⟩
theorem zH.nil (w : adV) (base sz : Nat) : zH w base sz (.slice none 0 0) 0 [] := ⟨by simp, .inl ⟨rfl, rfl⟩⟩
theorem zH.ext {w w' : adV} {base sz n : Nat} {v : adW} {l : List adW} {M : Nat -> Prop} (h : zH w base sz v n l) (hx : gX w w' M) (hM : ∀ b, base <= b -> ¬ M b) : zH w' base sz v n l := by
 refine ⟨h.1, ?_⟩
 rcases h.2 with h2 | ⟨b, c, rest, h1, h2, h3, h4, h5⟩
 .exact .inl h2
 .exact .inr ⟨b, c, rest, h1, h2, h3.ext hx (hM b h2), h4, h5⟩
theorem zH.cl {w : adV} {base sz n : Nat} {v : adW} {l : List adW} (h : zH w base sz v n l) : Cl w sz v n l := by
 rcases h.2 with ⟨rfl, rfl⟩ | ⟨b, c, rest, rfl, h2, h3, h4, h5⟩
 .exact ⟨_, _, rfl, h.1, fun h => by omega⟩
 .refine ⟨_, _, rfl, h.1, fun _ => ⟨b, 0, rfl, fun i hi => ?_⟩⟩
  rw [h3.cell, ZY, aaO hi]
theorem zH.sl {w : adV} {base n : Nat} {v : adW} {l : List adW} (h : zH w base 1 v n l) : Sl w v l := by
 have hl := h.1
 rcases h.2 with ⟨rfl, rfl⟩ | ⟨b, c, rest, rfl, h2, h3, h4, h5⟩
 .exact ⟨_, _, _, rfl, by omega, by omega, fun h => by omega⟩
 .refine ⟨_, _, _, rfl, by omega, h5, fun _ => ⟨b, 0, rfl, fun i hi => ?_⟩⟩
  rw [h3.cell, ZY, aaO (by omega)]
section
variable {P : Program} {w : adV} {t e : TypeId}
theorem LS {b off : Nat} {l : List adW} (h : ∀ i, i < l.length -> w.cell? ⟨b, off + i, none⟩ = l[i]?) : (loadCells ⟨b, off, none⟩ l.length).run P w = .ok l.toArray w := by
 have := LW (P := P) h l.length (Z8 _)
 rwa [List.take_length] at this
theorem Bz {sz n : Nat} {v : adW} {l : List adW} (h : Cl w sz v n l) : (Builtin.firstCells sz n v).run P w = .ok l.toArray w := by
 obtain ⟨x, c, rfl, hl, hh⟩ := h
 cases x with
 | none =>
   have : n = 0 := by
    rcases Nat.eq_zero_or_pos n with h | h
    .exact h
    .obtain ⟨b, off, e, _⟩ := hh h; cases e
   subst this
   have : l = [] := aaG.1 (by omega)
   subst this
   simp [Builtin.firstCells]
 | some x =>
   simp only [Builtin.firstCells]
   rw [<- hl]
   by_cases h0 : 0 < n
   .obtain ⟨b, off, e, h2⟩ := hh h0
    have e := abG e; subst e
    exact LS h2
   .have : n = 0 := by omega
    subst this
    have : l = [] := aaG.1 (by omega)
    subst this
    simp [loadCells, loadCellsFrom]
theorem GF (zs : Array adW) (n : Nat) : (Builtin.zeroCells zs n).size = n * zs.size := by simp [Builtin.zeroCells]
theorem oL (vs : List adW) : ∀ (ZP rest : List adW), vs.length <= rest.length -> mZ (ZP ++ rest) ZP.length vs = ZP ++ vs ++ rest.drop vs.length := by
 induction vs with
 | nil => intro ZP rest _; simp [mZ]
 | cons v vs ih =>
   intro ZP rest h
   cases rest with
   | nil => simp at h
   | cons r rest =>
     have := ih (ZP ++ [v]) rest (by simpa using h)
     simp only [mZ, Z1, aaK, abO, aaH, acV, aaF] at this ⊢
     rw [List.drop_succ_cons, <- this, abQ _ _ (Z8 _), adQ, aaD, ZY]
theorem Rz {S : Nat -> Prop} {sz n m : Nat} {i : TypeInfo} {z : adW} {ty t2 e2 : TypeId} (hu : P.underlying t = some (.slice e)) (hu2 : P.underlying t2 = some (.slice e2)) (hi : P.info? e = some i) (hsz : i.size = sz) (hz : i.zero = some z) (hzs : z.cells.size = sz)
 {v x : adW} {l news : List adW} (h : IB w S sz v n l) (hx : Cl w sz x m news) (hone : ∀ y ∈ news, one y = true) (hb : ∀ b, w.heap.size <= b -> S b)
 (hn : n + m <= 9223372036854775807) (hbytes : (n + m) * i.bytes <= 140737488355328) (_hpos : i.bytes ≠ 0)
 {K : adW -> adV -> Prop} (hk : ∀ v' w', IB w' S sz v' (n + m) (l ++ news) -> gX w w' S -> Cl w' sz v n l -> K v' w') : eY P (nG .append #[t, t2] ty [v, x]) w K := by
 have hlx : (Builtin.lenOf x).run P w = .ok m w := by
  obtain ⟨a, c, rfl, _⟩ := hx; simp [Builtin.lenOf]
 have hnl := hx.choose_spec.choose_spec.2.1
 have hfx := Bz (P := P) hx
 have hmax : IntKind.i64.max = 9223372036854775807 := by decide
 have hnot : ¬ (((n + m : Nat) : Int) > IntKind.i64.max /\ (False ∨ i.bytes = 0)) := by rw [hmax]; omega
 have hz' : ∀ w, (zeroValue e).run P w = .ok z w := fun w => by simp [zeroValue, typeInfo, hi, hz]
 have hlen := h.1
 rcases h.2 with ⟨rfl, rfl⟩ | ⟨b, c, rest, rfl, h2, h3, h4, h5⟩
 .
  have hl0 : l = [] := aaG.1 (by omega)
  subst hl0
  by_cases hm : m = 0
  .subst hm
   have hn0 : news = [] := aaG.1 (by omega)
   subst hn0
   have : (nG .append #[t, t2] ty [.slice none 0 0, x]).run P w = .ok (.value (.slice none 0 0)) w := by
    unfold nG builtin
    simp only [Builtin.append_, abP, ZQ, ZR]
    simp only [underlying, Sem.run_bind, run_program, Result.andThen_ok, hu, hu2, Sem.run_pure, kA hi, hsz, ZS, if_false, hlx, Z8, Nat.add_zero, if_true, ZW, hfx]
   unfold eY
   rw [this]
   exact hk _ _ ⟨by simp, .inl ⟨rfl, by omega⟩⟩ (gX.refl _ _) ⟨none, 0, rfl, hlen, fun h => absurd h (by omega)⟩
  .have hfit := growslice_fits (need := 0 + m) (old := 0) (bytes := i.bytes) (by omega) (by omega)
   have hfit' : ¬ (Builtin.nextslicecap (0 + m) 0 * i.bytes > 2 ^ 48) := by omega
   have hle : ¬ (0 + m <= 0) := by omega
   have hq : (Question.appendCap (0 + m) 0 e).forced = false := rfl
   obtain ⟨r, hr⟩ : ∃ r, (Question.appendCap (0 + m) 0 e).cut (w.tape w.drawn (.appendCap (0 + m) 0 e)) = m + r :=
    ⟨(w.tape w.drawn (.appendCap (0 + m) 0 e)) % (2 ^ 63 - (0 + m)), by simp only [Question.cut]; omega⟩
   have : (nG .append #[t, t2] ty [.slice none 0 0, x]).run P w = .ok (.value (.slice (some ⟨w.heap.size, 0, none⟩) (0 + m) (m + r))) ((dr w).alloc (.cells (news ++ (Builtin.zeroCells z.cells (m + r - (0 + m))).toList).toArray e)) := by
    have hfx' := Bz (P := P) (w := dr w) hx
    unfold nG builtin
    simp only [Builtin.append_, abP, ZQ, ZR]
    simp only [underlying, typeInfo, Sem.run_bind, run_program, Result.andThen_ok, hu, hu2, hi, Sem.run_pure, kA hi, hsz, ZS, if_false, hlx, hle, ZW, if_true, hnot, hfit', run_choose, hq, hr, run_askRoom]
    change ((Sem.run P _ (dr w)).andThen _).andThen _ = _
    simp only [Sem.run_bind, hfx', run_firstCells_none, Result.andThen_ok, hz', Sem.run_pure, newRow, run_newObj]
    have e1 : (#[] ++ news.toArray ++ Builtin.zeroCells z.cells (m + r - (0 + m)) : Array adW) = (news ++ (Builtin.zeroCells z.cells (m + r - (0 + m))).toList).toArray := by
     apply Array.ext'; simp
    rw [e1]
    rfl
   unfold eY
   rw [this]
   refine hk _ _ ⟨by simp only [aaF]; rw [hnl, ZY], .inr ⟨w.heap.size, m + r, (Builtin.zeroCells z.cells (m + r - (0 + m))).toList, by rw [ZY], hb _ (Z8 _), jG.alloc (dr w) _ _, ?_, by omega⟩⟩ ((gX.dr w _).seq (gX.alloc _ _ _)) ⟨none, 0, rfl, hlen, fun h => absurd h (by omega)⟩
   simp only [aaF, Z1, Array.length_toList, GF, hzs, hnl]
   rw [show m + r - (0 + m) = r from by omega, adG]
 .by_cases hc : n + m <= c
  .
   have hroom : news.length <= rest.length := by
    rw [Z1, hlen] at h4
    have : (n + m) * sz <= c * sz := Nat.mul_le_mul_right _ hc
    rw [adG] at this; omega
   obtain ⟨w', s1, s2, s3, s4, _⟩ := DC (P := P) (M := S) h2 news w (n * sz) 0 (l ++ rest) h3 (by rw [Z1, hlen]; omega) hone
   have : (nG .append #[t, t2] ty [.slice (some ⟨b, 0, none⟩) n c, x]).run P w = .ok (.value (.slice (some ⟨b, 0, none⟩) (n + m) c)) w' := by
    unfold nG builtin
    simp only [Builtin.append_, abP, ZQ, ZR]
    simp only [underlying, Sem.run_bind, run_program, Result.andThen_ok, hu, hu2, Sem.run_pure, kA hi, hsz, ZS, if_false, hlx, hc, if_true, ZW, hfx, Cd, ZY, s1]
   unfold eY
   rw [this]
   rw [Nat.add_zero, <- hlen, oL _ _ _ hroom] at s2
   refine hk _ _ ⟨by rw [Z1, hlen, hnl, adG], .inr ⟨b, c, rest.drop news.length, rfl, h2, s2, ?_, hc⟩⟩ s3 ⟨_, _, rfl, hlen, fun _ => ⟨b, 0, rfl, fun i hi => by
    rw [s2.cell, ZY, aaH, aaO hi]⟩⟩
   rw [<- h4]; simp; omega
  .
   have hfit := growslice_fits (need := n + m) (old := c) (bytes := i.bytes) (by omega) hbytes
   have hfit' : ¬ (Builtin.nextslicecap (n + m) c * i.bytes > 2 ^ 48) := by omega
   have hq : (Question.appendCap (n + m) c e).forced = false := rfl
   obtain ⟨r, hr⟩ : ∃ r, (Question.appendCap (n + m) c e).cut (w.tape w.drawn (.appendCap (n + m) c e)) = n + m + r :=
    ⟨(w.tape w.drawn (.appendCap (n + m) c e)) % (2 ^ 63 - (n + m)), by simp only [Question.cut]⟩
   have hold : Cl (dr w) sz (.slice (some ⟨b, 0, none⟩) n c) n l := ⟨_, _, rfl, hlen, fun _ => ⟨b, 0, rfl, fun i hi => by
    show w.cell? _ = _
    rw [h3.cell, ZY, aaO hi]⟩⟩
   have : (nG .append #[t, t2] ty [.slice (some ⟨b, 0, none⟩) n c, x]).run P w = .ok (.value (.slice (some ⟨w.heap.size, 0, none⟩) (n + m) (n + m + r))) ((dr w).alloc (.cells (l ++ news ++ (Builtin.zeroCells z.cells (n + m + r - (n + m))).toList).toArray e)) := by
    have hfx' := Bz (P := P) (w := dr w) hx
    have hfo := Bz (P := P) hold
    unfold nG builtin
    simp only [Builtin.append_, abP, ZQ, ZR]
    simp only [underlying, typeInfo, Sem.run_bind, run_program, Result.andThen_ok, hu, hu2, hi, Sem.run_pure, kA hi, hsz, ZS, if_false, hlx, hc, ZW, if_true, hnot, hfit', run_choose, hq, hr, run_askRoom]
    change ((Sem.run P _ (dr w)).andThen _).andThen _ = _
    simp only [Sem.run_bind, hfx', hfo, Result.andThen_ok, hz', Sem.run_pure, newRow, run_newObj]
    have e1 : (l.toArray ++ news.toArray ++ Builtin.zeroCells z.cells (n + m + r - (n + m)) : Array adW) = (l ++ news ++ (Builtin.zeroCells z.cells (n + m + r - (n + m))).toList).toArray := by
     apply Array.ext'; simp
    rw [e1]
    rfl
   unfold eY
   rw [this]
   refine hk _ _ ⟨by rw [Z1, hlen, hnl, adG], .inr ⟨w.heap.size, n + m + r, _, rfl, hb _ (Z8 _), jG.alloc (dr w) _ _, ?_, by omega⟩⟩ ((gX.dr w _).seq (gX.alloc _ _ _)) ⟨_, _, rfl, hlen, fun _ => ⟨b, 0, rfl, fun i hi => by
    have o9 := h3.ext ((gX.dr w jK).seq (gX.alloc (dr w) (.cells (l ++ news ++ (Builtin.zeroCells z.cells (n + m + r - (n + m))).toList).toArray e) jK)) (fun h => h)
    rw [o9.cell, ZY, aaO hi]⟩⟩
   simp only [Z1, Array.length_toList, GF, hzs, hnl, hlen]
   rw [show n + m + r - (n + m) = r from by omega, adG, adG]
theorem EI {S : Nat -> Prop} {sz n m : Nat} {i : TypeInfo} {z : adW} {ty t2 e2 : TypeId} (hu : P.underlying t = some (.slice e)) (hu2 : P.underlying t2 = some (.slice e2)) (hi : P.info? e = some i) (hsz : i.size = sz) (hz : i.zero = some z) (hzs : z.cells.size = sz)
 {v x : adW} {l news : List adW} (h : IB w S sz v n l) (hx : Cl w sz x m news) (hone : ∀ y ∈ news, one y = true) (hb : ∀ b, w.heap.size <= b -> S b)
 (hn : n + m <= 9223372036854775807) (hbytes : (n + m) * i.bytes <= 140737488355328) (_hpos : i.bytes ≠ 0)
 {K : adW -> adV -> Prop} (hk : ∀ v' w', IB w' S sz v' (n + m) (l ++ news) -> gX w w' S -> K v' w') : eY P (nG .append #[t, t2] ty [v, x]) w K :=
 Rz hu hu2 hi hsz hz hzs h hx hone hb hn hbytes _hpos fun v' w' a b _ => hk v' w' a b
theorem KG {base sz n m : Nat} {i : TypeInfo} {z : adW} {ty t2 e2 : TypeId} (hu : P.underlying t = some (.slice e)) (hu2 : P.underlying t2 = some (.slice e2)) (hi : P.info? e = some i) (hsz : i.size = sz) (hz : i.zero = some z) (hzs : z.cells.size = sz)
 {v x : adW} {l news : List adW} (h : zH w base sz v n l) (hx : Cl w sz x m news) (hone : ∀ y ∈ news, one y = true) (hb : base <= w.heap.size)
 (hn : n + m <= 9223372036854775807) (hbytes : (n + m) * i.bytes <= 140737488355328) (_hpos : i.bytes ≠ 0)
 {K : adW -> adV -> Prop} (hk : ∀ v' w', zH w' base sz v' (n + m) (l ++ news) -> gX w w' (fun y => base <= y) -> K v' w') : eY P (nG .append #[t, t2] ty [v, x]) w K :=
 EI (S := fun y => base <= y) hu hu2 hi hsz hz hzs h hx hone (fun _ h => acR hb h) hn hbytes _hpos hk
end
section
variable {P : Program} {w : adV} {t e : TypeId}
theorem DL {i : TypeInfo} {z : adW} {n : Nat} {ps : List (Nat × adW)} {cells : Array adW} (hu : P.underlying t = some (.slice e)) (hi : P.info? e = some i) (hz : i.zero = some z)
 (h1 : ¬ n * i.size > 2 ^ 24) (h0 : ¬ n * i.size = 0) (hf : Instr.fill (fun j => some (j * i.size, i.size)) ((Array.range (n * i.size)).map (z.cells[· % z.cells.size]!)) ps = some cells)
 {K : adW -> adV -> Prop} (hk : ∀ w', jG w' w.heap.size cells.toList -> gX w w' jK -> w'.heap.size = w.heap.size + 1 -> K (.slice (some ⟨w.heap.size, 0, none⟩) n n) w') :
 eY P (iF t n ps) w K := by
 have hz' : (zeroValue e).run P w = .ok z w := by simp [zeroValue, typeInfo, hi, hz]
 have : (iF t n ps).run P w = .ok (.value (.slice (some ⟨w.heap.size, 0, none⟩) n n)) (w.alloc (.cells cells.toList.toArray e)) := by
  unfold iF; rw [mU]
  simp only [Instr.buildSlice, underlying, pure_bind, Sem.run_bind, run_program, Result.andThen_ok, hu, Sem.run_pure, kA hi, h1, h0, if_false, hz', hf, newRow, run_newObj]
  rfl
 unfold eY
 rw [this]
 exact hk _ (jG.alloc _ _ _) (gX.alloc _ _ _) (by simp)
theorem jG.mark {b : Nat} {cs : List adW} (h : jG w b cs) : jG (w.freeze ⟨b, cs.length, none⟩ 1) b cs := by
 have hb := h.lt
 obtain ⟨T, lo, hi, h, k⟩ := h
 by_cases hlh : (lo == hi) = true
 .refine ⟨T, cs.length, cs.length + 1, ?_, .inl (Z8 _)⟩
  show (w.heap.modify b _)[b]? = _
  rw [abZ, if_pos rfl, h]
  have hlh : lo = hi := by simpa using hlh
  simp [hlh]
 .refine ⟨T, min lo cs.length, max hi (cs.length + 1), ?_, .inl ?_⟩
  .show (w.heap.modify b _)[b]? = _
   rw [abZ, if_pos rfl, h]
   have hlh : ¬ lo = hi := by simpa using hlh
   simp [hlh]
  .rcases k with k | k
   .omega
   .exfalso; apply hlh; rw [k]; simp
theorem gX.mark (w : adV) (a : Addr) : gX w (w.freeze a 1) (fun y => y = a.block) :=
 ⟨rfl, rfl, rfl, by show _ <= (w.heap.modify _ _).size; simp, fun b hb hn => by
  show (w.heap.modify a.block _)[b]? = _
  rw [abZ]
  rw [if_neg (fun h => hn h.symm)]⟩
theorem Wv (hu : P.underlying t = some (.slice e)) (he : P.underlying e = some (.int .u8)) {b off n c : Nat} {cs : List adW} (ho : jG w b cs)
 {K : adW -> adV -> Prop} (hk : ∀ w', jG w' b cs -> gX w w' (fun y => y = b) -> w'.heap.size = w.heap.size -> K (.slice (some ⟨b, off, none⟩) n c) w') :
 eY P (kX t t (.slice (some ⟨b, off, none⟩) n c)) w K := by
 obtain ⟨T, hs⟩ : ∃ T, w.shape? b = some (T, cs.length) := by
  obtain ⟨T, lo, hi, h, _⟩ := ho
  exact ⟨T, by unfold World.shape?; rw [h]; simp⟩
 have : (kX t t (.slice (some ⟨b, off, none⟩) n c)).run P w = .ok (.value (.slice (some ⟨b, off, none⟩) n c)) (w.freeze ⟨b, cs.length, none⟩ 1) := by
  unfold kX; rw [mU]
  simp [convert, underlying, hu, he, markStringish, shape, freeze, Sem.run, hs]
 unfold eY
 rw [this]
 exact hk _ ho.mark (gX.mark w _) (by show (w.heap.modify _ _).size = _; simp)
end
section
variable {P : Program} {w : adV} {t e : TypeId}
theorem RQ {d : TypeDesc} (he : P.underlying e = some d) (hd : Qz d = false) {cs : Array adW} {k : Nat} {v : adW} (h : cs[k]? = some v) : (part e cs k).run P w = .ok v w := by
 unfold part
 simp only [Sem.run_bind, CU he, hd, Result.andThen_ok, ZS, if_false, h, Sem.run_pure]
theorem WJ {a b : UInt8} : (((a.toNat : Int)) == (b.toNat : Int)) = decide (a = b) := by
 rw [Bool.eq_iff_iff]
 simp only [<- UInt8.toNat_inj, beq_iff_eq, decide_eq_true_eq]
 omega
theorem Sv {i : TypeInfo} (m n : Nat) (hu : P.underlying t = some (.array n e)) (he : P.underlying e = some (.int .u8)) (hi : P.info? e = some i) (h1 : i.size = 1) (l l' : List UInt8) (hl : l.length = n) (hl' : l'.length = n) :
 (Op.equalIn (m + 2) t (.agg (l.map oY).toArray) (.agg (l'.map oY).toArray)).run P w = .ok (decide (l = l')) w := by
 unfold Op.equalIn
 simp only [underlying, Sem.run_bind, run_program, Result.andThen_ok, hu, Sem.run_pure, kA hi, Std.Legacy.Range.forIn_eq_forIn_range', Std.Legacy.Range.size, Nat.sub_zero, Nat.add_one_sub_one, Nat.div_one, h1, abV]
 have key : ∀ (c k : Nat), k + c = n -> l.take k = l'.take k →
     ∃ r, (forIn (List.range' k c) (none, ()) fun (i : Nat) (_ : Option Bool × Unit) => (do
           let a <- part e (List.map oY l).toArray i
           let b <- part e (List.map oY l').toArray i
           let c <- Op.equalIn (m + 1) e a b
           if (!c) = true then pure (ForInStep.done (some false, ())) else pure (ForInStep.yield (none, ())) : Sem (ForInStep (Option Bool × Unit)))).run P w = .ok (r, ()) w /\ r.getD true = decide (l = l') := by
  intro c
  induction c with
  | zero =>
    intro k hk ht
    refine ⟨none, by simp, ?_⟩
    have : l = l' := by
     rw [Z3 (by omega), Z3 (by omega)] at ht; exact ht
    simp [this]
  | succ c ih =>
    intro k hk ht
    have g : ∀ (q : List UInt8) (h : k < q.length), (q.map oY).toArray[k]? = some (oY q[k]) := fun q h => by simp [h]
    have hv : (Op.equalIn (m + 1) e (oY (l[k]'(by omega))) (oY (l'[k]'(by omega)))).run P w = .ok (decide (l[k]'(by omega) = l'[k]'(by omega))) w := by
     unfold Op.equalIn oY
     simp only [underlying, Sem.run_bind, run_program, Result.andThen_ok, he, Sem.run_pure, if_true, WJ]
    rw [List.range'_succ]
    simp only [List.forIn_cons, Sem.run_bind, RQ he rfl (g l (by omega)), RQ he rfl (g l' (by omega)), Result.andThen_ok, hv]
    by_cases hx : l[k]'(by omega) = l'[k]'(by omega)
    .simp only [hx, decide_true, ZX, ZS, if_false, Sem.run_pure, Result.andThen_ok]
     refine ih (k + 1) (by omega) ?_
     rw [adD, adD, ht, Z0 (by omega), Z0 (by omega), hx]
    .simp only [hx, decide_false, ZW, if_true, Sem.run_pure, Result.andThen_ok]
     refine ⟨some false, rfl, ?_⟩
     have : l ≠ l' := fun h => hx (by subst h; rfl)
     simp [this]
 obtain ⟨r, h1, h2⟩ := key n 0 (by omega) (by simp)
 rw [h1, <- h2]
 cases r <;> simp
structure OV {κ : Type} [DecidableEq κ] (P : Program) (t : TypeId) (enc : κ -> adW) : Prop where
 eq : ∀ a b (w : adV), (Op.equal t (enc a) (enc b)).run P w = .ok (decide (a = b)) w
 now : ∃ d, P.underlying t = some d /\ ∀ a b, Instr.sameNow d (enc a) (enc b) = none ∨ Instr.sameNow d (enc a) (enc b) = some (decide (a = b))
 chk : ∀ (e : Bool) a (w : adV), (Instr.checkKey e 10000 t (enc a)).run P w = .ok () w
 stay : ∀ a, Instr.sameBits 10000 (enc a) (enc a) = true
def HD {κ : Type} [DecidableEq κ] (k : κ) : List (κ × adW) -> Option adW
 | [] => none
 | p :: r => if k = p.1 then some p.2 else HD k r
def Tl {κ : Type} [DecidableEq κ] (k : κ) (v : adW) : List (κ × adW) -> List (κ × adW)
 | [] => [(k, v)]
 | p :: r => if k = p.1 then (k, v) :: r else p :: Tl k v r
theorem WE {κ : Type} [DecidableEq κ] {k : κ} {v : adW} {l : List (κ × adW)} {p : κ × adW} (h : p ∈ Tl k v l) : p = (k, v) ∨ p ∈ l := by
 induction l with
 | nil => simp [Tl] at h; exact .inl h
 | cons q r ih =>
   simp only [Tl] at h
   split at h
   .rcases aaR.1 h with h | h
    .exact .inl h
    .exact .inr (Z7 _ h)
   .rcases aaR.1 h with h | h
    .exact .inr (h ▸ abH)
    .rcases ih h with h | h
     .exact .inl h
     .exact .inr (Z7 _ h)
def Grown (es : Array MapEntry) (clock : Nat) : Prop := (es.toList.map (·.born)).Pairwise (· < ·) /\ ∀ e ∈ es.toList, e.born < clock
def Mp {κ : Type} (w : adV) (m : Nat) (enc : κ -> adW) (l : List (κ × adW)) : Prop :=
 ∃ es clock, w.heap[m]? = some (.map es clock) /\ es.toList.map (fun e => (e.key, e.val)) = l.map (fun p => (enc p.1, p.2)) /\ Grown es clock /\ (l.map (·.1)).Nodup
theorem SZ {es : Array MapEntry} {c : Nat} (h : Grown es c) (k v : adW) : Grown (es.push ⟨k, v, c⟩) (c + 1) := by
 obtain ⟨h1, h2⟩ := h
 refine ⟨?_, ?_⟩
 .rw [Array.toList_push, abD, List.pairwise_append]
  refine ⟨h1, by simp, fun a ha b hb => ?_⟩
  simp at hb
  subst hb
  obtain ⟨e, he, rfl⟩ := aaY.1 ha
  exact h2 e he
 .intro e he
  rw [Array.toList_push] at he
  rcases abN.1 he with he | he
  .have := h2 e he; omega
  .simp at he; subst he; exact Nat.lt_succ_self c
theorem St {es es' : Array MapEntry} {c : Nat} (h : Grown es c) (he : es'.toList.map (·.born) = es.toList.map (·.born)) : Grown es' c := by
 refine ⟨by rw [he]; exact h.1, fun e h' => ?_⟩
 have : e.born ∈ es'.toList.map (·.born) := aaY.2 ⟨e, h', rfl⟩
 rw [he] at this
 obtain ⟨x, hx, hxe⟩ := aaY.1 this
 rw [<- hxe]; exact h.2 x hx
theorem RS {κ : Type} [DecidableEq κ] {k : κ} {v : adW} : ∀ {l : List (κ × adW)}, (l.map (·.1)).Nodup -> ((Tl k v l).map (·.1)).Nodup
 | [], _ => by simp [Tl]
 | p :: r, h => by
   simp only [Tl]
   have h' := h
   rw [Z6, acF] at h
   split
   .rename_i e
    rw [Z6, acF]
    exact ⟨fun hm => h.1 (e ▸ hm), h.2⟩
   .rename_i e
    rw [Z6, acF]
    refine ⟨fun hm => ?_, RS h.2⟩
    obtain ⟨q, hq, hqe⟩ := aaY.1 hm
    rcases WE hq with h1 | h1
    .rw [h1] at hqe; exact e hqe
    .exact h.1 (aaY.2 ⟨q, h1, hqe⟩)
theorem Mp.lt {κ : Type} {m : Nat} {enc : κ -> adW} {l : List (κ × adW)} (h : Mp w m enc l) : m < w.heap.size := by
 obtain ⟨es, c, h, _⟩ := h
 rcases abB m w.heap.size with h' | h'
 .exact h'
 .rw [aaL h'] at h; cases h
theorem Mp.ext {κ : Type} {w w' : adV} {m : Nat} {enc : κ -> adW} {l : List (κ × adW)} {M : Nat -> Prop} (h : Mp w m enc l) (hx : gX w w' M) (hM : ¬ M m) : Mp w' m enc l := by
 have := h.lt
 obtain ⟨es, c, h, k⟩ := h
 exact ⟨es, c, by rw [hx.keep m this hM]; exact h, k⟩
theorem Mp.dr {κ : Type} {w : adV} {m : Nat} {enc : κ -> adW} {l : List (κ × adW)} (h : Mp w m enc l) : Mp (dr w) m enc l := h
def Gl {κ : Type} [DecidableEq κ] (k : κ) : List (κ × adW) -> Nat -> Option (Nat × adW)
 | [], _ => none
 | p :: r, i => if k = p.1 then some (i, p.2) else Gl k r (i + 1)
theorem Od {κ : Type} [DecidableEq κ] (k : κ) : ∀ (l : List (κ × adW)) (i : Nat), (Gl k l i).map (·.2) = HD k l := by
 intro l
 induction l with
 | nil => intro i; rfl
 | cons p r ih => intro i; simp only [Gl, HD]; split <;> simp [ih]
variable {κ : Type} [DecidableEq κ] {enc : κ -> adW}
theorem xV {r : Nat} {es : Array MapEntry} {c : Nat} (hb : w.heap[r]? = some (.map es c)) : (getObj r).run P w = .ok (.map es c) w := by simp [getObj, Sem.run, hb]
theorem G3 {r : Nat} {es : Array MapEntry} {c : Nat} (o : Obj) (hb : w.heap[r]? = some (.map es c)) : (setObj r o).run P w = .ok () { w with heap := w.heap.setIfInBounds r o } := by simp [setObj, Sem.run, hb]
theorem OY (K : OV P t enc) (k : κ) : ∀ (es : List MapEntry) (l : List (κ × adW)) (i : Nat), es.map (fun e => (e.key, e.val)) = l.map (fun p => (enc p.1, p.2)) →
 (Instr.findAsking t (enc k) es i).run P w = .ok (Gl k l i) w := by
 intro es
 induction es with
 | nil => intro l i h; cases l with
   | nil => rfl
   | cons p r => simp at h
 | cons x es ih =>
   intro l i h
   cases l with
   | nil => simp at h
   | cons p r =>
     simp only [Z6, adR, acW] at h
     obtain ⟨⟨h1, h2⟩, h3⟩ := h
     simp only [Instr.findAsking, Sem.run_bind, h1, K.eq, Result.andThen_ok, Gl]
     by_cases hx : k = p.1
     .simp [hx, h2]
     .simp only [hx, decide_false, ZS, if_false]
      exact ih r (i + 1) h3
theorem QX {d : TypeDesc} (hn : ∀ a b, Instr.sameNow d (enc a) (enc b) = none ∨ Instr.sameNow d (enc a) (enc b) = some (decide (a = b))) (k : κ) : ∀ (es : List MapEntry) (l : List (κ × adW)) (i : Nat) (r : Option (Nat × adW)), es.map (fun e => (e.key, e.val)) = l.map (fun p => (enc p.1, p.2)) →
 Instr.findNow d (enc k) es i = some r -> r = Gl k l i := by
 intro es
 induction es with
 | nil => intro l i r h hr; cases l with
   | nil => simp [Instr.findNow] at hr; exact hr.symm
   | cons p r => simp at h
 | cons x es ih =>
   intro l i r h hr
   cases l with
   | nil => simp at h
   | cons p q =>
     simp only [Z6, adR, acW] at h
     obtain ⟨⟨h1, h2⟩, h3⟩ := h
     simp only [Instr.findNow, h1] at hr
     rcases hn k p.1 with hh | hh
     .rw [hh] at hr; cases hr
     .rw [hh] at hr
      simp only [Gl]
      by_cases hx : k = p.1
      .simp only [hx, decide_true, aaN] at hr
       rw [if_pos hx, <- hr, h2]
      .simp only [hx, decide_false] at hr
       rw [if_neg hx]
       exact ih q (i + 1) r h3 hr
theorem EA (K : OV P t enc) (k : κ) (es : List MapEntry) (l : List (κ × adW)) (h : es.map (fun e => (e.key, e.val)) = l.map (fun p => (enc p.1, p.2))) :
 (Instr.findKey t (enc k) es).run P w = .ok (Gl k l 0) w := by
 obtain ⟨d, hd, hn⟩ := K.now
 unfold Instr.findKey
 simp only [underlying, Sem.run_bind, run_program, Result.andThen_ok, hd, Sem.run_pure]
 cases hr : Instr.findNow d (enc k) es 0 with
 | none => exact OY K k es l 0 h
 | some r => rw [QX hn k es l 0 r h hr] <;> rfl
theorem Yp {kt et : TypeId} {i : TypeInfo} {z : adW} (hu : P.underlying t = some (.map kt et)) (hi : P.info? et = some i) (hz : i.zero = some z) (K : OV P kt enc) {m : Nat} {l : List (κ × adW)} (hm : Mp w m enc l) (k : κ) :
 (Ak t (.map (some m)) (enc k) true).run P w = .ok (.value (.tuple #[(HD k l).getD z, .bool (HD k l).isSome])) w := by
 obtain ⟨es, c, hb, he, _⟩ := hm
 unfold Ak; rw [mU]
 unfold Instr.lookup
 simp only [underlying, Sem.run_bind, run_program, Result.andThen_ok, hu, Sem.run_pure, xV hb, K.chk, EA K k es.toList l he, <- Od k l 0]
 cases Gl k l 0 with
 | none => simp [zeroValue, typeInfo, hi, hz]
 | some p => simp
omit [DecidableEq κ] in
theorem UP {K : adW -> adV -> Prop} (enc : κ -> adW) (hk : ∀ w', Mp w' w.heap.size enc ([] : List (κ × adW)) -> gX w w' jK -> w'.heap.size = w.heap.size + 1 -> K (.map (some w.heap.size)) w') : eY P (MF t none) w K := by
 have : (MF t none).run P w = .ok (.value (.map (some w.heap.size))) (w.alloc (.map #[] 0)) := by
  unfold MF; rw [mU]
  simp [Instr.makeMap]
 unfold eY
 rw [this]
 exact hk _ ⟨#[], 0, by show (w.heap.push _)[w.heap.size]? = _; simp, rfl, ⟨by simp, by simp⟩, by simp⟩ (gX.alloc _ _ _) (by simp)
theorem Up {kt et : TypeId} (hu : P.underlying t = some (.map kt et)) (Ke : OV P kt enc) {m : Nat} {l : List (κ × adW)} (hm : Mp w m enc l) (k : κ) (v : adW) {K : adW -> adV -> Prop}
 (hk : ∀ w', Mp w' m enc (Tl k v l) -> gX w w' (fun y => y = m) -> w'.heap.size = w.heap.size -> K undef w') : eY P (Kw t (.map (some m)) (enc k) v) w K := by
 have hlt := hm.lt
 obtain ⟨es, c, hb, he, hgr, hnd⟩ := hm
 have hext : ∀ o, gX w { w with heap := w.heap.setIfInBounds m o } (fun y => y = m) := fun o =>
  ⟨rfl, rfl, rfl, by simp, fun b hb hn => by
   show (w.heap.setIfInBounds m o)[b]? = _
   rw [aaE (fun e => hn e.symm)]⟩
 have key : ∃ es' c', (Kw t (.map (some m)) (enc k) v).run P w = .ok .skip { w with heap := w.heap.setIfInBounds m (.map es' c') } /\ es'.toList.map (fun e => (e.key, e.val)) = ((Tl k v l).map fun p => (enc p.1, p.2)) /\ Grown es' c' := by
  have gen : ∀ (es : List MapEntry) (l : List (κ × adW)) (i : Nat), es.map (fun e => (e.key, e.val)) = l.map (fun p => (enc p.1, p.2)) →
      (Gl k l i = none -> ∀ b, (es ++ [(⟨enc k, v, b⟩ : MapEntry)]).map (fun e => (e.key, e.val)) = (Tl k v l).map fun p => (enc p.1, p.2)) /\
      (∀ j x, Gl k l i = some (j, x) -> i <= j /\ ∃ old, es[j - i]? = some old /\ old.key = enc k /\ (es.set (j - i) ({ old with key := enc k, val := v } : MapEntry)).map (fun e => (e.key, e.val)) = (Tl k v l).map fun p => (enc p.1, p.2)) := by
   intro es
   induction es with
   | nil =>
     intro l i h
     cases l with
     | nil => exact ⟨fun _ b => rfl, fun j x h => by simp [Gl] at h⟩
     | cons p r => simp at h
   | cons x es ih =>
     intro l i h
     cases l with
     | nil => simp at h
     | cons p r =>
       simp only [Z6, adR, acW] at h
       obtain ⟨⟨h1, h2⟩, h3⟩ := h
       simp only [Gl, Tl]
       by_cases hx : k = p.1
       .rw [if_pos hx, if_pos hx]
        refine ⟨fun h => by (cases h), fun j y h => ?_⟩
        cases h
        refine ⟨Z8 _, x, by simp, by rw [h1, hx], ?_⟩
        simp [h3]
       .rw [if_neg hx, if_neg hx]
        obtain ⟨a, b⟩ := ih r (i + 1) h3
        refine ⟨fun h q => ?_, fun j y h => ?_⟩
        .simp only [acV, Z6, a h q, h1, h2]
        .obtain ⟨hj, old, o1, o2, o3⟩ := b j y h
         refine ⟨by omega, old, ?_, o2, ?_⟩
         .rw [show j - i = (j - (i + 1)) + 1 from by omega, ZR]; exact o1
         .rw [show j - i = (j - (i + 1)) + 1 from by omega, aaW]
          simp only [Z6, o3, h1, h2]
  obtain ⟨g1, g2⟩ := gen es.toList l 0 he
  unfold Kw
  rw [YG]
  unfold Instr.mapUpdate
  simp only [underlying, Sem.run_bind, run_program, Result.andThen_ok, hu, Sem.run_pure, xV hb, Ke.chk, EA Ke k es.toList l he]
  cases hi : Gl k l 0 with
  | none =>
    refine ⟨es.push ⟨enc k, v, c⟩, c + 1, ?_, by simpa using g1 hi c, SZ hgr _ _⟩
    simp only [G3 _ hb, Result.andThen_ok]
  | some q =>
    obtain ⟨j, x⟩ := q
    obtain ⟨_, old, o1, o2, o3⟩ := g2 j x hi
    rw [Nat.sub_zero] at o1 o3
    have o1' : es[j]? = some old := by simpa using o1
    refine ⟨es.modify j fun e => { e with key := enc k, val := v }, c, ?_, ?_, St hgr ?_⟩
    .simp only [o1', aaX, abL, o2, Instr.keyThatStays, Ke.stay, if_true, Sem.run_pure, Result.andThen_ok, G3 _ hb, Sem.run_bind]
    .have hj : j < es.toList.length := by
      rcases abB j es.toList.length with h | h
      .exact h
      .rw [aaZ h] at o1; cases o1
     rw [<- o3]
     congr 1
     apply acO
     intro y
     rw [acE, abZ, List.getElem?_set]
     by_cases hy : j = y
     .subst hy
      have hj' : j < es.size := by simpa using hj
      have e1 : es[j] = old := by rw [aaA hj'] at o1'; exact abG o1'
      simp [hj', e1]
     .simp [hy]
    .apply acO
     intro y
     rw [aaV, aaV, acE, acE, abZ]
     split
     .rename_i h; subst h
      cases es[j]? <;> rfl
     .rfl
 obtain ⟨es', c', h1, h2, h3⟩ := key
 unfold eY
 rw [h1]
 refine hk _ ⟨es', c', by show (w.heap.setIfInBounds m _)[m]? = _; rw [aaC hlt], h2, h3, RS hnd⟩ (hext _) (by simp)
theorem JH (hu : P.underlying t = some .string) : OV P t (fun s : ByteArray => Value.string s) := by
 have hb : ∀ a b : ByteArray, (a == b) = decide (a = b) := fun a b => by
  have h1 : (a == b) = (a.data == b.data) := rfl
  rw [h1, Bool.eq_iff_iff, beq_iff_eq, decide_eq_true_eq]
  exact ⟨fun h => by cases a; cases b; simp only at h; rw [h], fun h => h ▸ rfl⟩
 refine ⟨fun a b w => ?_, ⟨_, hu, fun a b => .inr (by simp [Instr.sameNow, hb])⟩, fun c a w => ?_, fun a => ?_⟩
 .unfold Op.equal Op.maxDepth Op.equalIn
  simp only [underlying, Sem.run_bind, run_program, Result.andThen_ok, hu, Sem.run_pure, hb]
 .unfold Instr.checkKey
  simp only [underlying, Sem.run_bind, run_program, Result.andThen_ok, hu, Sem.run_pure]
 .simp [Instr.sameBits, hb]
theorem TI {d : TypeDesc} {i : TypeInfo} (hu : P.underlying t = some d) (hd : Qz d = true) (hi : P.info? t = some i) {b off : Nat} {l : List adW} (hl : i.size = l.length) (h : ∀ j, j < l.length -> w.cell? ⟨b, off + j, none⟩ = l[j]?) :
 (fW t (.pointer (some ⟨b, off, none⟩))).run P w = .ok (.value (.agg l.toArray)) w := by
 unfold fW
 rw [mU]
 simp only [Instr.loadAt, Instr.sureAddr, loadVar, pure_bind, Sem.run_bind, CU hu, hd, Result.andThen_ok, if_true, kA hi, hl, LS h, Sem.run_pure]
end
theorem kJ {w : adV} {b : Nat} {cs : List adW} (h : jG w b cs) : jG (dr w) b cs := h.ext (gX.dr w jK) (fun h => h)
theorem Sl.dr {w : adV} {v : adW} {l : List adW} (h : Sl w v l) : Sl (dr w) v l := h
theorem Sl.open {w : adV} {v : adW} {l : List UInt8} (h : Bs w v l) (h0 : 0 < l.length) : ∃ b off c, v = .slice (some ⟨b, off, none⟩) l.length c /\ l.length <= c /\ ∀ i, (h : i < l.length) -> w.cell? ⟨b, off + i, none⟩ = some (oY l[i]) := by
 obtain ⟨a, n, c, rfl, hn, hc, h⟩ := h
 simp only [ZZ] at hn
 subst hn
 obtain ⟨b, off, rfl, hh⟩ := h h0
 exact ⟨b, off, c, rfl, hc, fun i hi => by rw [hh i hi]; simp [hi]⟩
theorem Sl.len {w : adV} {v : adW} {l : List adW} (h : Sl w v l) : ∃ a c, v = .slice a l.length c /\ l.length <= c := by
 obtain ⟨a, n, c, rfl, rfl, hc, _⟩ := h
 exact ⟨a, c, rfl, hc⟩
theorem jJ (v : adW) : ¬ wB v jK := by unfold wB jK; split <;> simp
theorem Te {b o m l : Nat} (h : l ≠ m) : jO (some ⟨b, o, none⟩) m l 1 = some ⟨b, o + l, none⟩ := by
 unfold jO; rw [if_neg (fun e => h e.symm)]; simp [Cd]
theorem Aw {v : adW} {M N : Nat -> Prop} (h : wB v M) (hm : ∀ b, M b -> N b) : wB v N := by
 unfold wB at *
 split at h
 .exact hm _ h
 .exact h
theorem zH.len {w : adV} {b sz n : Nat} {v : adW} {l : List adW} (h : zH w b sz v n l) : ∃ a c, v = .slice a n c := by
 rcases h.2 with ⟨rfl, rfl⟩ | ⟨x, c, r, rfl, _⟩
 .exact ⟨_, _, rfl⟩
 .exact ⟨_, _, rfl⟩
theorem Sl.nil (w : adV) : Sl w (.slice none 0 0) [] := ⟨none, 0, 0, rfl, rfl, Z8 _, fun h => absurd h (by simp)⟩
theorem jG.whole {w : adV} {b c : Nat} {l : List UInt8} (h : jG w b (l.map oY)) (hc : l.length <= c) : Bs w (.slice (some ⟨b, 0, none⟩) l.length c) l :=
 h.bs hc fun i hi => by rw [ZY]; simp [hi]
theorem Sl.drop' {w : adV} {a : Option Addr} {n c : Nat} {l : List adW} (h : Sl w (.slice a n c) l) {k : Nat} (hk : k <= n) : Sl w (.slice (jO a c k 1) (n - k) (c - k)) (l.drop k) := by
 have h' := h
 obtain ⟨a', n', c', e, hn, hc, hh⟩ := h'
 cases e
 by_cases h0 : n = 0
 .exact ⟨_, _, _, rfl, by rw [Z9]; omega, by omega, fun h => by omega⟩
 .obtain ⟨b, off, rfl, _⟩ := hh (by omega)
  exact h.drop hk
theorem Sl.mid {w : adV} {a : Option Addr} {n c : Nat} {l : List adW} (h : Sl w (.slice a n c) l) {i j : Nat} (hij : i <= j) (hj : j <= n) : Sl w (.slice (jO a c i 1) (j - i) (c - i)) ((l.drop i).take (j - i)) := by
 have h' := h
 obtain ⟨a', n', c', e, hn, hc, hh⟩ := h'
 cases e
 by_cases h0 : j - i = 0
 .rw [h0]
  exact ⟨_, _, _, rfl, by simp, by omega, fun h => by omega⟩
 .obtain ⟨b, off, rfl, _⟩ := hh (by omega)
  have hd := h.drop (k := i) (by omega)
  obtain ⟨a', n', c', e, hn', hc', hh'⟩ := hd
  obtain ⟨b', off', e', h2⟩ := hh' (by have := (Value.slice.inj e).2.1; omega)
  injection e with e1 e2 e3
  subst e3
  refine ⟨_, _, _, rfl, by rw [aaB, Z9]; omega, by omega, fun _ => ⟨b', off', by rw [e1]; exact e', fun x hx => ?_⟩⟩
  rw [h2 x (by omega), abR hx]
theorem Sl.openV {w : adV} {v : adW} {l : List adW} (h : Sl w v l) (h0 : 0 < l.length) : ∃ b off c, v = .slice (some ⟨b, off, none⟩) l.length c /\ l.length <= c /\ ∀ i, (h : i < l.length) -> w.cell? ⟨b, off + i, none⟩ = some l[i] := by
 obtain ⟨a, n, c, rfl, hn, hc, h⟩ := h
 subst hn
 obtain ⟨b, off, rfl, hh⟩ := h h0
 exact ⟨b, off, c, rfl, hc, fun i hi => by rw [hh i hi]; simp [hi]⟩
theorem Tm {P : Program} {w : adV} {t e : TypeId} {k k' : IntKind} {hi mx : Int} {i : TypeInfo} (hu : P.underlying t = some (.slice e)) (hi' : P.info? e = some i) (x : Option Addr) (n c : Nat) (h0 : 0 <= hi) (h1 : hi <= mx) (h2 : mx <= c) :
 (lO t (.slice x n c) none (some (.int k hi)) (some (.int k' mx))).run P w = .ok (.value (.slice (jO x mx.toNat 0 i.size) (hi.toNat - 0) (mx.toNat - 0))) w := by
 have h3 : (0 : Int) <= mx := by omega
 have h4 : hi <= (mx.toNat : Int) := by omega
 simp only [lO, mU, Instr.sliceAt, underlying, hu, Sem.run_bind, run_program, Result.andThen_ok, Sem.run_pure, Instr.slice, Instr.sliceBounds, pure_bind, rX h3 h2, rX h0 h4, kA hi', jO]
section
variable {P : Program} {w : adV} {t e : TypeId}
variable {κ : Type} [DecidableEq κ] {enc : κ -> adW}
theorem WC {kt et : TypeId} {i : TypeInfo} {z : adW} (hu : P.underlying t = some (.map kt et)) (hi : P.info? et = some i) (hz : i.zero = some z) (K : OV P kt enc) {m : Nat} {l : List (κ × adW)} (hm : Mp w m enc l) (k : κ) :
 (Ak t (.map (some m)) (enc k) false).run P w = .ok (.value ((HD k l).getD z)) w := by
 obtain ⟨es, c, hb, he, _⟩ := hm
 unfold Ak; rw [mU]
 unfold Instr.lookup
 simp only [underlying, Sem.run_bind, run_program, Result.andThen_ok, hu, Sem.run_pure, xV hb, K.chk, EA K k es.toList l he, <- Od k l 0]
 cases Gl k l 0 with
 | none => simp [zeroValue, typeInfo, hi, hz]
 | some p => simp
def del {κ : Type} [DecidableEq κ] (k : κ) : List (κ × adW) -> List (κ × adW)
 | [] => []
 | p :: r => if k = p.1 then r else p :: del k r
theorem TJ {k : κ} : ∀ l : List (κ × adW), (del k l).Sublist l
 | [] => .slnil
 | p :: r => by
   simp only [del]
   split
   .exact List.sublist_cons_self _ _
   .exact (TJ r).cons_cons p
theorem Sb {k : κ} : ∀ {es : List MapEntry} {l : List (κ × adW)} {i : Nat}, es.map (fun e => (e.key, e.val)) = l.map (fun p => (enc p.1, p.2)) →
 (Gl k l i = none -> del k l = l) /\ (∀ j x, Gl k l i = some (j, x) -> i <= j /\ (es.eraseIdx (j - i)).map (fun e => (e.key, e.val)) = (del k l).map (fun p => (enc p.1, p.2)))
 | es, [], i, h => ⟨fun _ => rfl, fun j x h => by simp [Gl] at h⟩
 | [], p :: r, i, h => by simp at h
 | x :: es, p :: r, i, h => by
   rw [Z6, Z6, adR] at h
   obtain ⟨h1, h2⟩ := h
   simp only [Gl, del]
   by_cases hk : k = p.1
   .rw [if_pos hk, if_pos hk]
    refine ⟨fun h => by (cases h), fun j y h => ?_⟩
    cases h
    exact ⟨Z8 _, by simp [h2]⟩
   .rw [if_neg hk, if_neg hk]
    obtain ⟨a, b⟩ := Sb (k := k) (i := i + 1) h2
    refine ⟨fun h => by rw [a h], fun j y h => ?_⟩
    obtain ⟨c, d⟩ := b j y h
    refine ⟨by omega, ?_⟩
    rw [show j - i = (j - (i + 1)) + 1 from by omega, abJ, Z6, Z6, d, h1]
theorem SM {kt et kt2 ty : TypeId} (hu : P.underlying t = some (.map kt et)) (Ke : OV P kt enc) {m : Nat} {l : List (κ × adW)} (hm : Mp w m enc l) (k : κ) {K : adW -> adV -> Prop}
 (hk : ∀ w', Mp w' m enc (del k l) -> gX w w' (fun y => y = m) -> w'.heap.size = w.heap.size -> K (.tuple #[]) w') : eY P (nG .delete #[t, kt2] ty [.map (some m), enc k]) w K := by
 have hlt := hm.lt
 obtain ⟨es, c, hb, he, hgr, hnd⟩ := hm
 have hext : ∀ o, gX w { w with heap := w.heap.setIfInBounds m o } (fun y => y = m) := fun o =>
  ⟨rfl, rfl, rfl, by simp, fun b hb hn => by
   show (w.heap.setIfInBounds m o)[b]? = _
   rw [aaE (fun e => hn e.symm)]⟩
 have key : ∃ es', (nG .delete #[t, kt2] ty [.map (some m), enc k]).run P w = .ok (.value (.tuple #[])) { w with heap := w.heap.setIfInBounds m (.map es' c) } /\ es'.toList.map (fun e => (e.key, e.val)) = ((del k l).map fun p => (enc p.1, p.2)) /\ Grown es' c := by
  obtain ⟨g1, g2⟩ := Sb (k := k) (i := 0) he
  unfold nG builtin
  simp only [Builtin.delete_, abP, ZQ, ZR]
  simp only [underlying, Sem.run_bind, run_program, Result.andThen_ok, hu, Sem.run_pure, xV hb, Ke.chk, EA Ke k es.toList l he]
  cases hi : Gl k l 0 with
  | none =>
    refine ⟨es, ?_, by rw [g1 hi]; exact he, hgr⟩
    simp only [G3 _ hb, Result.andThen_ok, Sem.run_pure, Sem.run_bind]
  | some q =>
    obtain ⟨j, x⟩ := q
    obtain ⟨_, g3⟩ := g2 j x hi
    rw [Nat.sub_zero] at g3
    have htl : (es.eraseIdxIfInBounds j).toList = es.toList.eraseIdx j := by
     simp
    refine ⟨es.eraseIdxIfInBounds j, ?_, by rw [htl]; exact g3, ?_, ?_⟩
    .simp only [G3 _ hb, Result.andThen_ok, Sem.run_pure, Sem.run_bind]
    .rw [htl]; exact hgr.1.sublist ((List.eraseIdx_sublist _ _).map _)
    .intro e he'
     rw [htl] at he'
     exact hgr.2 e ((List.eraseIdx_sublist _ _).subset he')
 obtain ⟨es', h1, h2, h3⟩ := key
 unfold eY
 rw [h1]
 exact hk _ ⟨es', c, by show (w.heap.setIfInBounds m _)[m]? = _; rw [aaC hlt], h2, h3, hnd.sublist ((TJ l).map _)⟩ (hext _) (by simp)
theorem HG : ∀ {l : List MapEntry} {i : Nat} (hi : i < l.length), (l.map (·.born)).Pairwise (· ≠ ·) -> (l.filter fun e => decide (e.born ≠ (l[i]).born)) = l.eraseIdx i
 | [], i, hi, _ => by simp at hi
 | x :: l, 0, hi, h => by
   rw [Z6, List.pairwise_cons] at h
   rw [List.getElem_cons_zero, List.filter_cons_of_neg (by simp), List.eraseIdx_cons_zero, List.filter_eq_self]
   intro a ha
   have := h.1 a.born (aaY.2 ⟨a, ha, rfl⟩)
   simpa using fun e => this e.symm
 | x :: l, i + 1, hi, h => by
   rw [Z6, List.pairwise_cons] at h
   have hi' : i < l.length := by simpa using hi
   have := h.1 (l[i]).born (aaY.2 ⟨l[i], abX hi', rfl⟩)
   rw [List.getElem_cons_succ, List.filter_cons_of_pos (by simpa using this), abJ, HG hi' h.2]
theorem Ft {α β : Type} (f : α -> β) : ∀ (l : List α) (i : Nat), (l.eraseIdx i).map f = (l.map f).eraseIdx i
 | [], i => by simp
 | x :: l, 0 => by simp
 | x :: l, i + 1 => by rw [abJ, Z6, Z6, abJ, Ft f l i]
def Xz {κ : Type} (w : adV) (it m : Nat) (enc : κ -> adW) (rest : List (κ × adW)) : Prop :=
 ∃ es clock seen, w.heap[m]? = some (.map es clock) /\ w.heap[it]? = some (.mapIter (some m) clock seen clock) /\ Grown es clock /\
   (es.toList.filter fun e => !seen.contains e.born).map (fun e => (e.key, e.val)) = rest.map fun p => (enc p.1, p.2)
theorem Xz.ext {κ : Type} {w w' : adV} {it m : Nat} {enc : κ -> adW} {rest : List (κ × adW)} {M : Nat -> Prop} (h : Xz w it m enc rest) (hx : gX w w' M) (hm : ¬ M m) (hi : ¬ M it) : Xz w' it m enc rest := by
 obtain ⟨es, c, seen, h1, h2, h3⟩ := h
 have lt : ∀ {b : Nat} {o : Obj}, w.heap[b]? = some o -> b < w.heap.size := fun {b o} h => by
  rcases abB b w.heap.size with h' | h'
  .exact h'
  .rw [aaL h'] at h; cases h
 exact ⟨es, c, seen, by rw [hx.keep m (lt h1) hm]; exact h1, by rw [hx.keep it (lt h2) hi]; exact h2, h3⟩
theorem PO : ∀ {l : List MapEntry} {e : MapEntry}, (l.map (·.born)).Pairwise (· < ·) -> e ∈ l -> l.find? (fun x => x.born == e.born) = some e
 | [], e, _, h => by simp at h
 | x :: l, e, hp, h => by
   rw [Z6, List.pairwise_cons] at hp
   rw [List.find?_cons]
   rcases aaR.1 h with rfl | h
   .simp
   .have := hp.1 e.born (aaY.2 ⟨e, h, rfl⟩)
    have hb : (x.born == e.born) = false := by simp; omega
    rw [hb]
    exact PO hp.2 h
def Yy {κ : Type} (w : adV) (it m : Nat) (enc : κ -> adW) (p : κ × adW) : Prop :=
 ∃ es clock c0 seen e, w.heap[m]? = some (.map es clock) /\ w.heap[it]? = some (.mapIter (some m) c0 seen clock) /\ seen.back? = some e.born /\ es.find? (fun x => x.born == e.born) = some e /\ e.key = enc p.1 /\ e.val = p.2
omit [DecidableEq κ] in
theorem Yy.ext {w w' : adV} {it m : Nat} {p : κ × adW} {M : Nat -> Prop} (h : Yy w it m enc p) (hx : gX w w' M) (hm : ¬ M m) (hi : ¬ M it) : Yy w' it m enc p := by
 obtain ⟨es, c, c0, seen, e, h1, h2, h3⟩ := h
 have lt : ∀ {b : Nat} {o : Obj}, w.heap[b]? = some o -> b < w.heap.size := fun {b o} h => by
  rcases abB b w.heap.size with h' | h'
  .exact h'
  .rw [aaL h'] at h; cases h
 exact ⟨es, c, c0, seen, e, by rw [hx.keep m (lt h1) hm]; exact h1, by rw [hx.keep it (lt h2) hi]; exact h2, h3⟩
omit [DecidableEq κ] in
theorem WU {it m : Nat} {p : κ × adW} (h : Yy w it m enc p) : (SN (.pointer (some ⟨it, 0, none⟩))).run P w = .ok (.value (.tuple #[enc p.1, p.2])) w := by
 obtain ⟨es, c, c0, seen, e, h1, h2, h3, h4, h5, h6⟩ := h
 have hgi : (getObj it).run P w = .ok (.mapIter (some m) c0 seen c) w := by simp [getObj, Sem.run, h2]
 unfold SN; rw [mU]
 simp only [Instr.entry, Sem.run_bind, hgi, Result.andThen_ok, h3, xV h1, bne_self_eq_false, ZS, if_false, h4, Sem.run_pure, h5, h6]
omit [DecidableEq κ] in
theorem Uh {kt et : TypeId} (hu : P.underlying t = some (.map kt et)) {m : Nat} {l : List (κ × adW)} (hm : Mp w m enc l) {K : adW -> adV -> Prop}
 (hk : ∀ w', Xz w' w.heap.size m enc l -> gX w w' jK -> w'.heap.size = w.heap.size + 1 -> K (.pointer (some ⟨w.heap.size, 0, none⟩)) w') : eY P (Ok t (.map (some m))) w K := by
 have hlt := hm.lt
 obtain ⟨es, c, hb, he, hgr, hnd⟩ := hm
 have : (Ok t (.map (some m))).run P w = .ok (.value (.pointer (some ⟨w.heap.size, 0, none⟩))) (w.alloc (.mapIter (some m) c #[] c)) := by
  unfold Ok; rw [mU]
  simp only [Instr.range, underlying, Sem.run_bind, run_program, Result.andThen_ok, hu, Sem.run_pure, xV hb, run_newObj]
  rfl
 unfold eY
 rw [this]
 refine hk _ ⟨es, c, #[], ?_, ?_, hgr, ?_⟩ (gX.alloc _ _ _) (by simp)
 .show (w.heap.push _)[m]? = _
  rw [Array.getElem?_push, if_neg (by omega)]; exact hb
 .show (w.heap.push _)[w.heap.size]? = _
  simp
 .rw [<- he]
  congr 1
  rw [List.filter_eq_self]
  intro a _
  simp
omit [DecidableEq κ] in
theorem V9 {it m : Nat} {ty : TypeId} {rest : List (κ × adW)} (h : Xz w it m enc rest) (hne : it ≠ m) {K : adW -> adV -> Prop}
 (h0 : rest = [] -> K (.tuple #[.bool false]) w)
 (hk : ∀ w' (j : Nat) (hj : j < rest.length), Xz w' it m enc (rest.eraseIdx j) -> Yy w' it m enc rest[j] -> gX w w' (fun y => y = it) -> w'.heap.size = w.heap.size -> K (.tuple #[.bool true, enc rest[j].1, rest[j].2]) w') :
 eY P (Tr (.pointer (some ⟨it, 0, none⟩)) false ty) w K := by
 obtain ⟨es, c, seen, hm, hi, hgr, hr⟩ := h
 have hlt : it < w.heap.size := by
  rcases abB it w.heap.size with h' | h'
  .exact h'
  .rw [aaL h'] at hi; cases hi
 have hgi : (getObj it).run P w = .ok (.mapIter (some m) c seen c) w := by simp [getObj, Sem.run, hi]
 have hnot : (!seen.isEmpty && !es.isEmpty && es.all fun e => decide (e.born ≥ c)) = false := by
  cases hes : es.toList with
  | nil =>
    have : es = #[] := by rw [<- Array.toArray_toList (xs := es), hes]
    subst this; simp
  | cons x r =>
    have hx : x ∈ es.toList := by rw [hes]; simp
    have := hgr.2 x hx
    have : (es.all fun e => decide (e.born ≥ c)) = false := by
     rw [Array.all_eq_false']
     exact ⟨x, by simpa using hx, by simp; omega⟩
    rw [this]; simp
 have hold : ((es.filter fun e => !seen.contains e.born).filter fun e => decide (e.born < c)) = es.filter fun e => !seen.contains e.born := by
  rw [Array.filter_eq_self]
  intro a ha
  have := hgr.2 a (by simpa using (Array.mem_filter.1 ha).1)
  simpa using this
 have hnew : ((es.filter fun e => !seen.contains e.born).filter fun e => decide (e.born ≥ c)) = #[] := by
  rw [Array.filter_eq_empty_iff]
  intro a ha
  have := hgr.2 a (by simpa using (Array.mem_filter.1 ha).1)
  simp; omega
 have hll : (es.filter fun e => !seen.contains e.born).toList = es.toList.filter fun e => !seen.contains e.born := by simp
 generalize hL : (es.filter fun e => !seen.contains e.born) = L at *
 have hlen : L.size = rest.length := by
  have := congrArg List.length hr
  rw [ZZ, ZZ, <- hll] at this
  simpa using this
 have hrun : (Tr (.pointer (some ⟨it, 0, none⟩)) false ty).run P w = ((choose (.mapNext ((if L.isEmpty then #[none] else #[]) ++ (L ++ #[]).map some).size)).run P w).andThen fun i w =>
     ((match ((if L.isEmpty then #[none] else #[]) ++ (L ++ #[]).map some)[i]? with
       | some (some e) => do
         setObj it (.mapIter (some m) c (seen.push e.born) c)
         pure (.tuple #[.bool true, e.key, e.val])
       | some none => pure (.tuple #[.bool false])
       | none => stuck "Next: no such candidate" : Sem adW).run P w).andThen fun v w => .ok (.value v) w := by
  unfold Tr; rw [mU]
  simp only [Instr.next, Sem.run_bind, hgi, Result.andThen_ok, xV hm, hnot, ZS, if_false, hL, hold, hnew]
  cases (choose (.mapNext ((if L.isEmpty then #[none] else #[]) ++ (L ++ #[]).map some).size)).run P w with
  | ok a w' => rfl
  | _ => rfl
 unfold eY
 rw [hrun]
 by_cases hz : L.size = 0
 .have hLe : L = #[] := Array.eq_empty_of_size_eq_zero hz
  subst hLe
  have hre : rest = [] := aaG.1 (by omega)
  have hf : (Question.mapNext 1).forced = true := rfl
  simp only [Array.isEmpty_empty, if_true, Array.append_empty, Array.map_empty, acB, acG, run_choose, hf]
  exact h0 hre
 .have hLe : L.isEmpty = false := by
   simp [Array.isEmpty]; intro h; subst h; simp at hz
  have hsz : ((if L.isEmpty then #[none] else #[]) ++ (L ++ #[]).map some).size = L.size := by rw [hLe]; simp
  have hat : ∀ i (h : i < L.size), ((if L.isEmpty then #[none] else #[]) ++ (L ++ #[]).map some)[i]? = some (some L[i]) := by
   intro i h; rw [hLe]; simp [h]
  obtain ⟨i, w', hi', hw', hch⟩ : ∃ i w', i < L.size /\ (w' = w ∨ w' = dr w) /\ (choose (.mapNext ((if L.isEmpty then #[none] else #[]) ++ (L ++ #[]).map some).size)).run P w = .ok i w' := by
   rw [hsz, run_choose]
   by_cases hf : (Question.mapNext L.size).forced = true
   .rw [if_pos hf]
    exact ⟨0, w, by omega, .inl rfl, rfl⟩
   .rw [if_neg hf]
    exact ⟨_, dr w, acU _ (by omega), .inr rfl, rfl⟩
  rw [hch]
  have hi2 : w'.heap[it]? = some (.mapIter (some m) c seen c) := by rcases hw' with rfl | rfl <;> exact hi
  have hm2 : w'.heap[m]? = some (.map es c) := by rcases hw' with rfl | rfl <;> exact hm
  have hx0 : gX w w' (fun y => y = it) := by
   rcases hw' with rfl | rfl
   .exact gX.refl _ _
   .exact gX.dr _ _
  have hset : (setObj it (.mapIter (some m) c (seen.push (L[i]).born) c)).run P w' = .ok () { w' with heap := w'.heap.setIfInBounds it (.mapIter (some m) c (seen.push (L[i]).born) c) } := by simp [setObj, Sem.run, hi2]
  simp only [Result.andThen_ok, hat i hi', Sem.run_bind, hset, Sem.run_pure]
  have hri : i < rest.length := by omega
  have hkv : ((L[i]).key, (L[i]).val) = (enc rest[i].1, rest[i].2) := by
   have := congrArg (fun (x : List (adW × adW)) => x[i]?) hr
   simp only [<- hll, aaV] at this
   rw [acE, aaA hi', Z0 hri] at this
   simpa using this
  obtain ⟨hk1, hk2⟩ := Prod.mk.inj hkv
  have hkk : (Value.tuple #[.bool true, L[i].key, L[i].val]) = .tuple #[.bool true, enc rest[i].1, rest[i].2] := by rw [hk1, hk2]
  rw [hkk]
  have hsize : ({ w' with heap := w'.heap.setIfInBounds it (.mapIter (some m) c (seen.push (L[i]).born) c) } : adV).heap.size = w.heap.size := by
   rcases hw' with rfl | rfl
   .simp
   .simp; rfl
  have hwlt : it < w'.heap.size := by rcases hw' with rfl | rfl <;> exact hlt
  have hwm : ({ w' with heap := w'.heap.setIfInBounds it (.mapIter (some m) c (seen.push (L[i]).born) c) } : adV).heap[m]? = some (.map es c) := by
   show (w'.heap.setIfInBounds it _)[m]? = _
   rw [aaE hne]; exact hm2
  have hwi : ({ w' with heap := w'.heap.setIfInBounds it (.mapIter (some m) c (seen.push (L[i]).born) c) } : adV).heap[it]? = some (.mapIter (some m) c (seen.push (L[i]).born) c) := by
   show (w'.heap.setIfInBounds it _)[it]? = _
   rw [aaC hwlt]
  have hmemL : L[i] ∈ es.toList := by
   have hm0 : L[i] ∈ es.filter fun e => !seen.contains e.born := by rw [hL]; exact Array.getElem_mem hi'
   simpa using (Array.mem_filter.1 hm0).1
  have hcur : Yy ({ w' with heap := w'.heap.setIfInBounds it (.mapIter (some m) c (seen.push (L[i]).born) c) } : adV) it m enc rest[i] :=
   ⟨es, c, c, _, L[i], hwm, hwi, by simp, by rw [<- Array.find?_toList]; exact PO hgr.1 hmemL, hk1, hk2⟩
  refine hk _ i hri ⟨es, c, seen.push (L[i]).born, ?_, ?_, hgr, ?_⟩ hcur (hx0.seq ⟨rfl, rfl, rfl, by simp, fun b hb hn => by
   show (w'.heap.setIfInBounds it _)[b]? = _
   rw [aaE (fun e => hn e.symm)]⟩) hsize
  .show (w'.heap.setIfInBounds it _)[m]? = _
   rw [aaE hne]; exact hm2
  .show (w'.heap.setIfInBounds it _)[it]? = _
   rw [aaC hwlt]
  .
   have hfil : (es.toList.filter fun e => !(seen.push (L[i]).born).contains e.born) = (es.toList.filter fun e => !seen.contains e.born).filter fun e => decide (e.born ≠ (L[i]).born) := by
    rw [List.filter_filter]
    congr 1
    funext e
    simp only [Array.contains_push]
    by_cases h : e.born = (L[i]).born
    .simp [h]
    .have h' : ¬ (L[i]).born = e.born := fun x => h x.symm
     simp [h, h']
   have hLi : L[i] = L.toList[i]'(by simpa using hi') := by simp
   rw [hfil, <- hll, hLi, HG, Ft, hll, hr, <- Ft]
   rw [hll]
   exact (hgr.1.imp (fun h => acP h)).sublist ((List.filter_sublist).map _)
end
end Go.En
namespace Go.Proofs.YteelnmpbnaohpaaDoor
open Go Go.En
set_option maxRecDepth 4000
theorem eA {ty : TypeId} (x : Option Addr) (n c : Nat) (w : adV) : (nG .len #[22] ty [.slice x n c]).run pg w = .ok (.value (.int .i64 n)) w := Mi Tryd.underlying22 x n c
theorem dV {k : IntKind} (a : Int) (w : adV) : (kX 5 3 (.int k a)).run pg w = .ok (.value (.int .i64 (IntKind.i64.wrap a))) w := Cb Tryd.underlying5 Tryd.underlying3
theorem Sm : (pg).info? 28 = some Tryd.t28 := by kernel_rfl
theorem rP {w : adV} {K : adW -> adV -> Prop} (hk : ∀ w', jG w' w.heap.size [(.int .u64 0), (.int .u32 0), (.slice none 0 0)] -> gX w w' jK -> w'.heap.size = w.heap.size + 1 -> K (.pointer (some ⟨w.heap.size, 0, none⟩)) w') : eY pg (lR 28) w K := vR (i := Tryd.t28) Sm rfl hk
theorem qE {b off : Nat} {cs : List adW} {w : adV} {xs : Array adW} {K : adW -> adV -> Prop} (ho : jG w b cs) (hs : xs.size = 3) (hv : ∀ x ∈ xs.toList, one x = true) (h : off + 3 <= cs.length) (hk : ∀ w', jG w' b (mZ cs off xs.toList) -> gX w w' (fun x => x = b) -> w'.heap.size = w.heap.size -> K undef w') : eY pg (iD 28 (.pointer (some ⟨b, off, none⟩)) (.agg xs)) w K := CW (v := .agg xs) Sm ho hs hv h hk
theorem oD {b off : Nat} {cs : List adW} {w : adV} (ho : jG w b cs) (h : off + 3 <= cs.length) : (fW 28 (.pointer (some ⟨b, off, none⟩))).run pg w = .ok (.value (.agg ((cs.drop off).take 3).toArray)) w := Hu Tryd.underlying28 rfl Sm ho h
theorem Xx : (pg).info? 26 = some Tryd.t26 := by kernel_rfl
theorem aB (b o : Nat) (w : adV) : (gM 28 (.pointer (some ⟨b, o, none⟩)) 2).run pg w = .ok (.value (.pointer (some ⟨b, o + 2, none⟩))) w := kI (i := 2) Tryd.underlying28 rfl Xx (by decide) _
theorem dI (x : Addr) (w : adV) : (fW 26 (.pointer (some x))).run pg w = NZ (w.cell? x) w (Ps pg 26 x w) := JR Tryd.underlying26 rfl x w
theorem dE {ty : TypeId} (x : Option Addr) (n c : Nat) (w : adV) : (nG .len #[26] ty [.slice x n c]).run pg w = .ok (.value (.int .i64 n)) w := Mi Tryd.underlying26 x n c
theorem IC : (pg).info? 5 = some Tryd.t5 := by kernel_rfl
theorem cJ {k k' : IntKind} {lo hi : Int} (a : Option Addr) (n c : Nat) (w : adV) (h0 : 0 <= lo) (h1 : lo <= hi) (h2 : hi <= c) : (lO 22 (.slice a n c) (some (.int k lo)) (some (.int k' hi)) none).run pg w = .ok (.value (.slice (jO a c (lo.toNat) 1) (hi.toNat - lo.toNat) (c - lo.toNat))) w := Qw Tryd.underlying22 IC _ n c h0 h1 h2
theorem xI {l : List UInt8} {v : adW} {w : adV} (h : Bs w v l) : (kX 22 9 v).run pg w = .ok (.value (.string ⟨l.toArray⟩)) w := Wf Tryd.underlying22 Tryd.underlying9 Tryd.underlying5 h
theorem SI : (pg).info? 4 = some Tryd.t4 := by kernel_rfl
theorem O0 {k : IntKind} {n : Int} {w : adV} {K : adW -> adV -> Prop} (h0 : 0 <= n) (hn : 1 * n <= 2 ^ 48) (hk : ∀ w', jG w' w.heap.size (List.replicate n.toNat (.bool false)) -> gX w w' jK -> w'.heap.size = w.heap.size + 1 -> K (.slice (some ⟨w.heap.size, 0, none⟩) n.toNat n.toNat) w') : eY pg (wP 45 (.int k n) (.int k n)) w K := RA (i := Tryd.t4) Tryd.underlying45 SI rfl rfl rfl h0 hn (by omega) hk
theorem eB {k : IntKind} {a : Int} (b o n c : Nat) (w : adV) (h0 : 0 <= a) (h1 : a < n) : (iJ 22 (.slice (some ⟨b, o, none⟩) n c) (.int k a)).run pg w = .ok (.value (.pointer (some ⟨b, o + a.toNat, none⟩))) w := Mk rfl Tryd.underlying22 IC b o n c h0 h1
theorem eS (x : Addr) (w : adV) : (fW 5 (.pointer (some x))).run pg w = NZ (w.cell? x) w (Ps pg 5 x w) := JR Tryd.underlying5 rfl x w
theorem eE {k : IntKind} {a : Int} (b o n c : Nat) (w : adV) (h0 : 0 <= a) (h1 : a < n) : (iJ 45 (.slice (some ⟨b, o, none⟩) n c) (.int k a)).run pg w = .ok (.value (.pointer (some ⟨b, o + a.toNat, none⟩))) w := Mk rfl Tryd.underlying45 SI b o n c h0 h1
theorem Hy {b off : Nat} {cs : List adW} {w : adV} {v : adW} {K : adW -> adV -> Prop} (ho : jG w b cs) (hv : one v = true) (h : off < cs.length) (hk : ∀ w', jG w' b (cs.set off v) -> gX w w' (fun x => x = b) -> w'.heap.size = w.heap.size -> K undef w') : eY pg (iD 4 (.pointer (some ⟨b, off, none⟩)) v) w K := nQ SI rfl ho hv h hk
theorem dK {k : IntKind} (a : Int) (w : adV) : (kX 44 3 (.int k a)).run pg w = .ok (.value (.int .i64 (IntKind.i64.wrap a))) w := Cb Tryd.underlying44 Tryd.underlying3
theorem Vv {b off : Nat} {cs : List adW} {w : adV} {v : adW} {K : adW -> adV -> Prop} (ho : jG w b cs) (hv : one v = true) (h : off < cs.length) (hk : ∀ w', jG w' b (cs.set off v) -> gX w w' (fun x => x = b) -> w'.heap.size = w.heap.size -> K undef w') : eY pg (iD 5 (.pointer (some ⟨b, off, none⟩)) v) w K := nQ IC rfl ho hv h hk
theorem eD {ty : TypeId} (x : Option Addr) (n c : Nat) (w : adV) : (nG .len #[45] ty [.slice x n c]).run pg w = .ok (.value (.int .i64 n)) w := Mi Tryd.underlying45 x n c
theorem fA (x : Addr) (w : adV) : (fW 4 (.pointer (some x))).run pg w = NZ (w.cell? x) w (Ps pg 4 x w) := JR Tryd.underlying4 rfl x w
theorem Ld : (pg).info? 49 = some Tryd.t49 := by kernel_rfl
theorem dQ {k : IntKind} {a : Int} (b o n c : Nat) (w : adV) (h0 : 0 <= a) (h1 : a < n) : (iJ 26 (.slice (some ⟨b, o, none⟩) n c) (.int k a)).run pg w = .ok (.value (.pointer (some ⟨b, o + a.toNat * 32, none⟩))) w := MB rfl Tryd.underlying26 Ld b o n c h0 h1
theorem RH {b off : Nat} {l : List adW} {w : adV} (hl : l.length = 32) (h : ∀ j, j < l.length -> w.cell? ⟨b, off + j, none⟩ = l[j]?) : (fW 49 (.pointer (some ⟨b, off, none⟩))).run pg w = .ok (.value (.agg l.toArray)) w := TI Tryd.underlying49 rfl Ld hl.symm h
theorem R1 {b off : Nat} {cs : List adW} {w : adV} (ho : jG w b cs) (h : off + 32 <= cs.length) : (fW 49 (.pointer (some ⟨b, off, none⟩))).run pg w = .ok (.value (.agg ((cs.drop off).take 32).toArray)) w := Hu Tryd.underlying49 rfl Ld ho h
theorem eN {ox oy : Operand} (c d : Bool) (w : adV) : (gO .neq 4 ox oy (.bool c) (.bool d)).run pg w = .ok (.value (.bool (!(c == d)))) w := X4 c d Tryd.underlying4
theorem bQ {ox oy : Operand} (x : Option Addr) (w : adV) : (gO .eql 35 ox oy (.pointer x) (.pointer none)).run pg w = .ok (.value (.bool x.isNone)) w := Mn Tryd.underlying35 x
theorem EH {n : Nat} {ps : List (Nat × adW)} {cells : Array adW} {w : adV} (h1 : ¬ n * 1 > 2 ^ 24) (h0 : ¬ n * 1 = 0) (hf : Go.Instr.fill (fun j => some (j * 1, 1)) ((Array.range (n * 1)).map ((Tryd.t5.zero.get!).cells[· % (Tryd.t5.zero.get!).cells.size]!)) ps = some cells) {K : adW -> adV -> Prop} (hk : ∀ w', jG w' w.heap.size cells.toList -> gX w w' jK -> w'.heap.size = w.heap.size + 1 -> K (.slice (some ⟨w.heap.size, 0, none⟩) n n) w') : eY pg (iF 22 n ps) w K := DL (i := Tryd.t5) Tryd.underlying22 IC rfl h1 h0 hf hk
theorem QO {b off n c : Nat} {cs : List adW} {w : adV} (ho : jG w b cs) {K : adW -> adV -> Prop} (hk : ∀ w', jG w' b cs -> gX w w' (fun y => y = b) -> w'.heap.size = w.heap.size -> K (.slice (some ⟨b, off, none⟩) n c) w') : eY pg (kX 22 22 (.slice (some ⟨b, off, none⟩) n c)) w K := Wv Tryd.underlying22 Tryd.underlying5 ho hk
theorem JO {b off : Nat} {cs : List adW} {w : adV} (ho : jG w b cs) (h : off + 3 <= cs.length) {K : adW -> Prop} (hk : K (.agg ((cs.drop off).take 3).toArray)) : U0 pg 28 (.pointer (some ⟨b, off, none⟩)) w K := QL Tryd.underlying28 rfl Sm ho h hk
theorem dG {k : IntKind} (a : Int) (w : adV) : (kX 3 24 (.int k a)).run pg w = .ok (.value (.int .u64 (IntKind.u64.wrap a))) w := Cb Tryd.underlying3 Tryd.underlying24
theorem bJ  (w : adV) : (lK 28 []).run pg w = .ok (.value (.agg #[(.int .u64 0), (.int .u32 0), (.slice none 0 0)])) w := by kernel_rfl
theorem dL {k : IntKind} (a : Int) (w : adV) : (kX 3 25 (.int k a)).run pg w = .ok (.value (.int .u32 (IntKind.u32.wrap a))) w := Cb Tryd.underlying3 Tryd.underlying25
theorem aI (n0 : Int) (n1 : Int) (w : adV) : (lK 28 [(0, (.int .u64 n0)), (1, (.int .u32 n1))]).run pg w = .ok (.value (.agg #[(.int .u64 n0), (.int .u32 n1), (.slice none 0 0)])) w := by kernel_rfl
theorem PG : (pg).info? 24 = some Tryd.t24 := by kernel_rfl
theorem aH (b o : Nat) (w : adV) : (gM 28 (.pointer (some ⟨b, o, none⟩)) 0).run pg w = .ok (.value (.pointer (some ⟨b, o, none⟩))) w := kI (i := 0) Tryd.underlying28 rfl PG (by decide) _
theorem eL (x : Addr) (w : adV) : (fW 24 (.pointer (some x))).run pg w = NZ (w.cell? x) w (Ps pg 24 x w) := JR Tryd.underlying24 rfl x w
theorem PA {n : Nat} {ps : List (Nat × adW)} {cells : Array adW} {w : adV} (h1 : ¬ n * 32 > 2 ^ 24) (h0 : ¬ n * 32 = 0) (hf : Go.Instr.fill (fun j => some (j * 32, 32)) ((Array.range (n * 32)).map ((Tryd.t49.zero.get!).cells[· % (Tryd.t49.zero.get!).cells.size]!)) ps = some cells) {K : adW -> adV -> Prop} (hk : ∀ w', jG w' w.heap.size cells.toList -> gX w w' jK -> w'.heap.size = w.heap.size + 1 -> K (.slice (some ⟨w.heap.size, 0, none⟩) n n) w') : eY pg (iF 26 n ps) w K := DL (i := Tryd.t49) Tryd.underlying26 Ld rfl h1 h0 hf hk
theorem wT {base n m : Nat} {ty : TypeId} {w : adV} {v x : adW} {l news : List adW} (h : zH w base 32 v n l) (hx : Cl w 32 x m news) (hone : ∀ y ∈ news, one y = true) (hb : base <= w.heap.size) (hbytes : (n + m) * 32 <= 140737488355328) {K : adW -> adV -> Prop} (hk : ∀ v' w', zH w' base 32 v' (n + m) (l ++ news) -> gX w w' (fun y => base <= y) -> K v' w') : eY pg (nG .append #[26, 26] ty [v, x]) w K := KG (i := Tryd.t49) Tryd.underlying26 Tryd.underlying26 Ld rfl rfl rfl h hx hone hb (by omega) hbytes (by decide) hk
theorem Kf {b off : Nat} {cs : List adW} {w : adV} {v : adW} {K : adW -> adV -> Prop} (ho : jG w b cs) (hv : one v = true) (h : off < cs.length) (hk : ∀ w', jG w' b (cs.set off v) -> gX w w' (fun x => x = b) -> w'.heap.size = w.heap.size -> K undef w') : eY pg (iD 26 (.pointer (some ⟨b, off, none⟩)) v) w K := nQ Xx rfl ho hv h hk
theorem Kb {w : adV} {K : adW -> adV -> Prop} (hk : ∀ w', Mp w' w.heap.size (fun s : ByteArray => Value.string s) ([] : List (ByteArray × adW)) -> gX w w' jK -> w'.heap.size = w.heap.size + 1 -> K (.map (some w.heap.size)) w') : eY pg (MF 61 none) w K := UP _ hk
theorem aV (n0 : Int) (m1 : Option Nat) (m2 : Option Nat) (n3 : Int) (w : adV) : (lK 64 [(0, (.int .i64 n0)), (1, (.map m1)), (2, (.map m2)), (4, (.int .i64 n3))]).run pg w = .ok (.value (.agg #[(.int .i64 n0), (.map m1), (.map m2), (.slice none 0 0), (.int .i64 n3), (.bool false)])) w := by kernel_rfl
theorem bZ {ox oy : Operand} (x : Option Addr) (w : adV) : (gO .eql 32 ox oy (.pointer x) (.pointer none)).run pg w = .ok (.value (.bool x.isNone)) w := Mn Tryd.underlying32 x
theorem eI {ty : TypeId} (x : ByteArray) (w : adV) : (nG .len #[9] ty [.string x]).run pg w = .ok (.value (.int .i64 x.size)) w := X3 Tryd.underlying9 x
theorem Lz : (pg).info? 25 = some Tryd.t25 := by kernel_rfl
theorem aF (b o : Nat) (w : adV) : (gM 28 (.pointer (some ⟨b, o, none⟩)) 1).run pg w = .ok (.value (.pointer (some ⟨b, o + 1, none⟩))) w := kI (i := 1) Tryd.underlying28 rfl Lz (by decide) _
theorem eJ (x : Addr) (w : adV) : (fW 25 (.pointer (some x))).run pg w = NZ (w.cell? x) w (Ps pg 25 x w) := JR Tryd.underlying25 rfl x w
theorem dF {k : IntKind} (a : Int) (w : adV) : (kX 25 3 (.int k a)).run pg w = .ok (.value (.int .i64 (IntKind.i64.wrap a))) w := Cb Tryd.underlying25 Tryd.underlying3
theorem aR (p0 : Option Addr) (s1 : ByteArray) (YF Y5 YN : adW) (w : adV) : (lK 67 [(0, (.pointer p0)), (1, (.string s1)), (2, (.agg #[YF, Y5, YN]))]).run pg w = .ok (.value (.agg #[(.pointer p0), (.string s1), YF, Y5, YN, (.int .u64 0), (.slice none 0 0), (.int .i64 0), (.bool false), (.int .i64 0)])) w := by kernel_rfl
theorem XH : (pg).info? 45 = some Tryd.t45 := by kernel_rfl
theorem bF (b o : Nat) (w : adV) : (gM 67 (.pointer (some ⟨b, o, none⟩)) 4).run pg w = .ok (.value (.pointer (some ⟨b, o + 6, none⟩))) w := kI (i := 4) Tryd.underlying67 rfl XH (by decide) _
theorem KY {b off : Nat} {cs : List adW} {w : adV} {v : adW} {K : adW -> adV -> Prop} (ho : jG w b cs) (hv : one v = true) (h : off < cs.length) (hk : ∀ w', jG w' b (cs.set off v) -> gX w w' (fun x => x = b) -> w'.heap.size = w.heap.size -> K undef w') : eY pg (iD 45 (.pointer (some ⟨b, off, none⟩)) v) w K := nQ XH rfl ho hv h hk
theorem eF (x : Addr) (w : adV) : (fW 45 (.pointer (some x))).run pg w = NZ (w.cell? x) w (Ps pg 45 x w) := JR Tryd.underlying45 rfl x w
theorem bH (b o : Nat) (w : adV) : (gM 67 (.pointer (some ⟨b, o, none⟩)) 6).run pg w = .ok (.value (.pointer (some ⟨b, o + 8, none⟩))) w := kI (i := 6) Tryd.underlying67 rfl SI (by decide) _
theorem bE {ty : TypeId} (x : Option Addr) (n c : Nat) (w : adV) : (nG .len #[72] ty [.slice x n c]).run pg w = .ok (.value (.int .i64 n)) w := Mi Tryd.underlying72 x n c
theorem OJ : (pg).info? 77 = some Tryd.t77 := by kernel_rfl
theorem bB {k : IntKind} {a : Int} (b o n c : Nat) (w : adV) (h0 : 0 <= a) (h1 : a < n) : (iJ 72 (.slice (some ⟨b, o, none⟩) n c) (.int k a)).run pg w = .ok (.value (.pointer (some ⟨b, o + a.toNat * 2, none⟩))) w := MB rfl Tryd.underlying72 OJ b o n c h0 h1
theorem LO {b off : Nat} {l : List adW} {w : adV} (hl : l.length = 2) (h : ∀ j, j < l.length -> w.cell? ⟨b, off + j, none⟩ = l[j]?) : (fW 77 (.pointer (some ⟨b, off, none⟩))).run pg w = .ok (.value (.agg l.toArray)) w := TI Tryd.underlying77 rfl OJ hl.symm h
theorem tI {b off : Nat} {cs : List adW} {w : adV} (ho : jG w b cs) (h : off + 2 <= cs.length) : (fW 77 (.pointer (some ⟨b, off, none⟩))).run pg w = .ok (.value (.agg ((cs.drop off).take 2).toArray)) w := Hu Tryd.underlying77 rfl OJ ho h
theorem A7 {w : adV} {K : adW -> adV -> Prop} (hk : ∀ w', jG w' w.heap.size [(.int .u8 0), (.int .u64 0)] -> gX w w' jK -> w'.heap.size = w.heap.size + 1 -> K (.pointer (some ⟨w.heap.size, 0, none⟩)) w') : eY pg (lR 77) w K := vR (i := Tryd.t77) OJ rfl hk
theorem Ar {b off : Nat} {cs : List adW} {w : adV} {xs : Array adW} {K : adW -> adV -> Prop} (ho : jG w b cs) (hs : xs.size = 2) (hv : ∀ x ∈ xs.toList, one x = true) (h : off + 2 <= cs.length) (hk : ∀ w', jG w' b (mZ cs off xs.toList) -> gX w w' (fun x => x = b) -> w'.heap.size = w.heap.size -> K undef w') : eY pg (iD 77 (.pointer (some ⟨b, off, none⟩)) (.agg xs)) w K := CW (v := .agg xs) OJ ho hs hv h hk
theorem aO (b o : Nat) (w : adV) : (gM 77 (.pointer (some ⟨b, o, none⟩)) 0).run pg w = .ok (.value (.pointer (some ⟨b, o, none⟩))) w := kI (i := 0) Tryd.underlying77 rfl IC (by decide) _
theorem aL (b o : Nat) (w : adV) : (gM 77 (.pointer (some ⟨b, o, none⟩)) 1).run pg w = .ok (.value (.pointer (some ⟨b, o + 1, none⟩))) w := kI (i := 1) Tryd.underlying77 rfl PG (by decide) _
theorem cD (x : Addr) (w : adV) : (fW 35 (.pointer (some x))).run pg w = NZ (w.cell? x) w (Ps pg 35 x w) := JR Tryd.underlying35 rfl x w
theorem fG (x : Addr) (w : adV) : (fW 3 (.pointer (some x))).run pg w = NZ (w.cell? x) w (Ps pg 3 x w) := JR Tryd.underlying3 rfl x w
theorem dY (x : Addr) (w : adV) : (fW 22 (.pointer (some x))).run pg w = NZ (w.cell? x) w (Ps pg 22 x w) := JR Tryd.underlying22 rfl x w
theorem cA (b o : Nat) (w : adV) : (gM 67 (.pointer (some ⟨b, o, none⟩)) 2).run pg w = .ok (.value (.pointer (some ⟨b, o + 2, none⟩))) w := kI (i := 2) Tryd.underlying67 rfl Sm (by decide) _
theorem Qi {w : adV} {K : adW -> adV -> Prop} (hk : ∀ w', jG w' w.heap.size [(.int .u64 0)] -> gX w w' jK -> w'.heap.size = w.heap.size + 1 -> K (.pointer (some ⟨w.heap.size, 0, none⟩)) w') : eY pg (lR 24) w K := vR (i := Tryd.t24) PG rfl hk
theorem JG {b off : Nat} {cs : List adW} {w : adV} {v : adW} {K : adW -> adV -> Prop} (ho : jG w b cs) (hv : one v = true) (h : off < cs.length) (hk : ∀ w', jG w' b (cs.set off v) -> gX w w' (fun x => x = b) -> w'.heap.size = w.heap.size -> K undef w') : eY pg (iD 24 (.pointer (some ⟨b, off, none⟩)) v) w K := nQ PG rfl ho hv h hk
theorem Y8 : (pg).info? 32 = some Tryd.t32 := by kernel_rfl
theorem cI (b o : Nat) (w : adV) : (gM 67 (.pointer (some ⟨b, o, none⟩)) 0).run pg w = .ok (.value (.pointer (some ⟨b, o, none⟩))) w := kI (i := 0) Tryd.underlying67 rfl Y8 (by decide) _
theorem dA (x : Addr) (w : adV) : (fW 32 (.pointer (some x))).run pg w = NZ (w.cell? x) w (Ps pg 32 x w) := JR Tryd.underlying32 rfl x w
theorem XN : (pg).info? 39 = some Tryd.t39 := by kernel_rfl
theorem zU {n : Nat} {ps : List (Nat × adW)} {cells : Array adW} {w : adV} (h1 : ¬ n * 1 > 2 ^ 24) (h0 : ¬ n * 1 = 0) (hf : Go.Instr.fill (fun j => some (j * 1, 1)) ((Array.range (n * 1)).map ((Tryd.t39.zero.get!).cells[· % (Tryd.t39.zero.get!).cells.size]!)) ps = some cells) {K : adW -> adV -> Prop} (hk : ∀ w', jG w' w.heap.size cells.toList -> gX w w' jK -> w'.heap.size = w.heap.size + 1 -> K (.slice (some ⟨w.heap.size, 0, none⟩) n n) w') : eY pg (iF 98 n ps) w K := DL (i := Tryd.t39) Tryd.underlying98 XN rfl h1 h0 hf hk
theorem Vq : (pg).info? 29 = some Tryd.t29 := by kernel_rfl
theorem cH (b o : Nat) (w : adV) : (gM 67 (.pointer (some ⟨b, o, none⟩)) 7).run pg w = .ok (.value (.pointer (some ⟨b, o + 9, none⟩))) w := kI (i := 7) Tryd.underlying67 rfl Vq (by decide) _
theorem CN {b off : Nat} {cs : List adW} {w : adV} {v : adW} {K : adW -> adV -> Prop} (ho : jG w b cs) (hv : one v = true) (h : off < cs.length) (hk : ∀ w', jG w' b (cs.set off v) -> gX w w' (fun x => x = b) -> w'.heap.size = w.heap.size -> K undef w') : eY pg (iD 29 (.pointer (some ⟨b, off, none⟩)) v) w K := nQ Vq rfl ho hv h hk
theorem dT (x : Addr) (w : adV) : (fW 29 (.pointer (some x))).run pg w = NZ (w.cell? x) w (Ps pg 29 x w) := JR Tryd.underlying29 rfl x w
theorem Yo : (pg).info? 9 = some Tryd.t9 := by kernel_rfl
theorem bC (b o : Nat) (w : adV) : (gM 67 (.pointer (some ⟨b, o, none⟩)) 1).run pg w = .ok (.value (.pointer (some ⟨b, o + 1, none⟩))) w := kI (i := 1) Tryd.underlying67 rfl Yo (by decide) _
theorem eK (x : Addr) (w : adV) : (fW 9 (.pointer (some x))).run pg w = NZ (w.cell? x) w (Ps pg 9 x w) := JR Tryd.underlying9 rfl x w
theorem Wn : (pg).info? 61 = some Tryd.t61 := by kernel_rfl
theorem bX (b o : Nat) (w : adV) : (gM 64 (.pointer (some ⟨b, o, none⟩)) 2).run pg w = .ok (.value (.pointer (some ⟨b, o + 2, none⟩))) w := kI (i := 2) Tryd.underlying64 rfl Wn (by decide) _
theorem dH (x : Addr) (w : adV) : (fW 61 (.pointer (some x))).run pg w = NZ (w.cell? x) w (Ps pg 61 x w) := JR Tryd.underlying61 rfl x w
theorem PF : (pg).info? 22 = some Tryd.t22 := by kernel_rfl
theorem Bw {w : adV} {m : Nat} {l : List (ByteArray × adW)} (hm : Mp w m (fun s : ByteArray => Value.string s) l) (k : ByteArray) : (Ak 61 (.map (some m)) ((fun s : ByteArray => Value.string s) k) true).run pg w = .ok (.value (.tuple #[(HD k l).getD (.slice none 0 0), .bool (HD k l).isSome])) w := Yp Tryd.underlying61 PF rfl (JH Tryd.underlying9) hm k
theorem O6 {w : adV} {m : Nat} {l : List (ByteArray × adW)} (hm : Mp w m (fun s : ByteArray => Value.string s) l) (k : ByteArray) : (Ak 61 (.map (some m)) ((fun s : ByteArray => Value.string s) k) false).run pg w = .ok (.value ((HD k l).getD (.slice none 0 0))) w := WC Tryd.underlying61 PF rfl (JH Tryd.underlying9) hm k
theorem bP {ox oy : Operand} (x : Option Addr) (w : adV) : (gO .neq 35 ox oy (.pointer x) (.pointer none)).run pg w = .ok (.value (.bool (!x.isNone))) w := U9 Tryd.underlying35 x
theorem aU (b o : Nat) (w : adV) : (gM 67 (.pointer (some ⟨b, o, none⟩)) 3).run pg w = .ok (.value (.pointer (some ⟨b, o + 5, none⟩))) w := kI (i := 3) Tryd.underlying67 rfl PG (by decide) _
theorem RI : (pg).info? 3 = some Tryd.t3 := by kernel_rfl
theorem bU (b o : Nat) (w : adV) : (gM 64 (.pointer (some ⟨b, o, none⟩)) 0).run pg w = .ok (.value (.pointer (some ⟨b, o, none⟩))) w := kI (i := 0) Tryd.underlying64 rfl RI (by decide) _
theorem aC (n0 : Int) (s1 : ByteArray) (n2 : Int) (a3 : Option Addr) (l3 c3 : Nat) (w : adV) : (lK 88 [(0, (.int .i64 n0)), (1, (.string s1)), (3, (.int .i64 n2)), (4, (.slice a3 l3 c3))]).run pg w = .ok (.value (.agg #[(.int .i64 n0), (.string s1), (.string ⟨#[]⟩), (.int .i64 n2), (.slice a3 l3 c3)])) w := by kernel_rfl
theorem Jt {b off : Nat} {cs : List adW} {w : adV} (ho : jG w b cs) (h : off + 32 <= cs.length) {K : adW -> Prop} (hk : K (.agg ((cs.drop off).take 32).toArray)) : U0 pg 49 (.pointer (some ⟨b, off, none⟩)) w K := QL Tryd.underlying49 rfl Ld ho h hk
theorem Hc {w : adV} {K : adW -> adV -> Prop} (hk : ∀ w', jG w' w.heap.size [(.int .u8 0), (.int .u8 0), (.int .u8 0), (.int .u8 0), (.int .u8 0), (.int .u8 0), (.int .u8 0), (.int .u8 0), (.int .u8 0), (.int .u8 0), (.int .u8 0), (.int .u8 0), (.int .u8 0), (.int .u8 0), (.int .u8 0), (.int .u8 0), (.int .u8 0), (.int .u8 0), (.int .u8 0), (.int .u8 0), (.int .u8 0), (.int .u8 0), (.int .u8 0), (.int .u8 0), (.int .u8 0), (.int .u8 0), (.int .u8 0), (.int .u8 0), (.int .u8 0), (.int .u8 0), (.int .u8 0), (.int .u8 0)] -> gX w w' jK -> w'.heap.size = w.heap.size + 1 -> K (.pointer (some ⟨w.heap.size, 0, none⟩)) w') : eY pg (lR 49) w K := vR (i := Tryd.t49) Ld rfl hk
theorem B3 {base n m : Nat} {ty : TypeId} {w : adV} {v x : adW} {l news : List adW} (h : zH w base 1 v n l) (hx : Cl w 1 x m news) (hone : ∀ y ∈ news, one y = true) (hb : base <= w.heap.size) (hbytes : (n + m) * 1 <= 140737488355328) {K : adW -> adV -> Prop} (hk : ∀ v' w', zH w' base 1 v' (n + m) (l ++ news) -> gX w w' (fun y => base <= y) -> K v' w') : eY pg (nG .append #[22, 22] ty [v, x]) w K := KG (i := Tryd.t5) Tryd.underlying22 Tryd.underlying22 IC rfl rfl rfl h hx hone hb (by omega) hbytes (by decide) hk
theorem Jd {b off : Nat} {cs : List adW} {w : adV} {xs : Array adW} {K : adW -> adV -> Prop} (ho : jG w b cs) (hs : xs.size = 32) (hv : ∀ x ∈ xs.toList, one x = true) (h : off + 32 <= cs.length) (hk : ∀ w', jG w' b (mZ cs off xs.toList) -> gX w w' (fun x => x = b) -> w'.heap.size = w.heap.size -> K undef w') : eY pg (iD 49 (.pointer (some ⟨b, off, none⟩)) (.agg xs)) w K := CW (v := .agg xs) Ld ho hs hv h hk
theorem bY (b o : Nat) (w : adV) : (gM 64 (.pointer (some ⟨b, o, none⟩)) 1).run pg w = .ok (.value (.pointer (some ⟨b, o + 1, none⟩))) w := kI (i := 1) Tryd.underlying64 rfl Wn (by decide) _
theorem Pn {b off : Nat} {cs : List adW} {w : adV} {v : adW} {K : adW -> adV -> Prop} (ho : jG w b cs) (hv : one v = true) (h : off < cs.length) (hk : ∀ w', jG w' b (cs.set off v) -> gX w w' (fun x => x = b) -> w'.heap.size = w.heap.size -> K undef w') : eY pg (iD 61 (.pointer (some ⟨b, off, none⟩)) v) w K := nQ Wn rfl ho hv h hk
theorem XG : (pg).info? 62 = some Tryd.t62 := by kernel_rfl
theorem bO (b o : Nat) (w : adV) : (gM 64 (.pointer (some ⟨b, o, none⟩)) 3).run pg w = .ok (.value (.pointer (some ⟨b, o + 3, none⟩))) w := kI (i := 3) Tryd.underlying64 rfl XG (by decide) _
theorem B9 {b off : Nat} {cs : List adW} {w : adV} {v : adW} {K : adW -> adV -> Prop} (ho : jG w b cs) (hv : one v = true) (h : off < cs.length) (hk : ∀ w', jG w' b (cs.set off v) -> gX w w' (fun x => x = b) -> w'.heap.size = w.heap.size -> K undef w') : eY pg (iD 62 (.pointer (some ⟨b, off, none⟩)) v) w K := nQ XG rfl ho hv h hk
theorem cF {ox oy : Operand} (x : Option Addr) (w : adV) : (gO .neq 32 ox oy (.pointer x) (.pointer none)).run pg w = .ok (.value (.bool (!x.isNone))) w := U9 Tryd.underlying32 x
theorem bW (b o : Nat) (w : adV) : (gM 64 (.pointer (some ⟨b, o, none⟩)) 4).run pg w = .ok (.value (.pointer (some ⟨b, o + 4, none⟩))) w := kI (i := 4) Tryd.underlying64 rfl RI (by decide) _
theorem Ku {b off : Nat} {cs : List adW} {w : adV} {v : adW} {K : adW -> adV -> Prop} (ho : jG w b cs) (hv : one v = true) (h : off < cs.length) (hk : ∀ w', jG w' b (cs.set off v) -> gX w w' (fun x => x = b) -> w'.heap.size = w.heap.size -> K undef w') : eY pg (iD 3 (.pointer (some ⟨b, off, none⟩)) v) w K := nQ RI rfl ho hv h hk
theorem aY (x : Addr) (w : adV) : (fW 62 (.pointer (some x))).run pg w = NZ (w.cell? x) w (Ps pg 62 x w) := JR Tryd.underlying62 rfl x w
theorem bA {ty : TypeId} (x : Option Addr) (n c : Nat) (w : adV) : (nG .len #[62] ty [.slice x n c]).run pg w = .ok (.value (.int .i64 n)) w := Mi Tryd.underlying62 x n c
theorem TK : (pg).info? 88 = some Tryd.t88 := by kernel_rfl
theorem aX {k : IntKind} {a : Int} (b o n c : Nat) (w : adV) (h0 : 0 <= a) (h1 : a < n) : (iJ 62 (.slice (some ⟨b, o, none⟩) n c) (.int k a)).run pg w = .ok (.value (.pointer (some ⟨b, o + a.toNat * 5, none⟩))) w := MB rfl Tryd.underlying62 TK b o n c h0 h1
theorem D7 {b off : Nat} {cs : List adW} {w : adV} (ho : jG w b cs) (h : off + 5 <= cs.length) : (fW 88 (.pointer (some ⟨b, off, none⟩))).run pg w = .ok (.value (.agg ((cs.drop off).take 5).toArray)) w := Hu Tryd.underlying88 rfl TK ho h
theorem bV (b o : Nat) (w : adV) : (gM 64 (.pointer (some ⟨b, o, none⟩)) 5).run pg w = .ok (.value (.pointer (some ⟨b, o + 5, none⟩))) w := kI (i := 5) Tryd.underlying64 rfl SI (by decide) _
theorem dM {k : IntKind} (a : Int) (w : adV) : (kX 24 3 (.int k a)).run pg w = .ok (.value (.int .i64 (IntKind.i64.wrap a))) w := Cb Tryd.underlying24 Tryd.underlying3
theorem cU {ox oy : Operand} (x : Option Addr) (n c : Nat) (w : adV) : (gO .eql 26 ox oy (.slice x n c) (.slice none 0 0)).run pg w = .ok (.value (.bool x.isNone)) w := QF Tryd.underlying26 x n c
theorem bR (b o : Nat) (w : adV) : (gM 67 (.pointer (some ⟨b, o, none⟩)) 5).run pg w = .ok (.value (.pointer (some ⟨b, o + 7, none⟩))) w := kI (i := 5) Tryd.underlying67 rfl RI (by decide) _
theorem aZ (n0 : Int) (n1 : Int) (w : adV) : (lK 77 [(0, (.int .u8 n0)), (1, (.int .u64 n1))]).run pg w = .ok (.value (.agg #[(.int .u8 n0), (.int .u64 n1)])) w := by kernel_rfl
theorem M5 {k : IntKind} {n : Int} {w : adV} {K : adW -> adV -> Prop} (h0 : 0 <= n) (hn : 1 * n <= 2 ^ 48) (hk : ∀ w', jG w' w.heap.size (List.replicate n.toNat (.int .u8 0)) -> gX w w' jK -> w'.heap.size = w.heap.size + 1 -> K (.slice (some ⟨w.heap.size, 0, none⟩) n.toNat n.toNat) w') : eY pg (wP 22 (.int k n) (.int k n)) w K := RA (i := Tryd.t5) Tryd.underlying22 IC rfl rfl rfl h0 hn (by omega) hk
theorem aK {ty : TypeId} (x : Option Addr) (n c : Nat) (w : adV) : (nG .len #[98] ty [.slice x n c]).run pg w = .ok (.value (.int .i64 n)) w := Mi Tryd.underlying98 x n c
theorem aJ {k : IntKind} {a : Int} (b o n c : Nat) (w : adV) (h0 : 0 <= a) (h1 : a < n) : (iJ 98 (.slice (some ⟨b, o, none⟩) n c) (.int k a)).run pg w = .ok (.value (.pointer (some ⟨b, o + a.toNat, none⟩))) w := Mk rfl Tryd.underlying98 XN b o n c h0 h1
theorem bG (x : Addr) (w : adV) : (fW 39 (.pointer (some x))).run pg w = NZ (w.cell? x) w (Ps pg 39 x w) := JR Tryd.underlying39 rfl x w
theorem aE (n0 : Int) (s1 : ByteArray) (s2 : ByteArray) (w : adV) : (lK 88 [(0, (.int .i64 n0)), (1, (.string s1)), (2, (.string s2))]).run pg w = .ok (.value (.agg #[(.int .i64 n0), (.string s1), (.string s2), (.int .i64 0), (.slice none 0 0)])) w := by kernel_rfl
theorem dC {ox oy : Operand} (x : Option Addr) (n c : Nat) (w : adV) : (gO .eql 22 ox oy (.slice x n c) (.slice none 0 0)).run pg w = .ok (.value (.bool x.isNone)) w := QF Tryd.underlying22 x n c
theorem PC {w : adV} {m : Nat} {l : List (ByteArray × adW)} (hm : Mp w m (fun s : ByteArray => Value.string s) l) {K : adW -> adV -> Prop} (hk : ∀ w', Xz w' w.heap.size m (fun s : ByteArray => Value.string s) l -> gX w w' jK -> w'.heap.size = w.heap.size + 1 -> K (.pointer (some ⟨w.heap.size, 0, none⟩)) w') : eY pg (Ok 61 (.map (some m))) w K := Uh Tryd.underlying61 hm hk
theorem I8 {n : Nat} {ps : List (Nat × adW)} {cells : Array adW} {w : adV} (h1 : ¬ n * 5 > 2 ^ 24) (h0 : ¬ n * 5 = 0) (hf : Go.Instr.fill (fun j => some (j * 5, 5)) ((Array.range (n * 5)).map ((Tryd.t88.zero.get!).cells[· % (Tryd.t88.zero.get!).cells.size]!)) ps = some cells) {K : adW -> adV -> Prop} (hk : ∀ w', jG w' w.heap.size cells.toList -> gX w w' jK -> w'.heap.size = w.heap.size + 1 -> K (.slice (some ⟨w.heap.size, 0, none⟩) n n) w') : eY pg (iF 62 n ps) w K := DL (i := Tryd.t88) Tryd.underlying62 TK rfl h1 h0 hf hk
theorem dW {ox oy : Operand} (x : Option Addr) (n c : Nat) (w : adV) : (gO .eql 45 ox oy (.slice x n c) (.slice none 0 0)).run pg w = .ok (.value (.bool x.isNone)) w := QF Tryd.underlying45 x n c
theorem KA {base n m : Nat} {ty : TypeId} {w : adV} {v x : adW} {l news : List adW} (h : zH w base 1 v n l) (hx : Cl w 1 x m news) (hone : ∀ y ∈ news, one y = true) (hb : base <= w.heap.size) (hbytes : (n + m) * 1 <= 140737488355328) {K : adW -> adV -> Prop} (hk : ∀ v' w', zH w' base 1 v' (n + m) (l ++ news) -> gX w w' (fun y => base <= y) -> K v' w') : eY pg (nG .append #[45, 45] ty [v, x]) w K := KG (i := Tryd.t4) Tryd.underlying45 Tryd.underlying45 SI rfl rfl rfl h hx hone hb (by omega) hbytes (by decide) hk
theorem aN (b o : Nat) (w : adV) : (gM 88 (.pointer (some ⟨b, o, none⟩)) 1).run pg w = .ok (.value (.pointer (some ⟨b, o + 1, none⟩))) w := kI (i := 1) Tryd.underlying88 rfl Yo (by decide) _
theorem aM (b o : Nat) (w : adV) : (gM 88 (.pointer (some ⟨b, o, none⟩)) 0).run pg w = .ok (.value (.pointer (some ⟨b, o, none⟩))) w := kI (i := 0) Tryd.underlying88 rfl RI (by decide) _
theorem aT (b o : Nat) (w : adV) : (gM 88 (.pointer (some ⟨b, o, none⟩)) 3).run pg w = .ok (.value (.pointer (some ⟨b, o + 3, none⟩))) w := kI (i := 3) Tryd.underlying88 rfl RI (by decide) _
theorem aD (b o : Nat) (w : adV) : (gM 88 (.pointer (some ⟨b, o, none⟩)) 4).run pg w = .ok (.value (.pointer (some ⟨b, o + 4, none⟩))) w := kI (i := 4) Tryd.underlying88 rfl PF (by decide) _
theorem Ev {ty : TypeId} {w : adV} {b off dl c : Nat} {cs : List adW} (ho : jG w b cs) (hl : off + dl <= cs.length) {v : adW} {l : List adW} (h : Sl w v l) (hv : ∀ x ∈ l, one x = true) {K : adW -> adV -> Prop} (hk : ∀ w', jG w' b (mZ cs off (l.take (min l.length dl))) -> gX w w' (fun x => x = b) -> w'.heap.size = w.heap.size -> K (.int .i64 (min l.length dl : Nat)) w') : eY pg (nG .copy #[22, 22] ty [.slice (some ⟨b, off, none⟩) dl c, v]) w K := Q2 Tryd.underlying22 IC rfl ho hl h hv hk
theorem cY {k : IntKind} {lo : Int} (a : Option Addr) (n c : Nat) (w : adV) (h0 : 0 <= lo) (h1 : lo <= n) : (lO 22 (.slice a n c) (some (.int k lo)) none none).run pg w = .ok (.value (.slice (jO a c (lo.toNat) 1) (n - lo.toNat) (c - lo.toNat))) w := Sy Tryd.underlying22 IC _ n c h0 h1
theorem Ka {w : adV} {m : Nat} {l : List (ByteArray × adW)} (hm : Mp w m (fun s : ByteArray => Value.string s) l) (k : ByteArray) (v : adW) {K : adW -> adV -> Prop} (hk : ∀ w', Mp w' m (fun s : ByteArray => Value.string s) (Tl k v l) -> gX w w' (fun y => y = m) -> w'.heap.size = w.heap.size -> K undef w') : eY pg (Kw 61 (.map (some m)) ((fun s : ByteArray => Value.string s) k) v) w K := Up Tryd.underlying61 (JH Tryd.underlying9) hm k v hk
theorem Kp {ty : TypeId} {w : adV} {m : Nat} {l : List (ByteArray × adW)} (hm : Mp w m (fun s : ByteArray => Value.string s) l) (k : ByteArray) {K : adW -> adV -> Prop} (hk : ∀ w', Mp w' m (fun s : ByteArray => Value.string s) (del k l) -> gX w w' (fun y => y = m) -> w'.heap.size = w.heap.size -> K (.tuple #[]) w') : eY pg (nG .delete #[61, 9] ty [.map (some m), .string k]) w K := SM Tryd.underlying61 (JH Tryd.underlying9) hm k hk
theorem aG (b o : Nat) (w : adV) : (gM 88 (.pointer (some ⟨b, o, none⟩)) 2).run pg w = .ok (.value (.pointer (some ⟨b, o + 2, none⟩))) w := kI (i := 2) Tryd.underlying88 rfl Yo (by decide) _
theorem XE : (pg).info? 72 = some Tryd.t72 := by kernel_rfl
theorem JQ {w : adV} {K : adW -> adV -> Prop} (hk : ∀ w', jG w' w.heap.size [(.slice none 0 0)] -> gX w w' jK -> w'.heap.size = w.heap.size + 1 -> K (.pointer (some ⟨w.heap.size, 0, none⟩)) w') : eY pg (lR 72) w K := vR (i := Tryd.t72) XE rfl hk
theorem XS {w : adV} {K : adW -> adV -> Prop} (hk : ∀ w', jG w' w.heap.size [(.int .i64 0)] -> gX w w' jK -> w'.heap.size = w.heap.size + 1 -> K (.pointer (some ⟨w.heap.size, 0, none⟩)) w') : eY pg (lR 3) w K := vR (i := Tryd.t3) RI rfl hk
theorem cL {k : IntKind} (a : Int) (w : adV) : (kX 24 5 (.int k a)).run pg w = .ok (.value (.int .u8 (IntKind.u8.wrap a))) w := Cb Tryd.underlying24 Tryd.underlying5
theorem bT  (w : adV) : (lK 77 []).run pg w = .ok (.value (.agg #[(.int .u8 0), (.int .u64 0)])) w := by kernel_rfl
theorem bD (x : Addr) (w : adV) : (fW 72 (.pointer (some x))).run pg w = NZ (w.cell? x) w (Ps pg 72 x w) := JR Tryd.underlying72 rfl x w
theorem J4 {n : Nat} {ps : List (Nat × adW)} {cells : Array adW} {w : adV} (h1 : ¬ n * 2 > 2 ^ 24) (h0 : ¬ n * 2 = 0) (hf : Go.Instr.fill (fun j => some (j * 2, 2)) ((Array.range (n * 2)).map ((Tryd.t77.zero.get!).cells[· % (Tryd.t77.zero.get!).cells.size]!)) ps = some cells) {K : adW -> adV -> Prop} (hk : ∀ w', jG w' w.heap.size cells.toList -> gX w w' jK -> w'.heap.size = w.heap.size + 1 -> K (.slice (some ⟨w.heap.size, 0, none⟩) n n) w') : eY pg (iF 72 n ps) w K := DL (i := Tryd.t77) Tryd.underlying72 OJ rfl h1 h0 hf hk
theorem J6 {b off : Nat} {cs : List adW} {w : adV} {v : adW} {K : adW -> adV -> Prop} (ho : jG w b cs) (hv : one v = true) (h : off < cs.length) (hk : ∀ w', jG w' b (cs.set off v) -> gX w w' (fun x => x = b) -> w'.heap.size = w.heap.size -> K undef w') : eY pg (iD 72 (.pointer (some ⟨b, off, none⟩)) v) w K := nQ XE rfl ho hv h hk
theorem aP (n0 : Int) (s1 : ByteArray) (w : adV) : (lK 88 [(0, (.int .i64 n0)), (1, (.string s1))]).run pg w = .ok (.value (.agg #[(.int .i64 n0), (.string s1), (.string ⟨#[]⟩), (.int .i64 0), (.slice none 0 0)])) w := by kernel_rfl
theorem cM {k : IntKind} (a : Int) (w : adV) : (kX 5 24 (.int k a)).run pg w = .ok (.value (.int .u64 (IntKind.u64.wrap a))) w := Cb Tryd.underlying5 Tryd.underlying24
theorem cG {k : IntKind} (a : Int) (w : adV) : (kX 25 24 (.int k a)).run pg w = .ok (.value (.int .u64 (IntKind.u64.wrap a))) w := Cb Tryd.underlying25 Tryd.underlying24
theorem aA (n0 : Int) (n1 : Int) (n2 : Int) (n3 : Int) (n4 : Int) (n5 : Int) (n6 : Int) (n7 : Int) (w : adV) : (lK 119 [(0, (.int .u32 n0)), (1, (.int .u32 n1)), (2, (.int .u32 n2)), (3, (.int .u32 n3)), (4, (.int .u32 n4)), (5, (.int .u32 n5)), (6, (.int .u32 n6)), (7, (.int .u32 n7))]).run pg w = .ok (.value (.agg #[(.int .u32 n0), (.int .u32 n1), (.int .u32 n2), (.int .u32 n3), (.int .u32 n4), (.int .u32 n5), (.int .u32 n6), (.int .u32 n7)])) w := by kernel_rfl
theorem dN (Y0 YP Zb YQ Y7 Zc YU YC : adW) (w : adV) : (lK 122 [(0, (.agg #[Y0, YP, Zb, YQ, Y7, Zc, YU, YC]))]).run pg w = .ok (.value (.agg #[Y0, YP, Zb, YQ, Y7, Zc, YU, YC, (.int .u8 0), (.int .u8 0), (.int .u8 0), (.int .u8 0), (.int .u8 0), (.int .u8 0), (.int .u8 0), (.int .u8 0), (.int .u8 0), (.int .u8 0), (.int .u8 0), (.int .u8 0), (.int .u8 0), (.int .u8 0), (.int .u8 0), (.int .u8 0), (.int .u8 0), (.int .u8 0), (.int .u8 0), (.int .u8 0), (.int .u8 0), (.int .u8 0), (.int .u8 0), (.int .u8 0), (.int .u8 0), (.int .u8 0), (.int .u8 0), (.int .u8 0), (.int .u8 0), (.int .u8 0), (.int .u8 0), (.int .u8 0), (.int .u8 0), (.int .u8 0), (.int .u8 0), (.int .u8 0), (.int .u8 0), (.int .u8 0), (.int .u8 0), (.int .u8 0), (.int .u8 0), (.int .u8 0), (.int .u8 0), (.int .u8 0), (.int .u8 0), (.int .u8 0), (.int .u8 0), (.int .u8 0), (.int .u8 0), (.int .u8 0), (.int .u8 0), (.int .u8 0), (.int .u8 0), (.int .u8 0), (.int .u8 0), (.int .u8 0), (.int .u8 0), (.int .u8 0), (.int .u8 0), (.int .u8 0), (.int .u8 0), (.int .u8 0), (.int .u8 0), (.int .u8 0), (.int .i64 0), (.int .u64 0)])) w := by kernel_rfl
theorem cQ {ox oy : Operand} (x : Option Addr) (w : adV) : (gO .eql 100 ox oy (.pointer x) (.pointer none)).run pg w = .ok (.value (.bool x.isNone)) w := Mn Tryd.underlying100 x
theorem cV (b o : Nat) (w : adV) : (gM 122 (.pointer (some ⟨b, o, none⟩)) 3).run pg w = .ok (.value (.pointer (some ⟨b, o + 73, none⟩))) w := kI (i := 3) Tryd.underlying122 rfl PG (by decide) _
theorem Vr : (pg).info? 120 = some Tryd.t120 := by kernel_rfl
theorem cC (b o : Nat) (w : adV) : (gM 122 (.pointer (some ⟨b, o, none⟩)) 1).run pg w = .ok (.value (.pointer (some ⟨b, o + 8, none⟩))) w := kI (i := 1) Tryd.underlying122 rfl Vr (by decide) _
theorem dO (b o : Nat) (w : adV) : (gM 122 (.pointer (some ⟨b, o, none⟩)) 2).run pg w = .ok (.value (.pointer (some ⟨b, o + 72, none⟩))) w := kI (i := 2) Tryd.underlying122 rfl RI (by decide) _
theorem cB {k : IntKind} {lo : Int} (b o : Nat) (w : adV) (h0 : 0 <= lo) (h1 : lo <= 64) : (lO 120 (.pointer (some ⟨b, o, none⟩)) (some (.int k lo)) none none).run pg w = .ok (.value (.slice (some (Ci ⟨b, o, none⟩ 64 (lo.toNat) 1)) (64 - lo.toNat) (64 - lo.toNat))) w := Nn Tryd.underlying120 IC _ h0 (by simpa using h1)
theorem Ou : (pg).info? 119 = some Tryd.t119 := by kernel_rfl
theorem dJ (b o : Nat) (w : adV) : (gM 122 (.pointer (some ⟨b, o, none⟩)) 0).run pg w = .ok (.value (.pointer (some ⟨b, o, none⟩))) w := kI (i := 0) Tryd.underlying122 rfl Ou (by decide) _
theorem Fm {b off : Nat} {cs : List adW} {w : adV} (ho : jG w b cs) (h : off + 8 <= cs.length) : (fW 119 (.pointer (some ⟨b, off, none⟩))).run pg w = .ok (.value (.agg ((cs.drop off).take 8).toArray)) w := Hu Tryd.underlying119 rfl Ou ho h
theorem Jk {b off : Nat} {cs : List adW} {w : adV} (ho : jG w b cs) (h : off + 64 <= cs.length) : (fW 120 (.pointer (some ⟨b, off, none⟩))).run pg w = .ok (.value (.agg ((cs.drop off).take 64).toArray)) w := Hu Tryd.underlying120 rfl Vr ho h
theorem Ff {b off : Nat} {cs : List adW} {w : adV} {xs : Array adW} {K : adW -> adV -> Prop} (ho : jG w b cs) (hs : xs.size = 8) (hv : ∀ x ∈ xs.toList, one x = true) (h : off + 8 <= cs.length) (hk : ∀ w', jG w' b (mZ cs off xs.toList) -> gX w w' (fun x => x = b) -> w'.heap.size = w.heap.size -> K undef w') : eY pg (iD 119 (.pointer (some ⟨b, off, none⟩)) (.agg xs)) w K := CW (v := .agg xs) Ou ho hs hv h hk
theorem SX : (pg).info? 122 = some Tryd.t122 := by kernel_rfl
theorem Qt {b off : Nat} {cs : List adW} {w : adV} (ho : jG w b cs) (h : off + 74 <= cs.length) : (fW 122 (.pointer (some ⟨b, off, none⟩))).run pg w = .ok (.value (.agg ((cs.drop off).take 74).toArray)) w := Hu Tryd.underlying122 rfl SX ho h
theorem RO {w : adV} {K : adW -> adV -> Prop} (hk : ∀ w', jG w' w.heap.size [(.int .u32 0), (.int .u32 0), (.int .u32 0), (.int .u32 0), (.int .u32 0), (.int .u32 0), (.int .u32 0), (.int .u32 0), (.int .u8 0), (.int .u8 0), (.int .u8 0), (.int .u8 0), (.int .u8 0), (.int .u8 0), (.int .u8 0), (.int .u8 0), (.int .u8 0), (.int .u8 0), (.int .u8 0), (.int .u8 0), (.int .u8 0), (.int .u8 0), (.int .u8 0), (.int .u8 0), (.int .u8 0), (.int .u8 0), (.int .u8 0), (.int .u8 0), (.int .u8 0), (.int .u8 0), (.int .u8 0), (.int .u8 0), (.int .u8 0), (.int .u8 0), (.int .u8 0), (.int .u8 0), (.int .u8 0), (.int .u8 0), (.int .u8 0), (.int .u8 0), (.int .u8 0), (.int .u8 0), (.int .u8 0), (.int .u8 0), (.int .u8 0), (.int .u8 0), (.int .u8 0), (.int .u8 0), (.int .u8 0), (.int .u8 0), (.int .u8 0), (.int .u8 0), (.int .u8 0), (.int .u8 0), (.int .u8 0), (.int .u8 0), (.int .u8 0), (.int .u8 0), (.int .u8 0), (.int .u8 0), (.int .u8 0), (.int .u8 0), (.int .u8 0), (.int .u8 0), (.int .u8 0), (.int .u8 0), (.int .u8 0), (.int .u8 0), (.int .u8 0), (.int .u8 0), (.int .u8 0), (.int .u8 0), (.int .i64 0), (.int .u64 0)] -> gX w w' jK -> w'.heap.size = w.heap.size + 1 -> K (.pointer (some ⟨w.heap.size, 0, none⟩)) w') : eY pg (lR 122) w K := vR (i := Tryd.t122) SX rfl hk
theorem QE {b off : Nat} {cs : List adW} {w : adV} {xs : Array adW} {K : adW -> adV -> Prop} (ho : jG w b cs) (hs : xs.size = 74) (hv : ∀ x ∈ xs.toList, one x = true) (h : off + 74 <= cs.length) (hk : ∀ w', jG w' b (mZ cs off xs.toList) -> gX w w' (fun x => x = b) -> w'.heap.size = w.heap.size -> K undef w') : eY pg (iD 122 (.pointer (some ⟨b, off, none⟩)) (.agg xs)) w K := CW (v := .agg xs) SX ho hs hv h hk
theorem dU {k : IntKind} {a : Int} (b o : Nat) (w : adV) (h0 : 0 <= a) (h1 : a < 8) : (iJ 119 (.pointer (some ⟨b, o, none⟩)) (.int k a)).run pg w = .ok (.value (.pointer (some ⟨b, o + a.toNat, none⟩))) w := JI rfl Tryd.underlying119 Lz b o h0 (by simpa using h1)
theorem cP {k : IntKind} (a : Int) (w : adV) : (kX 25 5 (.int k a)).run pg w = .ok (.value (.int .u8 (IntKind.u8.wrap a))) w := Cb Tryd.underlying25 Tryd.underlying5
theorem eC {k : IntKind} {a : Int} (b o : Nat) (w : adV) (h0 : 0 <= a) (h1 : a < 32) : (iJ 49 (.pointer (some ⟨b, o, none⟩)) (.int k a)).run pg w = .ok (.value (.pointer (some ⟨b, o + a.toNat, none⟩))) w := JI rfl Tryd.underlying49 IC b o h0 (by simpa using h1)
theorem eM {ox oy : Operand} (c d : Bool) (w : adV) : (gO .eql 4 ox oy (.bool c) (.bool d)).run pg w = .ok (.value (.bool (c == d))) w := X6 c d Tryd.underlying4
theorem bN (a0 : Option Addr) (l0 c0 : Nat) (w : adV) : (lK 126 [(0, (.slice a0 l0 c0))]).run pg w = .ok (.value (.agg #[(.slice a0 l0 c0), (.int .i64 0)])) w := by kernel_rfl
theorem aS {ox oy : Operand} (x : Option Addr) (w : adV) : (gO .eql 109 ox oy (.pointer x) (.pointer none)).run pg w = .ok (.value (.bool x.isNone)) w := Mn Tryd.underlying109 x
theorem dZ {k : IntKind} (a : Int) (w : adV) : (kX 3 128 (.int k a)).run pg w = .ok (.value (.int .u64 (IntKind.u64.wrap a))) w := Cb Tryd.underlying3 Tryd.underlying128
theorem bS  (w : adV) : (lK 130 []).run pg w = .ok (.value (.agg #[(.slice none 0 0)])) w := by kernel_rfl
theorem aQ {ox oy : Operand} (x : Option Addr) (w : adV) : (gO .eql 113 ox oy (.pointer x) (.pointer none)).run pg w = .ok (.value (.bool x.isNone)) w := Mn Tryd.underlying113 x
theorem bL (b o : Nat) (w : adV) : (gM 130 (.pointer (some ⟨b, o, none⟩)) 0).run pg w = .ok (.value (.pointer (some ⟨b, o, none⟩))) w := kI (i := 0) Tryd.underlying130 rfl PF (by decide) _
theorem Np {b off : Nat} {cs : List adW} {w : adV} {v : adW} {K : adW -> adV -> Prop} (ho : jG w b cs) (hv : one v = true) (h : off < cs.length) (hk : ∀ w', jG w' b (cs.set off v) -> gX w w' (fun x => x = b) -> w'.heap.size = w.heap.size -> K undef w') : eY pg (iD 22 (.pointer (some ⟨b, off, none⟩)) v) w K := nQ PF rfl ho hv h hk
theorem Pt {b off : Nat} {cs : List adW} {w : adV} (ho : jG w b cs) (h : off + 8 <= cs.length) {K : adW -> Prop} (hk : K (.agg ((cs.drop off).take 8).toArray)) : U0 pg 119 (.pointer (some ⟨b, off, none⟩)) w K := QL Tryd.underlying119 rfl Ou ho h hk
theorem La {w : adV} {K : adW -> adV -> Prop} (hk : ∀ w', jG w' w.heap.size [(.int .u32 0), (.int .u32 0), (.int .u32 0), (.int .u32 0), (.int .u32 0), (.int .u32 0), (.int .u32 0), (.int .u32 0)] -> gX w w' jK -> w'.heap.size = w.heap.size + 1 -> K (.pointer (some ⟨w.heap.size, 0, none⟩)) w') : eY pg (lR 119) w K := vR (i := Tryd.t119) Ou rfl hk
theorem Yh : (pg).info? 134 = some Tryd.t134 := by kernel_rfl
theorem O3 {w : adV} {K : adW -> adV -> Prop} (hk : ∀ w', jG w' w.heap.size [(.int .u32 0), (.int .u32 0), (.int .u32 0), (.int .u32 0), (.int .u32 0), (.int .u32 0), (.int .u32 0), (.int .u32 0), (.int .u32 0), (.int .u32 0), (.int .u32 0), (.int .u32 0), (.int .u32 0), (.int .u32 0), (.int .u32 0), (.int .u32 0), (.int .u32 0), (.int .u32 0), (.int .u32 0), (.int .u32 0), (.int .u32 0), (.int .u32 0), (.int .u32 0), (.int .u32 0), (.int .u32 0), (.int .u32 0), (.int .u32 0), (.int .u32 0), (.int .u32 0), (.int .u32 0), (.int .u32 0), (.int .u32 0), (.int .u32 0), (.int .u32 0), (.int .u32 0), (.int .u32 0), (.int .u32 0), (.int .u32 0), (.int .u32 0), (.int .u32 0), (.int .u32 0), (.int .u32 0), (.int .u32 0), (.int .u32 0), (.int .u32 0), (.int .u32 0), (.int .u32 0), (.int .u32 0), (.int .u32 0), (.int .u32 0), (.int .u32 0), (.int .u32 0), (.int .u32 0), (.int .u32 0), (.int .u32 0), (.int .u32 0), (.int .u32 0), (.int .u32 0), (.int .u32 0), (.int .u32 0), (.int .u32 0), (.int .u32 0), (.int .u32 0), (.int .u32 0)] -> gX w w' jK -> w'.heap.size = w.heap.size + 1 -> K (.pointer (some ⟨w.heap.size, 0, none⟩)) w') : eY pg (lR 134) w K := vR (i := Tryd.t134) Yh rfl hk
theorem dS {k : IntKind} {a : Int} (cs : Array adW) (w : adV) (h0 : 0 <= a) (h1 : a < 64) : (Ua 120 (.agg cs) (.int k a)).run pg w = NZ cs[a.toNat]? w (YE pg 120 cs k a w) := X8 Tryd.underlying120 Tryd.underlying5 rfl IC rfl cs h0 (by simpa using h1)
theorem dB {k : IntKind} {a : Int} (b o : Nat) (w : adV) (h0 : 0 <= a) (h1 : a < 64) : (iJ 134 (.pointer (some ⟨b, o, none⟩)) (.int k a)).run pg w = .ok (.value (.pointer (some ⟨b, o + a.toNat, none⟩))) w := JI rfl Tryd.underlying134 Lz b o h0 (by simpa using h1)
theorem cO {k : IntKind} (a : Int) (w : adV) : (kX 5 25 (.int k a)).run pg w = .ok (.value (.int .u32 (IntKind.u32.wrap a))) w := Cb Tryd.underlying5 Tryd.underlying25
theorem yZ {b off : Nat} {cs : List adW} {w : adV} {v : adW} {K : adW -> adV -> Prop} (ho : jG w b cs) (hv : one v = true) (h : off < cs.length) (hk : ∀ w', jG w' b (cs.set off v) -> gX w w' (fun x => x = b) -> w'.heap.size = w.heap.size -> K undef w') : eY pg (iD 25 (.pointer (some ⟨b, off, none⟩)) v) w K := nQ Lz rfl ho hv h hk
theorem cS {k : IntKind} {lo : Int} (b o : Nat) (w : adV) (h0 : 0 <= lo) (h1 : lo <= 8) : (lO 119 (.pointer (some ⟨b, o, none⟩)) (some (.int k lo)) none none).run pg w = .ok (.value (.slice (some (Ci ⟨b, o, none⟩ 8 (lo.toNat) 1)) (8 - lo.toNat) (8 - lo.toNat))) w := Nn Tryd.underlying119 Lz _ h0 (by simpa using h1)
theorem cN {k : IntKind} {hi : Int} (b o : Nat) (w : adV) (h0 : 0 <= hi) (h1 : hi <= 8) : (lO 119 (.pointer (some ⟨b, o, none⟩)) none (some (.int k hi)) none).run pg w = .ok (.value (.slice (some (Ci ⟨b, o, none⟩ 8 (0) 1)) (hi.toNat - 0) (8 - 0))) w := Sa Tryd.underlying119 Lz _ h0 (by simpa using h1)
theorem QG {ty : TypeId} {w : adV} {b off dl c : Nat} {cs : List adW} (ho : jG w b cs) (hl : off + dl <= cs.length) {v : adW} {l : List adW} (h : Sl w v l) (hv : ∀ x ∈ l, one x = true) {K : adW -> adV -> Prop} (hk : ∀ w', jG w' b (mZ cs off (l.take (min l.length dl))) -> gX w w' (fun x => x = b) -> w'.heap.size = w.heap.size -> K (.int .i64 (min l.length dl : Nat)) w') : eY pg (nG .copy #[136, 136] ty [.slice (some ⟨b, off, none⟩) dl c, v]) w K := Q2 Tryd.underlying136 Lz rfl ho hl h hv hk
theorem bK (b o : Nat) (w : adV) : (gM 126 (.pointer (some ⟨b, o, none⟩)) 1).run pg w = .ok (.value (.pointer (some ⟨b, o + 1, none⟩))) w := kI (i := 1) Tryd.underlying126 rfl Vq (by decide) _
theorem bM (b o : Nat) (w : adV) : (gM 126 (.pointer (some ⟨b, o, none⟩)) 0).run pg w = .ok (.value (.pointer (some ⟨b, o, none⟩))) w := kI (i := 0) Tryd.underlying126 rfl PF (by decide) _
theorem cX {k k' : IntKind} {hi mx : Int} (a : Option Addr) (n c : Nat) (w : adV) (h0 : 0 <= hi) (h1 : hi <= mx) (h2 : mx <= c) : (lO 22 (.slice a n c) none (some (.int k hi)) (some (.int k' mx))).run pg w = .ok (.value (.slice (jO a mx.toNat 0 1) (hi.toNat - 0) (mx.toNat - 0))) w := Tm Tryd.underlying22 IC a n c h0 h1 h2
theorem dR (n0 : Int) (w : adV) : (lK 138 [(0, (.int .u32 n0))]).run pg w = .ok (.value (.agg #[(.int .u32 n0)])) w := by kernel_rfl
theorem cR {ox oy : Operand} (x : Option Addr) (w : adV) : (gO .eql 131 ox oy (.pointer x) (.pointer none)).run pg w = .ok (.value (.bool x.isNone)) w := Mn Tryd.underlying131 x
theorem dD (b o : Nat) (w : adV) : (gM 138 (.pointer (some ⟨b, o, none⟩)) 0).run pg w = .ok (.value (.pointer (some ⟨b, o, none⟩))) w := kI (i := 0) Tryd.underlying138 rfl Lz (by decide) _
theorem cZ {k : IntKind} {a : Int} (b o : Nat) (w : adV) (h0 : 0 <= a) (h1 : a < 16) : (iJ 139 (.pointer (some ⟨b, o, none⟩)) (.int k a)).run pg w = .ok (.value (.pointer (some ⟨b, o + a.toNat, none⟩))) w := JI rfl Tryd.underlying139 Lz b o h0 (by simpa using h1)
end Go.Proofs.YteelnmpbnaohpaaDoor
namespace Go.Pu
def KN (p : Int) : Int := if p < 0 then 1 else p
def fits : Int -> List Int -> Bool
 | left, [] => left == 0
 | left, p :: r => if p < -1 ∨ left < KN p then false else fits (left - KN p) r
def RX (ps : List Int) : Int := (ps.map KN).sum
def XA (log : Int) (ps : List Int) : Bool := decide (5 <= log /\ log <= 15 /\ 1 <= ps.length /\ ps.length <= 256 /\ ps.getLast? ≠ some 0)
def Y6 (log : Int) (ps : List Int) : Bool := XA log ps && fits (2 ^ log.toNat) ps
theorem Qh (p : Int) (ps : List Int) : RX (p :: ps) = KN p + RX ps := by simp [RX]
theorem Pz {p : Int} (h : -1 <= p) : 0 <= KN p := by unfold KN; split <;> omega
theorem Se {ps : List Int} (h : ∀ p ∈ ps, -1 <= p) : 0 <= RX ps := by
 induction ps with
 | nil => simp [RX]
 | cons p r ih =>
   rw [Qh]
   have := Pz (h p (by simp))
   have := ih fun q hq => h q (Z7 _ hq)
   omega
theorem Sh : ∀ {ps : List Int} {left : Int}, fits left ps = true ↔ (∀ p ∈ ps, -1 <= p) /\ RX ps = left
 | [], left => by simp [fits, RX]; constructor <;> intro h <;> omega
 | p :: r, left => by
   rw [fits, Qh]
   by_cases h : p < -1 ∨ left < KN p
   .rw [if_pos h]
    constructor
    .intro h; cases h
    .rintro ⟨h1, h2⟩
     have hp := h1 p (by simp)
     have := Se (ps := r) fun q hq => h1 q (Z7 _ hq)
     omega
   .rw [if_neg h, Sh]
    constructor
    .rintro ⟨h1, h2⟩
     exact ⟨fun q hq => by rcases aaR.1 hq with rfl | hq; · omega
                           .exact h1 q hq, by omega⟩
    .rintro ⟨h1, h2⟩
     exact ⟨fun q hq => h1 q (Z7 _ hq), by omega⟩
structure ZC (log : Nat) (ps : List Int) : Prop where
 log5 : 5 <= log
 log15 : log <= 15
 len1 : 1 <= ps.length
 len256 : ps.length <= 256
 last : ps.getLast? ≠ some 0
 low : ∀ p ∈ ps, -1 <= p
 sum : RX ps = 2 ^ log
theorem ZC.b {log : Nat} {ps : List Int} (h : ZC log ps) : Y6 log ps = true := by
 unfold Y6 XA
 simp only [Z4, decide_eq_true_eq]
 have h1 := h.log5
 have h2 := h.log15
 refine ⟨⟨by omega, by omega, h.len1, h.len256, h.last⟩, ?_⟩
 rw [Sh, ZV]
 exact ⟨h.low, h.sum⟩
def pos (n j : Nat) : Nat := (j * (n / 2 + n / 8 + 3)) % n
end Go.Pu
namespace Go.Pu
open Go Go.En
def YJ (c : UInt8) : List Bool := (List.range 8).map c.toNat.testBit
def XD : List UInt8 -> List Bool
 | [] => []
 | c :: l => YJ c ++ XD l
theorem X9 {x i : Nat} (h : x < 2 ^ i) (b : Nat) : x ||| (b * 2 ^ i) = x + 2 ^ i * b := by
 rw [Nat.or_comm, Nat.mul_comm b, <- Nat.two_pow_add_eq_or_of_lt h b, Nat.add_comm]
theorem Xs {a b : Nat} (ha : a < 2 ^ 64) (hb : b < 2 ^ 64) : Yz .u64 (a : Int) (b : Int) = ((a ||| b : Nat) : Int) := by
 have h := Nat.or_lt_two_pow ha hb
 unfold Yz
 have e : IntKind.u64.bits = 64 := rfl
 rw [e, BitVec.ofInt_natCast, BitVec.ofInt_natCast, BitVec.toNat_or, BitVec.toNat_ofNat, BitVec.toNat_ofNat, abS ha, abS hb]
 exact fJ (by omega) (by have : ((a ||| b : Nat) : Int) < ((2 ^ 64 : Nat) : Int) := by exact_mod_cast h
                         omega)
end Go.Pu
namespace Go.Pu
open Go.En
abbrev tL : Nat := 4294967296
theorem TZ {a b : Nat} (ha : a < tL) (hb : b < tL) : Yz .u32 (a : Int) (b : Int) = ((a ||| b : Nat) : Int) := by
 have h := Nat.or_lt_two_pow (n := 32) ha hb
 unfold Yz
 have e : IntKind.u32.bits = 32 := rfl
 rw [e, BitVec.ofInt_natCast, BitVec.ofInt_natCast, BitVec.toNat_or, BitVec.toNat_ofNat, BitVec.toNat_ofNat, abS ha, abS hb]
 exact fN (by omega) (by have : ((a ||| b : Nat) : Int) < ((2 ^ 32 : Nat) : Int) := by exact_mod_cast h
                         omega)
theorem uT {a b : Nat} (ha : a < tL) (hb : b < tL) : QH .u32 (a : Int) (b : Int) = ((a ^^^ b : Nat) : Int) := by
 have h := Nat.xor_lt_two_pow (n := 32) ha hb
 unfold QH
 have e : IntKind.u32.bits = 32 := rfl
 rw [e, BitVec.ofInt_natCast, BitVec.ofInt_natCast, BitVec.toNat_xor, BitVec.toNat_ofNat, BitVec.toNat_ofNat, abS ha, abS hb]
 exact fN (by omega) (by have : ((a ^^^ b : Nat) : Int) < ((2 ^ 32 : Nat) : Int) := by exact_mod_cast h
                         omega)
theorem Gv {a b : Nat} (ha : a < tL) (hb : b < tL) : UK .u32 (a : Int) (b : Int) = ((a &&& b : Nat) : Int) := by
 have h := Nat.and_lt_two_pow (n := 32) a hb
 unfold UK
 have e : IntKind.u32.bits = 32 := rfl
 rw [e, BitVec.ofInt_natCast, BitVec.ofInt_natCast, BitVec.toNat_and, BitVec.toNat_ofNat, BitVec.toNat_ofNat, abS ha, abS hb]
 exact fN (by omega) (by have : ((a &&& b : Nat) : Int) < ((2 ^ 32 : Nat) : Int) := by exact_mod_cast h
                         omega)
theorem Sj (a : Nat) : IntKind.u32.wrap (a : Int) = ((a % tL : Nat) : Int) := by
 show (a : Int) % 4294967296 = ((a % 4294967296 : Nat) : Int)
 omega
theorem OA (a b : Nat) : IntKind.u32.wrap ((a : Int) + (b : Int)) = (((a + b) % tL : Nat) : Int) := by
 rw [<- Sj]; congr 1
theorem RP (a k : Nat) : IntKind.u32.wrap ((a : Int) * 2 ^ k) = ((a * 2 ^ k % tL : Nat) : Int) := by
 have e : ((a : Int) * 2 ^ k) = ((a * 2 ^ k : Nat) : Int) := by simp
 rw [e, Sj]
theorem OP (a k : Nat) : (a : Int).fdiv (2 ^ k) = ((a / 2 ^ k : Nat) : Int) := by
 rw [Int.fdiv_eq_ediv_of_nonneg _ (by exact Int.le_of_lt (Int.pow_pos (by decide)))]
 simp
theorem IT {a b : Nat} (ha : a < tL) (hb : b < tL) : a ^^^ b < tL := Nat.xor_lt_two_pow (n := 32) ha hb
theorem Xy {a b : Nat} (ha : a < tL) (hb : b < tL) : a ||| b < tL := Nat.or_lt_two_pow (n := 32) ha hb
theorem KJ (a : Nat) {b : Nat} (hb : b < tL) : a &&& b < tL := Nat.and_lt_two_pow (n := 32) a hb
theorem EK (a : Nat) : a % tL < tL := acU _ (by decide)
theorem OX {a : Nat} (h : a < tL) (k : Nat) : a / 2 ^ k < tL := Nat.lt_of_le_of_lt (Nat.div_le_self _ _) h
def RE (x k : Nat) : Nat := (x * 2 ^ (32 - k) % tL) ||| (x / 2 ^ k)
theorem CL {x k : Nat} (h : x < tL) : RE x k < tL := Xy (EK _) (OX h k)
def PH (x a b c : Nat) : Nat := RE x a ^^^ RE x b ^^^ RE x c
def To (x a b d : Nat) : Nat := RE x a ^^^ RE x b ^^^ (x / 2 ^ d)
def SW (b : List UInt8) : Nat -> List Nat
 | 0 => List.replicate 64 0
 | i + 1 => (SW b i).set (i / 4) (((SW b i).getD (i / 4) 0 * 2 ^ 8 % tL) ||| (b.getD i 0).toNat)
def T1 (l : List Nat) : Nat -> List Nat
 | 0 => l
 | j + 1 => (T1 l j).set (16 + j) (((((T1 l j).getD j 0 + To ((T1 l j).getD (j + 1) 0) 7 18 3) % tL + (T1 l j).getD (j + 9) 0) % tL + To ((T1 l j).getD (j + 14) 0) 17 19 10) % tL)
def kN : List Nat := [1116352408, 1899447441, 3049323471, 3921009573, 961987163, 1508970993, 2453635748, 2870763221, 3624381080, 310598401, 607225278, 1426881987, 1925078388, 2162078206, 2614888103, 3248222580, 3835390401, 4022224774, 264347078, 604807628, 770255983, 1249150122, 1555081692, 1996064986, 2554220882, 2821834349, 2952996808, 3210313671, 3336571891, 3584528711, 113926993, 338241895, 666307205, 773529912, 1294757372, 1396182291, 1695183700, 1986661051, 2177026350, 2456956037, 2730485921, 2820302411, 3259730800, 3345764771, 3516065817, 3600352804, 4094571909, 275423344, 430227734, 506948616, 659060556, 883997877, 958139571, 1322822218, 1537002063, 1747873779, 1955562222, 2024104815, 2227730452, 2361852424, 2428436474, 2756734187, 3204031479, 3329325298]
def XV (v : List Nat) (k w : Nat) : Nat :=
 ((((v.getD 7 0 + PH (v.getD 4 0) 6 11 25) % tL + ((v.getD 4 0 &&& v.getD 5 0) ^^^ ((4294967295 ^^^ v.getD 4 0) &&& v.getD 6 0))) % tL + k) % tL + w) % tL
def YK (v : List Nat) : Nat := (PH (v.getD 0 0) 2 13 22 + ((v.getD 0 0 &&& v.getD 1 0) ^^^ (v.getD 0 0 &&& v.getD 2 0) ^^^ (v.getD 1 0 &&& v.getD 2 0))) % tL
def Rv (v : List Nat) (k w : Nat) : List Nat :=
 [(XV v k w + YK v) % tL, v.getD 0 0, v.getD 1 0, v.getD 2 0, (v.getD 3 0 + XV v k w) % tL, v.getD 4 0, v.getD 5 0, v.getD 6 0]
def wZ (W : List Nat) (s : List Nat) : Nat -> List Nat
 | 0 => s
 | t + 1 => Rv (wZ W s t) (kN.getD t 0) (W.getD t 0)
def BN (v s : List Nat) (i : Nat) : List Nat := v.mapIdx fun j x => if j < i then (x + s.getD j 0) % tL else x
def Kj (s : List Nat) (b : List UInt8) : List Nat := BN (wZ (T1 (SW b 64) 48) s 64) s 8
def CM (l : List Nat) : Prop := ∀ x ∈ l, x < tL
theorem CM.getD {l : List Nat} (h : CM l) (i : Nat) : l.getD i 0 < tL := by
 rw [Z5]
 cases e : l[i]? with
 | none => decide
 | some x => exact h x (adO e)
theorem CM.set {l : List Nat} (h : CM l) {i x : Nat} (hx : x < tL) : CM (l.set i x) := fun y hy => by
 rcases List.mem_or_eq_of_mem_set hy with h1 | h1
 .exact h y h1
 .rw [h1]; exact hx
theorem TD (b : List UInt8) : ∀ i, (SW b i).length = 64
 | 0 => by simp [SW]
 | i + 1 => by rw [SW, acL, TD b i]
theorem Ti (b : List UInt8) : ∀ i, CM (SW b i)
 | 0 => fun x hx => by
   rw [SW] at hx
   rw [(List.mem_replicate.1 hx).2]; decide
 | i + 1 => by
   have h2 := (b.getD i 0).toNat_lt
   exact (Ti b i).set (Xy (EK _) (by have : tL = 4294967296 := rfl
                                     omega))
theorem TG (l : List Nat) : ∀ j, (T1 l j).length = l.length
 | 0 => rfl
 | j + 1 => by rw [T1, acL, TG l j]
theorem VB {l : List Nat} (h : CM l) : ∀ j, CM (T1 l j)
 | 0 => h
 | j + 1 => (VB h j).set (EK _)
theorem UU (v : List Nat) (k w : Nat) : (Rv v k w).length = 8 := rfl
theorem VJ {v : List Nat} (h : CM v) (k w : Nat) : CM (Rv v k w) := fun x hx => by
 unfold Rv at hx
 simp only [aaR, List.not_mem_nil, or_false] at hx
 rcases hx with rfl | rfl | rfl | rfl | rfl | rfl | rfl | rfl
 .exact EK _
 .exact h.getD 0
 .exact h.getD 1
 .exact h.getD 2
 .exact EK _
 .exact h.getD 4
 .exact h.getD 5
 .exact h.getD 6
theorem Nq {W s : List Nat} (h : s.length = 8) : ∀ t, (wZ W s t).length = 8
 | 0 => h
 | t + 1 => UU _ _ _
theorem KI {W s : List Nat} (h : CM s) : ∀ t, CM (wZ W s t)
 | 0 => h
 | t + 1 => VJ (KI h t) _ _
theorem ML (v s : List Nat) (i : Nat) : (BN v s i).length = v.length := by simp [BN]
theorem Ta (v s : List Nat) : BN v s 0 = v := by
 apply adI
 .simp [BN]
 .intro i h1 h2; simp [BN]
theorem UO {v s : List Nat} {i : Nat} (h : i < v.length) : (BN v s i).getD i 0 = v.getD i 0 := by
 rw [Z5, Z5, Z0 (by rw [ML]; exact h), Z0 h]
 simp [BN]
theorem Ud {v s : List Nat} {i : Nat} (h : i < v.length) : (BN v s i).set i ((v.getD i 0 + s.getD i 0) % tL) = BN v s (i + 1) := by
 have hv : v.getD i 0 = v[i] := by rw [Z5, Z0 h] <;> rfl
 rw [hv]
 apply adI
 .simp [BN]
 .intro j h1 h2
  rw [List.getElem_set]
  simp only [BN, List.getElem_mapIdx]
  by_cases hij : i = j
  .subst hij; simp
  .simp only [hij, if_false]
   by_cases hj : j < i
   .rw [if_pos hj, if_pos (by omega)]
   .rw [if_neg hj, if_neg (by omega)]
theorem V0 {v s : List Nat} (hv : CM v) (i : Nat) : CM (BN v s i) := fun x hx => by
 unfold BN at hx
 obtain ⟨j, hj, rfl⟩ := List.mem_mapIdx.1 hx
 split
 .exact EK _
 .exact hv _ (abX hj)
theorem P8 {s : List Nat} (b : List UInt8) (h : s.length = 8) : (Kj s b).length = 8 := by unfold Kj; rw [ML, Nq h]
theorem Vn {s : List Nat} (b : List UInt8) (h : CM s) : CM (Kj s b) := V0 (KI h _) _
def Wp : List Nat := [1779033703, 3144134277, 1013904242, 2773480762, 1359893119, 2600822924, 528734635, 1541459225]
def Jc : Nat -> List UInt8 -> List Nat
 | 0, _ => Wp
 | k + 1, L => Kj (Jc k L) ((L.drop (64 * k)).take 64)
theorem BL : ∀ k L, (Jc k L).length = 8
 | 0, _ => rfl
 | k + 1, L => P8 _ (BL k L)
theorem QI : ∀ k L, CM (Jc k L)
 | 0, _ => by
   show CM Wp
   unfold CM Wp; decide
 | k + 1, L => Vn _ (QI k L)
theorem MW : ∀ k (L M : List UInt8), 64 * k <= L.length -> Jc k (L ++ M) = Jc k L
 | 0, _, _, _ => rfl
 | k + 1, L, M, h => by
   rw [Jc, Jc, MW k L M (by omega)]
   congr 1
   rw [aaP (by omega), aaM (by rw [Z9]; omega)]
def Wu (x : Nat) (k : Nat) : List UInt8 := (List.range k).map fun i => UInt8.ofNat (x / 2 ^ (56 - 8 * i) % 256)
theorem TE (x k : Nat) : (Wu x k).length = k := by simp [Wu]
theorem VG (x k : Nat) : Wu x (k + 1) = Wu x k ++ [UInt8.ofNat (x / 2 ^ (56 - 8 * k) % 256)] := by simp [Wu, adS]
def US (L : List UInt8) : List UInt8 := L ++ [128] ++ List.replicate ((119 - L.length % 64) % 64) 0 ++ Wu (8 * L.length) 8
def Pv (s : List Nat) (k : Nat) : List UInt8 := (List.range k).map fun i => UInt8.ofNat (s.getD (i / 4) 0 / 2 ^ (24 - i % 4 * 8) % 256)
theorem Uv (s : List Nat) (k : Nat) : Pv s (k + 1) = Pv s k ++ [UInt8.ofNat (s.getD (k / 4) 0 / 2 ^ (24 - k % 4 * 8) % 256)] := by simp [Pv, adS]
theorem L8 (s : List Nat) (k : Nat) : (Pv s k).length = k := by simp [Pv]
def Sd (L : List UInt8) : List UInt8 := Pv (Jc ((US L).length / 64) (US L)) 32
theorem zP (L : List UInt8) : (Sd L).length = 32 := L8 _ _
def hU (l : List UInt8) : List UInt8 := Sd (0 :: l)
def hN : List Nat := [0, 274646895, 549293790, 820201905, 1098587580, 1361435347, 1640403810, 1905808397, 2197175160, 2460548119, 2722870694, 2987750089, 3280807620, 3553878443, 3811616794, 4084100981]
theorem XP : CM hN := by unfold CM hN; decide
def Qn (x : Nat) : Nat := x / 2 ^ 4 ^^^ hN.getD (x &&& 15) 0
def Xi (x : Nat) (c : UInt8) : Nat := Qn (Qn (x ^^^ c.toNat))
theorem OO {x : Nat} (h : x < tL) : Qn x < tL := IT (OX h _) (XP.getD _)
theorem JF (c : UInt8) : c.toNat < tL := by
 have := c.toNat_lt
 have : tL = 4294967296 := rfl
 omega
theorem WM {x : Nat} (h : x < tL) (c : UInt8) : Xi x c < tL := OO (OO (IT h (JF c)))
def O5 (x : Nat) (l : List UInt8) : Nat := l.foldl Xi x
theorem QK {x : Nat} (h : x < tL) (l : List UInt8) : O5 x l < tL := by
 unfold O5
 induction l generalizing x with
 | nil => exact h
 | cons c l ih => exact ih (WM h c)
theorem Ue (x : Nat) (l : List UInt8) (c : UInt8) : O5 x (l ++ [c]) = Xi (O5 x l) c := by unfold O5; rw [List.foldl_append] <;> rfl
def iE (l : List UInt8) : Nat := 4294967295 ^^^ O5 4294967295 l
theorem WD (l : List UInt8) : iE l < tL := IT (by decide) (QK (by decide) l)
end Go.Pu
namespace Go.Proofs.YteelnmpbnaohpaaDoor
open Go Go.En Go.Pu
set_option maxRecDepth 4000
structure rD (w : adV) : Prop where
 sh : ∀ i, i < 64 -> w.cell? ⟨0, i, none⟩ = some (.int .u32 (kN.getD i 0 : Nat))
 cr : ∀ i, i < 16 -> w.cell? ⟨1, i, none⟩ = some (.int .u32 (hN.getD i 0 : Nat))
theorem Bo {w w' : adV} {g i : Nat} {v : adW} {M : Nat -> Prop} (hc : w.cell? ⟨g, i, none⟩ = some v) (x : gX w w' M) (hM : ¬ M g) : w'.cell? ⟨g, i, none⟩ = some v := by
 have hg : g < w.heap.size := by
  rcases abB g w.heap.size with h | h
  .exact h
  .unfold World.cell? at hc
   rw [aaL h] at hc
   cases hc
 rw [<- hc]
 unfold World.cell?
 rw [x.keep g hg hM]
theorem rD.extM {w w' : adV} {M : Nat -> Prop} (h : rD w) (x : gX w w' M) (h1 : ¬ M 0) (h2 : ¬ M 1) : rD w' :=
 ⟨fun i hi => Bo (h.sh i hi) x h1, fun i hi => Bo (h.cr i hi) x h2⟩
theorem rD.ext {w w' : adV} (h : rD w) (x : gX w w' jK) : rD w' := h.extM x (fun h => h) (fun h => h)
theorem rD.lt {w : adV} (h : rD w) : 0 < w.heap.size /\ 1 < w.heap.size := by
 have q : ∀ {g : Nat} {v : adW}, w.cell? ⟨g, 0, none⟩ = some v -> g < w.heap.size := fun {g v} hc => by
  rcases abB g w.heap.size with h | h
  .exact h
  .unfold World.cell? at hc
   rw [aaL h] at hc
   cases hc
 exact ⟨q (h.sh 0 (by omega)), q (h.cr 0 (by omega))⟩
theorem XU : ∀ k : Fin 31, UK .u64 (IntKind.u64.wrap (-((k.val + 1 : Nat) : Int))) 31 = ((31 - k.val : Nat) : Int) := by decide
theorem Yg : ∀ k : Fin 31, IntKind.u64.wrap (32 - ((31 - k.val : Nat) : Int)) = ((k.val + 1 : Nat) : Int) := by decide
theorem NY {x k : Nat} (hx : x < tL) (h1 : 1 <= k) (h2 : k <= 31) (w : adV) :
 gU pg jL #[.int .u32 (x : Nat), .int .i64 (-(k : Int))] w (fun r w' => r = .int .u32 (RE x k : Nat) /\ w' = w) := by
 refine CP ?_
 have e1 := XU ⟨k - 1, by omega⟩
 have e2 := Yg ⟨k - 1, by omega⟩
 simp only [show k - 1 + 1 = k from by omega, show 31 - (k - 1) = 32 - k from by omega] at e1 e2
 have m1 : min (32 - k) IntKind.u32.bits = 32 - k := aaQ (by have : IntKind.u32.bits = 32 := rfl
                                                             omega)
 have m2 : min k IntKind.u32.bits = k := aaQ (by have : IntKind.u32.bits = 32 := rfl
                                                 omega)
 have e3 := RP x (32 - k)
 have e4 := OP x k
 have e5 := TZ (a := x * 2 ^ (32 - k) % tL) (b := x / 2 ^ k) (EK _) (OX hx k)
 unfold zZ pG RE
 simp (disch := omega) only [eY, gN, dX, stepR_skip, fP, fZ, fO, gK, gE, gC, gR, gA, eU, fV, fT, gG, fS, fM, fU, fR, fX, gH, fY, fQ, fC, gB, gI, fL, iS, iQ, iO, iR, iM, iN, iP, iU, iT, eP, Result.ok.injEq, Next.value.injEq, true_and, and_true, fK, fJ, gJ, fN, gD, gS, ZV, fE, fH, fF, fD, eZ, eX, fB, eT, eQ, eH, if_true, if_false, ZS, ZY, ZT, ZU, ZX, ZW, ZR, ZQ, eA, dV, aB, dI, dE, cJ, eB, eS, eE, dK, eD, fA, dQ, eN, bQ, dG, bJ, dL, aI, aH, eL, aV, bZ, eI, aF, eJ, dF, aR, bF, eF, bH, bE, bB, aO, aL, cD, fG, dY, cA, cI, dA, cH, dT, bC, eK, bX, dH, bP, aU, bU, aC, bY, bO, cF, bW, aY, bA, aX, bV, dM, cU, bR, aZ, aK, aJ, bG, aE, dC, dW, aN, aM, aT, aD, cY, aG, cL, bT, bD, aP, cM, cG, aA, dN, cQ, cV, cC, dO, cB, dJ, dU, cP, eC, eM, bN, aS, dZ, bS, aQ, bL, dS, dB, cO, cS, cN, bK, bM, cX, dR, cR, dD, cZ, e1, e2, m1, m2, e3, e4, e5]
theorem Sf {x a b c : Nat} (hx : x < tL) (ha : 1 <= a /\ a <= 31) (hb : 1 <= b /\ b <= 31) (hc : 1 <= c /\ c <= 31) (w : adV) :
 gU pg Am #[.int .u32 (x : Nat), .int .i64 (a : Nat), .int .i64 (b : Nat), .int .i64 (c : Nat)] w (fun r w' => r = .int .u32 (PH x a b c : Nat) /\ w' = w) := by
 refine NC ?_
 unfold O9 Fc PH
 have n1 : ∀ k : Nat, k <= 31 -> IntKind.i64.wrap (0 - (k : Int)) = -(k : Int) := fun k hk => by rw [Int.zero_sub]; exact fK (by omega) (by omega)
 simp (disch := omega) only [eY, gN, dX, stepR_skip, fP, fZ, fO, gK, gE, gC, gR, gA, eU, fV, fT, gG, fS, fM, fU, fR, fX, gH, fY, fQ, fC, gB, gI, fL, iS, iQ, iO, iR, iM, iN, iP, iU, iT, eP, Result.ok.injEq, Next.value.injEq, true_and, and_true, fK, fJ, gJ, fN, gD, gS, ZV, fE, fH, fF, fD, eZ, eX, fB, eT, eQ, eH, if_true, if_false, ZS, ZY, ZT, ZU, ZX, ZW, ZR, ZQ, eA, dV, aB, dI, dE, cJ, eB, eS, eE, dK, eD, fA, dQ, eN, bQ, dG, bJ, dL, aI, aH, eL, aV, bZ, eI, aF, eJ, dF, aR, bF, eF, bH, bE, bB, aO, aL, cD, fG, dY, cA, cI, dA, cH, dT, bC, eK, bX, dH, bP, aU, bU, aC, bY, bO, cF, bW, aY, bA, aX, bV, dM, cU, bR, aZ, aK, aJ, bG, aE, dC, dW, aN, aM, aT, aD, cY, aG, cL, bT, bD, aP, cM, cG, aA, dN, cQ, cV, cC, dO, cB, dJ, dU, cP, eC, eM, bN, aS, dZ, bS, aQ, bL, dS, dB, cO, cS, cN, bK, bM, cX, dR, cR, dD, cZ, n1 a ha.2, n1 b hb.2, n1 c hc.2]
 refine (NY hx ha.1 ha.2 w).mono ?_
 rintro r w1 ⟨rfl, hw⟩
 rw [hw]; clear hw w1
 refine (NY hx hb.1 hb.2 w).mono ?_
 rintro r w1 ⟨rfl, hw⟩
 rw [hw]; clear hw w1
 have e1 := uT (CL (k := a) hx) (CL (k := b) hx)
 simp (disch := omega) only [eY, gN, dX, stepR_skip, fP, fZ, fO, gK, gE, gC, gR, gA, eU, fV, fT, gG, fS, fM, fU, fR, fX, gH, fY, fQ, fC, gB, gI, fL, iS, iQ, iO, iR, iM, iN, iP, iU, iT, eP, Result.ok.injEq, Next.value.injEq, true_and, and_true, fK, fJ, gJ, fN, gD, gS, ZV, fE, fH, fF, fD, eZ, eX, fB, eT, eQ, eH, if_true, if_false, ZS, ZY, ZT, ZU, ZX, ZW, ZR, ZQ, eA, dV, aB, dI, dE, cJ, eB, eS, eE, dK, eD, fA, dQ, eN, bQ, dG, bJ, dL, aI, aH, eL, aV, bZ, eI, aF, eJ, dF, aR, bF, eF, bH, bE, bB, aO, aL, cD, fG, dY, cA, cI, dA, cH, dT, bC, eK, bX, dH, bP, aU, bU, aC, bY, bO, cF, bW, aY, bA, aX, bV, dM, cU, bR, aZ, aK, aJ, bG, aE, dC, dW, aN, aM, aT, aD, cY, aG, cL, bT, bD, aP, cM, cG, aA, dN, cQ, cV, cC, dO, cB, dJ, dU, cP, eC, eM, bN, aS, dZ, bS, aQ, bL, dS, dB, cO, cS, cN, bK, bM, cX, dR, cR, dD, cZ, n1 c hc.2, e1]
 refine (NY hx hc.1 hc.2 w).mono ?_
 rintro r w1 ⟨rfl, hw⟩
 rw [hw]; clear hw w1
 have e2 := uT (IT (CL (k := a) hx) (CL (k := b) hx)) (CL (k := c) hx)
 simp (disch := omega) only [eY, gN, dX, stepR_skip, fP, fZ, fO, gK, gE, gC, gR, gA, eU, fV, fT, gG, fS, fM, fU, fR, fX, gH, fY, fQ, fC, gB, gI, fL, iS, iQ, iO, iR, iM, iN, iP, iU, iT, eP, Result.ok.injEq, Next.value.injEq, true_and, and_true, fK, fJ, gJ, fN, gD, gS, ZV, fE, fH, fF, fD, eZ, eX, fB, eT, eQ, eH, if_true, if_false, ZS, ZY, ZT, ZU, ZX, ZW, ZR, ZQ, eA, dV, aB, dI, dE, cJ, eB, eS, eE, dK, eD, fA, dQ, eN, bQ, dG, bJ, dL, aI, aH, eL, aV, bZ, eI, aF, eJ, dF, aR, bF, eF, bH, bE, bB, aO, aL, cD, fG, dY, cA, cI, dA, cH, dT, bC, eK, bX, dH, bP, aU, bU, aC, bY, bO, cF, bW, aY, bA, aX, bV, dM, cU, bR, aZ, aK, aJ, bG, aE, dC, dW, aN, aM, aT, aD, cY, aG, cL, bT, bD, aP, cM, cG, aA, dN, cQ, cV, cC, dO, cB, dJ, dU, cP, eC, eM, bN, aS, dZ, bS, aQ, bL, dS, dB, cO, cS, cN, bK, bM, cX, dR, cR, dD, cZ, e2]
theorem PR {x a b d : Nat} (hx : x < tL) (ha : 1 <= a /\ a <= 31) (hb : 1 <= b /\ b <= 31) (hd : d <= 31) (w : adV) :
 gU pg D4 #[.int .u32 (x : Nat), .int .i64 (a : Nat), .int .i64 (b : Nat), .int .i64 (d : Nat)] w (fun r w' => r = .int .u32 (To x a b d : Nat) /\ gX w w' jK) := by
 refine Pw ?_
 unfold RJ I9 To
 have n1 : ∀ k : Nat, k <= 31 -> IntKind.i64.wrap (0 - (k : Int)) = -(k : Int) := fun k hk => by rw [Int.zero_sub]; exact fK (by omega) (by omega)
 have m2 : min d IntKind.u32.bits = d := aaQ (by have : IntKind.u32.bits = 32 := rfl
                                                 omega)
 have e4 := OP x d
 simp (disch := omega) only [eY, gN, dX, stepR_skip, fP, fZ, fO, gK, gE, gC, gR, gA, eU, fV, fT, gG, fS, fM, fU, fR, fX, gH, fY, fQ, fC, gB, gI, fL, iS, iQ, iO, iR, iM, iN, iP, iU, iT, eP, Result.ok.injEq, Next.value.injEq, true_and, and_true, fK, fJ, gJ, fN, gD, gS, ZV, fE, fH, fF, fD, eZ, eX, fB, eT, eQ, eH, if_true, if_false, ZS, ZY, ZT, ZU, ZX, ZW, ZR, ZQ, eA, dV, aB, dI, dE, cJ, eB, eS, eE, dK, eD, fA, dQ, eN, bQ, dG, bJ, dL, aI, aH, eL, aV, bZ, eI, aF, eJ, dF, aR, bF, eF, bH, bE, bB, aO, aL, cD, fG, dY, cA, cI, dA, cH, dT, bC, eK, bX, dH, bP, aU, bU, aC, bY, bO, cF, bW, aY, bA, aX, bV, dM, cU, bR, aZ, aK, aJ, bG, aE, dC, dW, aN, aM, aT, aD, cY, aG, cL, bT, bD, aP, cM, cG, aA, dN, cQ, cV, cC, dO, cB, dJ, dU, cP, eC, eM, bN, aS, dZ, bS, aQ, bL, dS, dB, cO, cS, cN, bK, bM, cX, dR, cR, dD, cZ, n1 a ha.2, n1 b hb.2, m2, e4]
 refine (NY hx ha.1 ha.2 _).mono ?_
 rintro r w1 ⟨rfl, hw⟩
 rw [hw]; clear hw w1
 refine (NY hx hb.1 hb.2 _).mono ?_
 rintro r w1 ⟨rfl, hw⟩
 rw [hw]; clear hw w1
 have e1 := uT (CL (k := a) hx) (CL (k := b) hx)
 have e2 := uT (IT (CL (k := a) hx) (CL (k := b) hx)) (OX hx d)
 simp (disch := omega) only [eY, gN, dX, stepR_skip, fP, fZ, fO, gK, gE, gC, gR, gA, eU, fV, fT, gG, fS, fM, fU, fR, fX, gH, fY, fQ, fC, gB, gI, fL, iS, iQ, iO, iR, iM, iN, iP, iU, iT, eP, Result.ok.injEq, Next.value.injEq, true_and, and_true, fK, fJ, gJ, fN, gD, gS, ZV, fE, fH, fF, fD, eZ, eX, fB, eT, eQ, eH, if_true, if_false, ZS, ZY, ZT, ZU, ZX, ZW, ZR, ZQ, eA, dV, aB, dI, dE, cJ, eB, eS, eE, dK, eD, fA, dQ, eN, bQ, dG, bJ, dL, aI, aH, eL, aV, bZ, eI, aF, eJ, dF, aR, bF, eF, bH, bE, bB, aO, aL, cD, fG, dY, cA, cI, dA, cH, dT, bC, eK, bX, dH, bP, aU, bU, aC, bY, bO, cF, bW, aY, bA, aX, bV, dM, cU, bR, aZ, aK, aJ, bG, aE, dC, dW, aN, aM, aT, aD, cY, aG, cL, bT, bD, aP, cM, cG, aA, dN, cQ, cV, cC, dO, cB, dJ, dU, cP, eC, eM, bN, aS, dZ, bS, aQ, bL, dS, dB, cO, cS, cN, bK, bM, cX, dR, cR, dD, cZ, n1 b hb.2, m2, e4, e1, e2]
 exact gX.dr _ _
theorem Wz {l : List UInt8} {v : adW} {w : adV} (hg : rD w) (hv : Bs w v l) (hl : l.length <= 1000000000) :
 gU pg Le #[v] w (fun r w' => r = .int .u32 (iE l : Nat) /\ gX w w' jK) := by
 refine RM ?_
 obtain ⟨RR, hRR⟩ : ∃ RR : adW -> adV -> Prop, RR = fun r w' => r = .int .u32 (iE l : Nat) /\ gX w w' jK := ⟨_, rfl⟩
 rw [<- hRR]
 obtain ⟨hg0, hg1⟩ := hg.lt
 unfold VR MG
 refine QM ?_
 unfold TS KZ
 simp (disch := omega) only [eY, gN, dX, stepR_skip, fP, fZ, fO, gK, gE, gC, gR, gA, eU, fV, fT, gG, fS, fM, fU, fR, fX, gH, fY, fQ, fC, gB, gI, fL, iS, iQ, iO, iR, iM, iN, iP, iU, iT, eP, Result.ok.injEq, Next.value.injEq, true_and, and_true, fK, fJ, gJ, fN, gD, gS, ZV, fE, fH, fF, fD, eZ, eX, fB, eT, eQ, eH, if_true, if_false, ZS, ZY, ZT, ZU, ZX, ZW, ZR, ZQ, eA, dV, aB, dI, dE, cJ, eB, eS, eE, dK, eD, fA, dQ, eN, bQ, dG, bJ, dL, aI, aH, eL, aV, bZ, eI, aF, eJ, dF, aR, bF, eF, bH, bE, bB, aO, aL, cD, fG, dY, cA, cI, dA, cH, dT, bC, eK, bX, dH, bP, aU, bU, aC, bY, bO, cF, bW, aY, bA, aX, bV, dM, cU, bR, aZ, aK, aJ, bG, aE, dC, dW, aN, aM, aT, aD, cY, aG, cL, bT, bD, aP, cM, cG, aA, dN, cQ, cV, cC, dO, cB, dJ, dU, cP, eC, eM, bN, aS, dZ, bS, aQ, bL, dS, dB, cO, cS, cN, bK, bM, cX, dR, cR, dD, cZ]
 refine oE fun w1 o1 x1 s1 => ?_
 obtain ⟨p, hp⟩ : ∃ p, p = w.heap.size := ⟨_, rfl⟩
 rw [<- hp] at o1 ⊢
 have o1 : jG w1 p [.int .u32 (O5 4294967295 (l.take 0) : Nat)] := o1
 refine JZ ?_
 unfold IH zQ zM
 obtain ⟨va, vc, rfl, _⟩ := hv.len
 rw [ZZ] at hv
 simp (disch := omega) only [eY, gN, dX, stepR_skip, fP, fZ, fO, gK, gE, gC, gR, gA, eU, fV, fT, gG, fS, fM, fU, fR, fX, gH, fY, fQ, fC, gB, gI, fL, iS, iQ, iO, iR, iM, iN, iP, iU, iT, eP, Result.ok.injEq, Next.value.injEq, true_and, and_true, fK, fJ, gJ, fN, gD, gS, ZV, fE, fH, fF, fD, eZ, eX, fB, eT, eQ, eH, if_true, if_false, ZS, ZY, ZT, ZU, ZX, ZW, ZR, ZQ, eA, dV, aB, dI, dE, cJ, eB, eS, eE, dK, eD, fA, dQ, eN, bQ, dG, bJ, dL, aI, aH, eL, aV, bZ, eI, aF, eJ, dF, aR, bF, eF, bH, bE, bB, aO, aL, cD, fG, dY, cA, cI, dA, cH, dT, bC, eK, bX, dH, bP, aU, bU, aC, bY, bO, cF, bW, aY, bA, aX, bV, dM, cU, bR, aZ, aK, aJ, bG, aE, dC, dW, aN, aM, aT, aD, cY, aG, cL, bT, bD, aP, cM, cG, aA, dN, cQ, cV, cC, dO, cB, dJ, dU, cP, eC, eM, bN, aS, dZ, bS, aQ, bL, dS, dB, cO, cS, cN, bK, bM, cX, dR, cR, dD, cZ, ZZ]
 unfold AB Ab
 refine jW.rule (fun m (t : adW) w' => ∃ i : Nat, m = l.length - i /\ i <= l.length /\ t = .int .i64 (i : Nat) /\ jG w' p [.int .u32 (O5 4294967295 (l.take i) : Nat)] /\ gX w1 w' (fun y => y = p)) l.length ⟨0, rfl, by omega, rfl, o1, gX.refl _ _⟩ ?_
 clear o1
 rintro m t w2 ⟨i, rfl, hi, rfl, o2, x2⟩
 unfold tE
 have x02 : gX w w2 jK := x1.trans x2 fun y hy h => by omega
 by_cases hlt : i < l.length
 .have d1 : decide ((i : Int) < (l.length : Int)) = true := by simp; omega
  have hv2 := hv.ext x02 (jJ _)
  obtain ⟨b, off, c', hv', hc', hcell⟩ := hv2.openV (by rw [ZZ]; omega)
  have g1 := hcell i (by rw [ZZ]; exact hlt)
  rw [ZZ] at hv'
  cases hv'
  rw [adJ] at g1
  obtain ⟨c, hc⟩ : ∃ c, c = l[i]'hlt := ⟨_, rfl⟩
  rw [<- hc] at g1
  simp only [oY] at g1
  have htk : l.take (i + 1) = l.take i ++ [c] := by rw [adD, Z0 hlt, <- hc] <;> rfl
  have hx := QK (x := 4294967295) (by decide) (l.take i)
  obtain ⟨x, hxx⟩ : ∃ x, x = O5 4294967295 (l.take i) := ⟨_, rfl⟩
  rw [<- hxx] at hx o2
  have c1 := o2.cell (off := 0)
  simp only [ZQ] at c1
  have hcb : c.toNat < 256 := c.toNat_lt
  have e0 : IntKind.u32.wrap ((c.toNat : Nat) : Int) = ((c.toNat : Nat) : Int) := fN (by omega) (by omega)
  have e1 := uT hx (JF c)
  have hy : x ^^^ c.toNat < tL := IT hx (JF c)
  simp (disch := omega) only [eY, gN, dX, stepR_skip, fP, fZ, fO, gK, gE, gC, gR, gA, eU, fV, fT, gG, fS, fM, fU, fR, fX, gH, fY, fQ, fC, gB, gI, fL, iS, iQ, iO, iR, iM, iN, iP, iU, iT, eP, Result.ok.injEq, Next.value.injEq, true_and, and_true, fK, fJ, gJ, fN, gD, gS, ZV, fE, fH, fF, fD, eZ, eX, fB, eT, eQ, eH, if_true, if_false, ZS, ZY, ZT, ZU, ZX, ZW, ZR, ZQ, eA, dV, aB, dI, dE, cJ, eB, eS, eE, dK, eD, fA, dQ, eN, bQ, dG, bJ, dL, aI, aH, eL, aV, bZ, eI, aF, eJ, dF, aR, bF, eF, bH, bE, bB, aO, aL, cD, fG, dY, cA, cI, dA, cH, dT, bC, eK, bX, dH, bP, aU, bU, aC, bY, bO, cF, bW, aY, bA, aX, bV, dM, cU, bR, aZ, aK, aJ, bG, aE, dC, dW, aN, aM, aT, aD, cY, aG, cL, bT, bD, aP, cM, cG, aA, dN, cQ, cV, cC, dO, cB, dJ, dU, cP, eC, eM, bN, aS, dZ, bS, aQ, bL, dS, dB, cO, cS, cN, bK, bM, cX, dR, cR, dD, cZ, d1, g1, c1, e0, e1]
  refine yZ o2 rfl (by simp) fun w3 o3 x3 s3 => ?_
  simp only [aaD] at o3
  obtain ⟨y, hyy⟩ : ∃ y, y = x ^^^ c.toNat := ⟨_, rfl⟩
  rw [<- hyy] at hy o3
  have b32 : IntKind.u32.bits = 32 := rfl
  have m4 : min (4 : Int).toNat IntKind.u32.bits = 4 := rfl
  have half : ∀ {y : Nat} {w' : adV}, y < tL -> jG w' p [.int .u32 (y : Nat)] -> gX w w' jK →
      w'.cell? ⟨1, y &&& 15, none⟩ = some (.int .u32 (hN.getD (y &&& 15) 0 : Nat)) /\ w'.cell? ⟨p, 0, none⟩ = some (.int .u32 (y : Nat)) /\ UK .u32 (y : Int) 15 = ((y &&& 15 : Nat) : Int) /\ y &&& 15 < 16 /\ (y : Int).fdiv (2 ^ 4) = ((y / 2 ^ 4 : Nat) : Int) /\ QH .u32 ((y / 2 ^ 4 : Nat) : Int) ((hN.getD (y &&& 15) 0 : Nat) : Int) = ((Qn y : Nat) : Int) := fun {y w'} hy o x => by
   have h16 : y &&& 15 < 16 := Nat.and_lt_two_pow (n := 4) y (by decide)
   have c := o.cell (off := 0)
   simp only [ZQ] at c
   exact ⟨(hg.ext x).cr _ h16, c, Gv (b := 15) hy (by decide), h16, OP y 4, uT (OX hy 4) (XP.getD _)⟩
  have x03 : gX w w3 jK := x02.trans x3 fun y hy h => by omega
  have od := kJ o3
  obtain ⟨a1, a2, a3, a4, a5, a6⟩ := half hy od (x03.seq (gX.dr _ _))
  obtain ⟨b1, b2, -, -, -, -⟩ := half hy o3 x03
  obtain ⟨yy, hyd⟩ : ∃ yy, yy = y &&& 15 := ⟨_, rfl⟩
  rw [<- hyd] at a1 a3 a4 a6 b1
  simp (disch := omega) only [eY, gN, dX, stepR_skip, fP, fZ, fO, gK, gE, gC, gR, gA, eU, fV, fT, gG, fS, fM, fU, fR, fX, gH, fY, fQ, fC, gB, gI, fL, iS, iQ, iO, iR, iM, iN, iP, iU, iT, eP, Result.ok.injEq, Next.value.injEq, true_and, and_true, fK, fJ, gJ, fN, gD, gS, ZV, fE, fH, fF, fD, eZ, eX, fB, eT, eQ, eH, if_true, if_false, ZS, ZY, ZT, ZU, ZX, ZW, ZR, ZQ, eA, dV, aB, dI, dE, cJ, eB, eS, eE, dK, eD, fA, dQ, eN, bQ, dG, bJ, dL, aI, aH, eL, aV, bZ, eI, aF, eJ, dF, aR, bF, eF, bH, bE, bB, aO, aL, cD, fG, dY, cA, cI, dA, cH, dT, bC, eK, bX, dH, bP, aU, bU, aC, bY, bO, cF, bW, aY, bA, aX, bV, dM, cU, bR, aZ, aK, aJ, bG, aE, dC, dW, aN, aM, aT, aD, cY, aG, cL, bT, bD, aP, cM, cG, aA, dN, cQ, cV, cC, dO, cB, dJ, dU, cP, eC, eM, bN, aS, dZ, bS, aQ, bL, dS, dB, cO, cS, cN, bK, bM, cX, dR, cR, dD, cZ, a1, a2, a3, a5, a6, b1, b2, m4]
  refine yZ od rfl (by simp) fun w4 o4 x4 s4 => ?_
  simp only [aaD] at o4
  obtain ⟨z, hz⟩ : ∃ z, z = Qn y := ⟨_, rfl⟩
  have hz32 : z < tL := hz ▸ OO hy
  rw [<- hz] at o4
  have x04 : gX w w4 jK := (x03.seq (gX.dr _ _)).trans x4 fun y hy h => by omega
  have oe := kJ o4
  obtain ⟨a1, a2, a3, a4, a5, a6⟩ := half hz32 oe (x04.seq (gX.dr _ _))
  obtain ⟨yy, hyd⟩ : ∃ yy, yy = z &&& 15 := ⟨_, rfl⟩
  rw [<- hyd] at a1 a3 a4 a6
  simp (disch := omega) only [eY, gN, dX, stepR_skip, fP, fZ, fO, gK, gE, gC, gR, gA, eU, fV, fT, gG, fS, fM, fU, fR, fX, gH, fY, fQ, fC, gB, gI, fL, iS, iQ, iO, iR, iM, iN, iP, iU, iT, eP, Result.ok.injEq, Next.value.injEq, true_and, and_true, fK, fJ, gJ, fN, gD, gS, ZV, fE, fH, fF, fD, eZ, eX, fB, eT, eQ, eH, if_true, if_false, ZS, ZY, ZT, ZU, ZX, ZW, ZR, ZQ, eA, dV, aB, dI, dE, cJ, eB, eS, eE, dK, eD, fA, dQ, eN, bQ, dG, bJ, dL, aI, aH, eL, aV, bZ, eI, aF, eJ, dF, aR, bF, eF, bH, bE, bB, aO, aL, cD, fG, dY, cA, cI, dA, cH, dT, bC, eK, bX, dH, bP, aU, bU, aC, bY, bO, cF, bW, aY, bA, aX, bV, dM, cU, bR, aZ, aK, aJ, bG, aE, dC, dW, aN, aM, aT, aD, cY, aG, cL, bT, bD, aP, cM, cG, aA, dN, cQ, cV, cC, dO, cB, dJ, dU, cP, eC, eM, bN, aS, dZ, bS, aQ, bL, dS, dB, cO, cS, cN, bK, bM, cX, dR, cR, dD, cZ, a1, a2, a3, a5, a6, m4]
  refine yZ oe rfl (by simp) fun w5 o5 x5 s5 => ?_
  simp only [aaD] at o5
  refine ⟨l.length - (i + 1), by omega, i + 1, rfl, by omega, rfl, ?_, ((((x2.seq x3).seq (gX.dr _ _)).seq x4).seq (gX.dr _ _)).seq x5⟩
  have e : O5 4294967295 (l.take (i + 1)) = Qn z := by rw [htk, Ue, <- hxx, Xi, <- hyy, <- hz]
  rw [e]
  exact o5
 have d1 : decide ((i : Int) < (l.length : Int)) = false := by simp; omega
 obtain rfl : i = l.length := by omega
 rw [Z3 (Z8 _)] at o2
 simp (disch := omega) only [eY, gN, dX, stepR_skip, fP, fZ, fO, gK, gE, gC, gR, gA, eU, fV, fT, gG, fS, fM, fU, fR, fX, gH, fY, fQ, fC, gB, gI, fL, iS, iQ, iO, iR, iM, iN, iP, iU, iT, eP, Result.ok.injEq, Next.value.injEq, true_and, and_true, fK, fJ, gJ, fN, gD, gS, ZV, fE, fH, fF, fD, eZ, eX, fB, eT, eQ, eH, if_true, if_false, ZS, ZY, ZT, ZU, ZX, ZW, ZR, ZQ, eA, dV, aB, dI, dE, cJ, eB, eS, eE, dK, eD, fA, dQ, eN, bQ, dG, bJ, dL, aI, aH, eL, aV, bZ, eI, aF, eJ, dF, aR, bF, eF, bH, bE, bB, aO, aL, cD, fG, dY, cA, cI, dA, cH, dT, bC, eK, bX, dH, bP, aU, bU, aC, bY, bO, cF, bW, aY, bA, aX, bV, dM, cU, bR, aZ, aK, aJ, bG, aE, dC, dW, aN, aM, aT, aD, cY, aG, cL, bT, bD, aP, cM, cG, aA, dN, cQ, cV, cC, dO, cB, dJ, dU, cP, eC, eM, bN, aS, dZ, bS, aQ, bL, dS, dB, cO, cS, cN, bK, bM, cX, dR, cR, dD, cZ, d1]
 refine LC ?_
 unfold Li Cr
 have c1 := o2.cell (off := 0)
 simp only [ZQ] at c1
 have hx := QK (x := 4294967295) (by decide) l
 have g1 : IntKind.u32.signed = false := rfl
 have g2 : IntKind.u32.max = 4294967295 := rfl
 have e2 : QH .u32 (4294967295 : Int) ((O5 4294967295 l : Nat) : Int) = ((iE l : Nat) : Int) := uT (a := 4294967295) (by decide) hx
 simp (disch := omega) only [eY, gN, dX, stepR_skip, fP, fZ, fO, gK, gE, gC, gR, gA, eU, fV, fT, gG, fS, fM, fU, fR, fX, gH, fY, fQ, fC, gB, gI, fL, iS, iQ, iO, iR, iM, iN, iP, iU, iT, eP, Result.ok.injEq, Next.value.injEq, true_and, and_true, fK, fJ, gJ, fN, gD, gS, ZV, fE, fH, fF, fD, eZ, eX, fB, eT, eQ, eH, if_true, if_false, ZS, ZY, ZT, ZU, ZX, ZW, ZR, ZQ, eA, dV, aB, dI, dE, cJ, eB, eS, eE, dK, eD, fA, dQ, eN, bQ, dG, bJ, dL, aI, aH, eL, aV, bZ, eI, aF, eJ, dF, aR, bF, eF, bH, bE, bB, aO, aL, cD, fG, dY, cA, cI, dA, cH, dT, bC, eK, bX, dH, bP, aU, bU, aC, bY, bO, cF, bW, aY, bA, aX, bV, dM, cU, bR, aZ, aK, aJ, bG, aE, dC, dW, aN, aM, aT, aD, cY, aG, cL, bT, bD, aP, cM, cG, aA, dN, cQ, cV, cC, dO, cB, dJ, dU, cP, eC, eM, bN, aS, dZ, bS, aQ, bL, dS, dB, cO, cS, cN, bK, bM, cX, dR, cR, dD, cZ, c1, g1, g2, e2]
 rw [hRR]
 exact ⟨rfl, x02⟩
end Go.Proofs.YteelnmpbnaohpaaDoor

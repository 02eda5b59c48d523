/- Parts of the proof of StoreClaims: merged and given short names by a program of ours. -/
import Derived.Laws.IdiomStrings
import Derived.Test.YteelnmpbnaohpaaDoorZyA
set_option linter.unusedVariables false
set_option linter.unusedSimpArgs false
open Array renaming getElem?_eq_getElem → Z4, getElem?_setIfInBounds_self_of_lt → Z6, getElem?_setIfInBounds_ne → Z8, getElem?_eq_none → aaI, getElem?_modify → abT, getElem?_toList → abZ
open Bool renaming false_eq_true → ZM, not_false → ZQ, not_true → ZR, and_eq_true → ZZ, or_eq_false_iff → acO
open Int renaming toNat_natCast → ZO
open List renaming map_cons → Z0, mem_cons_of_mem → Z1, length_drop → Z3, length_take → Z5, set_cons_zero → Z7, nil_append → Z9, getElem?_cons_zero → ZK, getElem?_cons_succ → ZL, length_map → ZT, getElem?_eq_getElem → ZU, length_append → ZV, getD_eq_getElem?_getD → ZW, take_of_length_le → ZY, getElem?_append_left → aaA, length_eq_zero_iff → aaB, append_assoc → aaC, getElem?_map → aaD, length_cons → aaG, take_append_of_le_length → aaJ, getElem?_eq_none → aaK, drop_append_of_le_length → aaL, mem_cons → aaN, set_cons_succ → aaR, mem_map → aaU, map_append → aaY, mem_cons_self → abC, eraseIdx_cons_succ → abE, getElem_mem → abG, mem_append → abJ, getElem?_toArray → abK, set_append_right → abL, getElem?_take_of_lt → abM, length_nil → abR, size_toArray → abV, ext_getElem? → abW, nodup_cons → acA, length_singleton → acB, length_set → acC, getElem?_drop → acH, cons_append → acP, drop_eq_getElem_cons → acV, take_add_one → acZ, getElem?_set → adA, ext_getElem → adF, getElem_map → adG, mem_of_getElem? → adK, mem_of_mem_take → adL, range_succ → adO
open List.cons renaming injEq → adN
open Nat renaming le_refl → Z2, zero_add → ZS, min_eq_left → aaM, lt_or_ge → aaW, mod_eq_of_lt → abN, mul_one → abO, lt_of_lt_of_le → abY, add_assoc → acD, mod_lt → acG, ne_of_lt → acK, le_trans → acM, add_mul → adD, sub_self → adM
open Option renaming isNone_some → ZN, isNone_none → ZP, map_some → aaS, getD_some → aaZ
open Option.some renaming injEq → aaH, inj → abB
open Prod.mk renaming injEq → acQ
namespace Go.Proofs.YteelnmpbnaohpaaDoor
open Go Go.En
set_option maxRecDepth 20000
attribute [local irreducible] Go.En.iU
variable (Q : Exit -> Env -> adR -> Prop) (g : Env) (w : adR)
def jV : FA := ⟨lT, fun i => match Nat.beq i 5 with | true => .leaf ([12], []) [(false, []), (false, []), (false, []), (false, []), (false, []), (false, []), (false, []), (false, []), (false, []), (false, []), (false, []), (false, []), (true, []), (false, []), (false, []), (false, []), (false, []), (false, []), (false, []), (false, [])] | false => .leaf ([], []) []⟩
def sE : List ResultVar := [.tmp 4]
noncomputable def jS : Code := iZ Tryd.f27
def pF (R : K1) (jY : adS) (w : adR) : Prop :=
 R jY w
theorem EN (R : K1) (hr : HR sE R Q) (h : pF R (g 5) w) : iU pg jV (fT 1 (fT 2 jS)) Q g w :=
 lB (kn := no) (l := []) h lZ hr trivial
def pA (kn : K5) (k0 : K1) (lD AF jY c9 d0 : adS) (w : adR) : Prop :=
 eY pg (gO .lss 3 hU hU d0 c9) w fun d1 w =>
 lN d1
  ((dr w) = (dr w) /\
  eY pg (jC lD) (dr w) fun d5 w_ => w_ = (dr w) /\
  eY pg (gM 67 d5 2) (dr w) fun d6 w_ => w_ = (dr w) /\
  eY pg (gM 28 d6 0) (dr w) fun d7 w_ => w_ = (dr w) /\
  eY pg (fK 24 d7) (dr w) fun d8 w_ => w_ = (dr w) /\
  (dr w) = (dr w) /\
  eY pg (jC lD) (dr w) fun e0 w_ => w_ = (dr w) /\
  eY pg (gM 67 e0 2) (dr w) fun e1 w_ => w_ = (dr w) /\
  eY pg (gM 28 e1 1) (dr w) fun e2 w_ => w_ = (dr w) /\
  eY pg (fK 25 e2) (dr w) fun e3 w_ => w_ = (dr w) /\
  eY pg (lC 25 3 e3) (dr w) fun e4 w_ => w_ = (dr w) /\
  (dr w) = (dr w) /\
  gS pg pN #[d8, e4, d0] (dr w) fun e6 Dm =>
  Dm = Dm /\
  eY pg (iW e6 0) Dm fun e7 w_ => w_ = Dm /\
  eY pg (iW e6 1) Dm fun e8 w_ => w_ = Dm /\
  eY pg (iW e6 2) Dm fun e9 w_ => w_ = Dm /\
  Dm = Dm /\
  Dm = Dm /\
  Dm = Dm /\
  eY pg (lC 3 24 e8) Dm fun f2 w =>
  eY pg (gO .add 24 hU hU e7 f2) w fun f3 w =>
  eY pg (gO .eql 29 (.tmp 46) (.const (adT 0)) e9 (adT 0)) w fun f7 w =>
  Gd (kP f7 true) (fun K => K f3 w) w fun f9 w =>
  Gd (kP f7 true) (fun K => K AF w) w fun i0 w =>
  Gd (kP f7 true) (fun K => eY pg (mO .len #[22] 3 [i0]) w K) w fun i1 w =>
  Gd (kP f7 true) (fun K => eY pg (lC 3 24 i1) w K) w fun i2 w =>
  Gd (kP f7 true) (fun K => eY pg (gO .leq 24 hU hU f9 i2) w K) w fun i3 w =>
  eY pg (lO f7 i3 (.bool false)) w fun i4 w =>
  Gd (kP i4 true) (fun K => K lD w) w fun i6 w =>
  Gd (kP i4 true) (fun K => K d0 w) w fun i7 w =>
  Gd (kP i4 true) (fun K => K AF w) w fun i8 w =>
  Gd (kP i4 true) (fun K => K e7 w) w fun i9 w =>
  Gd (kP i4 true) (fun K => K f3 w) w fun j0 w =>
  Gd (kP i4 true) (fun K => eY pg (lL 22 i8 (some i9) (some j0) none) w K) w fun j1 w =>
  Gd (kP i4 true) (fun K => gS pg nX #[i6, i7, j1] w K) w fun j2 w =>
  eY pg (lO i4 j2 (.bool false)) w fun j3 w =>
  eY pg (iH 45 jY d0) w fun j4 w =>
  eY pg (iF 4 j4 j3) w fun _u w =>
  eY pg (gO .add 3 hU hU d0 (adT 1)) w fun j5 w =>
  kn lD AF jY c9 j5 w)
  (k0 jY w)
theorem FL (kn : K5) (k0 : K1) (hn : N5 Q kn 0 1 5 19 20) (h0 : E1 Q k0 0 5) (h : pA kn k0 (g 0) (g 1) (g 5) (g 19) (g 20) w) : iU pg jV (bI (bI (fT 1 (gW 1 (fT 2 jS))))) Q g w :=
 lB (kr := no) (l := [(0, fun g w => k0 (g 5) w)]) h hn lZ ⟨h0, trivial⟩
def sH (k0 : K1) (lD AF jY c9 d0 : adS) (w : adR) : Prop :=
 kC (fun (X : adS -> K0) (t : adS) (w : adR) => pA (fun _ _ _ _ d0 w => X d0 w) k0 lD AF jY c9 t w) d0 w
theorem Fm (k0 : K1) (h0 : E1 Q k0 0 5) (h : sH k0 (g 0) (g 1) (g 5) (g 19) (g 20) w) : iU pg jV (bI (fT 1 (gW 1 (fT 2 jS)))) Q g w := by
 refine O3 (fun g : Env => g 20) (fun X t w => pA (fun _ _ _ _ d0 w => X d0 w) k0 (g 0) (g 1) (g 5) (g 19) t w) h (fun X g1 w1 ha hL => ?_)
 rw [<- rU 0 ha, <- rU 1 ha, <- rU 5 ha, <- rU 19 ha] at hL
 exact (FL _ g1 w1 (fun _ _ _ _ d0 w => X d0 w) k0 (fun _ _ h => h) h0 hL)
def sV (kn : K1) (lD AF jY c9 d0 : adS) (w : adR) : Prop :=
 sH kn lD AF jY c9 d0 w
def sY (kn : K5) (lD AF jY : adS) (w : adR) : Prop :=
 eY pg (mO .len #[45] 3 [jY]) w fun c9 w =>
 kn lD AF jY c9 (adT 0) w
theorem ES (kn : K5) (hn : N5 Q kn 0 1 5 19 20) (h : sY kn (g 0) (g 1) (g 5) w) : iU pg jV (gW 1 (gW 1 (fT 2 jS))) Q g w :=
 lB (kr := no) (l := []) h hn lZ trivial
def tI (kn : K1) (lD AF jY : adS) (w : adR) : Prop :=
 sY (fun lD AF jY c9 d0 w => sV kn lD AF jY c9 d0 w) lD AF jY w
def tD (R : K1) (lD AF jY : adS) (w : adR) : Prop :=
 tI (fun jY w => pF R jY w) lD AF jY w
theorem Fw (kn : K1) (hn : N1 Q kn 5) (h : tI kn (g 0) (g 1) (g 5) w) : iU pg jV (gW 1 (fT 2 jS)) Q g w :=
 uC 1 (ES _ g w (sV kn) (fun g w h => iA (Nh 0 (Fm _ g w kn hn h))) h)
def tL (kn : K3) (lD AF : adS) (w : adR) : Prop :=
 eY pg (jC lD) w fun c2 w =>
 eY pg (gM 67 c2 2) w fun c3 w =>
 eY pg (gM 28 c3 2) w fun c4 w =>
 eY pg (fK 26 c4) w fun c5 w =>
 eY pg (mO .len #[26] 3 [c5]) w fun c6 w =>
 eY pg (uM 45 c6 c6) w fun c7 w =>
 kn lD AF c7 w
theorem Fo (kn : K3) (hn : N3 Q kn 0 1 5) (h : tL kn (g 0) (g 1) w) : iU pg jV (gW 2 jS) Q g w :=
 lB (kr := no) (l := []) h hn lZ trivial
def sL (R : K1) (lD AF : adS) (w : adR) : Prop :=
 tL (fun lD AF jY w => tD R lD AF jY w) lD AF w
theorem FF (R : K1) (hr : HR sE R Q) (h : sL R (g 0) (g 1) w) : iU pg jV jS Q g w :=
 uC 2 (Fo _ g w (tD R) (fun g w h => iA (uC 1 (Fw _ g w (pF R) (fun g w h => iA (EN _ g w R hr h)) h))) h)
def D3 (a0 a1 : adS) (w : adR) (R : K1) : Prop :=
 sL R a0 a1 w
theorem FZ {a0 a1 : adS} {w : adR} {R : K1} (h : D3 a0 a1 w R) : gS pg lT #[a0, a1] w R := by
 refine xA (ann := jV) Tryd.f27 jS [a0, a1] sE 67 TrydM.mixed Tryd.func27 ?_
 exact (FF _ _ _ R (fun _ _ h => h) h)
def J9 : FA := ⟨yV, fun i => .leaf ([], []) []⟩
def LJ : List ResultVar := [.tmp 2]
noncomputable def I1 : Code := iZ Tryd.f28
def Hp (R : K1) (Se : adS) (w : adR) : Prop :=
 gS pg rL #[Se, (.bool false)] w fun b4 w =>
 eY pg (Kr .not b4) w fun b5 w =>
 R b5 w
theorem Nr (R : K1) (hr : HR LJ R Q) (h : Hp R (g 0) w) : iU pg J9 I1 Q g w :=
 lB (kn := no) (l := []) h lZ hr trivial
def PV (a0 : adS) (w : adR) (R : K1) : Prop :=
 Hp R a0 w
theorem OG {a0 : adS} {w : adR} {R : K1} (h : PV a0 w R) : gS pg yV #[a0] w R := by
 refine xA (ann := J9) Tryd.f28 I1 [a0] LJ 6 TrydM.mixed Tryd.func28 ?_
 exact (Nr _ _ _ R (fun _ _ h => h) h)
def Ao : FA := ⟨nD, fun i => .leaf ([], []) []⟩
def AL : List ResultVar := [.tmp 2, .tmp 3]
noncomputable def yZ : Code := iZ Tryd.f29
def tJ (R : K1) (lD : adS) (w : adR) : Prop :=
 eY pg (jC lD) w fun c4 w =>
 eY pg (gM 67 c4 1) w fun c5 w =>
 eY pg (fK 9 c5) w fun c6 w =>
 eY pg (gO .add 9 hU hU c6 (.string ⟨#[46, 108, 111, 103]⟩)) w fun c7 w =>
 gS pg mS #[lD, c7] w fun c8 w =>
 eY pg (iW c8 0) w fun c9 w =>
 eY pg (iW c8 1) w fun d0 w =>
 eY pg (iW c8 2) w fun d1 w =>
 eY pg (gO .neq 29 (.tmp 22) (.const (adT 0)) d1 (adT 0)) w fun d3 w =>
 lN d3
  (R (.tuple #[(.slice none 0 0), d1]) w)
  (gS pg kV #[c9] w fun d7 w =>
  eY pg (iW d7 0) w fun d8 w =>
  eY pg (iW d7 1) w fun d9 w =>
  gS pg Bu #[d8, (.int .u8 1)] w fun e2 w =>
  eY pg (iW e2 0) w fun e3 w =>
  eY pg (iW e2 1) w fun e4 w =>
  eY pg (gO .eql 24 (.tmp 35) (.const (.int .u64 18446744073709551615)) e3 (.int .u64 18446744073709551615)) w fun e6 w =>
  lN e6
   (R (.tuple #[(.slice none 0 0), (adT 23)]) w)
   (eY pg (gO .add 24 hU hU e3 (.int .u64 1)) w fun f0 w =>
   eY pg (jC lD) w fun f2 w =>
   eY pg (gM 67 f2 3) w fun f3 w =>
   eY pg (iF 24 f3 f0) w fun _u w =>
   eY pg (jC lD) w fun f4 w =>
   eY pg (gM 67 f4 5) w fun f5 w =>
   eY pg (iF 3 f5 d9) w fun _u w =>
   eY pg (jC lD) w fun f9 w =>
   eY pg (gM 67 f9 3) w fun i0 w =>
   eY pg (fK 24 i0) w fun i1 w =>
   eY pg (lI 77 [(0, (.int .u8 1)), (1, i1)]) w fun i2 w =>
   gS pg nC #[lD, i2] w fun i3 w =>
   R (.tuple #[d8, i3]) w))
theorem Fl (R : K1) (hr : HR AL R Q) (h : tJ R (g 0) w) : iU pg Ao yZ Q g w :=
 lB (kn := no) (l := []) h lZ hr trivial
def CT (a0 : adS) (w : adR) (R : K1) : Prop :=
 tJ R a0 w
theorem F7 {a0 : adS} {w : adR} {R : K1} (h : CT a0 w R) : gS pg nD #[a0] w R := by
 refine xA (ann := Ao) Tryd.f29 yZ [a0] AL 54 TrydM.mixed Tryd.func29 ?_
 exact (Fl _ _ _ R (fun _ _ h => h) h)
def oE : FA := ⟨pW, fun i => match Nat.beq i 5 with | true => .leaf ([9], []) [(false, []), (false, []), (false, []), (false, []), (false, []), (false, []), (false, []), (false, []), (false, []), (true, []), (false, [])] | false => match Nat.beq i 11 with | true => .leaf ([13, 14], [(2, 13), (3, 13), (4, 13), (6, 13), (7, 13), (8, 13), (9, 13), (11, 13)]) [(false, []), (false, []), (false, []), (false, []), (false, []), (false, []), (false, []), (false, []), (false, []), (false, []), (false, []), (false, []), (false, []), (true, [1, 3, 4, 5, 6, 8, 9, 10]), (true, []), (false, []), (false, [])] | false => .leaf ([], []) []⟩
def pC : List ResultVar := [.tmp 2, .tmp 3]
noncomputable def nM : Code := iZ Tryd.f30
def mQ (R : K1) (lD WK b5 : adS) (w : adR) : Prop :=
 eY pg (jC lD) w fun f6 w =>
 eY pg (gM 67 f6 2) w fun f7 w =>
 eY pg (gM 28 f7 0) w fun f8 w =>
 eY pg (fK 24 f8) w fun f9 w =>
 eY pg (lC 24 3 f9) w fun i0 w =>
 eY pg (mO .len #[22] 3 [WK]) w fun i2 w =>
 eY pg (gO .sub 3 hU hU i0 i2) w fun i3 w =>
 eY pg (gO .gtr 3 hU hU i3 (adT 0)) w fun i5 w =>
 Gd (kP i5 false) (fun K => K b5 w) w fun i7 w =>
 Gd (kP i5 false) (fun K => eY pg (Kr .not i7) w K) w fun i8 w =>
 eY pg (lO i5 (.bool true) i8) w fun i9 w =>
 lN i9
  ((dr w) = (dr w) /\
  (dr w) = (dr w) /\
  eY pg (jC lD) (dr w) fun j2 w_ => w_ = (dr w) /\
  eY pg (gM 67 j2 0) (dr w) fun j3 w_ => w_ = (dr w) /\
  eY pg (fK 32 j3) (dr w) fun j4 w_ => w_ = (dr w) /\
  (dr w) = (dr w) /\
  eY pg (jC lD) (dr w) fun j6 w_ => w_ = (dr w) /\
  eY pg (gM 67 j6 1) (dr w) fun j7 w_ => w_ = (dr w) /\
  eY pg (fK 9 j7) (dr w) fun j8 w_ => w_ = (dr w) /\
  eY pg (gO .add 9 hU hU j8 (.string ⟨#[46, 112, 97, 114, 116]⟩)) (dr w) fun j9 w_ => w_ = (dr w) /\
  (dr w) = (dr w) /\
  eY pg (mO .len #[22] 3 [WK]) (dr w) fun l1 w_ => w_ = (dr w) /\
  (dr w) = (dr w) /\
  eY pg (uM 22 i3 i3) (dr w) fun l3 Dr =>
  (gN pg (mO .len #[22] 3 [WK]) l1 Dr /\ gN pg (gO .add 9 hU hU j8 (.string ⟨#[46, 112, 97, 114, 116]⟩)) j9 Dr /\ gN pg (fK 9 j7) j8 Dr /\ gN pg (gM 67 j6 1) j7 Dr /\ gN pg (jC lD) j6 Dr /\ gN pg (fK 32 j3) j4 Dr /\ gN pg (gM 67 j2 0) j3 Dr /\ gN pg (jC lD) j2 Dr /\ True) /\
  gS pg kM #[j4, j9, l1, l3] Dr fun l4 OY =>
  OY = OY /\
  OY = OY /\
  R (.tuple #[WK, l4]) OY)
  (R (.tuple #[WK, (adT 0)]) w)
theorem Fv (R : K1) (hr : HR pC R Q) (h : mQ R (g 0) (g 4) (g 5) w) : iU pg oE (fT 4 nM) Q g w :=
 lB (kn := no) (l := []) h lZ hr trivial
def tH (kn : K3) (R : K1) (lD : adS) (w : adR) : Prop :=
 eY pg (jC lD) w fun c2 w =>
 eY pg (gM 67 c2 1) w fun c3 w =>
 eY pg (fK 9 c3) w fun c4 w =>
 eY pg (gO .add 9 hU hU c4 (.string ⟨#[46, 112, 97, 114, 116]⟩)) w fun c5 w =>
 gS pg mS #[lD, c5] w fun c6 w =>
 eY pg (iW c6 0) w fun c7 w =>
 eY pg (iW c6 1) w fun c8 w =>
 eY pg (iW c6 2) w fun c9 w =>
 eY pg (gO .neq 29 (.tmp 20) (.const (adT 0)) c9 (adT 0)) w fun d1 w =>
 lN d1
  (R (.tuple #[(.slice none 0 0), c9]) w)
  (eY pg (mO .len #[22] 3 [c7]) w fun d4 w =>
  eY pg (lC 3 24 d4) w fun d5 w =>
  eY pg (jC lD) w fun d7 w =>
  eY pg (gM 67 d7 2) w fun d8 w =>
  eY pg (gM 28 d8 0) w fun d9 w =>
  eY pg (fK 24 d9) w fun e0 w =>
  eY pg (gO .gtr 24 hU hU d5 e0) w fun e1 w =>
  lN e1
   ((dr w) = (dr w) /\
   eY pg (jC lD) (dr w) fun e3 w_ => w_ = (dr w) /\
   eY pg (gM 67 e3 0) (dr w) fun e4 w_ => w_ = (dr w) /\
   eY pg (fK 32 e4) (dr w) fun e5 w_ => w_ = (dr w) /\
   (dr w) = (dr w) /\
   eY pg (jC lD) (dr w) fun e7 w_ => w_ = (dr w) /\
   eY pg (gM 67 e7 1) (dr w) fun e8 w_ => w_ = (dr w) /\
   eY pg (fK 9 e8) (dr w) fun e9 w_ => w_ = (dr w) /\
   eY pg (gO .add 9 hU hU e9 (.string ⟨#[46, 112, 97, 114, 116]⟩)) (dr w) fun f0 w_ => w_ = (dr w) /\
   gS pg rQ #[e5, f0] (dr w) fun f1 X7 =>
   X7 = X7 /\
   eY pg (gO .neq 29 (.tmp 42) (.const (adT 0)) f1 (adT 0)) X7 fun f3 w =>
   lN f3
    (R (.tuple #[(.slice none 0 0), f1]) w)
    (kn lD (.slice none 0 0) (.bool false) w))
   (kn lD c7 c8 w))
theorem ET (kn : K3) (R : K1) (hn : N3 Q kn 0 4 5) (hr : HR pC R Q) (h : tH kn R (g 0) w) : iU pg oE (gW 4 nM) Q g w :=
 lB (l := []) h hn hr trivial
def sU (R : K1) (lD : adS) (w : adR) : Prop :=
 tH (fun lD WK b5 w => mQ R lD WK b5 w) R lD w
theorem FE (R : K1) (hr : HR pC R Q) (h : sU R (g 0) w) : iU pg oE nM Q g w :=
 uC 4 (ET _ g w (mQ R) R (fun g w h => iA (Fv _ g w R hr h)) hr h)
def DL (a0 : adS) (w : adR) (R : K1) : Prop :=
 sU R a0 w
theorem Gl {a0 : adS} {w : adR} {R : K1} (h : DL a0 w R) : gS pg pW #[a0] w R := by
 refine xA (ann := oE) Tryd.f30 nM [a0] pC 76 TrydM.mixed Tryd.func30 ?_
 exact (FE _ _ _ R (fun _ _ h => h) h)
def AT : FA := ⟨nX, fun i => match Nat.beq i 1 with | true => .leaf ([12], []) [(false, []), (false, []), (false, []), (false, []), (false, []), (false, []), (false, []), (false, []), (false, []), (false, []), (false, []), (false, []), (true, []), (false, []), (false, []), (false, []), (false, []), (false, []), (false, []), (false, [])] | false => match Nat.beq i 2 with | true => .leaf ([10], [(10, 12), (10, 13), (10, 14), (10, 15), (10, 17), (10, 18)]) [(false, []), (false, []), (false, []), (false, []), (false, []), (false, []), (false, []), (false, []), (false, []), (false, []), (true, []), (false, []), (false, [1]), (false, [2]), (false, [3]), (false, [4]), (false, []), (false, [6]), (false, [7]), (false, []), (false, []), (false, [])] | false => .leaf ([], []) []⟩
def BU : List ResultVar := [.tmp 6]
noncomputable def Au : Code := iZ Tryd.f31
def uL (R : K1) (lD Yr Wb : adS) (w : adR) : Prop :=
 (dr w) = (dr w) /\
 eY pg (jC lD) (dr w) fun c2 w_ => w_ = (dr w) /\
 eY pg (gM 67 c2 2) (dr w) fun c3 w_ => w_ = (dr w) /\
 eY pg (gM 28 c3 0) (dr w) fun c4 w_ => w_ = (dr w) /\
 eY pg (fK 24 c4) (dr w) fun c5 w_ => w_ = (dr w) /\
 (dr w) = (dr w) /\
 eY pg (jC lD) (dr w) fun c7 w_ => w_ = (dr w) /\
 eY pg (gM 67 c7 2) (dr w) fun c8 w_ => w_ = (dr w) /\
 eY pg (gM 28 c8 1) (dr w) fun c9 w_ => w_ = (dr w) /\
 eY pg (fK 25 c9) (dr w) fun d0 w_ => w_ = (dr w) /\
 eY pg (lC 25 3 d0) (dr w) fun d1 w_ => w_ = (dr w) /\
 (dr w) = (dr w) /\
 gS pg pN #[c5, d1, Yr] (dr w) fun d3 kT =>
 kT = kT /\
 eY pg (iW d3 0) kT fun d4 w_ => w_ = kT /\
 eY pg (iW d3 1) kT fun d5 w_ => w_ = kT /\
 eY pg (iW d3 2) kT fun d6 w_ => w_ = kT /\
 kT = kT /\
 kT = kT /\
 kT = kT /\
 (dr kT) = (dr kT) /\
 eY pg (gO .eql 29 (.tmp 27) (.const (adT 0)) d6 (adT 0)) (dr kT) fun d8 w_ => w_ = (dr kT) /\
 (dr kT) = (dr kT) /\
 Gd (kP d8 true) (fun K => K Wb (dr kT)) (dr kT) fun e0 w_ => w_ = (dr kT) /\
 Gd (kP d8 true) (fun K => eY pg (mO .len #[22] 3 [e0]) (dr kT) K) (dr kT) fun e1 w_ => w_ = (dr kT) /\
 Gd (kP d8 true) (fun K => K d5 (dr kT)) (dr kT) fun e2 w_ => w_ = (dr kT) /\
 Gd (kP d8 true) (fun K => eY pg (gO .eql 3 (.tmp 31) (.tmp 32) e1 e2) (dr kT) K) (dr kT) fun e3 w_ => w_ = (dr kT) /\
 eY pg (lO d8 e3 (.bool false)) (dr kT) fun e4 w_ => w_ = (dr kT) /\
 (dr kT) = (dr kT) /\
 Gd (kP e4 true) (fun K => K Wb (dr kT)) (dr kT) fun e6 w_ => w_ = (dr kT) /\
 Gd (kP e4 true) (fun K => gS pg rX #[e6] (dr kT) K) (dr kT) fun e7 oL =>
 Gd (kP e4 true) (fun K => K lD oL) oL fun e8 w_ => w_ = oL /\
 Gd (kP e4 true) (fun K => eY pg (jC e8) oL K) oL fun e9 w_ => w_ = oL /\
 (Gs (kP e4 true) (gN pg (jC e8) e9 (dr kT)) /\ True) /\
 Gd (kP e4 true) (fun K => eY pg (gM 67 e9 2) oL K) oL fun f0 w_ => w_ = oL /\
 (Gs (kP e4 true) (gN pg (gM 67 e9 2) f0 (dr kT)) /\ True) /\
 Gd (kP e4 true) (fun K => eY pg (gM 28 f0 2) oL K) oL fun f1 w_ => w_ = oL /\
 (Gs (kP e4 true) (gN pg (gM 28 f0 2) f1 (dr kT)) /\ True) /\
 Gd (kP e4 true) (fun K => eY pg (fK 26 f1) oL K) oL fun f2 w_ => w_ = oL /\
 (Gs (kP e4 true) (gN pg (fK 26 f1) f2 (dr kT)) /\ True) /\
 Gd (kP e4 true) (fun K => K Yr oL) oL fun f3 w_ => w_ = oL /\
 Gd (kP e4 true) (fun K => eY pg (iH 26 f2 f3) oL K) oL fun f4 w_ => w_ = oL /\
 (Gs (kP e4 true) (gN pg (iH 26 f2 f3) f4 (dr kT)) /\ True) /\
 Gd (kP e4 true) (fun K => eY pg (fK 49 f4) oL K) oL fun f5 w_ => w_ = oL /\
 (Gs (kP e4 true) (gN pg (fK 49 f4) f5 (dr kT)) /\ True) /\
 Gd (kP e4 true) (fun K => eY pg (gO .eql 49 (.tmp 37) (.tmp 45) e7 f5) oL K) oL fun f6 w_ => w_ = oL /\
 eY pg (lO e4 f6 (.bool false)) oL fun f7 w_ => w_ = oL /\
 oL = oL /\
 R f7 oL
theorem Gc (R : K1) (hr : HR BU R Q) (h : uL R (g 0) (g 1) (g 2) w) : iU pg AT Au Q g w :=
 lB (kn := no) (l := []) h lZ hr trivial
def Em (a0 a1 a2 : adS) (w : adR) (R : K1) : Prop :=
 uL R a0 a1 a2 w
theorem GU {a0 a1 a2 : adS} {w : adR} {R : K1} (h : Em a0 a1 a2 w R) : gS pg nX #[a0, a1, a2] w R := by
 refine xA (ann := AT) Tryd.f31 Au [a0, a1, a2] BU 48 TrydM.mixed Tryd.func31 ?_
 exact (Gc _ _ _ R (fun _ _ h => h) h)
def mJ : FA := ⟨wQ, fun i => .leaf ([], []) []⟩
def qP : List ResultVar := [.tmp 2]
noncomputable def lQ : Code := iZ Tryd.f32
def Ad (R : K1)  (w : adR) : Prop :=
 R (adT 0) w
theorem KV (R : K1) (hr : HR qP R Q) (h : Ad R w) : iU pg mJ (fT 1 (fT 1 lQ)) Q g w :=
 lB (kn := no) (l := []) h lZ hr trivial
def zH (kn : K3) (k0 : K0) (R : K1) (b6 b7 b8 : adS) (w : adR) : Prop :=
 eY pg (gO .lss 3 hU hU b8 b7) w fun b9 w =>
 lN b9
  (eY pg (iH 98 b6 b8) w fun c0 w =>
  eY pg (fK 39 c0) w fun c1 w =>
  eY pg (xY c1 []) w fun c3 w =>
  eY pg (gO .neq 29 (.tmp 14) (.const (adT 0)) c3 (adT 0)) w fun c5 w =>
  lN c5
   (R c3 w)
   (eY pg (gO .add 3 hU hU b8 (adT 1)) w fun c7 w =>
   kn b6 b7 c7 w))
  (k0 w)
theorem KX (kn : K3) (k0 : K0) (R : K1) (hn : N3 Q kn 6 7 8) (h0 : E0 Q k0 0) (hr : HR qP R Q) (h : zH kn k0 R (g 6) (g 7) (g 8) w) : iU pg mJ (bI (bI (fT 1 (gW 1 (fT 1 lQ))))) Q g w :=
 lB (l := [(0, fun g w => k0 w)]) h hn hr ⟨h0, trivial⟩
def DZ (k0 : K0) (R : K1) (b6 b7 b8 : adS) (w : adR) : Prop :=
 kC (fun (X : adS -> K0) (t : adS) (w : adR) => zH (fun _ _ b8 w => X b8 w) k0 R b6 b7 t w) b8 w
theorem LI (k0 : K0) (R : K1) (h0 : E0 Q k0 0) (hr : HR qP R Q) (h : DZ k0 R (g 6) (g 7) (g 8) w) : iU pg mJ (bI (fT 1 (gW 1 (fT 1 lQ)))) Q g w := by
 refine O3 (fun g : Env => g 8) (fun X t w => zH (fun _ _ b8 w => X b8 w) k0 R (g 6) (g 7) t w) h (fun X g1 w1 ha hL => ?_)
 rw [<- rU 6 ha, <- rU 7 ha] at hL
 exact (KX _ g1 w1 (fun _ _ b8 w => X b8 w) k0 R (fun _ _ h => h) h0 hr hL)
def DW (kn : K0) (R : K1) (b6 b7 b8 : adS) (w : adR) : Prop :=
 DZ kn R b6 b7 b8 w
def DT (kn : K3) (tW : adS) (w : adR) : Prop :=
 eY pg (mO .len #[98] 3 [tW]) w fun b7 w =>
 kn tW b7 (adT 0) w
theorem LN (kn : K3) (hn : N3 Q kn 6 7 8) (h : DT kn (g 0) w) : iU pg mJ (gW 1 (gW 1 (fT 1 lQ))) Q g w :=
 lB (kr := no) (l := []) h hn lZ trivial
def Dj (kn : K0) (R : K1) (tW : adS) (w : adR) : Prop :=
 DT (fun b6 b7 b8 w => DW kn R b6 b7 b8 w) tW w
def Da (R : K1) (tW : adS) (w : adR) : Prop :=
 Dj (fun  w => Ad R w) R tW w
theorem Lp (kn : K0) (R : K1) (hn : N0 Q kn) (hr : HR qP R Q) (h : Dj kn R (g 0) w) : iU pg mJ (gW 1 (fT 1 lQ)) Q g w :=
 uC 1 (LN _ g w (DW kn R) (fun g w h => iA (Nh 0 (LI _ g w kn R hn hr h))) h)
def C0 (kn : K1) (tW : adS) (w : adR) : Prop :=
 kn tW w
theorem LQ (kn : K1) (hn : N1 Q kn 0) (h : C0 kn (g 0) w) : iU pg mJ (gW 1 lQ) Q g w :=
 lB (kr := no) (l := []) h hn lZ trivial
def Dl (R : K1) (tW : adS) (w : adR) : Prop :=
 C0 (fun tW w => Da R tW w) tW w
theorem L6 (R : K1) (hr : HR qP R Q) (h : Dl R (g 0) w) : iU pg mJ lQ Q g w :=
 uC 1 (LQ _ g w (Da R) (fun g w h => iA (uC 1 (Lp _ g w (fun  w => Ad R w) R (fun g w h => iA (KV _ g w R hr h)) hr h))) h)
def M8 (a0 : adS) (w : adR) (R : K1) : Prop :=
 Dl R a0 w
theorem Md {a0 : adS} {w : adR} {R : K1} (h : M8 a0 w R) : gS pg wQ #[a0] w R := by
 refine xA (ann := mJ) Tryd.f32 lQ [a0] qP 18 TrydM.mixed Tryd.func32 ?_
 exact (L6 _ _ _ R (fun _ _ h => h) h)
def AU : FA := ⟨oA, fun i => match Nat.beq i 1 with | true => .leaf ([12], []) [(false, []), (false, []), (false, []), (false, []), (false, []), (false, []), (false, []), (false, []), (false, []), (false, []), (false, []), (false, []), (true, []), (false, [])] | false => .leaf ([], []) []⟩
def BT : List ResultVar := [.tmp 3]
noncomputable def zV : Code := iZ Tryd.f33
def vP (R : K1) (b0 b1 b2 : adS) (w : adR) : Prop :=
 eY pg (fK 35 b0) (dr w) fun b4 w_ => w_ = (dr w) /\
 eY pg (jC b4) (dr w) fun b5 w_ => w_ = (dr w) /\
 eY pg (gM 67 b5 0) (dr w) fun b6 w_ => w_ = (dr w) /\
 eY pg (fK 32 b6) (dr w) fun b7 w_ => w_ = (dr w) /\
 eY pg (fK 35 b0) (dr w) fun b8 w_ => w_ = (dr w) /\
 eY pg (jC b8) (dr w) fun b9 w_ => w_ = (dr w) /\
 eY pg (gM 67 b9 1) (dr w) fun c0 w_ => w_ = (dr w) /\
 eY pg (fK 9 c0) (dr w) fun c1 w_ => w_ = (dr w) /\
 eY pg (gO .add 9 hU hU c1 (.string ⟨#[46, 112, 97, 114, 116]⟩)) (dr w) fun c2 w_ => w_ = (dr w) /\
 eY pg (fK 24 b1) (dr w) fun c3 w_ => w_ = (dr w) /\
 eY pg (lC 24 3 c3) (dr w) fun c4 w_ => w_ = (dr w) /\
 eY pg (fK 22 b2) (dr w) fun c5 w_ => w_ = (dr w) /\
 gS pg kM #[b7, c2, c4, c5] (dr w) fun c6 kT =>
 kT = kT /\
 R c6 kT
theorem Gi (R : K1) (hr : HR BT R Q) (h : vP R (g 0) (g 1) (g 2) w) : iU pg AU zV Q g w :=
 lB (kn := no) (l := []) h lZ hr trivial
def Es (a0 a1 a2 : adS) (w : adR) (R : K1) : Prop :=
 vP R a0 a1 a2 w
theorem Hc {a0 a1 a2 : adS} {w : adR} {R : K1} (h : Es a0 a1 a2 w R) : gS pg oA #[a0, a1, a2] w R := by
 refine xA (ann := AU) Tryd.f33 zV [a0, a1, a2] BT 17 TrydM.mixed Tryd.func33 ?_
 exact (Gi _ _ _ R (fun _ _ h => h) h)
def AS : FA := ⟨oB, fun i => .leaf ([], []) []⟩
def BC : List ResultVar := [.tmp 2]
noncomputable def zI : Code := iZ Tryd.f34
def uT (R : K1) (b0 b1 : adS) (w : adR) : Prop :=
 eY pg (fK 35 b0) w fun b3 w =>
 eY pg (fK 3 b1) w fun b4 w =>
 eY pg (lC 3 24 b4) w fun b5 w =>
 eY pg (lI 77 [(0, (.int .u8 2)), (1, b5)]) w fun b6 w =>
 gS pg nC #[b3, b6] w fun b7 w =>
 R b7 w
theorem Gj (R : K1) (hr : HR BC R Q) (h : uT R (g 0) (g 1) w) : iU pg AS zI Q g w :=
 lB (kn := no) (l := []) h lZ hr trivial
def El (a0 a1 : adS) (w : adR) (R : K1) : Prop :=
 uT R a0 a1 w
theorem GW {a0 a1 : adS} {w : adR} {R : K1} (h : El a0 a1 w R) : gS pg oB #[a0, a1] w R := by
 refine xA (ann := AS) Tryd.f34 zI [a0, a1] BC 8 TrydM.mixed Tryd.func34 ?_
 exact (Gj _ _ _ R (fun _ _ h => h) h)
def mC : FA := ⟨nC, fun i => match Nat.beq i 3 with | true => .leaf ([14], []) [(false, []), (false, []), (false, []), (false, []), (false, []), (false, []), (false, []), (false, []), (false, []), (false, []), (false, []), (false, []), (false, []), (false, []), (true, []), (false, [])] | false => .leaf ([], []) []⟩
def tK : List ResultVar := [.tmp 4]
noncomputable def lU : Code := iZ Tryd.f35
def pE (R : K1) (SO : adS) (w : adR) : Prop :=
 R SO w
theorem FG (R : K1) (hr : HR tK R Q) (h : pE R (g 6) w) : iU pg mC (fT 1 (fT 3 lU)) Q g w :=
 lB (kn := no) (l := []) h lZ hr trivial
def tF (kn : K1) (lD RP SO : adS) (w : adR) : Prop :=
 eY pg (gO .eql 29 (.tmp 29) (.const (adT 0)) SO (adT 0)) w fun e0 w =>
 lN e0
  (eY pg (jC lD) w fun e2 w =>
  eY pg (gM 67 e2 5) w fun e3 w =>
  eY pg (fK 3 e3) w fun e4 w =>
  eY pg (mO .len #[22] 3 [RP]) w fun e6 w =>
  eY pg (gO .add 3 hU hU e4 e6) w fun e7 w =>
  eY pg (jC lD) w fun e8 w =>
  eY pg (gM 67 e8 5) w fun e9 w =>
  eY pg (iF 3 e9 e7) w fun _u w =>
  kn SO w)
  (kn SO w)
theorem ER (kn : K1) (hn : N1 Q kn 6) (h : tF kn (g 0) (g 5) (g 6) w) : iU pg mC (gW 1 (fT 3 lU)) Q g w :=
 lB (kr := no) (l := []) h hn lZ trivial
def sJ (R : K1) (lD RP SO : adS) (w : adR) : Prop :=
 tF (fun SO w => pE R SO w) lD RP SO w
def tN (kn : K3) (lD XC : adS) (w : adR) : Prop :=
 eY pg (Eh 77 XC) w fun ZI w =>
 eY pg (fK 77 ZI) w fun b8 w =>
 gS pg zO #[b8] w fun b9 w =>
 eY pg (iW b9 0) w fun c0 w =>
 eY pg (iW b9 1) w fun c1 w =>
 eY pg (gO .eql 29 (.tmp 12) (.const (adT 0)) c1 (adT 0)) w fun c3 w =>
 lN c3
  ((dr w) = (dr w) /\
  eY pg (jC lD) (dr w) fun c5 w_ => w_ = (dr w) /\
  eY pg (gM 67 c5 0) (dr w) fun c6 w_ => w_ = (dr w) /\
  eY pg (fK 32 c6) (dr w) fun c7 w_ => w_ = (dr w) /\
  (dr w) = (dr w) /\
  eY pg (jC lD) (dr w) fun c9 w_ => w_ = (dr w) /\
  eY pg (gM 67 c9 1) (dr w) fun d0 w_ => w_ = (dr w) /\
  eY pg (fK 9 d0) (dr w) fun d1 w_ => w_ = (dr w) /\
  eY pg (gO .add 9 hU hU d1 (.string ⟨#[46, 108, 111, 103]⟩)) (dr w) fun d2 w_ => w_ = (dr w) /\
  (dr w) = (dr w) /\
  eY pg (jC lD) (dr w) fun d4 w_ => w_ = (dr w) /\
  eY pg (gM 67 d4 5) (dr w) fun d5 w_ => w_ = (dr w) /\
  eY pg (fK 3 d5) (dr w) fun d6 w_ => w_ = (dr w) /\
  (dr w) = (dr w) /\
  gS pg kM #[c7, d2, d6, c0] (dr w) fun d8 V2 =>
  V2 = V2 /\
  kn lD c0 d8 V2)
  (kn lD c0 c1 w)
theorem EW (kn : K3) (hn : N3 Q kn 0 5 6) (h : tN kn (g 0) (g 1) w) : iU pg mC (gW 3 lU) Q g w :=
 lB (kr := no) (l := []) h hn lZ trivial
def sX (R : K1) (lD XC : adS) (w : adR) : Prop :=
 tN (fun lD RP SO w => sJ R lD RP SO w) lD XC w
theorem Fb (R : K1) (hr : HR tK R Q) (h : sX R (g 0) (g 1) w) : iU pg mC lU Q g w :=
 uC 3 (EW _ g w (sJ R) (fun g w h => iA (uC 1 (ER _ g w (pE R) (fun g w h => iA (FG _ g w R hr h)) h))) h)
def Dn (a0 a1 : adS) (w : adR) (R : K1) : Prop :=
 sX R a0 a1 w
theorem FY {a0 a1 : adS} {w : adR} {R : K1} (h : Dn a0 a1 w R) : gS pg nC #[a0, a1] w R := by
 refine xA (ann := mC) Tryd.f35 lU [a0, a1] tK 41 TrydM.mixed Tryd.func35 ?_
 exact (Fb _ _ _ R (fun _ _ h => h) h)
def wU : FA := ⟨mE, fun i => match Nat.beq i 1 with | true => .leaf ([13], []) [(false, []), (false, []), (false, []), (false, []), (false, []), (false, []), (false, []), (false, []), (false, []), (false, []), (false, []), (false, []), (false, []), (true, []), (false, [])] | false => .leaf ([], []) []⟩
def yY : List ResultVar := [.tmp 1]
noncomputable def vY : Code := iZ Tryd.f36
def qK (R : K1) (b0 : adS) (w : adR) : Prop :=
 eY pg (fK 35 b0) (dr w) fun b2 w_ => w_ = (dr w) /\
 eY pg (jC b2) (dr w) fun b3 w_ => w_ = (dr w) /\
 eY pg (gM 67 b3 0) (dr w) fun b4 w_ => w_ = (dr w) /\
 eY pg (fK 32 b4) (dr w) fun b5 w_ => w_ = (dr w) /\
 eY pg (fK 35 b0) (dr w) fun b6 w_ => w_ = (dr w) /\
 eY pg (jC b6) (dr w) fun b7 w_ => w_ = (dr w) /\
 eY pg (gM 67 b7 1) (dr w) fun b8 w_ => w_ = (dr w) /\
 eY pg (fK 9 b8) (dr w) fun b9 w_ => w_ = (dr w) /\
 eY pg (gO .add 9 hU hU b9 (.string ⟨#[46, 112, 97, 114, 116]⟩)) (dr w) fun c0 w_ => w_ = (dr w) /\
 eY pg (fK 35 b0) (dr w) fun c1 w_ => w_ = (dr w) /\
 eY pg (jC c1) (dr w) fun c2 w_ => w_ = (dr w) /\
 eY pg (gM 67 c2 1) (dr w) fun c3 w_ => w_ = (dr w) /\
 eY pg (fK 9 c3) (dr w) fun c4 w_ => w_ = (dr w) /\
 gS pg rP #[b5, c0, c4] (dr w) fun c5 V4 =>
 V4 = V4 /\
 R c5 V4
theorem Ds (R : K1) (hr : HR yY R Q) (h : qK R (g 0) w) : iU pg wU vY Q g w :=
 lB (kn := no) (l := []) h lZ hr trivial
def BE (a0 : adS) (w : adR) (R : K1) : Prop :=
 qK R a0 w
theorem Ei {a0 : adS} {w : adR} {R : K1} (h : BE a0 w R) : gS pg mE #[a0] w R := by
 refine xA (ann := wU) Tryd.f36 vY [a0] yY 16 TrydM.mixed Tryd.func36 ?_
 exact (Ds _ _ _ R (fun _ _ h => h) h)
def BN : FA := ⟨rP, fun i => .leaf ([], []) []⟩
def Ct : List ResultVar := [.tmp 6]
noncomputable def AR : Code := iZ Tryd.f37
def wJ (R : K1) (nQ Vz Ve : adS) (w : adR) : Prop :=
 gS pg nG #[nQ] w fun c1 w =>
 eY pg (gO .neq 29 (.tmp 12) (.const (adT 0)) c1 (adT 0)) w fun c3 w =>
 lN c3
  (R c1 w)
  (gS pg A9 #[Vz] w fun c6 w =>
  eY pg (Kr .not c6) w fun c7 w =>
  Gd (kP c7 false) (fun K => K Ve w) w fun c9 w =>
  Gd (kP c7 false) (fun K => gS pg A9 #[c9] w K) w fun d0 w =>
  Gd (kP c7 false) (fun K => eY pg (Kr .not d0) w K) w fun d1 w =>
  eY pg (lO c7 (.bool true) d1) w fun d2 w =>
  lN d2
   (R (adT 1) w)
   (eY pg (jC nQ) w fun d5 w =>
   eY pg (gM 64 d5 2) w fun d6 w =>
   eY pg (fK 61 d6) w fun d7 w =>
   eY pg (zZ 61 d7 Vz true) w fun d9 w =>
   eY pg (iW d9 0) w fun e0 w =>
   eY pg (iW d9 1) w fun e1 w =>
   eY pg (Kr .not e1) w fun e3 w =>
   lN e3
    (R (adT 21) w)
    (eY pg (lI 88 [(0, (adT 1)), (1, Vz), (2, Ve)]) w fun e7 w =>
    gS pg oP #[nQ, e7] w fun e8 w =>
    R e8 w)))
theorem Hb (R : K1) (hr : HR Ct R Q) (h : wJ R (g 0) (g 1) (g 2) w) : iU pg BN AR Q g w :=
 lB (kn := no) (l := []) h lZ hr trivial
def FQ (a0 a1 a2 : adS) (w : adR) (R : K1) : Prop :=
 wJ R a0 a1 a2 w
theorem HO {a0 a1 a2 : adS} {w : adR} {R : K1} (h : FQ a0 a1 a2 w R) : gS pg rP #[a0, a1, a2] w R := by
 refine xA (ann := BN) Tryd.f37 AR [a0, a1, a2] Ct 39 TrydM.mixed Tryd.func37 ?_
 exact (Hb _ _ _ R (fun _ _ h => h) h)
def Ge : FA := ⟨nG, fun i => .leaf ([], []) []⟩
def Hq : List ResultVar := [.tmp 2]
noncomputable def Ex : Code := iZ Tryd.f38
def Ci (R : K1) (nQ : adS) (w : adR) : Prop :=
 eY pg (gO .eql 32 (.tmp 4) (.const (.pointer none)) nQ (.pointer none)) w fun b5 w =>
 lN b5
  (R (adT 1) w)
  (eY pg (jC nQ) w fun b8 w =>
  eY pg (gM 64 b8 5) w fun b9 w =>
  eY pg (fK 4 b9) w fun c0 w =>
  lN c0
   (R (adT 20) w)
   (R (adT 0) w))
theorem KG (R : K1) (hr : HR Hq R Q) (h : Ci R (g 0) w) : iU pg Ge Ex Q g w :=
 lB (kn := no) (l := []) h lZ hr trivial
def KS (a0 : adS) (w : adR) (R : K1) : Prop :=
 Ci R a0 w
theorem LH {a0 : adS} {w : adR} {R : K1} (h : KS a0 w R) : gS pg nG #[a0] w R := by
 refine xA (ann := Ge) Tryd.f38 Ex [a0] Hq 11 TrydM.mixed Tryd.func38 ?_
 exact (KG _ _ _ R (fun _ _ h => h) h)
def wS : FA := ⟨kS, fun i => .leaf ([], []) []⟩
def yT : List ResultVar := [.tmp 2]
noncomputable def wD : Code := iZ Tryd.f39
def qX (R : K1) (lD : adS) (w : adR) : Prop :=
 eY pg (gO .eql 22 (.tmp 3) (.const (.slice none 0 0)) lD (.slice none 0 0)) w fun b4 w =>
 lN b4
  (R (.slice none 0 0) w)
  (eY pg (iJ 22 0 []) w fun b5 w =>
  eY pg (mO .append #[22, 22] 22 [b5, lD]) w fun b7 w =>
  R b7 w)
theorem C3 (R : K1) (hr : HR yT R Q) (h : qX R (g 0) w) : iU pg wS wD Q g w :=
 lB (kn := no) (l := []) h lZ hr trivial
def BZ (a0 : adS) (w : adR) (R : K1) : Prop :=
 qX R a0 w
theorem Ek {a0 : adS} {w : adR} {R : K1} (h : BZ a0 w R) : gS pg kS #[a0] w R := by
 refine xA (ann := wS) Tryd.f39 wD [a0] yT 8 TrydM.mixed Tryd.func39 ?_
 exact (C3 _ _ _ R (fun _ _ h => h) h)
def LP : FA := ⟨A9, fun i => .leaf ([], []) []⟩
def MV : List ResultVar := [.tmp 2]
noncomputable def J1 : Code := iZ Tryd.f40
def Jp (R : K1) (Vi : adS) (w : adR) : Prop :=
 eY pg (mO .len #[9] 3 [Vi]) w fun b4 w =>
 eY pg (gO .geq 3 hU hU b4 (adT 1)) w fun b5 w =>
 Gd (kP b5 true) (fun K => K Vi w) w fun b7 w =>
 Gd (kP b5 true) (fun K => eY pg (mO .len #[9] 3 [b7]) w K) w fun b8 w =>
 Gd (kP b5 true) (fun K => eY pg (gO .leq 3 hU hU b8 (adT 32)) w K) w fun b9 w =>
 eY pg (lO b5 b9 (.bool false)) w fun c0 w =>
 R c0 w
theorem OC (R : K1) (hr : HR MV R Q) (h : Jp R (g 0) w) : iU pg LP J1 Q g w :=
 lB (kn := no) (l := []) h lZ hr trivial
def Sb (a0 : adS) (w : adR) (R : K1) : Prop :=
 Jp R a0 w
theorem Pj {a0 : adS} {w : adR} {R : K1} (h : Sb a0 w R) : gS pg A9 #[a0] w R := by
 refine xA (ann := LP) Tryd.f40 J1 [a0] MV 11 TrydM.mixed Tryd.func40 ?_
 exact (OC _ _ _ R (fun _ _ h => h) h)
def kX : FA := ⟨tP, fun i => .leaf ([], []) []⟩
def yA : List ResultVar := [.tmp 2]
noncomputable def kQ : Code := iZ Tryd.f41
def rK (R : K1) (FM : adS) (w : adR) : Prop :=
 R FM w
theorem H0 (R : K1) (hr : HR yA R Q) (h : rK R (g 3) w) : iU pg kX (fT 1 (fT 2 kQ)) Q g w :=
 lB (kn := no) (l := []) h lZ hr trivial
def rT (kn : K2) (k0 : K1) (FM b7 : adS) (w : adR) : Prop :=
 eY pg (Tm b7 false 0) w fun b8 w =>
 eY pg (iW b8 0) w fun b9 w =>
 lN b9
  (eY pg (SV b7) w fun c0 w =>
  eY pg (iW c0 1) w fun c1 w =>
  eY pg (mO .len #[22] 3 [c1]) w fun c4 w =>
  eY pg (gO .add 3 hU hU FM c4) w fun c5 w =>
  kn c5 b7 w)
  (k0 FM w)
theorem HM (kn : K2) (k0 : K1) (hn : N2 Q kn 3 7) (h0 : E1 Q k0 0 3) (h : rT kn k0 (g 3) (g 7) w) : iU pg kX (bI (bI (fT 1 (gW 1 (fT 2 kQ))))) Q g w :=
 lB (kr := no) (l := [(0, fun g w => k0 (g 3) w)]) h hn lZ ⟨h0, trivial⟩
def xR (k0 : K1) (FM b7 : adS) (w : adR) : Prop :=
 kC (fun (X : adS -> K0) (t : adS) (w : adR) => rT (fun FM _ w => X FM w) k0 t b7 w) FM w
theorem HU (k0 : K1) (h0 : E1 Q k0 0 3) (h : xR k0 (g 3) (g 7) w) : iU pg kX (bI (fT 1 (gW 1 (fT 2 kQ)))) Q g w := by
 refine O3 (fun g : Env => g 3) (fun X t w => rT (fun FM _ w => X FM w) k0 t (g 7) w) h (fun X g1 w1 ha hL => ?_)
 rw [<- rU 7 ha] at hL
 exact (HM _ g1 w1 (fun FM _ w => X FM w) k0 (fun _ _ h => h) h0 hL)
def yP (kn : K1) (FM b7 : adS) (w : adR) : Prop :=
 xR kn FM b7 w
def xO (kn : K2) (QK FM : adS) (w : adR) : Prop :=
 eY pg (OA 61 QK) w fun b7 w =>
 kn FM b7 w
theorem Ib (kn : K2) (hn : N2 Q kn 3 7) (h : xO kn (g 0) (g 3) w) : iU pg kX (gW 1 (gW 1 (fT 2 kQ))) Q g w :=
 lB (kr := no) (l := []) h hn lZ trivial
def xI (kn : K1) (QK FM : adS) (w : adR) : Prop :=
 xO (fun FM b7 w => yP kn FM b7 w) QK FM w
def yE (R : K1) (QK FM : adS) (w : adR) : Prop :=
 xI (fun FM w => rK R FM w) QK FM w
theorem HQ (kn : K1) (hn : N1 Q kn 3) (h : xI kn (g 0) (g 3) w) : iU pg kX (gW 1 (fT 2 kQ)) Q g w :=
 uC 1 (Ib _ g w (yP kn) (fun g w h => iA (Nh 0 (HU _ g w kn hn h))) h)
def yC (kn : K2) (QK : adS) (w : adR) : Prop :=
 kn QK (adT 0) w
theorem Ik (kn : K2) (hn : N2 Q kn 0 3) (h : yC kn (g 0) w) : iU pg kX (gW 2 kQ) Q g w :=
 lB (kr := no) (l := []) h hn lZ trivial
def xN (R : K1) (QK : adS) (w : adR) : Prop :=
 yC (fun QK FM w => yE R QK FM w) QK w
theorem HX (R : K1) (hr : HR yA R Q) (h : xN R (g 0) w) : iU pg kX kQ Q g w :=
 uC 2 (Ik _ g w (yE R) (fun g w h => iA (uC 1 (HQ _ g w (rK R) (fun g w h => iA (H0 _ g w R hr h)) h))) h)
def Hw (a0 : adS) (w : adR) (R : K1) : Prop :=
 xN R a0 w
theorem IG {a0 : adS} {w : adR} {R : K1} (h : Hw a0 w R) : gS pg tP #[a0] w R := by
 refine xA (ann := kX) Tryd.f41 kQ [a0] yA 17 TrydM.mixed Tryd.func41 ?_
 exact (HX _ _ _ R (fun _ _ h => h) h)
def DE : FA := ⟨oP, fun i => match Nat.beq i 3 with | true => .leaf ([6, 7, 10], [(2, 6), (3, 6), (4, 6)]) [(false, []), (false, []), (false, []), (false, []), (false, []), (false, []), (true, [1, 2, 3]), (true, []), (false, []), (false, []), (true, [])] | false => match Nat.beq i 4 with | true => .leaf ([5], []) [(false, []), (false, []), (false, []), (false, []), (false, []), (true, [])] | false => .leaf ([], []) []⟩
def EC : List ResultVar := [.tmp 4]
noncomputable def Cv : Code := iZ Tryd.f42
def zN (R : K1) (nQ Zr : adS) (w : adR) : Prop :=
 eY pg (Eh 88 Zr) w fun TZ w =>
 gS pg pQ #[nQ] w fun b6 w =>
 lN b6
  (R (adT 20) w)
  ((dr w) = (dr w) /\
  (dr w) = (dr w) /\
  eY pg (jC nQ) (dr w) fun b9 w_ => w_ = (dr w) /\
  eY pg (gM 64 b9 3) (dr w) fun c0 w_ => w_ = (dr w) /\
  eY pg (fK 62 c0) (dr w) fun c1 w_ => w_ = (dr w) /\
  eY pg (fK 88 TZ) (dr w) fun c2 w_ => w_ = (dr w) /\
  eY pg (iJ 62 1 [(0, c2)]) (dr w) fun c3 WB =>
  (gN pg (fK 62 c0) c1 WB /\ gN pg (gM 64 b9 3) c0 WB /\ gN pg (jC nQ) b9 WB /\ True) /\
  eY pg (mO .append #[62, 62] 62 [c1, c3]) WB fun c4 Vx =>
  eY pg (jC nQ) Vx fun c5 w_ => w_ = Vx /\
  eY pg (gM 64 c5 3) Vx fun c6 w_ => w_ = Vx /\
  eY pg (iF 62 c6 c4) Vx fun _u10 IZ =>
  (dr IZ) = (dr IZ) /\
  eY pg (jC nQ) (dr IZ) fun c8 w_ => w_ = (dr IZ) /\
  eY pg (gM 64 c8 2) (dr IZ) fun c9 w_ => w_ = (dr IZ) /\
  eY pg (fK 61 c9) (dr IZ) fun d0 w_ => w_ = (dr IZ) /\
  eY pg (fK 88 TZ) (dr IZ) fun d1 w_ => w_ = (dr IZ) /\
  gS pg xE #[d0, d1] (dr IZ) fun d2 Zc =>
  R (adT 0) Zc)
theorem Jh (R : K1) (hr : HR EC R Q) (h : zN R (g 0) (g 1) w) : iU pg DE Cv Q g w :=
 lB (kn := no) (l := []) h lZ hr trivial
def Jb (a0 a1 : adS) (w : adR) (R : K1) : Prop :=
 zN R a0 a1 w
theorem JR {a0 a1 : adS} {w : adR} {R : K1} (h : Jb a0 a1 w R) : gS pg oP #[a0, a1] w R := by
 refine xA (ann := DE) Tryd.f42 Cv [a0, a1] EC 23 TrydM.mixed Tryd.func42 ?_
 exact (Jh _ _ _ R (fun _ _ h => h) h)
def wP : FA := ⟨oF, fun i => .leaf ([], []) []⟩
def zA : List ResultVar := [.tmp 2]
noncomputable def wB : Code := iZ Tryd.f43
def qR (R : K1) (lD : adS) (w : adR) : Prop :=
 eY pg (gO .eql 45 (.tmp 3) (.const (.slice none 0 0)) lD (.slice none 0 0)) w fun b4 w =>
 lN b4
  (R (.slice none 0 0) w)
  (eY pg (iJ 45 0 []) w fun b5 w =>
  eY pg (mO .append #[45, 45] 45 [b5, lD]) w fun b7 w =>
  R b7 w)
theorem C7 (R : K1) (hr : HR zA R Q) (h : qR R (g 0) w) : iU pg wP wB Q g w :=
 lB (kn := no) (l := []) h lZ hr trivial
def BL (a0 : adS) (w : adR) (R : K1) : Prop :=
 qR R a0 w
theorem Ed {a0 : adS} {w : adR} {R : K1} (h : BL a0 w R) : gS pg oF #[a0] w R := by
 refine xA (ann := wP) Tryd.f43 wB [a0] zA 8 TrydM.mixed Tryd.func43 ?_
 exact (C7 _ _ _ R (fun _ _ h => h) h)
def OZ : FA := ⟨I0, fun i => .leaf ([], []) []⟩
def Py : List ResultVar := [.cell 2 49]
noncomputable def MX : Code := iZ Tryd.f44
def Mt (R : K1) (AE : adS) (w : adR) : Prop :=
 eY pg (lP 49) w fun b2 w =>
 gS pg JA #[] w fun b4 w =>
 gS pg lY #[b4, AE] w fun b7 w =>
 gS pg zM #[b4] w fun b9 w =>
 eY pg (iF 49 b2 b9) w fun _u w =>
 U3 pg 49 b2 w fun r0 => R r0 w
theorem QC (R : K1) (hr : HR Py R Q) (h : Mt R (g 0) w) : iU pg OZ MX Q g w :=
 lB (kn := no) (l := []) h lZ hr trivial
def Wg (a0 : adS) (w : adR) (R : K1) : Prop :=
 Mt R a0 w
theorem Q1 {a0 : adS} {w : adR} {R : K1} (h : Wg a0 w R) : gS pg I0 #[a0] w R := by
 refine xA (ann := OZ) Tryd.f44 MX [a0] Py 10 TrydM.mixed Tryd.func44 ?_
 exact (QC _ _ _ R (fun _ _ h => h) h)
def qH : FA := ⟨pQ, fun i => .leaf ([], []) []⟩
def yJ : List ResultVar := [.tmp 2]
noncomputable def pO : Code := iZ Tryd.f45
def mU (R : K1) (nQ : adS) (w : adR) : Prop :=
 eY pg (jC nQ) w fun d6 w =>
 eY pg (gM 64 d6 5) w fun d7 w =>
 eY pg (fK 4 d7) w fun d8 w =>
 R d8 w
theorem Ip (R : K1) (hr : HR yJ R Q) (h : mU R (g 0) w) : iU pg qH (fT 2 pO) Q g w :=
 lB (kn := no) (l := []) h lZ hr trivial
def yI (kn : K1) (nQ : adS) (w : adR) : Prop :=
 eY pg (jC nQ) w fun b5 w =>
 eY pg (gM 64 b5 4) w fun b6 w =>
 eY pg (fK 3 b6) w fun b7 w =>
 eY pg (gO .eql 3 (.tmp 7) (.const (adT 0)) b7 (adT 0)) w fun b8 w =>
 lN b8
  (eY pg (jC nQ) w fun c0 w =>
  eY pg (gM 64 c0 5) w fun c1 w =>
  eY pg (iF 4 c1 (.bool true)) w fun _u w =>
  kn nQ w)
  (eY pg (jC nQ) w fun c4 w =>
  eY pg (gM 64 c4 4) w fun c5 w =>
  eY pg (fK 3 c5) w fun c6 w =>
  eY pg (gO .gtr 3 hU hU c6 (adT 0)) w fun c7 w =>
  lN c7
   (eY pg (jC nQ) w fun c9 w =>
   eY pg (gM 64 c9 4) w fun d0 w =>
   eY pg (fK 3 d0) w fun d1 w =>
   eY pg (gO .sub 3 hU hU d1 (adT 1)) w fun d2 w =>
   eY pg (jC nQ) w fun d3 w =>
   eY pg (gM 64 d3 4) w fun d4 w =>
   eY pg (iF 3 d4 d2) w fun _u w =>
   kn nQ w)
   (kn nQ w))
theorem Ia (kn : K1) (hn : N1 Q kn 0) (h : yI kn (g 0) w) : iU pg qH (gW 2 pO) Q g w :=
 lB (kr := no) (l := []) h hn lZ trivial
def xJ (R : K1) (nQ : adS) (w : adR) : Prop :=
 yI (fun nQ w => mU R nQ w) nQ w
theorem H5 (R : K1) (hr : HR yJ R Q) (h : xJ R (g 0) w) : iU pg qH pO Q g w :=
 uC 2 (Ia _ g w (mU R) (fun g w h => iA (Ip _ g w R hr h)) h)
def HH (a0 : adS) (w : adR) (R : K1) : Prop :=
 xJ R a0 w
theorem IY {a0 : adS} {w : adR} {R : K1} (h : HH a0 w R) : gS pg pQ #[a0] w R := by
 refine xA (ann := qH) Tryd.f45 pO [a0] yJ 29 TrydM.mixed Tryd.func45 ?_
 exact (H5 _ _ _ R (fun _ _ h => h) h)
def Ev : FA := ⟨xE, fun i => match Nat.beq i 6 with | true => .leaf ([6], []) [(false, []), (false, []), (false, []), (false, []), (false, []), (false, []), (true, [])] | false => .leaf ([], []) []⟩
def MJ : List ResultVar := []
noncomputable def DK : Code := iZ Tryd.f47
def A7 (kn : K0) (QK Zr : adS) (w : adR) : Prop :=
 eY pg (Eh 88 Zr) w fun TZ w =>
 eY pg (gM 88 TZ 1) w fun b9 w =>
 eY pg (fK 9 b9) w fun c0 w =>
 eY pg (zZ 61 QK c0 true) w fun c1 w =>
 eY pg (iW c1 0) w fun c2 w =>
 eY pg (iW c1 1) w fun c3 w =>
 eY pg (gM 88 TZ 0) w fun c4 w =>
 eY pg (fK 3 c4) w fun c5 w =>
 eY pg (gO .eql 3 (.tmp 15) (.const (adT 0)) c5 (adT 0)) w fun c7 w =>
 lN c7
  (eY pg (mO .len #[22] 3 [c2]) w fun c9 w =>
  eY pg (gM 88 TZ 3) w fun d0 w =>
  eY pg (fK 3 d0) w fun d1 w =>
  eY pg (gM 88 TZ 4) w fun d2 w =>
  eY pg (fK 22 d2) w fun d3 w =>
  eY pg (mO .len #[22] 3 [d3]) w fun d4 w =>
  eY pg (gO .add 3 hU hU d1 d4) w fun d5 w =>
  eY pg (mO .max #[3, 3] 3 [c9, d5]) w fun d6 w =>
  eY pg (uM 22 d6 d6) w fun d7 w =>
  eY pg (mO .copy #[22, 22] 3 [d7, c2]) w fun e0 w =>
  (dr w) = (dr w) /\
  eY pg (gM 88 TZ 3) (dr w) fun e2 w_ => w_ = (dr w) /\
  eY pg (fK 3 e2) (dr w) fun e3 w_ => w_ = (dr w) /\
  eY pg (lL 22 d7 (some e3) none none) (dr w) fun e4 w_ => w_ = (dr w) /\
  eY pg (gM 88 TZ 4) (dr w) fun e5 w_ => w_ = (dr w) /\
  eY pg (fK 22 e5) (dr w) fun e6 w_ => w_ = (dr w) /\
  eY pg (mO .copy #[22, 22] 3 [e4, e6]) (dr w) fun e7 Zd =>
  eY pg (gM 88 TZ 1) Zd fun e9 w =>
  eY pg (fK 9 e9) w fun f0 w =>
  eY pg (KE 61 QK f0 d7) w fun _u w =>
  kn w)
  (eY pg (gO .eql 3 (.tmp 15) (.const (adT 1)) c5 (adT 1)) w fun f3 w =>
  lN f3
   (lN c3
    (eY pg (gM 88 TZ 1) w fun f6 w =>
    eY pg (fK 9 f6) w fun f7 w =>
    eY pg (mO .delete #[61, 9] 0 [QK, f7]) w fun _u w =>
    eY pg (gM 88 TZ 2) w fun f9 w =>
    eY pg (fK 9 f9) w fun i0 w =>
    eY pg (KE 61 QK i0 c2) w fun _u w =>
    kn w)
    (kn w))
   (eY pg (gO .eql 3 (.tmp 15) (.const (adT 2)) c5 (adT 2)) w fun i3 w =>
   lN i3
    (eY pg (gM 88 TZ 1) w fun i5 w =>
    eY pg (fK 9 i5) w fun i6 w =>
    eY pg (mO .delete #[61, 9] 0 [QK, i6]) w fun _u w =>
    kn w)
    (kn w)))
theorem JW (kn : K0) (hn : N0 Q kn) (h : A7 kn (g 0) (g 1) w) : iU pg Ev DK Q g w :=
 lB (kr := no) (l := []) h hn lZ trivial
def Kf (a0 a1 : adS) (w : adR) (R : K1) : Prop :=
 A7 (fun  w => R (.tuple #[]) w) a0 a1 w
theorem KN {a0 a1 : adS} {w : adR} {R : K1} (h : Kf a0 a1 w R) : gS pg xE #[a0, a1] w R := by
 refine xA (ann := Ev) Tryd.f47 DK [a0, a1] MJ 57 TrydM.mixed Tryd.func47 ?_
 exact (JW _ _ _ (fun  w => R (.tuple #[]) w) (fun _ _ h => h) h)
def wR : FA := ⟨rL, fun i => .leaf ([], []) []⟩
def yS : List ResultVar := [.tmp 4]
noncomputable def vZ : Code := iZ Tryd.f48
def qL (R : K1) (lD M3 : adS) (w : adR) : Prop :=
 gS pg wH #[lD, M3] w fun b7 w =>
 eY pg (gO .geq 3 hU hU b7 (adT 0)) w fun b8 w =>
 R b8 w
theorem DB (R : K1) (hr : HR yS R Q) (h : qL R (g 0) (g 1) w) : iU pg wR vZ Q g w :=
 lB (kn := no) (l := []) h lZ hr trivial
def BF (a0 a1 : adS) (w : adR) (R : K1) : Prop :=
 qL R a0 a1 w
theorem Ef {a0 a1 : adS} {w : adR} {R : K1} (h : BF a0 a1 w R) : gS pg rL #[a0, a1] w R := by
 refine xA (ann := wR) Tryd.f48 vZ [a0, a1] yS 9 TrydM.mixed Tryd.func48 ?_
 exact (DB _ _ _ R (fun _ _ h => h) h)
def kH : FA := ⟨kV, fun i => match Nat.beq i 12 with | true => .leaf ([], []) [(false, []), (false, []), (false, []), (false, [])] | false => .leaf ([], []) []⟩
def D6 : List ResultVar := [.tmp 2, .tmp 3]
noncomputable def hZ : Code := iZ Tryd.f49
def tX (kn : K0) (k0 : K0) (mW Ii Mr : adS) (w : adR) : Prop :=
 gS pg rO #[Mr] w fun c5 w =>
 gS pg mH #[c5, (adT 1)] w fun c7 w =>
 eY pg (lC 24 5 c7) w fun c8 w =>
 gS pg mH #[c5, (adT 8)] w fun d0 w =>
 eY pg (lI 77 [(0, c8), (1, d0)]) w fun d1 w =>
 eY pg (lP 77) w fun Zb w =>
 eY pg (iF 77 Zb d1) w fun _u w =>
 eY pg (fK 77 Zb) w fun d2 w =>
 eY pg (lI 77 []) w fun d3 w =>
 eY pg (gO .eql 77 (.tmp 22) (.tmp 23) d2 d3) w fun d4 w =>
 lN d4
  (k0 w)
  (eY pg (fK 77 Zb) w fun d6 w =>
  gS pg zO #[d6] w fun d7 w =>
  eY pg (iW d7 0) w fun d8 w =>
  eY pg (iW d7 1) w fun d9 w =>
  eY pg (gO .neq 29 (.tmp 30) (.const (adT 0)) d9 (adT 0)) w fun e1 w =>
  Gd (kP e1 false) (fun K => K d8 w) w fun e3 w =>
  Gd (kP e1 false) (fun K => K Mr w) w fun e4 w =>
  Gd (kP e1 false) (fun K => gS pg qG #[e3, e4] w K) w fun e5 w =>
  Gd (kP e1 false) (fun K => eY pg (Kr .not e5) w K) w fun e6 w =>
  eY pg (lO e1 (.bool true) e6) w fun e7 w =>
  lN e7
   (k0 w)
   (eY pg (fK 72 mW) w fun e8 w =>
   eY pg (fK 77 Zb) w fun e9 w =>
   eY pg (iJ 72 1 [(0, e9)]) w fun f0 w =>
   eY pg (mO .append #[72, 72] 72 [e8, f0]) w fun f1 w =>
   eY pg (iF 72 mW f1) w fun _u w =>
   eY pg (fK 3 Ii) w fun f2 w =>
   eY pg (gO .add 3 hU hU f2 (adT 13)) w fun f3 w =>
   eY pg (iF 3 Ii f3) w fun _u w =>
   kn w))
theorem IP (kn : K0) (k0 : K0) (hn : N0 Q kn) (h0 : E0 Q k0 0) (h : tX kn k0 (g 4) (g 5) (g 6) w) : iU pg kH (SL hZ) Q g w :=
 lB (kr := no) (l := [(0, fun g w => k0 w)]) h hn lZ ⟨h0, trivial⟩
def zK (kn : K3) (mW Ii c3 : adS) (w : adR) : Prop :=
 kn mW Ii c3 w
theorem IH (kn : K3) (hn : N3 Q kn 4 5 6) (h : zK kn (g 4) (g 5) (g 13) w) : iU pg kH (Ua hZ) Q g w :=
 lB (kr := no) (l := []) h hn lZ trivial
def Hu (l : Nat) (R : K1) (mW Ii c3 : adS) (w : adR) : Prop :=
 zK (fun mW Ii Mr w => Zj l w fun w => tX (fun w => RW l none R w) (fun w => RW l (some (.exit 0)) R w) mW Ii Mr w) mW Ii c3 w
theorem Le {l : Nat} {tmps : Array adS} {w : adR} {R : K1} (hsz : tmps.size = 46) (h : Hu l R (JT tmps 4) (JT tmps 5) (JT tmps 13) w) : PM pg l kV tmps (Ua hZ) (SL hZ) w R :=
 ZG (ann := kH) 46 TrydM.mixed hsz (IH (Zn pg kH l (SL hZ) R) (JT tmps) w (fun mW Ii Mr w => Zj l w fun w => tX (RW l none R) (fun w => RW l (some (.exit 0)) R w) mW Ii Mr w) (fun g w h => let ⟨r, h1, h2, h3⟩ := h; ⟨r, h1, h2, (IP (Qj l R) g _ (RW l none R) (fun w => RW l (some (.exit 0)) R w) (fun _ _ h => h) (fun _ _ h => h) h3)⟩) h) (by kernel_rfl) (by kernel_rfl) (by kernel_rfl)
def oS (R : K1) (mW Ii t1000003 : adS) (w : adR) : Prop :=
 eY pg (fK 72 mW) (dr w) fun f4 w_ => w_ = (dr w) /\
 eY pg (fK 3 Ii) (dr w) fun f5 w_ => w_ = (dr w) /\
 (dr w) = (dr w) /\
 (dr w) = (dr w) /\
 Cq t1000003 (dr w) fun w => R (.tuple #[f4, f5]) w
theorem Lz (R : K1) (hr : Zx D6 R Q) (h : oS R (g 4) (g 5) (g 1000003) w) : iU pg kH (fT 1 (fT 3 (bI (fT 1 hZ)))) Q g w :=
 lB (kn := no) (l := []) h lZ hr trivial
def Eb (kn : K3) (k0 : K3) (mW Ii c2 t1000003 : adS) (w : adR) : Prop :=
 ∀ g : Env, g 4 = mW -> g 5 = Ii -> g 12 = c2 -> g 1000003 = t1000003 -> RF pg kV (.tmp 12) (Wn hZ) (Ua hZ) (SL hZ) (Zg (fun g w => kn (g 4) (g 5) (g 1000003) w) no [(0, (fun g w => k0 (g 4) (g 5) (g 1000003) w))]) g w
theorem Lu (kn : K3) (k0 : K3) (hn : N3 Q kn 4 5 1000003) (h0 : E3 Q k0 0 4 5 1000003) (h : Eb kn k0 (g 4) (g 5) (g 12) (g 1000003) w) : iU pg kH (bI (fT 1 (gW 1 (fT 3 (bI (fT 1 hZ)))))) Q g w :=
 lB (kr := no) (l := [(0, fun g w => k0 (g 4) (g 5) (g 1000003) w)]) (h g rfl rfl rfl rfl) hn lZ ⟨h0, trivial⟩
def DA (kn : K3) (mW Ii c2 t1000003 : adS) (w : adR) : Prop :=
 Eb kn kn mW Ii c2 t1000003 w
def DF (kn : K4) (AE mW Ii t1000003 : adS) (w : adR) : Prop :=
 gS pg wE #[AE, (adT 13)] w fun c2 w =>
 kn mW Ii c2 t1000003 w
theorem LU (kn : K4) (hn : N4 Q kn 4 5 12 1000003) (h : DF kn (g 0) (g 4) (g 5) (g 1000003) w) : iU pg kH (gW 1 (gW 1 (fT 3 (bI (fT 1 hZ))))) Q g w :=
 lB (kr := no) (l := []) h hn lZ trivial
def CY (kn : K3) (AE mW Ii t1000003 : adS) (w : adR) : Prop :=
 DF (fun mW Ii c2 t1000003 w => DA kn mW Ii c2 t1000003 w) AE mW Ii t1000003 w
def C5 (R : K1) (AE mW Ii t1000003 : adS) (w : adR) : Prop :=
 CY (fun mW Ii t1000003 w => oS R mW Ii t1000003 w) AE mW Ii t1000003 w
theorem KR (kn : K3) (hn : N3 Q kn 4 5 1000003) (h : CY kn (g 0) (g 4) (g 5) (g 1000003) w) : iU pg kH (gW 1 (fT 3 (bI (fT 1 hZ)))) Q g w :=
 uC 1 (LU _ g w (DA kn) (fun g w h => iA (Nh 0 (Lu _ g w kn kn hn hn h))) h)
def D9 (kn : K4) (AE t1000003 : adS) (w : adR) : Prop :=
 eY pg (lP 72) w fun mW w =>
 eY pg (lP 3) w fun Ii w =>
 eY pg (iF 3 Ii (adT 0)) w fun _u w =>
 kn AE mW Ii t1000003 w
theorem LZ (kn : K4) (hn : N4 Q kn 0 4 5 1000003) (h : D9 kn (g 0) (g 1000003) w) : iU pg kH (gW 3 (bI (fT 1 hZ))) Q g w :=
 lB (kr := no) (l := []) h hn lZ trivial
def I2 (R : K1) (AE t1000003 : adS) (w : adR) : Prop :=
 D9 (fun AE mW Ii t1000003 w => C5 R AE mW Ii t1000003 w) AE t1000003 w
def CV (R : K1) (AE t1000003 : adS) (w : adR) : Prop :=
 I2 R AE t1000003 w
def B3 (kn : K2) (AE t1000003 : adS) (w : adR) : Prop :=
 kn AE t1000003 w
theorem Ks (kn : K2) (hn : N2 Q kn 0 1000003) (h : B3 kn (g 0) (g 1000003) w) : iU pg kH (gW 1 hZ) Q g w :=
 lB (kr := no) (l := []) h hn lZ trivial
def Cg (R : K1) (AE t1000003 : adS) (w : adR) : Prop :=
 B3 (fun AE t1000003 w => CV R AE t1000003 w) AE t1000003 w
theorem Kl (R : K1) (hr : Zx D6 R Q) (h : Cg R (g 0) (g 1000003) w) : iU pg kH hZ Q g w :=
 uC 1 (Ks _ g w (CV R) (fun g w h => iA (Zz (uC 3 (LZ _ g w (C5 R) (fun g w h => iA (uC 1 (KR _ g w (oS R) (fun g w h => iA (Lz _ g w R hr h)) h))) h)))) h)
def MQ (a0 : adS) (w : adR) (R : K1) : Prop :=
 Cg R a0 undef w
theorem L7 {a0 : adS} {w : adR} {R : K1} (h : MQ a0 w R) : gS pg kV #[a0] w R := by
 refine ZC (ann := kH) Tryd.f49 hZ [a0] D6 46 TrydM.mixed Tryd.func49 ?_
 exact (Kl _ _ _ R (fun _ _ h => h) h)
def lA : FA := ⟨Bu, fun i => .leaf ([], []) []⟩
def DR : List ResultVar := [.tmp 4, .tmp 5]
noncomputable def kW : Code := iZ Tryd.f50
def Ah (R : K1) (kK b7 : adS) (w : adR) : Prop :=
 R (.tuple #[kK, b7]) w
theorem LG (R : K1) (hr : HR DR R Q) (h : Ah R (g 6) (g 7) w) : iU pg lA (fT 1 (fT 2 kW)) Q g w :=
 lB (kn := no) (l := []) h lZ hr trivial
def vI (kn : K6) (lJ kK b7 c0 c1 c2 : adS) (w : adR) : Prop :=
 eY pg (gO .add 3 hU hU c2 (adT 1)) w fun d4 w =>
 kn lJ kK b7 c0 c1 d4 w
theorem KU (kn : K6) (hn : N6 Q kn 1 6 7 10 11 12) (h : vI kn (g 1) (g 6) (g 7) (g 10) (g 11) (g 12) w) : iU pg lA (fT 3 (bI (bI (fT 1 (gW 1 (fT 2 kW)))))) Q g w :=
 lB (kr := no) (l := []) h hn lZ trivial
def Dx (kn : K6) (k0 : K2) (lJ kK b7 c0 c1 c2 : adS) (w : adR) : Prop :=
 eY pg (gO .lss 3 hU hU c2 c1) w fun c3 w =>
 lN c3
  (eY pg (iH 72 c0 c2) w fun c4 w =>
  eY pg (fK 77 c4) w fun c5 w =>
  eY pg (lP 77) w fun Zo w =>
  eY pg (iF 77 Zo c5) w fun _u w =>
  eY pg (gM 77 Zo 0) w fun c6 w =>
  eY pg (fK 5 c6) w fun c7 w =>
  eY pg (gO .eql 5 (.tmp 17) (.tmp 18) c7 lJ) w fun c9 w =>
  lN c9
   (eY pg (gM 77 Zo 1) w fun d1 w =>
   eY pg (fK 24 d1) w fun d2 w =>
   eY pg (mO .max #[24, 24] 24 [kK, d2]) w fun d3 w =>
   kn lJ d3 (.bool true) c0 c1 c2 w)
   (kn lJ kK b7 c0 c1 c2 w))
  (k0 kK b7 w)
theorem Lb (kn : K6) (k0 : K2) (hn : N6 Q kn 1 6 7 10 11 12) (h0 : E2 Q k0 0 6 7) (h : Dx kn k0 (g 1) (g 6) (g 7) (g 10) (g 11) (g 12) w) : iU pg lA (gW 3 (bI (bI (fT 1 (gW 1 (fT 2 kW)))))) Q g w :=
 lB (kr := no) (l := [(0, fun g w => k0 (g 6) (g 7) w)]) h hn lZ ⟨h0, trivial⟩
def Av (kn : K6) (k0 : K2) (lJ kK b7 c0 c1 c2 : adS) (w : adR) : Prop :=
 Dx (fun lJ kK b7 c0 c1 c2 w => vI kn lJ kK b7 c0 c1 c2 w) k0 lJ kK b7 c0 c1 c2 w
def D5 (k0 : K2) (lJ kK b7 c0 c1 c2 : adS) (w : adR) : Prop :=
 kC (fun (X : (adS × adS × adS) -> K0) (t : adS × adS × adS) (w : adR) => Av (fun _ kK b7 _ _ c2 w => X (kK, b7, c2) w) k0 lJ t.1 t.2.1 c0 c1 t.2.2 w) (kK, b7, c2) w
theorem LB (kn : K6) (k0 : K2) (hn : N6 Q kn 1 6 7 10 11 12) (h0 : E2 Q k0 0 6 7) (h : Av kn k0 (g 1) (g 6) (g 7) (g 10) (g 11) (g 12) w) : iU pg lA (bI (bI (fT 1 (gW 1 (fT 2 kW))))) Q g w :=
 uC 3 (Lb _ g w (vI kn) k0 (fun g w h => iA (KU _ g w kn hn h)) h0 h)
theorem Lq (k0 : K2) (h0 : E2 Q k0 0 6 7) (h : D5 k0 (g 1) (g 6) (g 7) (g 10) (g 11) (g 12) w) : iU pg lA (bI (fT 1 (gW 1 (fT 2 kW)))) Q g w := by
 refine O3 (fun g : Env => (g 6, g 7, g 12)) (fun X t w => Av (fun _ kK b7 _ _ c2 w => X (kK, b7, c2) w) k0 (g 1) t.1 t.2.1 (g 10) (g 11) t.2.2 w) h (fun X g1 w1 ha hL => ?_)
 rw [<- rU 1 ha, <- rU 10 ha, <- rU 11 ha] at hL
 exact (LB _ g1 w1 (fun _ kK b7 _ _ c2 w => X (kK, b7, c2) w) k0 (fun _ _ h => h) h0 hL)
def DQ (kn : K2) (lJ kK b7 c0 c1 c2 : adS) (w : adR) : Prop :=
 D5 kn lJ kK b7 c0 c1 c2 w
def Dd (kn : K6) (Se lJ kK b7 : adS) (w : adR) : Prop :=
 eY pg (mO .len #[72] 3 [Se]) w fun c1 w =>
 kn lJ kK b7 Se c1 (adT 0) w
theorem KY (kn : K6) (hn : N6 Q kn 1 6 7 10 11 12) (h : Dd kn (g 0) (g 1) (g 6) (g 7) w) : iU pg lA (gW 1 (gW 1 (fT 2 kW))) Q g w :=
 lB (kr := no) (l := []) h hn lZ trivial
def DM (kn : K2) (Se lJ kK b7 : adS) (w : adR) : Prop :=
 Dd (fun lJ kK b7 c0 c1 c2 w => DQ kn lJ kK b7 c0 c1 c2 w) Se lJ kK b7 w
def Dk (R : K1) (Se lJ kK b7 : adS) (w : adR) : Prop :=
 DM (fun kK b7 w => Ah R kK b7 w) Se lJ kK b7 w
theorem LM (kn : K2) (hn : N2 Q kn 6 7) (h : DM kn (g 0) (g 1) (g 6) (g 7) w) : iU pg lA (gW 1 (fT 2 kW)) Q g w :=
 uC 1 (KY _ g w (DQ kn) (fun g w h => iA (Nh 0 (Lq _ g w kn hn h))) h)
def B1 (kn : K4) (Se lJ : adS) (w : adR) : Prop :=
 kn Se lJ (.int .u64 0) (.bool false) w
theorem KP (kn : K4) (hn : N4 Q kn 0 1 6 7) (h : B1 kn (g 0) (g 1) w) : iU pg lA (gW 2 kW) Q g w :=
 lB (kr := no) (l := []) h hn lZ trivial
def B7 (R : K1) (Se lJ : adS) (w : adR) : Prop :=
 B1 (fun Se lJ kK b7 w => Dk R Se lJ kK b7 w) Se lJ w
theorem KH (R : K1) (hr : HR DR R Q) (h : B7 R (g 0) (g 1) w) : iU pg lA kW Q g w :=
 uC 2 (KP _ g w (Dk R) (fun g w h => iA (uC 1 (LM _ g w (Ah R) (fun g w h => iA (LG _ g w R hr h)) h))) h)
def M1 (a0 a1 : adS) (w : adR) (R : K1) : Prop :=
 B7 R a0 a1 w
theorem Mu {a0 a1 : adS} {w : adR} {R : K1} (h : M1 a0 a1 w R) : gS pg Bu #[a0, a1] w R := by
 refine xA (ann := lA) Tryd.f50 kW [a0, a1] DR 27 TrydM.mixed Tryd.func50 ?_
 exact (KH _ _ _ R (fun _ _ h => h) h)
def BB : FA := ⟨rQ, fun i => .leaf ([], []) []⟩
def Cp : List ResultVar := [.tmp 4]
noncomputable def AQ : Code := iZ Tryd.f51
def wL (R : K1) (nQ vD : adS) (w : adR) : Prop :=
 gS pg nG #[nQ] w fun b9 w =>
 eY pg (gO .neq 29 (.tmp 10) (.const (adT 0)) b9 (adT 0)) w fun c1 w =>
 lN c1
  (R b9 w)
  (eY pg (jC nQ) w fun c5 w =>
  eY pg (gM 64 c5 2) w fun c6 w =>
  eY pg (fK 61 c6) w fun c7 w =>
  eY pg (zZ 61 c7 vD true) w fun c9 w =>
  eY pg (iW c9 0) w fun d0 w =>
  eY pg (iW c9 1) w fun d1 w =>
  eY pg (Kr .not d1) w fun d3 w =>
  lN d3
   (R (adT 21) w)
   (eY pg (lI 88 [(0, (adT 2)), (1, vD)]) w fun d6 w =>
   gS pg oP #[nQ, d6] w fun d7 w =>
   R d7 w))
theorem G1 (R : K1) (hr : HR Cp R Q) (h : wL R (g 0) (g 1) w) : iU pg BB AQ Q g w :=
 lB (kn := no) (l := []) h lZ hr trivial
def FN (a0 a1 : adS) (w : adR) (R : K1) : Prop :=
 wL R a0 a1 w
theorem H7 {a0 a1 : adS} {w : adR} {R : K1} (h : FN a0 a1 w R) : gS pg rQ #[a0, a1] w R := by
 refine xA (ann := BB) Tryd.f51 AQ [a0, a1] Cp 28 TrydM.mixed Tryd.func51 ?_
 exact (G1 _ _ _ R (fun _ _ h => h) h)
def Jd : FA := ⟨zO, fun i => .leaf ([], []) []⟩
def Kc : List ResultVar := [.tmp 2, .tmp 3]
noncomputable def HB : Code := iZ Tryd.f52
def FH (R : K1) (NG : adS) (w : adR) : Prop :=
 eY pg (Eh 77 NG) w fun XC w =>
 eY pg (gM 77 XC 0) w fun b5 w =>
 eY pg (fK 5 b5) w fun b6 w =>
 eY pg (gO .lss 5 hU hU b6 (.int .u8 1)) w fun b7 w =>
 Gd (kP b7 false) (fun K => eY pg (gM 77 XC 0) w K) w fun b9 w =>
 Gd (kP b7 false) (fun K => eY pg (fK 5 b9) w K) w fun c0 w =>
 Gd (kP b7 false) (fun K => eY pg (gO .gtr 5 hU hU c0 (.int .u8 2)) w K) w fun c1 w =>
 eY pg (lO b7 (.bool true) c1) w fun c2 w =>
 lN c2
  (R (.tuple #[(.slice none 0 0), (adT 1)]) w)
  (gS pg rI #[] w fun c3 w =>
  eY pg (gM 77 XC 0) w fun c5 w =>
  eY pg (fK 5 c5) w fun c6 w =>
  eY pg (lC 5 24 c6) w fun c7 w =>
  gS pg lF #[c3, c7, (adT 1)] w fun c8 w =>
  eY pg (gM 77 XC 1) w fun d0 w =>
  eY pg (fK 24 d0) w fun d1 w =>
  gS pg lF #[c3, d1, (adT 8)] w fun d2 w =>
  gS pg nW #[c3] w fun d5 w =>
  gS pg L4 #[d5] w fun d6 w =>
  eY pg (lC 25 24 d6) w fun d7 w =>
  gS pg lF #[c3, d7, (adT 4)] w fun d8 w =>
  gS pg nW #[c3] w fun e0 w =>
  R (.tuple #[e0, (adT 0)]) w)
theorem Mn (R : K1) (hr : HR Kc R Q) (h : FH R (g 0) w) : iU pg Jd HB Q g w :=
 lB (kn := no) (l := []) h lZ hr trivial
def NQ (a0 : adS) (w : adR) (R : K1) : Prop :=
 FH R a0 w
theorem Nk {a0 : adS} {w : adR} {R : K1} (h : NQ a0 w R) : gS pg zO #[a0] w R := by
 refine xA (ann := Jd) Tryd.f52 HB [a0] Kc 31 TrydM.mixed Tryd.func52 ?_
 exact (Mn _ _ _ R (fun _ _ h => h) h)
def MZ : FA := ⟨JA, fun i => .leaf ([], []) []⟩
def OV : List ResultVar := [.tmp 0]
noncomputable def LY : Code := iZ Tryd.f53
def KO (R : K1)  (w : adR) : Prop :=
 eY pg (lI 119 [(0, (.int .u32 1779033703)), (1, (.int .u32 3144134277)), (2, (.int .u32 1013904242)), (3, (.int .u32 2773480762)), (4, (.int .u32 1359893119)), (5, (.int .u32 2600822924)), (6, (.int .u32 528734635)), (7, (.int .u32 1541459225))]) w fun b1 w =>
 eY pg (lI 122 [(0, b1)]) w fun b2 w =>
 eY pg (Eh 122 b2) w fun b3 w =>
 R b3 w
theorem Pt (R : K1) (hr : HR OV R Q) (h : KO R w) : iU pg MZ LY Q g w :=
 lB (kn := no) (l := []) h lZ hr trivial
def TI (w : adR) (R : K1) : Prop :=
 KO R w
theorem Qx {w : adR} {R : K1} (h : TI w R) : gS pg JA #[] w R := by
 refine xA (ann := MZ) Tryd.f53 LY [] OV 4 TrydM.mixed Tryd.func53 ?_
 exact (Pt _ _ _ R (fun _ _ h => h) h)
def oR : FA := ⟨lY, fun i => match Nat.beq i 3 with | true => .leaf ([9], []) [(false, []), (false, []), (false, []), (false, []), (false, []), (false, []), (false, []), (false, []), (false, []), (true, []), (false, [])] | false => match Nat.beq i 7 with | true => .leaf ([9, 12], []) [(false, []), (false, []), (false, []), (false, []), (false, []), (false, []), (false, []), (false, []), (false, []), (true, []), (false, []), (false, []), (true, [])] | false => .leaf ([], []) []⟩
def zT : List ResultVar := []
noncomputable def nY : Code := iZ Tryd.f54
def tV (kn : K2) (k0 : K0) (pI AF : adS) (w : adR) : Prop :=
 eY pg (mO .len #[22] 3 [AF]) w fun c8 w =>
 eY pg (gO .gtr 3 hU hU c8 (adT 0)) w fun c9 w =>
 lN c9
  ((dr w) = (dr w) /\
  eY pg (jC pI) (dr w) fun d1 w_ => w_ = (dr w) /\
  eY pg (gM 122 d1 1) (dr w) fun d2 w_ => w_ = (dr w) /\
  (dr w) = (dr w) /\
  eY pg (jC pI) (dr w) fun d4 w_ => w_ = (dr w) /\
  eY pg (gM 122 d4 2) (dr w) fun d5 w_ => w_ = (dr w) /\
  eY pg (fK 3 d5) (dr w) fun d6 w_ => w_ = (dr w) /\
  eY pg (lL 120 d2 (some d6) none none) (dr w) fun d7 w_ => w_ = (dr w) /\
  (dr w) = (dr w) /\
  eY pg (mO .copy #[22, 22] 3 [d7, AF]) (dr w) fun d9 X9 =>
  X9 = X9 /\
  eY pg (jC pI) X9 fun e1 w =>
  eY pg (gM 122 e1 2) w fun e2 w =>
  eY pg (fK 3 e2) w fun e3 w =>
  eY pg (gO .add 3 hU hU e3 d9) w fun e5 w =>
  eY pg (jC pI) w fun e6 w =>
  eY pg (gM 122 e6 2) w fun e7 w =>
  eY pg (iF 3 e7 e5) w fun _u w =>
  eY pg (lL 22 AF (some d9) none none) w fun f0 w =>
  eY pg (jC pI) w fun f2 w =>
  eY pg (gM 122 f2 2) w fun f3 w =>
  eY pg (fK 3 f3) w fun f4 w =>
  eY pg (gO .eql 3 (.tmp 44) (.const (adT 64)) f4 (adT 64)) w fun f5 w =>
  lN f5
   ((dr w) = (dr w) /\
   (dr w) = (dr w) /\
   eY pg (jC pI) (dr w) fun f8 w_ => w_ = (dr w) /\
   eY pg (gM 122 f8 0) (dr w) fun f9 w_ => w_ = (dr w) /\
   eY pg (fK 119 f9) (dr w) fun i0 w_ => w_ = (dr w) /\
   (dr w) = (dr w) /\
   eY pg (jC pI) (dr w) fun i2 w_ => w_ = (dr w) /\
   eY pg (gM 122 i2 1) (dr w) fun i3 w_ => w_ = (dr w) /\
   eY pg (fK 120 i3) (dr w) fun i4 w_ => w_ = (dr w) /\
   gS pg vX #[i0, i4] (dr w) fun i5 IT =>
   eY pg (jC pI) IT fun i6 w_ => w_ = IT /\
   eY pg (gM 122 i6 0) IT fun i7 w_ => w_ = IT /\
   eY pg (iF 119 i7 i5) IT fun _u12 Y4 =>
   eY pg (jC pI) Y4 fun i9 w =>
   eY pg (gM 122 i9 2) w fun j0 w =>
   eY pg (iF 3 j0 (adT 0)) w fun _u w =>
   kn pI f0 w)
   (kn pI f0 w))
  (k0 w)
theorem IW (kn : K2) (k0 : K0) (hn : N2 Q kn 0 1) (h0 : E0 Q k0 0) (h : tV kn k0 (g 0) (g 1) w) : iU pg oR (bI (bI (fT 2 nY))) Q g w :=
 lB (kr := no) (l := [(0, fun g w => k0 w)]) h hn lZ ⟨h0, trivial⟩
def tO (k0 : K0) (pI AF : adS) (w : adR) : Prop :=
 kC (fun (X : adS -> K0) (t : adS) (w : adR) => tV (fun _ AF w => X AF w) k0 pI t w) AF w
theorem Ja (k0 : K0) (h0 : E0 Q k0 0) (h : tO k0 (g 0) (g 1) w) : iU pg oR (bI (fT 2 nY)) Q g w := by
 refine O3 (fun g : Env => g 1) (fun X t w => tV (fun _ AF w => X AF w) k0 (g 0) t w) h (fun X g1 w1 ha hL => ?_)
 rw [<- rU 0 ha] at hL
 exact (IW _ g1 w1 (fun _ AF w => X AF w) k0 (fun _ _ h => h) h0 hL)
def Al (kn : K0) (pI AF : adS) (w : adR) : Prop :=
 tO kn pI AF w
def Ag (kn : K2) (R : K1) (pI AF : adS) (w : adR) : Prop :=
 eY pg (gO .eql 100 (.tmp 5) (.const (.pointer none)) pI (.pointer none)) w fun b6 w =>
 lN b6
  (R (.tuple #[]) w)
  (eY pg (jC pI) w fun b8 w =>
  eY pg (gM 122 b8 3) w fun b9 w =>
  eY pg (fK 24 b9) w fun c0 w =>
  eY pg (mO .len #[22] 3 [AF]) w fun c2 w =>
  eY pg (lC 3 24 c2) w fun c3 w =>
  eY pg (gO .add 24 hU hU c0 c3) w fun c4 w =>
  eY pg (jC pI) w fun c5 w =>
  eY pg (gM 122 c5 3) w fun c6 w =>
  eY pg (iF 24 c6 c4) w fun _u w =>
  kn pI AF w)
theorem I3 (kn : K2) (R : K1) (hn : N2 Q kn 0 1) (hr : HR zT R Q) (h : Ag kn R (g 0) (g 1) w) : iU pg oR (gW 2 nY) Q g w :=
 lB (l := []) h hn hr trivial
def zQ (kn : K0) (R : K1) (pI AF : adS) (w : adR) : Prop :=
 Ag (fun pI AF w => Al kn pI AF w) R pI AF w
theorem IN (kn : K0) (R : K1) (hn : N0 Q kn) (hr : HR zT R Q) (h : zQ kn R (g 0) (g 1) w) : iU pg oR nY Q g w :=
 uC 2 (I3 _ g w (Al kn) R (fun g w h => iA (Nh 0 (Ja _ g w kn hn h))) hr h)
def Jo (a0 a1 : adS) (w : adR) (R : K1) : Prop :=
 zQ (fun  w => R (.tuple #[]) w) R a0 a1 w
theorem JM {a0 a1 : adS} {w : adR} {R : K1} (h : Jo a0 a1 w R) : gS pg lY #[a0, a1] w R := by
 refine xA (ann := oR) Tryd.f54 nY [a0, a1] zT 61 TrydM.mixed Tryd.func54 ?_
 exact (IN _ _ _ (fun  w => R (.tuple #[]) w) R (fun _ _ h => h) (fun _ _ h => h) h)
def jD : FA := ⟨zM, fun i => .leaf ([], []) []⟩
def xF : List ResultVar := [.cell 2 49]
noncomputable def jA : Code := iZ Tryd.f55
def wZ (R : K1) (b2 jY : adS) (w : adR) : Prop :=
 eY pg (fK 49 jY) w fun i1 w =>
 eY pg (iF 49 b2 i1) w fun _u w =>
 U3 pg 49 b2 w fun r0 => R r0 w
theorem KM (R : K1) (hr : HR xF R Q) (h : wZ R (g 2) (g 5) w) : iU pg jD (fT 1 (fT 1 (fT 1 (fT 1 (fT 4 jA))))) Q g w :=
 lB (kn := no) (l := []) h lZ hr trivial
def wY (kn : K4) (k4 : K2) (b2 vS jY e4 : adS) (w : adR) : Prop :=
 eY pg (gO .lss 3 hU hU e4 (adT 32)) w fun e5 w =>
 lN e5
  (eY pg (gO .quo 3 hU hU e4 (adT 4)) w fun e9 w =>
  eY pg (gM 122 vS 0) w fun f0 w =>
  eY pg (iH 119 f0 e9) w fun f1 w =>
  eY pg (fK 25 f1) w fun f2 w =>
  eY pg (gO .rem 3 hU hU e4 (adT 4)) w fun f4 w =>
  eY pg (gO .mul 3 hU hU f4 (adT 8)) w fun f5 w =>
  eY pg (gO .sub 3 hU hU (adT 24) f5) w fun f6 w =>
  eY pg (gO .shr 25 hU hU f2 f6) w fun f7 w =>
  eY pg (lC 25 5 f7) w fun f8 w =>
  eY pg (iH 49 jY e4) w fun f9 w =>
  eY pg (iF 5 f9 f8) w fun _u w =>
  eY pg (gO .add 3 hU hU e4 (adT 1)) w fun i0 w =>
  kn b2 vS jY i0 w)
  (k4 b2 jY w)
theorem Kj (kn : K4) (k4 : K2) (hn : N4 Q kn 2 3 5 34) (h4 : E2 Q k4 4 2 5) (h : wY kn k4 (g 2) (g 3) (g 5) (g 34) w) : iU pg jD (bI (bI (fT 1 (gW 1 (fT 1 (fT 1 (fT 1 (fT 4 jA)))))))) Q g w :=
 lB (kr := no) (l := [(4, fun g w => k4 (g 2) (g 5) w)]) h hn lZ ⟨h4, trivial⟩
def Cm (k4 : K2) (b2 vS jY e4 : adS) (w : adR) : Prop :=
 kC (fun (X : adS -> K0) (t : adS) (w : adR) => wY (fun _ _ _ e4 w => X e4 w) k4 b2 vS jY t w) e4 w
theorem Kn (k4 : K2) (h4 : E2 Q k4 4 2 5) (h : Cm k4 (g 2) (g 3) (g 5) (g 34) w) : iU pg jD (bI (fT 1 (gW 1 (fT 1 (fT 1 (fT 1 (fT 4 jA))))))) Q g w := by
 refine O3 (fun g : Env => g 34) (fun X t w => wY (fun _ _ _ e4 w => X e4 w) k4 (g 2) (g 3) (g 5) t w) h (fun X g1 w1 ha hL => ?_)
 rw [<- rU 2 ha, <- rU 3 ha, <- rU 5 ha] at hL
 exact (Kj _ g1 w1 (fun _ _ _ e4 w => X e4 w) k4 (fun _ _ h => h) h4 hL)
def Cj (kn : K2) (b2 vS jY e4 : adS) (w : adR) : Prop :=
 Cm kn b2 vS jY e4 w
def Cc (kn : K4) (b2 vS jY : adS) (w : adR) : Prop :=
 kn b2 vS jY (adT 0) w
theorem KI (kn : K4) (hn : N4 Q kn 2 3 5 34) (h : Cc kn (g 2) (g 3) (g 5) w) : iU pg jD (gW 1 (gW 1 (fT 1 (fT 1 (fT 1 (fT 4 jA)))))) Q g w :=
 lB (kr := no) (l := []) h hn lZ trivial
def Cb (kn : K2) (b2 vS jY : adS) (w : adR) : Prop :=
 Cc (fun b2 vS jY e4 w => Cj kn b2 vS jY e4 w) b2 vS jY w
def B6 (R : K1) (b2 vS jY : adS) (w : adR) : Prop :=
 Cb (fun b2 jY w => wZ R b2 jY w) b2 vS jY w
theorem KJ (kn : K2) (hn : N2 Q kn 2 5) (h : Cb kn (g 2) (g 3) (g 5) w) : iU pg jD (gW 1 (fT 1 (fT 1 (fT 1 (fT 4 jA))))) Q g w :=
 uC 1 (KI _ g w (Cj kn) (fun g w h => iA (Nh 4 (Kn _ g w kn hn h))) h)
def Ca (kn : K3) (b2 vS : adS) (w : adR) : Prop :=
 eY pg (lP 49) w fun jY w =>
 kn b2 vS jY w
theorem Kq (kn : K3) (hn : N3 Q kn 2 3 5) (h : Ca kn (g 2) (g 3) w) : iU pg jD (gW 1 (fT 1 (fT 1 (fT 4 jA)))) Q g w :=
 lB (kr := no) (l := []) h hn lZ trivial
def Cd (R : K1) (b2 vS : adS) (w : adR) : Prop :=
 Ca (fun b2 vS jY w => B6 R b2 vS jY w) b2 vS w
def vW (kn : K4) (k2 : K2) (pI b2 vS pX : adS) (w : adR) : Prop :=
 eY pg (gO .geq 3 hU hU pX (adT 0)) w fun d1 w =>
 lN d1
  (eY pg (jC pI) w fun d5 w =>
  eY pg (gM 122 d5 3) w fun d6 w =>
  eY pg (fK 24 d6) w fun d7 w =>
  eY pg (gO .mul 24 hU hU (.int .u64 8) d7) w fun d8 w =>
  eY pg (gO .shr 24 hU hU d8 pX) w fun e0 w =>
  eY pg (lC 24 5 e0) w fun e1 w =>
  eY pg (iJ 22 1 [(0, e1)]) w fun e2 w =>
  gS pg lY #[vS, e2] w fun e3 w =>
  eY pg (gO .sub 3 hU hU pX (adT 8)) w fun d3 w =>
  kn pI b2 vS d3 w)
  (k2 b2 vS w)
theorem JY (kn : K4) (k2 : K2) (hn : N4 Q kn 0 2 3 4) (h2 : E2 Q k2 2 2 3) (h : vW kn k2 (g 0) (g 2) (g 3) (g 4) w) : iU pg jD (bI (bI (fT 1 (gW 1 (fT 1 (fT 4 jA)))))) Q g w :=
 lB (kr := no) (l := [(2, fun g w => k2 (g 2) (g 3) w)]) h hn lZ ⟨h2, trivial⟩
def AY (k2 : K2) (pI b2 vS pX : adS) (w : adR) : Prop :=
 kC (fun (X : adS -> K0) (t : adS) (w : adR) => vW (fun _ _ _ pX w => X pX w) k2 pI b2 vS t w) pX w
theorem JD (k2 : K2) (h2 : E2 Q k2 2 2 3) (h : AY k2 (g 0) (g 2) (g 3) (g 4) w) : iU pg jD (bI (fT 1 (gW 1 (fT 1 (fT 4 jA))))) Q g w := by
 refine O3 (fun g : Env => g 4) (fun X t w => vW (fun _ _ _ pX w => X pX w) k2 (g 0) (g 2) (g 3) t w) h (fun X g1 w1 ha hL => ?_)
 rw [<- rU 0 ha, <- rU 2 ha, <- rU 3 ha] at hL
 exact (JY _ g1 w1 (fun _ _ _ pX w => X pX w) k2 (fun _ _ h => h) h2 hL)
def Bc (kn : K2) (pI b2 vS pX : adS) (w : adR) : Prop :=
 AY kn pI b2 vS pX w
def A0 (kn : K4) (pI b2 vS : adS) (w : adR) : Prop :=
 kn pI b2 vS (adT 56) w
theorem JG (kn : K4) (hn : N4 Q kn 0 2 3 4) (h : A0 kn (g 0) (g 2) (g 3) w) : iU pg jD (gW 1 (gW 1 (fT 1 (fT 4 jA)))) Q g w :=
 lB (kr := no) (l := []) h hn lZ trivial
def AZ (kn : K2) (pI b2 vS : adS) (w : adR) : Prop :=
 A0 (fun pI b2 vS pX w => Bc kn pI b2 vS pX w) pI b2 vS w
def Be (R : K1) (pI b2 vS : adS) (w : adR) : Prop :=
 AZ (fun b2 vS w => Cd R b2 vS w) pI b2 vS w
theorem JE (kn : K2) (hn : N2 Q kn 2 3) (h : AZ kn (g 0) (g 2) (g 3) w) : iU pg jD (gW 1 (fT 1 (fT 4 jA))) Q g w :=
 uC 1 (JG _ g w (Bc kn) (fun g w h => iA (Nh 2 (JD _ g w kn hn h))) h)
def vR (kn : K3) (k0 : K3) (pI b2 vS : adS) (w : adR) : Prop :=
 eY pg (gM 122 vS 2) w fun c5 w =>
 eY pg (fK 3 c5) w fun c6 w =>
 eY pg (gO .neq 3 (.tmp 16) (.const (adT 56)) c6 (adT 56)) w fun c7 w =>
 lN c7
  (eY pg (iJ 22 1 [(0, (.int .u8 0))]) w fun c8 w =>
  gS pg lY #[vS, c8] w fun c9 w =>
  kn pI b2 vS w)
  (k0 pI b2 vS w)
theorem JS (kn : K3) (k0 : K3) (hn : N3 Q kn 0 2 3) (h0 : E3 Q k0 0 0 2 3) (h : vR kn k0 (g 0) (g 2) (g 3) w) : iU pg jD (bI (bI (gW 1 (fT 4 jA)))) Q g w :=
 lB (kr := no) (l := [(0, fun g w => k0 (g 0) (g 2) (g 3) w)]) h hn lZ ⟨h0, trivial⟩
def A8 (k0 : K3) (pI b2 vS : adS) (w : adR) : Prop :=
 kC (fun (X : Unit -> K0) (t : Unit) (w : adR) => vR (fun _ _ _ w => X () w) k0 pI b2 vS w) () w
theorem JP (k0 : K3) (h0 : E3 Q k0 0 0 2 3) (h : A8 k0 (g 0) (g 2) (g 3) w) : iU pg jD (bI (gW 1 (fT 4 jA))) Q g w := by
 refine O3 (fun _ : Env => ()) (fun X t w => vR (fun _ _ _ w => X () w) k0 (g 0) (g 2) (g 3) w) h (fun X g1 w1 ha hL => ?_)
 rw [<- rU 0 ha, <- rU 2 ha, <- rU 3 ha] at hL
 exact (JS _ g1 w1 (fun _ _ _ w => X () w) k0 (fun _ _ h => h) h0 hL)
def Bh (kn : K3) (pI b2 vS : adS) (w : adR) : Prop :=
 A8 kn pI b2 vS w
def Bg (R : K1) (pI b2 vS : adS) (w : adR) : Prop :=
 Bh (fun pI b2 vS w => Be R pI b2 vS w) pI b2 vS w
theorem JJ (kn : K3) (hn : N3 Q kn 0 2 3) (h : Bh kn (g 0) (g 2) (g 3) w) : iU pg jD (gW 1 (fT 4 jA)) Q g w :=
 Nh 0 (JP _ g w kn hn h)
def Bm (kn : K3) (R : K1) (pI : adS) (w : adR) : Prop :=
 eY pg (lP 49) w fun b2 w =>
 eY pg (gO .eql 100 (.tmp 7) (.const (.pointer none)) pI (.pointer none)) w fun b8 w =>
 lN b8
  (gS pg I0 #[(.slice none 0 0)] w fun b9 w =>
  eY pg (iF 49 b2 b9) w fun _u w =>
  U3 pg 49 b2 w fun r0 => R r0 w)
  (eY pg (jC pI) w fun c1 w =>
  eY pg (fK 122 c1) w fun c2 w =>
  eY pg (lP 122) w fun vS w =>
  eY pg (iF 122 vS c2) w fun _u w =>
  eY pg (iJ 22 1 [(0, (.int .u8 128))]) w fun c3 w =>
  gS pg lY #[vS, c3] w fun c4 w =>
  kn pI b2 vS w)
theorem JB (kn : K3) (R : K1) (hn : N3 Q kn 0 2 3) (hr : HR xF R Q) (h : Bm kn R (g 0) w) : iU pg jD (gW 4 jA) Q g w :=
 lB (l := []) h hn hr trivial
def A6 (R : K1) (pI : adS) (w : adR) : Prop :=
 Bm (fun pI b2 vS w => Bg R pI b2 vS w) R pI w
theorem JK (R : K1) (hr : HR xF R Q) (h : A6 R (g 0) w) : iU pg jD jA Q g w :=
 uC 4 (JB _ g w (Bg R) R (fun g w h => iA (uC 1 (JJ _ g w (Be R) (fun g w h => iA (uC 1 (JE _ g w (Cd R) (fun g w h => iA (uC 1 (Kq _ g w (B6 R) (fun g w h => iA (uC 1 (KJ _ g w (wZ R) (fun g w h => iA (KM _ g w R hr h)) h))) h))) h))) h))) hr h)
def Li (a0 : adS) (w : adR) (R : K1) : Prop :=
 A6 R a0 w
theorem Lg {a0 : adS} {w : adR} {R : K1} (h : Li a0 w R) : gS pg zM #[a0] w R := by
 refine xA (ann := jD) Tryd.f55 jA [a0] xF 52 TrydM.mixed Tryd.func55 ?_
 exact (JK _ _ _ R (fun _ _ h => h) h)
def kE : FA := ⟨wH, fun i => .leaf ([], []) []⟩
def lV : List ResultVar := [.tmp 4]
noncomputable def jX : Code := iZ Tryd.f57
def pM (R : K1)  (w : adR) : Prop :=
 R (adT (-1)) w
theorem GK (R : K1) (hr : HR lV R Q) (h : pM R w) : iU pg kE (fT 1 (fT 1 jX)) Q g w :=
 lB (kn := no) (l := []) h lZ hr trivial
def pP (kn : K4) (k0 : K0) (R : K1) (lD M3 b7 b8 : adS) (w : adR) : Prop :=
 eY pg (gO .lss 3 hU hU b8 b7) w fun b9 w =>
 lN b9
  (eY pg (iH 45 lD b8) w fun c4 w =>
  eY pg (fK 4 c4) w fun c5 w =>
  eY pg (gO .eql 4 (.tmp 11) (.tmp 15) M3 c5) w fun c6 w =>
  lN c6
   (R b8 w)
   (eY pg (gO .add 3 hU hU b8 (adT 1)) w fun c8 w =>
   kn lD M3 b7 c8 w))
  (k0 w)
theorem F6 (kn : K4) (k0 : K0) (R : K1) (hn : N4 Q kn 0 1 7 8) (h0 : E0 Q k0 0) (hr : HR lV R Q) (h : pP kn k0 R (g 0) (g 1) (g 7) (g 8) w) : iU pg kE (bI (bI (fT 1 (gW 1 (fT 1 jX))))) Q g w :=
 lB (l := [(0, fun g w => k0 w)]) h hn hr ⟨h0, trivial⟩
def vJ (k0 : K0) (R : K1) (lD M3 b7 b8 : adS) (w : adR) : Prop :=
 kC (fun (X : adS -> K0) (t : adS) (w : adR) => pP (fun _ _ _ b8 w => X b8 w) k0 R lD M3 b7 t w) b8 w
theorem GG (k0 : K0) (R : K1) (h0 : E0 Q k0 0) (hr : HR lV R Q) (h : vJ k0 R (g 0) (g 1) (g 7) (g 8) w) : iU pg kE (bI (fT 1 (gW 1 (fT 1 jX)))) Q g w := by
 refine O3 (fun g : Env => g 8) (fun X t w => pP (fun _ _ _ b8 w => X b8 w) k0 R (g 0) (g 1) (g 7) t w) h (fun X g1 w1 ha hL => ?_)
 rw [<- rU 0 ha, <- rU 1 ha, <- rU 7 ha] at hL
 exact (F6 _ g1 w1 (fun _ _ _ b8 w => X b8 w) k0 R (fun _ _ h => h) h0 hr hL)
def uS (kn : K0) (R : K1) (lD M3 b7 b8 : adS) (w : adR) : Prop :=
 vJ kn R lD M3 b7 b8 w
def uU (kn : K4) (lD M3 : adS) (w : adR) : Prop :=
 eY pg (mO .len #[45] 3 [lD]) w fun b7 w =>
 kn lD M3 b7 (adT 0) w
theorem FP (kn : K4) (hn : N4 Q kn 0 1 7 8) (h : uU kn (g 0) (g 1) w) : iU pg kE (gW 1 (gW 1 (fT 1 jX))) Q g w :=
 lB (kr := no) (l := []) h hn lZ trivial
def vO (kn : K0) (R : K1) (lD M3 : adS) (w : adR) : Prop :=
 uU (fun lD M3 b7 b8 w => uS kn R lD M3 b7 b8 w) lD M3 w
def vC (R : K1) (lD M3 : adS) (w : adR) : Prop :=
 vO (fun  w => pM R w) R lD M3 w
theorem Gx (kn : K0) (R : K1) (hn : N0 Q kn) (hr : HR lV R Q) (h : vO kn R (g 0) (g 1) w) : iU pg kE (gW 1 (fT 1 jX)) Q g w :=
 uC 1 (FP _ g w (uS kn R) (fun g w h => iA (Nh 0 (GG _ g w kn R hn hr h))) h)
def uH (kn : K2) (lD M3 : adS) (w : adR) : Prop :=
 kn lD M3 w
theorem Gp (kn : K2) (hn : N2 Q kn 0 1) (h : uH kn (g 0) (g 1) w) : iU pg kE (gW 1 jX) Q g w :=
 lB (kr := no) (l := []) h hn lZ trivial
def uP (R : K1) (lD M3 : adS) (w : adR) : Prop :=
 uH (fun lD M3 w => vC R lD M3 w) lD M3 w
theorem F8 (R : K1) (hr : HR lV R Q) (h : uP R (g 0) (g 1) w) : iU pg kE jX Q g w :=
 uC 1 (Gp _ g w (vC R) (fun g w h => iA (uC 1 (Gx _ g w (fun  w => pM R w) R (fun g w h => iA (GK _ g w R hr h)) hr h))) h)
def EF (a0 a1 : adS) (w : adR) (R : K1) : Prop :=
 uP R a0 a1 w
theorem Hf {a0 a1 : adS} {w : adR} {R : K1} (h : EF a0 a1 w R) : gS pg wH #[a0, a1] w R := by
 refine xA (ann := kE) Tryd.f57 jX [a0, a1] lV 19 TrydM.mixed Tryd.func57 ?_
 exact (F8 _ _ _ R (fun _ _ h => h) h)
def pD : FA := ⟨wE, fun i => .leaf ([], []) []⟩
def vF : List ResultVar := [.tmp 4]
noncomputable def oD : Code := iZ Tryd.f58
def pU (R : K1) (nS FM : adS) (w : adR) : Prop :=
 eY pg (I7 (.func 67) [] [nS, FM]) w fun b8 w =>
 R b8 w
theorem Gr (R : K1) (hr : HR vF R Q) (h : pU R (g 2) (g 3) w) : iU pg pD (fT 2 oD) Q g w :=
 lB (kn := no) (l := []) h lZ hr trivial
def uJ (kn : K2) (lD NH : adS) (w : adR) : Prop :=
 eY pg (Eh 22 lD) w fun nS w =>
 eY pg (Eh 3 NH) w fun FM w =>
 eY pg (fK 3 FM) w fun b5 w =>
 eY pg (gO .lss 3 hU hU b5 (adT 1)) w fun b6 w =>
 lN b6
  (eY pg (XR 9 (.string ⟨#[99, 97, 110, 110, 111, 116, 32, 98, 101, 32, 108, 101, 115, 115, 32, 116, 104, 97, 110, 32, 49]⟩)) w fun b7 w =>
  eY pg (V (Instr.panic b7)) w fun _u w =>
  kn nS FM w)
  (kn nS FM w)
theorem Gb (kn : K2) (hn : N2 Q kn 2 3) (h : uJ kn (g 0) (g 1) w) : iU pg pD (gW 2 oD) Q g w :=
 lB (kr := no) (l := []) h hn lZ trivial
def uX (R : K1) (lD NH : adS) (w : adR) : Prop :=
 uJ (fun nS FM w => pU R nS FM w) lD NH w
theorem FX (R : K1) (hr : HR vF R Q) (h : uX R (g 0) (g 1) w) : iU pg pD oD Q g w :=
 uC 2 (Gb _ g w (pU R) (fun g w h => iA (Gr _ g w R hr h)) h)
def EJ (a0 a1 : adS) (w : adR) (R : K1) : Prop :=
 uX R a0 a1 w
theorem He {a0 a1 : adS} {w : adR} {R : K1} (h : EJ a0 a1 w R) : gS pg wE #[a0, a1] w R := by
 refine xA (ann := pD) Tryd.f58 oD [a0, a1] vF 9 TrydM.mixed Tryd.func58 ?_
 exact (FX _ _ _ R (fun _ _ h => h) h)
def BG : FA := ⟨rO, fun i => .leaf ([], []) []⟩
def CA : List ResultVar := [.tmp 2]
noncomputable def AO : Code := iZ Tryd.f59
def wO (R : K1) (AE : adS) (w : adR) : Prop :=
 gS pg kS #[AE] w fun b4 w =>
 eY pg (lI 126 [(0, b4)]) w fun b5 w =>
 eY pg (Eh 126 b5) w fun b6 w =>
 R b6 w
theorem G0 (R : K1) (hr : HR CA R Q) (h : wO R (g 0) w) : iU pg BG AO Q g w :=
 lB (kn := no) (l := []) h lZ hr trivial
def Ga (a0 : adS) (w : adR) (R : K1) : Prop :=
 wO R a0 w
theorem Ic {a0 : adS} {w : adR} {R : K1} (h : Ga a0 w R) : gS pg rO #[a0] w R := by
 refine xA (ann := BG) Tryd.f59 AO [a0] CA 7 TrydM.mixed Tryd.func59 ?_
 exact (G0 _ _ _ R (fun _ _ h => h) h)
def jO : FA := ⟨mH, fun i => .leaf ([], []) []⟩
def nK : List ResultVar := [.tmp 4]
noncomputable def jK : Code := iZ Tryd.f60
def nP (R : K1) (J3 : adS) (w : adR) : Prop :=
 R J3 w
theorem CX (R : K1) (hr : HR nK R Q) (h : nP R (g 5) w) : iU pg jO (fT 1 (fT 3 jK)) Q g w :=
 lB (kn := no) (l := []) h lZ hr trivial
def nR (kn : K4) (k0 : K1) (J3 c8 c9 d0 : adS) (w : adR) : Prop :=
 eY pg (gO .lss 3 hU hU d0 c9) w fun d1 w =>
 lN d1
  (eY pg (iH 22 c8 d0) w fun d3 w =>
  eY pg (fK 5 d3) w fun d4 w =>
  eY pg (lC 5 24 d4) w fun d7 w =>
  eY pg (gO .mul 3 hU hU (adT 8) d0) w fun d9 w =>
  eY pg (lC 3 128 d9) w fun e0 w =>
  eY pg (gO .shl 24 hU hU d7 e0) w fun e1 w =>
  eY pg (gO .or 24 hU hU J3 e1) w fun e2 w =>
  eY pg (gO .add 3 hU hU d0 (adT 1)) w fun e3 w =>
  kn e2 c8 c9 e3 w)
  (k0 J3 w)
theorem Dy (kn : K4) (k0 : K1) (hn : N4 Q kn 5 18 19 20) (h0 : E1 Q k0 0 5) (h : nR kn k0 (g 5) (g 18) (g 19) (g 20) w) : iU pg jO (bI (bI (fT 1 (gW 1 (fT 3 jK))))) Q g w :=
 lB (kr := no) (l := [(0, fun g w => k0 (g 5) w)]) h hn lZ ⟨h0, trivial⟩
def qO (k0 : K1) (J3 c8 c9 d0 : adS) (w : adR) : Prop :=
 kC (fun (X : (adS × adS) -> K0) (t : adS × adS) (w : adR) => nR (fun J3 _ _ d0 w => X (J3, d0) w) k0 t.1 c8 c9 t.2 w) (J3, d0) w
theorem Dt (k0 : K1) (h0 : E1 Q k0 0 5) (h : qO k0 (g 5) (g 18) (g 19) (g 20) w) : iU pg jO (bI (fT 1 (gW 1 (fT 3 jK)))) Q g w := by
 refine O3 (fun g : Env => (g 5, g 20)) (fun X t w => nR (fun J3 _ _ d0 w => X (J3, d0) w) k0 t.1 (g 18) (g 19) t.2 w) h (fun X g1 w1 ha hL => ?_)
 rw [<- rU 18 ha, <- rU 19 ha] at hL
 exact (Dy _ g1 w1 (fun J3 _ _ d0 w => X (J3, d0) w) k0 (fun _ _ h => h) h0 hL)
def rC (kn : K1) (J3 c8 c9 d0 : adS) (w : adR) : Prop :=
 qO kn J3 c8 c9 d0 w
def qU (kn : K4) (NG NH J3 : adS) (w : adR) : Prop :=
 eY pg (gO .geq 3 hU hU NH (adT 1)) w fun c3 w =>
 Gd (kP c3 true) (fun K => K NH w) w fun c5 w =>
 Gd (kP c3 true) (fun K => eY pg (gO .leq 3 hU hU c5 (adT 8)) w K) w fun c6 w =>
 eY pg (lO c3 c6 (.bool false)) w fun c7 w =>
 gS pg pT #[NG, NH, c7] w fun c8 w =>
 eY pg (mO .len #[22] 3 [c8]) w fun c9 w =>
 kn J3 c8 c9 (adT 0) w
theorem D0 (kn : K4) (hn : N4 Q kn 5 18 19 20) (h : qU kn (g 0) (g 1) (g 5) w) : iU pg jO (gW 1 (gW 1 (fT 3 jK))) Q g w :=
 lB (kr := no) (l := []) h hn lZ trivial
def qW (kn : K1) (NG NH J3 : adS) (w : adR) : Prop :=
 qU (fun J3 c8 c9 d0 w => rC kn J3 c8 c9 d0 w) NG NH J3 w
def rA (R : K1) (NG NH J3 : adS) (w : adR) : Prop :=
 qW (fun J3 w => nP R J3 w) NG NH J3 w
theorem DX (kn : K1) (hn : N1 Q kn 5) (h : qW kn (g 0) (g 1) (g 5) w) : iU pg jO (gW 1 (fT 3 jK)) Q g w :=
 uC 1 (D0 _ g w (rC kn) (fun g w h => iA (Nh 0 (Dt _ g w kn hn h))) h)
def qZ (kn : K3) (R : K1) (NG NH : adS) (w : adR) : Prop :=
 eY pg (gO .eql 109 (.tmp 8) (.const (.pointer none)) NG (.pointer none)) w fun b9 w =>
 lN b9
  (R (.int .u64 0) w)
  (kn NG NH (.int .u64 0) w)
theorem DP (kn : K3) (R : K1) (hn : N3 Q kn 0 1 5) (hr : HR nK R Q) (h : qZ kn R (g 0) (g 1) w) : iU pg jO (gW 3 jK) Q g w :=
 lB (l := []) h hn hr trivial
def qY (R : K1) (NG NH : adS) (w : adR) : Prop :=
 qZ (fun NG NH J3 w => rA R NG NH J3 w) R NG NH w
theorem DJ (R : K1) (hr : HR nK R Q) (h : qY R (g 0) (g 1) w) : iU pg jO jK Q g w :=
 uC 3 (DP _ g w (rA R) R (fun g w h => iA (uC 1 (DX _ g w (nP R) (fun g w h => iA (CX _ g w R hr h)) h))) hr h)
def Bx (a0 a1 : adS) (w : adR) (R : K1) : Prop :=
 qY R a0 a1 w
theorem Ee {a0 a1 : adS} {w : adR} {R : K1} (h : Bx a0 a1 w R) : gS pg mH #[a0, a1] w R := by
 refine xA (ann := jO) Tryd.f60 jK [a0, a1] nK 35 TrydM.mixed Tryd.func60 ?_
 exact (DJ _ _ _ R (fun _ _ h => h) h)
def kF : FA := ⟨qG, fun i => match Nat.beq i 6 with | true => .leaf ([], []) [(false, []), (false, []), (false, []), (false, []), (false, []), (false, []), (false, []), (false, []), (false, [])] | false => .leaf ([], []) []⟩
def kZ : List ResultVar := [.tmp 4]
noncomputable def jW : Code := iZ Tryd.f61
def pR (R : K1)  (w : adR) : Prop :=
 R (.bool true) w
theorem FR (R : K1) (hr : HR kZ R Q) (h : pR R w) : iU pg kF (fT 1 (fT 2 jW)) Q g w :=
 lB (kn := no) (l := []) h lZ hr trivial
def pS (kn : K4) (k0 : K0) (R : K1) (BP Ck c2 c3 : adS) (w : adR) : Prop :=
 eY pg (gO .lss 3 hU hU c3 c2) w fun c4 w =>
 lN c4
  ((dr w) = (dr w) /\
  (dr w) = (dr w) /\
  eY pg (iH 22 BP c3) (dr w) fun c8 w_ => w_ = (dr w) /\
  eY pg (fK 5 c8) (dr w) fun c9 w_ => w_ = (dr w) /\
  (dr w) = (dr w) /\
  (dr w) = (dr w) /\
  eY pg (iH 22 Ck c3) (dr w) fun d2 w_ => w_ = (dr w) /\
  eY pg (fK 5 d2) (dr w) fun d3 w_ => w_ = (dr w) /\
  eY pg (gO .neq 5 (.tmp 19) (.tmp 23) c9 d3) (dr w) fun d4 w_ => w_ = (dr w) /\
  lN d4
   (R (.bool false) (dr w))
   (eY pg (gO .add 3 hU hU c3 (adT 1)) (dr w) fun d5 w =>
   kn BP Ck c2 d5 w))
  (k0 w)
theorem F1 (kn : K4) (k0 : K0) (R : K1) (hn : N4 Q kn 0 1 12 13) (h0 : E0 Q k0 0) (hr : HR kZ R Q) (h : pS kn k0 R (g 0) (g 1) (g 12) (g 13) w) : iU pg kF (bI (bI (fT 1 (gW 1 (fT 2 jW))))) Q g w :=
 lB (l := [(0, fun g w => k0 w)]) h hn hr ⟨h0, trivial⟩
def vA (k0 : K0) (R : K1) (BP Ck c2 c3 : adS) (w : adR) : Prop :=
 kC (fun (X : adS -> K0) (t : adS) (w : adR) => pS (fun _ _ _ c3 w => X c3 w) k0 R BP Ck c2 t w) c3 w
theorem Gm (k0 : K0) (R : K1) (h0 : E0 Q k0 0) (hr : HR kZ R Q) (h : vA k0 R (g 0) (g 1) (g 12) (g 13) w) : iU pg kF (bI (fT 1 (gW 1 (fT 2 jW)))) Q g w := by
 refine O3 (fun g : Env => g 13) (fun X t w => pS (fun _ _ _ c3 w => X c3 w) k0 R (g 0) (g 1) (g 12) t w) h (fun X g1 w1 ha hL => ?_)
 rw [<- rU 0 ha, <- rU 1 ha, <- rU 12 ha] at hL
 exact (F1 _ g1 w1 (fun _ _ _ c3 w => X c3 w) k0 R (fun _ _ h => h) h0 hr hL)
def uZ (kn : K0) (R : K1) (BP Ck c2 c3 : adS) (w : adR) : Prop :=
 vA kn R BP Ck c2 c3 w
def uR (kn : K4) (BP Ck : adS) (w : adR) : Prop :=
 eY pg (mO .len #[22] 3 [BP]) w fun c2 w =>
 kn BP Ck c2 (adT 0) w
theorem FO (kn : K4) (hn : N4 Q kn 0 1 12 13) (h : uR kn (g 0) (g 1) w) : iU pg kF (gW 1 (gW 1 (fT 2 jW))) Q g w :=
 lB (kr := no) (l := []) h hn lZ trivial
def vL (kn : K0) (R : K1) (BP Ck : adS) (w : adR) : Prop :=
 uR (fun BP Ck c2 c3 w => uZ kn R BP Ck c2 c3 w) BP Ck w
def uW (R : K1) (BP Ck : adS) (w : adR) : Prop :=
 vL (fun  w => pR R w) R BP Ck w
theorem Gg (kn : K0) (R : K1) (hn : N0 Q kn) (hr : HR kZ R Q) (h : vL kn R (g 0) (g 1) w) : iU pg kF (gW 1 (fT 2 jW)) Q g w :=
 uC 1 (FO _ g w (uZ kn R) (fun g w h => iA (Nh 0 (Gm _ g w kn R hn hr h))) h)
def uG (kn : K2) (R : K1) (BP Ck : adS) (w : adR) : Prop :=
 eY pg (mO .len #[22] 3 [BP]) w fun b7 w =>
 eY pg (mO .len #[22] 3 [Ck]) w fun b9 w =>
 eY pg (gO .neq 3 (.tmp 7) (.tmp 9) b7 b9) w fun c0 w =>
 lN c0
  (R (.bool false) w)
  (kn BP Ck w)
theorem Gu (kn : K2) (R : K1) (hn : N2 Q kn 0 1) (hr : HR kZ R Q) (h : uG kn R (g 0) (g 1) w) : iU pg kF (gW 2 jW) Q g w :=
 lB (l := []) h hn hr trivial
def uV (R : K1) (BP Ck : adS) (w : adR) : Prop :=
 uG (fun BP Ck w => uW R BP Ck w) R BP Ck w
theorem Gt (R : K1) (hr : HR kZ R Q) (h : uV R (g 0) (g 1) w) : iU pg kF jW Q g w :=
 uC 2 (Gu _ g w (uW R) R (fun g w h => iA (uC 1 (Gg _ g w (fun  w => pR R w) R (fun g w h => iA (FR _ g w R hr h)) hr h))) hr h)
def Ez (a0 a1 : adS) (w : adR) (R : K1) : Prop :=
 uV R a0 a1 w
theorem G8 {a0 a1 : adS} {w : adR} {R : K1} (h : Ez a0 a1 w R) : gS pg qG #[a0, a1] w R := by
 refine xA (ann := kF) Tryd.f61 jW [a0, a1] kZ 26 TrydM.mixed Tryd.func61 ?_
 exact (Gt _ _ _ R (fun _ _ h => h) h)
def B0 : FA := ⟨rI, fun i => .leaf ([], []) []⟩
def Co : List ResultVar := [.tmp 0]
noncomputable def AH : Code := iZ Tryd.f62
def wK (R : K1)  (w : adR) : Prop :=
 eY pg (lI 130 []) w fun b1 w =>
 eY pg (Eh 130 b1) w fun b2 w =>
 R b2 w
theorem Hj (R : K1) (hr : HR Co R Q) (h : wK R w) : iU pg B0 AH Q g w :=
 lB (kn := no) (l := []) h lZ hr trivial
def GL (w : adR) (R : K1) : Prop :=
 wK R w
theorem HN {w : adR} {R : K1} (h : GL w R) : gS pg rI #[] w R := by
 refine xA (ann := B0) Tryd.f62 AH [] Co 3 TrydM.mixed Tryd.func62 ?_
 exact (Hj _ _ _ R (fun _ _ h => h) h)
def lM : FA := ⟨lF, fun i => .leaf ([], []) []⟩
def qQ : List ResultVar := []
noncomputable def lG : Code := iZ Tryd.f63
def nN (kn : K4) (k0 : K0) (Ql Tq c7 c8 : adS) (w : adR) : Prop :=
 eY pg (gO .lss 3 hU hU c8 c7) w fun c9 w =>
 lN c9
  (eY pg (jC Ql) w fun d3 w =>
  eY pg (gM 130 d3 0) w fun d4 w =>
  eY pg (fK 22 d4) w fun d5 w =>
  eY pg (gO .mul 3 hU hU (adT 8) c8) w fun d8 w =>
  eY pg (lC 3 128 d8) w fun d9 w =>
  eY pg (gO .shr 24 hU hU Tq d9) w fun e0 w =>
  eY pg (lC 24 5 e0) w fun e1 w =>
  eY pg (iJ 22 1 [(0, e1)]) w fun e2 w =>
  eY pg (mO .append #[22, 22] 22 [d5, e2]) w fun e3 w =>
  eY pg (jC Ql) w fun e4 w =>
  eY pg (gM 130 e4 0) w fun e5 w =>
  eY pg (iF 22 e5 e3) w fun _u w =>
  eY pg (gO .add 3 hU hU c8 (adT 1)) w fun e6 w =>
  kn Ql Tq c7 e6 w)
  (k0 w)
theorem DG (kn : K4) (k0 : K0) (hn : N4 Q kn 0 1 17 18) (h0 : E0 Q k0 0) (h : nN kn k0 (g 0) (g 1) (g 17) (g 18) w) : iU pg lM (bI (bI (fT 2 lG))) Q g w :=
 lB (kr := no) (l := [(0, fun g w => k0 w)]) h hn lZ ⟨h0, trivial⟩
def qT (k0 : K0) (Ql Tq c7 c8 : adS) (w : adR) : Prop :=
 kC (fun (X : adS -> K0) (t : adS) (w : adR) => nN (fun _ _ _ c8 w => X c8 w) k0 Ql Tq c7 t w) c8 w
theorem Dw (k0 : K0) (h0 : E0 Q k0 0) (h : qT k0 (g 0) (g 1) (g 17) (g 18) w) : iU pg lM (bI (fT 2 lG)) Q g w := by
 refine O3 (fun g : Env => g 18) (fun X t w => nN (fun _ _ _ c8 w => X c8 w) k0 (g 0) (g 1) (g 17) t w) h (fun X g1 w1 ha hL => ?_)
 rw [<- rU 0 ha, <- rU 1 ha, <- rU 17 ha] at hL
 exact (DG _ g1 w1 (fun _ _ _ c8 w => X c8 w) k0 (fun _ _ h => h) h0 hL)
def rB (kn : K0) (Ql Tq c7 c8 : adS) (w : adR) : Prop :=
 qT kn Ql Tq c7 c8 w
def qN (kn : K4) (R : K1) (Ql Tq YH : adS) (w : adR) : Prop :=
 eY pg (gO .eql 113 (.tmp 7) (.const (.pointer none)) Ql (.pointer none)) w fun b8 w =>
 Gd (kP b8 false) (fun K => K YH w) w fun c0 w =>
 Gd (kP b8 false) (fun K => eY pg (gO .lss 3 hU hU c0 (adT 1)) w K) w fun c1 w =>
 eY pg (lO b8 (.bool true) c1) w fun c2 w =>
 Gd (kP c2 false) (fun K => K YH w) w fun c4 w =>
 Gd (kP c2 false) (fun K => eY pg (gO .gtr 3 hU hU c4 (adT 8)) w K) w fun c5 w =>
 eY pg (lO c2 (.bool true) c5) w fun c6 w =>
 lN c6
  (R (.tuple #[]) w)
  (kn Ql Tq YH (adT 0) w)
theorem DU (kn : K4) (R : K1) (hn : N4 Q kn 0 1 17 18) (hr : HR qQ R Q) (h : qN kn R (g 0) (g 1) (g 2) w) : iU pg lM (gW 2 lG) Q g w :=
 lB (l := []) h hn hr trivial
def qJ (kn : K0) (R : K1) (Ql Tq YH : adS) (w : adR) : Prop :=
 qN (fun Ql Tq c7 c8 w => rB kn Ql Tq c7 c8 w) R Ql Tq YH w
theorem CR (kn : K0) (R : K1) (hn : N0 Q kn) (hr : HR qQ R Q) (h : qJ kn R (g 0) (g 1) (g 2) w) : iU pg lM lG Q g w :=
 uC 2 (DU _ g w (rB kn) R (fun g w h => iA (Nh 0 (Dw _ g w kn hn h))) hr h)
def BH (a0 a1 a2 : adS) (w : adR) (R : K1) : Prop :=
 qJ (fun  w => R (.tuple #[]) w) R a0 a1 a2 w
theorem Eg {a0 a1 a2 : adS} {w : adR} {R : K1} (h : BH a0 a1 a2 w R) : gS pg lF #[a0, a1, a2] w R := by
 refine xA (ann := lM) Tryd.f63 lG [a0, a1, a2] qQ 37 TrydM.mixed Tryd.func63 ?_
 exact (CR _ _ _ (fun  w => R (.tuple #[]) w) R (fun _ _ h => h) (fun _ _ h => h) h)
def Oh : FA := ⟨L4, fun i => .leaf ([], []) []⟩
def Qd : List ResultVar := [.tmp 2]
noncomputable def Nc : Code := iZ Tryd.f64
def Mh (R : K1) (AE : adS) (w : adR) : Prop :=
 gS pg MC #[] w fun b4 w =>
 gS pg Bf #[b4, AE] w fun b7 w =>
 gS pg DN #[b4] w fun b9 w =>
 R b9 w
theorem QI (R : K1) (hr : HR Qd R Q) (h : Mh R (g 0) w) : iU pg Oh Nc Q g w :=
 lB (kn := no) (l := []) h lZ hr trivial
def Wa (a0 : adS) (w : adR) (R : K1) : Prop :=
 Mh R a0 w
theorem Sc {a0 : adS} {w : adR} {R : K1} (h : Wa a0 w R) : gS pg L4 #[a0] w R := by
 refine xA (ann := Oh) Tryd.f64 Nc [a0] Qd 10 TrydM.mixed Tryd.func64 ?_
 exact (QI _ _ _ R (fun _ _ h => h) h)
def AJ : FA := ⟨nW, fun i => .leaf ([], []) []⟩
def BS : List ResultVar := [.tmp 2]
noncomputable def AB : Code := iZ Tryd.f65
def vH (R : K1) (Ql : adS) (w : adR) : Prop :=
 eY pg (gO .eql 113 (.tmp 3) (.const (.pointer none)) Ql (.pointer none)) w fun b4 w =>
 lN b4
  (R (.slice none 0 0) w)
  (eY pg (jC Ql) w fun b6 w =>
  eY pg (gM 130 b6 0) w fun b7 w =>
  eY pg (fK 22 b7) w fun b8 w =>
  gS pg kS #[b8] w fun b9 w =>
  R b9 w)
theorem Gk (R : K1) (hr : HR BS R Q) (h : vH R (g 0) w) : iU pg AJ AB Q g w :=
 lB (kn := no) (l := []) h lZ hr trivial
def Ew (a0 : adS) (w : adR) (R : K1) : Prop :=
 vH R a0 w
theorem G4 {a0 : adS} {w : adR} {R : K1} (h : Ew a0 w R) : gS pg nW #[a0] w R := by
 refine xA (ann := AJ) Tryd.f65 AB [a0] BS 10 TrydM.mixed Tryd.func65 ?_
 exact (Gk _ _ _ R (fun _ _ h => h) h)
def iE : FA := ⟨vX, fun i => match Nat.beq i 10 with | true => .leaf ([9, 20, 23], [(2, 9), (2, 20), (3, 9), (3, 20), (4, 9), (4, 20), (9, 12), (9, 13), (9, 14), (9, 17), (9, 18), (9, 19), (10, 20), (12, 20), (13, 20), (14, 20), (15, 20)]) [(false, []), (false, []), (false, []), (false, []), (false, []), (false, []), (false, []), (false, []), (false, []), (true, [4, 5, 6]), (false, []), (false, []), (false, [2]), (false, [3]), (false, [4]), (false, []), (false, []), (false, [7]), (false, [8]), (false, [9]), (true, [4, 5, 6, 7, 9, 15, 16, 17]), (false, []), (false, []), (true, [])] | false => match Nat.beq i 15 with | true => .leaf ([], []) [(false, []), (false, []), (false, []), (false, []), (false, []), (false, [])] | false => match Nat.beq i 16 with | true => .leaf ([3], [(0, 3), (1, 3), (3, 6), (3, 7), (3, 8), (3, 10), (3, 11), (3, 12), (3, 13), (3, 14), (3, 17), (3, 18), (3, 21), (3, 22)]) [(false, []), (false, []), (false, []), (true, [1, 2]), (false, []), (false, []), (false, [2]), (false, [3]), (false, [4]), (false, []), (false, [6]), (false, [7]), (false, [8]), (false, [9]), (false, [10]), (false, []), (false, []), (false, [13]), (false, [14]), (false, []), (false, []), (false, [17]), (false, [18]), (false, []), (false, [])] | false => match Nat.beq i 17 with | true => .leaf ([1], [(1, 3), (1, 4), (1, 5), (1, 7), (1, 8), (1, 9), (1, 10), (1, 11), (1, 12), (1, 13), (1, 14), (1, 15), (1, 16)]) [(false, []), (true, []), (false, []), (false, [1]), (false, [2]), (false, [3]), (false, []), (false, [5]), (false, [6]), (false, [7]), (false, [8]), (false, [9]), (false, [10]), (false, [11]), (false, [12]), (false, [13]), (false, [14]), (false, []), (false, [])] | false => match Nat.beq i 18 with | true => .leaf ([2], []) [(false, []), (false, []), (true, [])] | false => match Nat.beq i 25 with | true => .leaf ([8], []) [(false, []), (false, []), (false, []), (false, []), (false, []), (false, []), (false, []), (false, []), (true, [])] | false => .leaf ([], []) []⟩
def Ax : List ResultVar := [.cell 4 119]
noncomputable def iB : Code := iZ Tryd.f66
def tT (R : K1) (b4 uE : adS) (w : adR) : Prop :=
 eY pg (fK 119 uE) w fun s5 w =>
 eY pg (iF 119 b4 s5) w fun _u w =>
 U3 pg 119 b4 w fun r0 => R r0 w
theorem IL (R : K1) (hr : HR Ax R Q) (h : tT R (g 4) (g 9) w) : iU pg iE (fT 1 (fT 1 (fT 1 (fT 1 (fT 1 (fT 2 iB)))))) Q g w :=
 lB (kn := no) (l := []) h lZ hr trivial
def tQ (kn : K4) (k6 : K2) (nS b4 uE q3 : adS) (w : adR) : Prop :=
 eY pg (gO .lss 3 hU hU q3 (adT 8)) w fun q4 w =>
 lN q4
  ((dr w) = (dr w) /\
  eY pg (iH 119 uE q3) (dr w) fun q7 w_ => w_ = (dr w) /\
  eY pg (fK 25 q7) (dr w) fun q8 w_ => w_ = (dr w) /\
  (dr w) = (dr w) /\
  eY pg (iH 119 nS q3) (dr w) fun s0 w_ => w_ = (dr w) /\
  eY pg (fK 25 s0) (dr w) fun s1 w_ => w_ = (dr w) /\
  eY pg (gO .add 25 hU hU q8 s1) (dr w) fun s2 w_ => w_ = (dr w) /\
  eY pg (iH 119 uE q3) (dr w) fun s3 w_ => w_ = (dr w) /\
  eY pg (iF 25 s3 s2) (dr w) fun _u8 YN =>
  eY pg (gO .add 3 hU hU q3 (adT 1)) YN fun s4 w =>
  kn nS b4 uE s4 w)
  (k6 b4 uE w)
theorem I9 (kn : K4) (k6 : K2) (hn : N4 Q kn 2 4 9 123) (h6 : E2 Q k6 6 4 9) (h : tQ kn k6 (g 2) (g 4) (g 9) (g 123) w) : iU pg iE (bI (bI (fT 1 (gW 1 (fT 1 (fT 1 (fT 1 (fT 1 (fT 2 iB))))))))) Q g w :=
 lB (kr := no) (l := [(6, fun g w => k6 (g 4) (g 9) w)]) h hn lZ ⟨h6, trivial⟩
def Ap (k6 : K2) (nS b4 uE q3 : adS) (w : adR) : Prop :=
 kC (fun (X : adS -> K0) (t : adS) (w : adR) => tQ (fun _ _ _ q3 w => X q3 w) k6 nS b4 uE t w) q3 w
theorem Ji (k6 : K2) (h6 : E2 Q k6 6 4 9) (h : Ap k6 (g 2) (g 4) (g 9) (g 123) w) : iU pg iE (bI (fT 1 (gW 1 (fT 1 (fT 1 (fT 1 (fT 1 (fT 2 iB)))))))) Q g w := by
 refine O3 (fun g : Env => g 123) (fun X t w => tQ (fun _ _ _ q3 w => X q3 w) k6 (g 2) (g 4) (g 9) t w) h (fun X g1 w1 ha hL => ?_)
 rw [<- rU 2 ha, <- rU 4 ha, <- rU 9 ha] at hL
 exact (I9 _ g1 w1 (fun _ _ _ q3 w => X q3 w) k6 (fun _ _ h => h) h6 hL)
def zL (kn : K2) (nS b4 uE q3 : adS) (w : adR) : Prop :=
 Ap kn nS b4 uE q3 w
def zP (kn : K4) (nS b4 uE : adS) (w : adR) : Prop :=
 kn nS b4 uE (adT 0) w
theorem Je (kn : K4) (hn : N4 Q kn 2 4 9 123) (h : zP kn (g 2) (g 4) (g 9) w) : iU pg iE (gW 1 (gW 1 (fT 1 (fT 1 (fT 1 (fT 1 (fT 2 iB))))))) Q g w :=
 lB (kr := no) (l := []) h hn lZ trivial
def Ab (kn : K2) (nS b4 uE : adS) (w : adR) : Prop :=
 zP (fun nS b4 uE q3 w => zL kn nS b4 uE q3 w) nS b4 uE w
def Ar (R : K1) (nS b4 uE : adS) (w : adR) : Prop :=
 Ab (fun b4 uE w => tT R b4 uE w) nS b4 uE w
theorem Jl (kn : K2) (hn : N2 Q kn 4 9) (h : Ab kn (g 2) (g 4) (g 9) w) : iU pg iE (gW 1 (fT 1 (fT 1 (fT 1 (fT 1 (fT 2 iB)))))) Q g w :=
 uC 1 (Je _ g w (zL kn) (fun g w h => iA (Nh 6 (Ji _ g w kn hn h))) h)
def uB (kn : K5) (k4 : K3) (nS b4 qB uE j1 : adS) (w : adR) : Prop :=
 eY pg (gO .lss 3 hU hU j1 (adT 64)) w fun j2 w =>
 lN j2
  (eY pg (iH 119 uE (adT 0)) (dr w) fun j4 w_ => w_ = (dr w) /\
  eY pg (fK 25 j4) (dr w) fun j5 w_ => w_ = (dr w) /\
  eY pg (iH 119 uE (adT 4)) (dr w) fun j6 w_ => w_ = (dr w) /\
  eY pg (fK 25 j6) (dr w) fun j7 w_ => w_ = (dr w) /\
  (dr w) = (dr w) /\
  (dr w) = (dr w) /\
  eY pg (iH 119 uE (adT 7)) (dr (dr w)) fun j8 w_ => w_ = (dr (dr w)) /\
  eY pg (fK 25 j8) (dr (dr w)) fun j9 w_ => w_ = (dr (dr w)) /\
  (dr (dr w)) = (dr (dr w)) /\
  gS pg Ak #[j7, (adT 6), (adT 11), (adT 25)] (dr (dr w)) fun l1 jT =>
  (gN pg (fK 25 j8) j9 jT /\ gN pg (iH 119 uE (adT 7)) j8 jT /\ True) /\
  eY pg (gO .add 25 hU hU j9 l1) jT fun l2 w_ => w_ = jT /\
  jT = jT /\
  eY pg (iH 119 uE (adT 5)) jT fun l4 w_ => w_ = jT /\
  (gN pg (iH 119 uE (adT 5)) l4 (dr (dr w)) /\ True) /\
  eY pg (fK 25 l4) jT fun l5 w_ => w_ = jT /\
  (gN pg (fK 25 l4) l5 (dr (dr w)) /\ True) /\
  eY pg (gO .and 25 hU hU j7 l5) jT fun l6 w_ => w_ = jT /\
  (gN pg (gO .and 25 hU hU j7 l5) l6 (dr (dr w)) /\ True) /\
  jT = jT /\
  eY pg (Kr .xor j7) jT fun l8 w_ => w_ = jT /\
  (gN pg (Kr .xor j7) l8 (dr (dr w)) /\ True) /\
  eY pg (iH 119 uE (adT 6)) jT fun l9 w_ => w_ = jT /\
  (gN pg (iH 119 uE (adT 6)) l9 (dr (dr w)) /\ True) /\
  eY pg (fK 25 l9) jT fun m0 w_ => w_ = jT /\
  (gN pg (fK 25 l9) m0 (dr (dr w)) /\ True) /\
  eY pg (gO .and 25 hU hU l8 m0) jT fun m1 w_ => w_ = jT /\
  (gN pg (gO .and 25 hU hU l8 m0) m1 (dr (dr w)) /\ True) /\
  eY pg (gO .xor 25 hU hU l6 m1) jT fun m2 w_ => w_ = jT /\
  (gN pg (gO .xor 25 hU hU l6 m1) m2 (dr (dr w)) /\ True) /\
  eY pg (gO .add 25 hU hU l2 m2) jT fun m3 w_ => w_ = jT /\
  jT = jT /\
  eY pg (iH 134 (.pointer (some ⟨0, 0, none⟩)) j1) jT fun m5 w_ => w_ = jT /\
  (gN pg (iH 134 (.pointer (some ⟨0, 0, none⟩)) j1) m5 (dr (dr w)) /\ True) /\
  eY pg (fK 25 m5) jT fun m6 w_ => w_ = jT /\
  (gN pg (fK 25 m5) m6 (dr (dr w)) /\ True) /\
  eY pg (gO .add 25 hU hU m3 m6) jT fun m7 w_ => w_ = jT /\
  jT = jT /\
  eY pg (iH 134 qB j1) jT fun m9 w_ => w_ = jT /\
  (gN pg (iH 134 qB j1) m9 (dr (dr w)) /\ True) /\
  eY pg (fK 25 m9) jT fun n0 w_ => w_ = jT /\
  (gN pg (fK 25 m9) n0 (dr (dr w)) /\ True) /\
  eY pg (gO .add 25 hU hU m7 n0) jT fun n1 w_ => w_ = jT /\
  jT = jT /\
  (dr jT) = (dr jT) /\
  gS pg Ak #[j5, (adT 2), (adT 13), (adT 22)] (dr jT) fun n3 mD =>
  mD = mD /\
  eY pg (iH 119 uE (adT 1)) mD fun n5 w_ => w_ = mD /\
  (gN pg (iH 119 uE (adT 1)) n5 (dr jT) /\ True) /\
  eY pg (fK 25 n5) mD fun n6 w_ => w_ = mD /\
  (gN pg (fK 25 n5) n6 (dr jT) /\ True) /\
  eY pg (gO .and 25 hU hU j5 n6) mD fun n7 w_ => w_ = mD /\
  (gN pg (gO .and 25 hU hU j5 n6) n7 (dr jT) /\ True) /\
  mD = mD /\
  eY pg (iH 119 uE (adT 2)) mD fun n9 w_ => w_ = mD /\
  (gN pg (iH 119 uE (adT 2)) n9 (dr jT) /\ True) /\
  eY pg (fK 25 n9) mD fun o0 w_ => w_ = mD /\
  (gN pg (fK 25 n9) o0 (dr jT) /\ True) /\
  eY pg (gO .and 25 hU hU j5 o0) mD fun o1 w_ => w_ = mD /\
  (gN pg (gO .and 25 hU hU j5 o0) o1 (dr jT) /\ True) /\
  eY pg (gO .xor 25 hU hU n7 o1) mD fun o2 w_ => w_ = mD /\
  (gN pg (gO .xor 25 hU hU n7 o1) o2 (dr jT) /\ True) /\
  eY pg (iH 119 uE (adT 1)) mD fun o3 w_ => w_ = mD /\
  (gN pg (iH 119 uE (adT 1)) o3 (dr jT) /\ True) /\
  eY pg (fK 25 o3) mD fun o4 w_ => w_ = mD /\
  (gN pg (fK 25 o3) o4 (dr jT) /\ True) /\
  eY pg (iH 119 uE (adT 2)) mD fun o5 w_ => w_ = mD /\
  (gN pg (iH 119 uE (adT 2)) o5 (dr jT) /\ True) /\
  eY pg (fK 25 o5) mD fun o6 w_ => w_ = mD /\
  (gN pg (fK 25 o5) o6 (dr jT) /\ True) /\
  eY pg (gO .and 25 hU hU o4 o6) mD fun o7 w_ => w_ = mD /\
  (gN pg (gO .and 25 hU hU o4 o6) o7 (dr jT) /\ True) /\
  eY pg (gO .xor 25 hU hU o2 o7) mD fun o8 w_ => w_ = mD /\
  (gN pg (gO .xor 25 hU hU o2 o7) o8 (dr jT) /\ True) /\
  eY pg (gO .add 25 hU hU n3 o8) mD fun o9 w_ => w_ = mD /\
  mD = mD /\
  eY pg (lL 119 uE (some (adT 1)) none none) (dr mD) fun p0 w_ => w_ = (dr mD) /\
  eY pg (lL 119 uE none (some (adT 7)) none) (dr mD) fun p1 w_ => w_ = (dr mD) /\
  eY pg (mO .copy #[136, 136] 3 [p0, p1]) (dr mD) fun p2 YJ =>
  eY pg (iH 119 uE (adT 4)) YJ fun p3 w =>
  eY pg (fK 25 p3) w fun p4 w =>
  eY pg (gO .add 25 hU hU p4 n1) w fun p6 w =>
  eY pg (iH 119 uE (adT 4)) w fun p7 w =>
  eY pg (iF 25 p7 p6) w fun _u w =>
  eY pg (gO .add 25 hU hU n1 o9) w fun q0 w =>
  eY pg (iH 119 uE (adT 0)) w fun q1 w =>
  eY pg (iF 25 q1 q0) w fun _u w =>
  eY pg (gO .add 3 hU hU j1 (adT 1)) w fun q2 w =>
  kn nS b4 qB uE q2 w)
  (k4 nS b4 uE w)
theorem IX (kn : K5) (k4 : K3) (hn : N5 Q kn 2 4 5 9 61) (h4 : E3 Q k4 4 2 4 9) (h : uB kn k4 (g 2) (g 4) (g 5) (g 9) (g 61) w) : iU pg iE (bI (bI (fT 1 (gW 1 (fT 1 (fT 1 (fT 1 (fT 2 iB)))))))) Q g w :=
 lB (kr := no) (l := [(4, fun g w => k4 (g 2) (g 4) (g 9) w)]) h hn lZ ⟨h4, trivial⟩
def zU (k4 : K3) (nS b4 qB uE j1 : adS) (w : adR) : Prop :=
 kC (fun (X : adS -> K0) (t : adS) (w : adR) => uB (fun _ _ _ _ j1 w => X j1 w) k4 nS b4 qB uE t w) j1 w
theorem IF (k4 : K3) (h4 : E3 Q k4 4 2 4 9) (h : zU k4 (g 2) (g 4) (g 5) (g 9) (g 61) w) : iU pg iE (bI (fT 1 (gW 1 (fT 1 (fT 1 (fT 1 (fT 2 iB))))))) Q g w := by
 refine O3 (fun g : Env => g 61) (fun X t w => uB (fun _ _ _ _ j1 w => X j1 w) k4 (g 2) (g 4) (g 5) (g 9) t w) h (fun X g1 w1 ha hL => ?_)
 rw [<- rU 2 ha, <- rU 4 ha, <- rU 5 ha, <- rU 9 ha] at hL
 exact (IX _ g1 w1 (fun _ _ _ _ j1 w => X j1 w) k4 (fun _ _ h => h) h4 hL)
def xG (kn : K3) (nS b4 qB uE j1 : adS) (w : adR) : Prop :=
 zU kn nS b4 qB uE j1 w
def yF (kn : K5) (nS b4 qB uE : adS) (w : adR) : Prop :=
 kn nS b4 qB uE (adT 0) w
theorem HP (kn : K5) (hn : N5 Q kn 2 4 5 9 61) (h : yF kn (g 2) (g 4) (g 5) (g 9) w) : iU pg iE (gW 1 (gW 1 (fT 1 (fT 1 (fT 1 (fT 2 iB)))))) Q g w :=
 lB (kr := no) (l := []) h hn lZ trivial
def yO (kn : K3) (nS b4 qB uE : adS) (w : adR) : Prop :=
 yF (fun nS b4 qB uE j1 w => xG kn nS b4 qB uE j1 w) nS b4 qB uE w
def yN (R : K1) (nS b4 qB uE : adS) (w : adR) : Prop :=
 yO (fun nS b4 uE w => Ar R nS b4 uE w) nS b4 qB uE w
theorem Ij (kn : K3) (hn : N3 Q kn 2 4 9) (h : yO kn (g 2) (g 4) (g 5) (g 9) w) : iU pg iE (gW 1 (fT 1 (fT 1 (fT 1 (fT 2 iB))))) Q g w :=
 uC 1 (HP _ g w (xG kn) (fun g w h => iA (Nh 4 (IF _ g w kn hn h))) h)
def yD (kn : K4) (nS b4 qB : adS) (w : adR) : Prop :=
 eY pg (fK 119 nS) w fun j0 w =>
 eY pg (lP 119) w fun uE w =>
 eY pg (iF 119 uE j0) w fun _u w =>
 kn nS b4 qB uE w
theorem H9 (kn : K4) (hn : N4 Q kn 2 4 5 9) (h : yD kn (g 2) (g 4) (g 5) w) : iU pg iE (gW 1 (fT 1 (fT 1 (fT 2 iB)))) Q g w :=
 lB (kr := no) (l := []) h hn lZ trivial
def yK (R : K1) (nS b4 qB : adS) (w : adR) : Prop :=
 yD (fun nS b4 qB uE w => yN R nS b4 qB uE w) nS b4 qB w
def rJ (kn : K4) (k2 : K3) (nS b4 qB b8 : adS) (w : adR) : Prop :=
 eY pg (gO .lss 3 hU hU b8 (adT 64)) w fun e4 w =>
 lN e4
  ((dr w) = (dr w) /\
  (dr w) = (dr w) /\
  eY pg (gO .sub 3 hU hU b8 (adT 16)) (dr w) fun e9 w_ => w_ = (dr w) /\
  eY pg (iH 134 qB e9) (dr w) fun f0 w_ => w_ = (dr w) /\
  eY pg (fK 25 f0) (dr w) fun f1 w_ => w_ = (dr w) /\
  (dr w) = (dr w) /\
  eY pg (gO .sub 3 hU hU b8 (adT 15)) (dr w) fun f3 w_ => w_ = (dr w) /\
  eY pg (iH 134 qB f3) (dr w) fun f4 w_ => w_ = (dr w) /\
  eY pg (fK 25 f4) (dr w) fun f5 w_ => w_ = (dr w) /\
  gS pg Dp #[f5, (adT 7), (adT 18), (adT 3)] (dr w) fun f6 tU =>
  (gN pg (fK 25 f0) f1 tU /\ gN pg (iH 134 qB e9) f0 tU /\ gN pg (gO .sub 3 hU hU b8 (adT 16)) e9 tU /\ True) /\
  eY pg (gO .add 25 hU hU f1 f6) tU fun f7 w_ => w_ = tU /\
  tU = tU /\
  eY pg (gO .sub 3 hU hU b8 (adT 7)) tU fun f9 w_ => w_ = tU /\
  (gN pg (gO .sub 3 hU hU b8 (adT 7)) f9 (dr w) /\ True) /\
  eY pg (iH 134 qB f9) tU fun i0 w_ => w_ = tU /\
  (gN pg (iH 134 qB f9) i0 (dr w) /\ True) /\
  eY pg (fK 25 i0) tU fun i1 w_ => w_ = tU /\
  (gN pg (fK 25 i0) i1 (dr w) /\ True) /\
  eY pg (gO .add 25 hU hU f7 i1) tU fun i2 w_ => w_ = tU /\
  tU = tU /\
  eY pg (gO .sub 3 hU hU b8 (adT 2)) tU fun i4 w_ => w_ = tU /\
  (gN pg (gO .sub 3 hU hU b8 (adT 2)) i4 (dr w) /\ True) /\
  eY pg (iH 134 qB i4) tU fun i5 w_ => w_ = tU /\
  (gN pg (iH 134 qB i4) i5 (dr w) /\ True) /\
  eY pg (fK 25 i5) tU fun i6 w_ => w_ = tU /\
  (gN pg (fK 25 i5) i6 (dr w) /\ True) /\
  gS pg Dp #[i6, (adT 17), (adT 19), (adT 10)] tU fun i7 Bi =>
  (gN pg (gO .add 25 hU hU f7 i1) i2 Bi /\ gN pg (fK 25 i0) i1 Bi /\ gN pg (iH 134 qB f9) i0 Bi /\ gN pg (gO .sub 3 hU hU b8 (adT 7)) f9 Bi /\ gN pg (gO .add 25 hU hU f1 f6) f7 Bi /\ gN pg (fK 25 f0) f1 Bi /\ gN pg (iH 134 qB e9) f0 Bi /\ gN pg (gO .sub 3 hU hU b8 (adT 16)) e9 Bi /\ True) /\
  eY pg (gO .add 25 hU hU i2 i7) Bi fun i8 w_ => w_ = Bi /\
  eY pg (iH 134 qB b8) Bi fun i9 w_ => w_ = Bi /\
  eY pg (iF 25 i9 i8) Bi fun _u23 Yh =>
  eY pg (gO .add 3 hU hU b8 (adT 1)) Yh fun e6 w =>
  kn nS b4 qB e6 w)
  (k2 nS b4 qB w)
theorem Ih (kn : K4) (k2 : K3) (hn : N4 Q kn 2 4 5 8) (h2 : E3 Q k2 2 2 4 5) (h : rJ kn k2 (g 2) (g 4) (g 5) (g 8) w) : iU pg iE (bI (bI (fT 1 (gW 1 (fT 1 (fT 2 iB)))))) Q g w :=
 lB (kr := no) (l := [(2, fun g w => k2 (g 2) (g 4) (g 5) w)]) h hn lZ ⟨h2, trivial⟩
def yM (k2 : K3) (nS b4 qB b8 : adS) (w : adR) : Prop :=
 kC (fun (X : adS -> K0) (t : adS) (w : adR) => rJ (fun _ _ _ b8 w => X b8 w) k2 nS b4 qB t w) b8 w
theorem H4 (k2 : K3) (h2 : E3 Q k2 2 2 4 5) (h : yM k2 (g 2) (g 4) (g 5) (g 8) w) : iU pg iE (bI (fT 1 (gW 1 (fT 1 (fT 2 iB))))) Q g w := by
 refine O3 (fun g : Env => g 8) (fun X t w => rJ (fun _ _ _ b8 w => X b8 w) k2 (g 2) (g 4) (g 5) t w) h (fun X g1 w1 ha hL => ?_)
 rw [<- rU 2 ha, <- rU 4 ha, <- rU 5 ha] at hL
 exact (Ih _ g1 w1 (fun _ _ _ b8 w => X b8 w) k2 (fun _ _ h => h) h2 hL)
def xS (kn : K3) (nS b4 qB b8 : adS) (w : adR) : Prop :=
 yM kn nS b4 qB b8 w
def xH (kn : K4) (nS b4 qB : adS) (w : adR) : Prop :=
 kn nS b4 qB (adT 16) w
theorem H2 (kn : K4) (hn : N4 Q kn 2 4 5 8) (h : xH kn (g 2) (g 4) (g 5) w) : iU pg iE (gW 1 (gW 1 (fT 1 (fT 2 iB)))) Q g w :=
 lB (kr := no) (l := []) h hn lZ trivial
def yL (kn : K3) (nS b4 qB : adS) (w : adR) : Prop :=
 xH (fun nS b4 qB b8 w => xS kn nS b4 qB b8 w) nS b4 qB w
def yB (R : K1) (nS b4 qB : adS) (w : adR) : Prop :=
 yL (fun nS b4 qB w => yK R nS b4 qB w) nS b4 qB w
theorem Ig (kn : K3) (hn : N3 Q kn 2 4 5) (h : yL kn (g 2) (g 4) (g 5) w) : iU pg iE (gW 1 (fT 1 (fT 2 iB))) Q g w :=
 uC 1 (H2 _ g w (xS kn) (fun g w h => iA (Nh 2 (H4 _ g w kn hn h))) h)
def rR (kn : K5) (k0 : K3) (nS b4 qB c6 c7 : adS) (w : adR) : Prop :=
 eY pg (gO .lss 3 hU hU c7 (adT 64)) w fun c8 w =>
 lN c8
  (eY pg (T0 120 c6 c7) w fun d0 w =>
  eY pg (gO .quo 3 hU hU c7 (adT 4)) w fun d2 w =>
  eY pg (gO .quo 3 hU hU c7 (adT 4)) w fun d4 w =>
  eY pg (iH 134 qB d4) w fun d5 w =>
  eY pg (fK 25 d5) w fun d6 w =>
  eY pg (gO .shl 25 hU hU d6 (.int .u64 8)) w fun d7 w =>
  eY pg (lC 5 25 d0) w fun d9 w =>
  eY pg (gO .or 25 hU hU d7 d9) w fun e0 w =>
  eY pg (iH 134 qB d2) w fun e1 w =>
  eY pg (iF 25 e1 e0) w fun _u w =>
  eY pg (gO .add 3 hU hU c7 (adT 1)) w fun e2 w =>
  kn nS b4 qB c6 e2 w)
  (k0 nS b4 qB w)
theorem H3 (kn : K5) (k0 : K3) (hn : N5 Q kn 2 4 5 16 17) (h0 : E3 Q k0 0 2 4 5) (h : rR kn k0 (g 2) (g 4) (g 5) (g 16) (g 17) w) : iU pg iE (bI (bI (fT 1 (gW 1 (fT 2 iB))))) Q g w :=
 lB (kr := no) (l := [(0, fun g w => k0 (g 2) (g 4) (g 5) w)]) h hn lZ ⟨h0, trivial⟩
def xQ (k0 : K3) (nS b4 qB c6 c7 : adS) (w : adR) : Prop :=
 kC (fun (X : adS -> K0) (t : adS) (w : adR) => rR (fun _ _ _ _ c7 w => X c7 w) k0 nS b4 qB c6 t w) c7 w
theorem HZ (k0 : K3) (h0 : E3 Q k0 0 2 4 5) (h : xQ k0 (g 2) (g 4) (g 5) (g 16) (g 17) w) : iU pg iE (bI (fT 1 (gW 1 (fT 2 iB)))) Q g w := by
 refine O3 (fun g : Env => g 17) (fun X t w => rR (fun _ _ _ _ c7 w => X c7 w) k0 (g 2) (g 4) (g 5) (g 16) t w) h (fun X g1 w1 ha hL => ?_)
 rw [<- rU 2 ha, <- rU 4 ha, <- rU 5 ha, <- rU 16 ha] at hL
 exact (H3 _ g1 w1 (fun _ _ _ _ c7 w => X c7 w) k0 (fun _ _ h => h) h0 hL)
def xL (kn : K3) (nS b4 qB c6 c7 : adS) (w : adR) : Prop :=
 xQ kn nS b4 qB c6 c7 w
def xV (kn : K5) (nS SR b4 qB : adS) (w : adR) : Prop :=
 eY pg (fK 120 SR) w fun c6 w =>
 kn nS b4 qB c6 (adT 0) w
theorem HK (kn : K5) (hn : N5 Q kn 2 4 5 16 17) (h : xV kn (g 2) (g 3) (g 4) (g 5) w) : iU pg iE (gW 1 (gW 1 (fT 2 iB))) Q g w :=
 lB (kr := no) (l := []) h hn lZ trivial
def yG (kn : K3) (nS SR b4 qB : adS) (w : adR) : Prop :=
 xV (fun nS b4 qB c6 c7 w => xL kn nS b4 qB c6 c7 w) nS SR b4 qB w
def xT (R : K1) (nS SR b4 qB : adS) (w : adR) : Prop :=
 yG (fun nS b4 qB w => yB R nS b4 qB w) nS SR b4 qB w
theorem Ie (kn : K3) (hn : N3 Q kn 2 4 5) (h : yG kn (g 2) (g 3) (g 4) (g 5) w) : iU pg iE (gW 1 (fT 2 iB)) Q g w :=
 uC 1 (HK _ g w (xL kn) (fun g w h => iA (Nh 0 (HZ _ g w kn hn h))) h)
def xW (kn : K4) (lD AF : adS) (w : adR) : Prop :=
 eY pg (Eh 119 lD) w fun nS w =>
 eY pg (Eh 120 AF) w fun SR w =>
 eY pg (lP 119) w fun b4 w =>
 eY pg (lP 134) w fun qB w =>
 kn nS SR b4 qB w
theorem Il (kn : K4) (hn : N4 Q kn 2 3 4 5) (h : xW kn (g 0) (g 1) w) : iU pg iE (gW 2 iB) Q g w :=
 lB (kr := no) (l := []) h hn lZ trivial
def xU (R : K1) (lD AF : adS) (w : adR) : Prop :=
 xW (fun nS SR b4 qB w => xT R nS SR b4 qB w) lD AF w
theorem Im (R : K1) (hr : HR Ax R Q) (h : xU R (g 0) (g 1) w) : iU pg iE iB Q g w :=
 uC 2 (Il _ g w (xT R) (fun g w h => iA (uC 1 (Ie _ g w (yB R) (fun g w h => iA (uC 1 (Ig _ g w (yK R) (fun g w h => iA (uC 1 (H9 _ g w (yN R) (fun g w h => iA (uC 1 (Ij _ g w (Ar R) (fun g w h => iA (uC 1 (Jl _ g w (tT R) (fun g w h => iA (IL _ g w R hr h)) h))) h))) h))) h))) h))) h)
def Iu (a0 a1 : adS) (w : adR) (R : K1) : Prop :=
 xU R a0 a1 w
theorem JF {a0 a1 : adS} {w : adR} {R : K1} (h : Iu a0 a1 w R) : gS pg vX #[a0, a1] w R := by
 refine xA (ann := iE) Tryd.f66 iB [a0, a1] Ax 136 TrydM.mixed Tryd.func66 ?_
 exact (Im _ _ _ R (fun _ _ h => h) h)
def lK : FA := ⟨mB, fun i => match Nat.beq i 3 with | true => .leaf ([], []) [(false, []), (false, []), (false, []), (false, []), (false, []), (false, []), (false, [])] | false => .leaf ([], []) []⟩
def nL : List ResultVar := []
noncomputable def lH : Code := iZ Tryd.f67
def nO (kn : K4) (k0 : K0) (R : K1) (tR b1 b2 HY : adS) (w : adR) : Prop :=
 eY pg (fK 22 b1) w fun b7 w =>
 eY pg (mO .len #[22] 3 [b7]) w fun b8 w =>
 eY pg (gO .lss 3 hU hU HY b8) w fun b9 w =>
 lN b9
  (eY pg (fK 3 b2) (dr w) fun c3 w_ => w_ = (dr w) /\
  eY pg (fK 22 b1) (dr w) fun c4 w_ => w_ = (dr w) /\
  (dr w) = (dr w) /\
  eY pg (lL 22 c4 (some HY) none none) (dr w) fun c6 w_ => w_ = (dr w) /\
  eY pg (mO .len #[22] 3 [c6]) (dr w) fun c7 w_ => w_ = (dr w) /\
  eY pg (mO .min #[3, 3] 3 [c3, c7]) (dr w) fun c8 w_ => w_ = (dr w) /\
  (dr w) = (dr w) /\
  eY pg (fK 22 b1) (dr w) fun d0 w =>
  eY pg (gO .add 3 hU hU HY c8) w fun d4 w =>
  eY pg (gO .add 3 hU hU HY c8) w fun d7 w =>
  eY pg (lL 22 d0 (some HY) (some d4) (some d7)) w fun d8 w =>
  eY pg (xY tR [d8]) w fun d9 w =>
  eY pg (Kr .not d9) w fun e0 w =>
  lN e0
   (R (.tuple #[]) w)
   (eY pg (fK 3 b2) w fun c1 w =>
   eY pg (gO .add 3 hU hU HY c1) w fun c2 w =>
   kn tR b1 b2 c2 w))
  (k0 w)
theorem CZ (kn : K4) (k0 : K0) (R : K1) (hn : N4 Q kn 0 1 2 4) (h0 : E0 Q k0 0) (hr : HR nL R Q) (h : nO kn k0 R (g 0) (g 1) (g 2) (g 4) w) : iU pg lK (bI (bI (fT 1 lH))) Q g w :=
 lB (l := [(0, fun g w => k0 w)]) h hn hr ⟨h0, trivial⟩
def qV (k0 : K0) (R : K1) (tR b1 b2 HY : adS) (w : adR) : Prop :=
 kC (fun (X : adS -> K0) (t : adS) (w : adR) => nO (fun _ _ _ HY w => X HY w) k0 R tR b1 b2 t w) HY w
theorem Ea (k0 : K0) (R : K1) (h0 : E0 Q k0 0) (hr : HR nL R Q) (h : qV k0 R (g 0) (g 1) (g 2) (g 4) w) : iU pg lK (bI (fT 1 lH)) Q g w := by
 refine O3 (fun g : Env => g 4) (fun X t w => nO (fun _ _ _ HY w => X HY w) k0 R (g 0) (g 1) (g 2) t w) h (fun X g1 w1 ha hL => ?_)
 rw [<- rU 0 ha, <- rU 1 ha, <- rU 2 ha] at hL
 exact (CZ _ g1 w1 (fun _ _ _ HY w => X HY w) k0 R (fun _ _ h => h) h0 hr hL)
def qM (kn : K0) (R : K1) (tR b1 b2 HY : adS) (w : adR) : Prop :=
 qV kn R tR b1 b2 HY w
def qS (kn : K4) (tR b1 b2 : adS) (w : adR) : Prop :=
 kn tR b1 b2 (adT 0) w
theorem DH (kn : K4) (hn : N4 Q kn 0 1 2 4) (h : qS kn (g 0) (g 1) (g 2) w) : iU pg lK (gW 1 lH) Q g w :=
 lB (kr := no) (l := []) h hn lZ trivial
def rE (kn : K0) (R : K1) (tR b1 b2 : adS) (w : adR) : Prop :=
 qS (fun tR b1 b2 HY w => qM kn R tR b1 b2 HY w) tR b1 b2 w
theorem D7 (kn : K0) (R : K1) (hn : N0 Q kn) (hr : HR nL R Q) (h : rE kn R (g 0) (g 1) (g 2) w) : iU pg lK lH Q g w :=
 uC 1 (DH _ g w (qM kn R) (fun g w h => iA (Nh 0 (Ea _ g w kn R hn hr h))) h)
def BQ (a0 a1 a2 : adS) (w : adR) (R : K1) : Prop :=
 rE (fun  w => R (.tuple #[]) w) R a0 a1 a2 w
theorem Ej {a0 a1 a2 : adS} {w : adR} {R : K1} (h : BQ a0 a1 a2 w R) : gS pg mB #[a0, a1, a2] w R := by
 refine xA (ann := lK) Tryd.f67 lH [a0, a1, a2] nL 31 TrydM.mixed Tryd.func67 ?_
 exact (D7 _ _ _ (fun  w => R (.tuple #[]) w) R (fun _ _ h => h) (fun _ _ h => h) h)
def As : FA := ⟨pT, fun i => .leaf ([], []) []⟩
def AP : List ResultVar := [.tmp 6]
noncomputable def zB : Code := iZ Tryd.f68
def tC (R : K1) (NG NH Yv : adS) (w : adR) : Prop :=
 eY pg (jC NG) w fun c0 w =>
 eY pg (gM 126 c0 1) w fun c1 w =>
 eY pg (fK 29 c1) w fun c2 w =>
 eY pg (gO .neq 29 (.tmp 12) (.const (adT 0)) c2 (adT 0)) w fun c3 w =>
 lN c3
  (R (.slice none 0 0) w)
  (eY pg (Kr .not Yv) w fun c6 w =>
  lN c6
   (eY pg (jC NG) w fun c8 w =>
   eY pg (gM 126 c8 1) w fun c9 w =>
   eY pg (iF 29 c9 (adT 1)) w fun _u w =>
   R (.slice none 0 0) w)
   (eY pg (jC NG) w fun d3 w =>
   eY pg (gM 126 d3 0) w fun d4 w =>
   eY pg (fK 22 d4) w fun d5 w =>
   eY pg (mO .len #[22] 3 [d5]) w fun d6 w =>
   eY pg (gO .gtr 3 hU hU NH d6) w fun d7 w =>
   lN d7
    (eY pg (jC NG) w fun d9 w =>
    eY pg (gM 126 d9 1) w fun e0 w =>
    eY pg (iF 29 e0 (adT 10)) w fun _u w =>
    R (.slice none 0 0) w)
    (eY pg (jC NG) w fun e2 w =>
    eY pg (gM 126 e2 0) w fun e3 w =>
    eY pg (fK 22 e3) w fun e4 w =>
    eY pg (lL 22 e4 none (some NH) (some NH)) w fun e7 w =>
    eY pg (jC NG) w fun f0 w =>
    eY pg (gM 126 f0 0) w fun f1 w =>
    eY pg (fK 22 f1) w fun f2 w =>
    eY pg (lL 22 f2 (some NH) none none) w fun f4 w =>
    eY pg (jC NG) w fun f5 w =>
    eY pg (gM 126 f5 0) w fun f6 w =>
    eY pg (iF 22 f6 f4) w fun _u w =>
    R e7 w)))
theorem Fx (R : K1) (hr : HR AP R Q) (h : tC R (g 0) (g 1) (g 2) w) : iU pg As zB Q g w :=
 lB (kn := no) (l := []) h lZ hr trivial
def DY (a0 a1 a2 : adS) (w : adR) (R : K1) : Prop :=
 tC R a0 a1 a2 w
theorem FT {a0 a1 a2 : adS} {w : adR} {R : K1} (h : DY a0 a1 a2 w R) : gS pg pT #[a0, a1, a2] w R := by
 refine xA (ann := As) Tryd.f68 zB [a0, a1, a2] AP 48 TrydM.mixed Tryd.func68 ?_
 exact (Fx _ _ _ R (fun _ _ h => h) h)
def ML : FA := ⟨MC, fun i => .leaf ([], []) []⟩
def O0 : List ResultVar := [.tmp 0]
noncomputable def LW : Code := iZ Tryd.f69
def Kp (R : K1)  (w : adR) : Prop :=
 eY pg (lI 138 [(0, (.int .u32 4294967295))]) w fun b1 w =>
 eY pg (Eh 138 b1) w fun b2 w =>
 R b2 w
theorem Pn (R : K1) (hr : HR O0 R Q) (h : Kp R w) : iU pg ML LW Q g w :=
 lB (kn := no) (l := []) h lZ hr trivial
def TC (w : adR) (R : K1) : Prop :=
 Kp R w
theorem Qr {w : adR} {R : K1} (h : TC w R) : gS pg MC #[] w R := by
 refine xA (ann := ML) Tryd.f69 LW [] O0 3 TrydM.mixed Tryd.func69 ?_
 exact (Pn _ _ _ R (fun _ _ h => h) h)
def oX : FA := ⟨Bf, fun i => match Nat.beq i 5 with | true => .leaf ([16], []) [(false, []), (false, []), (false, []), (false, []), (false, []), (false, []), (false, []), (false, []), (false, []), (false, []), (false, []), (false, []), (false, []), (false, []), (false, []), (false, []), (true, [])] | false => match Nat.beq i 6 with | true => .leaf ([16], []) [(false, []), (false, []), (false, []), (false, []), (false, []), (false, []), (false, []), (false, []), (false, []), (false, []), (false, []), (false, []), (false, []), (false, []), (false, []), (false, []), (true, [])] | false => .leaf ([], []) []⟩
def zY : List ResultVar := []
noncomputable def nZ : Code := iZ Tryd.f70
def tS (kn : K4) (k0 : K0) (pI b8 b9 c0 : adS) (w : adR) : Prop :=
 eY pg (gO .lss 3 hU hU c0 b9) w fun c1 w =>
 lN c1
  (eY pg (iH 22 b8 c0) w fun c2 w =>
  eY pg (fK 5 c2) w fun c3 w =>
  eY pg (jC pI) w fun c5 w =>
  eY pg (gM 138 c5 0) w fun c6 w =>
  eY pg (fK 25 c6) w fun c7 w =>
  eY pg (lC 5 25 c3) w fun c9 w =>
  eY pg (gO .xor 25 hU hU c7 c9) w fun d0 w =>
  eY pg (jC pI) w fun d1 w =>
  eY pg (gM 138 d1 0) w fun d2 w =>
  eY pg (iF 25 d2 d0) w fun _u w =>
  (dr w) = (dr w) /\
  (dr w) = (dr w) /\
  eY pg (jC pI) (dr w) fun d5 w_ => w_ = (dr w) /\
  eY pg (gM 138 d5 0) (dr w) fun d6 w_ => w_ = (dr w) /\
  eY pg (fK 25 d6) (dr w) fun d7 w_ => w_ = (dr w) /\
  eY pg (gO .shr 25 hU hU d7 (.int .u64 4)) (dr w) fun d8 w_ => w_ = (dr w) /\
  (dr w) = (dr w) /\
  eY pg (jC pI) (dr w) fun e0 w_ => w_ = (dr w) /\
  eY pg (gM 138 e0 0) (dr w) fun e1 w_ => w_ = (dr w) /\
  eY pg (fK 25 e1) (dr w) fun e2 w_ => w_ = (dr w) /\
  eY pg (gO .and 25 hU hU e2 (.int .u32 15)) (dr w) fun e3 w_ => w_ = (dr w) /\
  eY pg (iH 139 (.pointer (some ⟨1, 0, none⟩)) e3) (dr w) fun e4 w_ => w_ = (dr w) /\
  eY pg (fK 25 e4) (dr w) fun e5 w_ => w_ = (dr w) /\
  eY pg (gO .xor 25 hU hU d8 e5) (dr w) fun e6 w_ => w_ = (dr w) /\
  eY pg (jC pI) (dr w) fun e7 w_ => w_ = (dr w) /\
  eY pg (gM 138 e7 0) (dr w) fun e8 w_ => w_ = (dr w) /\
  eY pg (iF 25 e8 e6) (dr w) fun _u16 nV =>
  (dr nV) = (dr nV) /\
  (dr nV) = (dr nV) /\
  eY pg (jC pI) (dr nV) fun f1 w_ => w_ = (dr nV) /\
  eY pg (gM 138 f1 0) (dr nV) fun f2 w_ => w_ = (dr nV) /\
  eY pg (fK 25 f2) (dr nV) fun f3 w_ => w_ = (dr nV) /\
  eY pg (gO .shr 25 hU hU f3 (.int .u64 4)) (dr nV) fun f4 w_ => w_ = (dr nV) /\
  (dr nV) = (dr nV) /\
  eY pg (jC pI) (dr nV) fun f6 w_ => w_ = (dr nV) /\
  eY pg (gM 138 f6 0) (dr nV) fun f7 w_ => w_ = (dr nV) /\
  eY pg (fK 25 f7) (dr nV) fun f8 w_ => w_ = (dr nV) /\
  eY pg (gO .and 25 hU hU f8 (.int .u32 15)) (dr nV) fun f9 w_ => w_ = (dr nV) /\
  eY pg (iH 139 (.pointer (some ⟨1, 0, none⟩)) f9) (dr nV) fun i0 w_ => w_ = (dr nV) /\
  eY pg (fK 25 i0) (dr nV) fun i1 w_ => w_ = (dr nV) /\
  eY pg (gO .xor 25 hU hU f4 i1) (dr nV) fun i2 w_ => w_ = (dr nV) /\
  eY pg (jC pI) (dr nV) fun i3 w_ => w_ = (dr nV) /\
  eY pg (gM 138 i3 0) (dr nV) fun i4 w_ => w_ = (dr nV) /\
  eY pg (iF 25 i4 i2) (dr nV) fun _u16 YD =>
  eY pg (gO .add 3 hU hU c0 (adT 1)) YD fun i5 w =>
  kn pI b8 b9 i5 w)
  (k0 w)
theorem Iw (kn : K4) (k0 : K0) (hn : N4 Q kn 0 8 9 10) (h0 : E0 Q k0 0) (h : tS kn k0 (g 0) (g 8) (g 9) (g 10) w) : iU pg oX (bI (bI (fT 2 nZ))) Q g w :=
 lB (kr := no) (l := [(0, fun g w => k0 w)]) h hn lZ ⟨h0, trivial⟩
def zS (k0 : K0) (pI b8 b9 c0 : adS) (w : adR) : Prop :=
 kC (fun (X : adS -> K0) (t : adS) (w : adR) => tS (fun _ _ _ c0 w => X c0 w) k0 pI b8 b9 t w) c0 w
theorem IE (k0 : K0) (h0 : E0 Q k0 0) (h : zS k0 (g 0) (g 8) (g 9) (g 10) w) : iU pg oX (bI (fT 2 nZ)) Q g w := by
 refine O3 (fun g : Env => g 10) (fun X t w => tS (fun _ _ _ c0 w => X c0 w) k0 (g 0) (g 8) (g 9) t w) h (fun X g1 w1 ha hL => ?_)
 rw [<- rU 0 ha, <- rU 8 ha, <- rU 9 ha] at hL
 exact (Iw _ g1 w1 (fun _ _ _ c0 w => X c0 w) k0 (fun _ _ h => h) h0 hL)
def zG (kn : K0) (pI b8 b9 c0 : adS) (w : adR) : Prop :=
 zS kn pI b8 b9 c0 w
def zX (kn : K4) (R : K1) (pI AF : adS) (w : adR) : Prop :=
 eY pg (gO .eql 131 (.tmp 6) (.const (.pointer none)) pI (.pointer none)) w fun b7 w =>
 lN b7
  (R (.tuple #[]) w)
  (eY pg (mO .len #[22] 3 [AF]) w fun b9 w =>
  kn pI AF b9 (adT 0) w)
theorem IJ (kn : K4) (R : K1) (hn : N4 Q kn 0 8 9 10) (hr : HR zY R Q) (h : zX kn R (g 0) (g 1) w) : iU pg oX (gW 2 nZ) Q g w :=
 lB (l := []) h hn hr trivial
def An (kn : K0) (R : K1) (pI AF : adS) (w : adR) : Prop :=
 zX (fun pI b8 b9 c0 w => zG kn pI b8 b9 c0 w) R pI AF w
theorem Jq (kn : K0) (R : K1) (hn : N0 Q kn) (hr : HR zY R Q) (h : An kn R (g 0) (g 1) w) : iU pg oX nZ Q g w :=
 uC 2 (IJ _ g w (zG kn) R (fun g w h => iA (Nh 0 (IE _ g w kn hn h))) hr h)
def IC (a0 a1 : adS) (w : adR) (R : K1) : Prop :=
 An (fun  w => R (.tuple #[]) w) R a0 a1 w
theorem JC {a0 a1 : adS} {w : adR} {R : K1} (h : IC a0 a1 w R) : gS pg Bf #[a0, a1] w R := by
 refine xA (ann := oX) Tryd.f70 nZ [a0, a1] zY 56 TrydM.mixed Tryd.func70 ?_
 exact (Jq _ _ _ (fun  w => R (.tuple #[]) w) R (fun _ _ h => h) (fun _ _ h => h) h)
def GI : FA := ⟨DN, fun i => .leaf ([], []) []⟩
def HD : List ResultVar := [.tmp 2]
noncomputable def EM : Code := iZ Tryd.f71
def B8 (R : K1) (pI : adS) (w : adR) : Prop :=
 eY pg (gO .eql 131 (.tmp 3) (.const (.pointer none)) pI (.pointer none)) w fun b4 w =>
 lN b4
  (R (.int .u32 0) w)
  (eY pg (jC pI) w fun b6 w =>
  eY pg (gM 138 b6 0) w fun b7 w =>
  eY pg (fK 25 b7) w fun b8 w =>
  eY pg (Kr .xor b8) w fun b9 w =>
  R b9 w)
theorem Km (R : K1) (hr : HR HD R Q) (h : B8 R (g 0) w) : iU pg GI EM Q g w :=
 lB (kn := no) (l := []) h lZ hr trivial
def Ld (a0 : adS) (w : adR) (R : K1) : Prop :=
 B8 R a0 w
theorem Ly {a0 : adS} {w : adR} {R : K1} (h : Ld a0 w R) : gS pg DN #[a0] w R := by
 refine xA (ann := GI) Tryd.f71 EM [a0] HD 10 TrydM.mixed Tryd.func71 ?_
 exact (Km _ _ _ R (fun _ _ h => h) h)
def KW : FA := ⟨Dp, fun i => match Nat.beq i 1 with | true => .leaf ([3, 7], [(3, 6), (3, 11), (7, 11)]) [(false, []), (false, []), (false, []), (true, []), (false, []), (false, []), (false, [2]), (true, []), (false, []), (false, []), (false, []), (false, [3, 7]), (false, []), (false, [])] | false => .leaf ([], []) []⟩
def MN : List ResultVar := [.tmp 8]
noncomputable def J0 : Code := iZ Tryd.f72
def Jf (R : K1) (U2 Zi Wb S8 : adS) (w : adR) : Prop :=
 (dr w) = (dr w) /\
 (dr w) = (dr w) /\
 eY pg (Kr .neg Zi) (dr w) fun c1 w_ => w_ = (dr w) /\
 gS pg jN #[U2, c1] (dr w) fun c2 Q2 =>
 Q2 = Q2 /\
 Q2 = Q2 /\
 eY pg (Kr .neg Wb) Q2 fun c5 w_ => w_ = Q2 /\
 (gN pg (Kr .neg Wb) c5 (dr w) /\ True) /\
 gS pg jN #[U2, c5] Q2 fun c6 MH =>
 eY pg (gO .xor 25 hU hU c2 c6) MH fun c7 w_ => w_ = MH /\
 MH = MH /\
 MH = MH /\
 eY pg (gO .shr 25 hU hU U2 S8) MH fun d0 w_ => w_ = MH /\
 (gN pg (gO .shr 25 hU hU U2 S8) d0 Q2 /\ gN pg (gO .shr 25 hU hU U2 S8) d0 (dr w) /\ True) /\
 eY pg (gO .xor 25 hU hU c7 d0) MH fun d1 w_ => w_ = MH /\
 MH = MH /\
 R d1 MH
theorem OL (R : K1) (hr : HR MN R Q) (h : Jf R (g 0) (g 1) (g 2) (g 3) w) : iU pg KW J0 Q g w :=
 lB (kn := no) (l := []) h lZ hr trivial
def R4 (a0 a1 a2 a3 : adS) (w : adR) (R : K1) : Prop :=
 Jf R a0 a1 a2 a3 w
theorem O5 {a0 a1 a2 a3 : adS} {w : adR} {R : K1} (h : R4 a0 a1 a2 a3 w R) : gS pg Dp #[a0, a1, a2, a3] w R := by
 refine xA (ann := KW) Tryd.f72 J0 [a0, a1, a2, a3] MN 22 TrydM.mixed Tryd.func72 ?_
 exact (OL _ _ _ R (fun _ _ h => h) h)
def IS : FA := ⟨Ak, fun i => .leaf ([], []) []⟩
def Ka : List ResultVar := [.tmp 8]
noncomputable def Hx : Code := iZ Tryd.f73
def EX (R : K1) (U2 Zi Wb ZA : adS) (w : adR) : Prop :=
 eY pg (Kr .neg Zi) w fun c1 w =>
 gS pg jN #[U2, c1] w fun c2 w =>
 eY pg (Kr .neg Wb) w fun c5 w =>
 gS pg jN #[U2, c5] w fun c6 w =>
 eY pg (gO .xor 25 hU hU c2 c6) w fun c7 w =>
 eY pg (Kr .neg ZA) w fun d0 w =>
 gS pg jN #[U2, d0] w fun d1 w =>
 eY pg (gO .xor 25 hU hU c7 d1) w fun d2 w =>
 R d2 w
theorem MI (R : K1) (hr : HR Ka R Q) (h : EX R (g 0) (g 1) (g 2) (g 3) w) : iU pg IS Hx Q g w :=
 lB (kn := no) (l := []) h lZ hr trivial
def OE (a0 a1 a2 a3 : adS) (w : adR) (R : K1) : Prop :=
 EX R a0 a1 a2 a3 w
theorem Nn {a0 a1 a2 a3 : adS} {w : adR} {R : K1} (h : OE a0 a1 a2 a3 w R) : gS pg Ak #[a0, a1, a2, a3] w R := by
 refine xA (ann := IS) Tryd.f73 Hx [a0, a1, a2, a3] Ka 23 TrydM.mixed Tryd.func73 ?_
 exact (MI _ _ _ R (fun _ _ h => h) h)
def vK : FA := ⟨jN, fun i => .leaf ([], []) []⟩
def wA : List ResultVar := [.tmp 4]
noncomputable def tZ : Code := iZ Tryd.f74
def pL (R : K1) (U2 ZF : adS) (w : adR) : Prop :=
 eY pg (lC 3 128 ZF) w fun b7 w =>
 eY pg (gO .and 128 hU hU b7 (.int .u64 31)) w fun b8 w =>
 eY pg (gO .shl 25 hU hU U2 b8) w fun c1 w =>
 eY pg (gO .sub 128 hU hU (.int .u64 32) b8) w fun c4 w =>
 eY pg (gO .shr 25 hU hU U2 c4) w fun c5 w =>
 eY pg (gO .or 25 hU hU c1 c5) w fun c6 w =>
 R c6 w
theorem Ch (R : K1) (hr : HR wA R Q) (h : pL R (g 0) (g 1) w) : iU pg vK tZ Q g w :=
 lB (kn := no) (l := []) h lZ hr trivial
def Aa (a0 a1 : adS) (w : adR) (R : K1) : Prop :=
 pL R a0 a1 w
theorem CE {a0 a1 : adS} {w : adR} {R : K1} (h : Aa a0 a1 w R) : gS pg jN #[a0, a1] w R := by
 refine xA (ann := vK) Tryd.f74 tZ [a0, a1] wA 17 TrydM.mixed Tryd.func74 ?_
 exact (Ch _ _ _ R (fun _ _ h => h) h)
end Go.Proofs.YteelnmpbnaohpaaDoor
namespace Go.En
open Go
section
variable {P : Program} {w : adR} {t : TypeId} {ox oy : Operand} {k : IntKind} {a b : Int}
theorem nJ (s : Sem adS) : (V s).run P w = (s.run P w).andThen fun v w => .ok (.value v) w := by
 unfold V; rw [Sem.run_bind] <;> rfl
theorem Y5 (s : Sem Unit) : (U s).run P w = (s.run P w).andThen fun _ w => .ok .skip w := by
 unfold U; rw [Sem.run_bind] <;> rfl
theorem fO : (gO .add t ox oy (.int k a) (.int k b)).run P w = .ok (.value (.int k (k.wrap (a + b)))) w := by
 simp [gO, B4, nJ, binOp, Op.intArith]
theorem gI : (gO .sub t ox oy (.int k a) (.int k b)).run P w = .ok (.value (.int k (k.wrap (a - b)))) w := by
 simp [gO, B4, nJ, binOp, Op.intArith]
theorem fP : (gO .mul t ox oy (.int k a) (.int k b)).run P w = .ok (.value (.int k (k.wrap (a * b)))) w := by
 simp [gO, B4, nJ, binOp, Op.intArith]
theorem gJ (h : b ≠ 0) : (gO .quo t ox oy (.int k a) (.int k b)).run P w = .ok (.value (.int k (k.wrap (a.tdiv b)))) w := by
 simp [gO, B4, nJ, binOp, Op.intDiv, h]
theorem gC (h : b ≠ 0) : (gO .rem t ox oy (.int k a) (.int k b)).run P w = .ok (.value (.int k (a.tmod b))) w := by
 simp [gO, B4, nJ, binOp, Op.intDiv, h]
def UR (k : IntKind) (a b : Int) : Int := k.wrap (BitVec.ofInt k.bits a &&& BitVec.ofInt k.bits b).toNat
def Yp (k : IntKind) (a b : Int) : Int := k.wrap (BitVec.ofInt k.bits a ||| BitVec.ofInt k.bits b).toNat
def OK (k : IntKind) (a b : Int) : Int := k.wrap (BitVec.ofInt k.bits a ^^^ BitVec.ofInt k.bits b).toNat
def Tf (k : IntKind) (a b : Int) : Int := k.wrap (BitVec.ofInt k.bits a &&& ~~~BitVec.ofInt k.bits b).toNat
theorem gE : (gO .and t ox oy (.int k a) (.int k b)).run P w = .ok (.value (.int k (UR k a b))) w := by
 simp [gO, B4, nJ, binOp, Op.intBits, UR]
theorem gR : (gO .or t ox oy (.int k a) (.int k b)).run P w = .ok (.value (.int k (Yp k a b))) w := by
 simp [gO, B4, nJ, binOp, Op.intBits, Yp]
theorem fZ : (gO .xor t ox oy (.int k a) (.int k b)).run P w = .ok (.value (.int k (OK k a b))) w := by
 simp [gO, B4, nJ, binOp, Op.intBits, OK]
theorem eU : (gO .andNot t ox oy (.int k a) (.int k b)).run P w = .ok (.value (.int k (Tf k a b))) w := by
 simp [gO, B4, nJ, binOp, Op.intBits, Tf]
theorem fX {k' : IntKind} (h : 0 <= b) : (gO .shl t ox oy (.int k a) (.int k' b)).run P w = .ok (.value (.int k (k.wrap (a * 2 ^ (min b.toNat k.bits))))) w := by
 simp [gO, B4, nJ, binOp, Op.shift, Int.not_lt.2 h]
theorem fU {k' : IntKind} (h : 0 <= b) : (gO .shr t ox oy (.int k a) (.int k' b)).run P w = .ok (.value (.int k (a.fdiv (2 ^ (min b.toNat k.bits))))) w := by
 simp [gO, B4, nJ, binOp, Op.shift, Int.not_lt.2 h]
theorem gD : (gO .eql t ox oy (.int k a) (.int k b)).run P w = .ok (.value (.bool (a == b))) w := by
 simp [gO, B4, nJ, binOp, Op.intCmp, eqGuard]
theorem fR : (gO .neq t ox oy (.int k a) (.int k b)).run P w = .ok (.value (.bool (a != b))) w := by
 simp [gO, B4, nJ, binOp, Op.intCmp, eqGuard]
theorem fN : (gO .lss t ox oy (.int k a) (.int k b)).run P w = .ok (.value (.bool (decide (a < b)))) w := by
 simp [gO, B4, nJ, binOp, Op.intCmp]
theorem fW : (gO .leq t ox oy (.int k a) (.int k b)).run P w = .ok (.value (.bool (decide (a <= b)))) w := by
 simp [gO, B4, nJ, binOp, Op.intCmp]
theorem fS : (gO .gtr t ox oy (.int k a) (.int k b)).run P w = .ok (.value (.bool (decide (b < a)))) w := by
 simp [gO, B4, nJ, binOp, Op.intCmp]
theorem fV : (gO .geq t ox oy (.int k a) (.int k b)).run P w = .ok (.value (.bool (decide (b <= a)))) w := by
 simp [gO, B4, nJ, binOp, Op.intCmp]
theorem gK : (Kr .neg (.int k a)).run P w = .ok (.value (.int k (k.wrap (0 - a)))) w := by
 simp [Kr, nJ, Op.unary, Op.intArith]
theorem gG : (Kr .xor (.int k a)).run P w = .ok (.value (.int k (OK k (if k.signed then -1 else k.max) a))) w := by
 simp [Kr, nJ, Op.unary, Op.intBits, OK]
theorem fQ (c : Bool) : (Kr .not (.bool c)).run P w = .ok (.value (.bool !c)) w := by
 simp [Kr, nJ, Op.unary]
theorem fC (c : Bool) (x y : adS) : (lO (.bool c) x y).run P w = .ok (.value (if c then x else y)) w := by
 simp [lO, asBool]
theorem Od {x y : adS} {r : Bool} (hg : eqGuard .eql t ox oy x y = pure ()) (hb : binOp .eql t x y = (do pure (.bool (<- Op.equal t x y)))) (he : (Op.equal t x y).run P w = .ok r w) :
 (gO .eql t ox oy x y).run P w = .ok (.value (.bool r)) w := by
 unfold gO
 simp only [B4, nJ, hg, hb, pure_bind]
 rw [Sem.run_bind, he] <;> rfl
theorem Rs {x y : adS} {r : Bool} (hg : eqGuard .neq t ox oy x y = pure ()) (hb : binOp .neq t x y = (do pure (.bool (!(<- Op.equal t x y))))) (he : (Op.equal t x y).run P w = .ok r w) :
 (gO .neq t ox oy x y).run P w = .ok (.value (.bool (!r))) w := by
 unfold gO
 simp only [B4, nJ, hg, hb, pure_bind]
 rw [Sem.run_bind, he] <;> rfl
theorem UW (n : Nat) (c d : Bool) (hu : P.underlying t = some .bool) : (Op.equalIn (n + 1) t (.bool c) (.bool d)).run P w = .ok (c == d) w := by
 simp only [Op.equalIn, underlying]
 simp [hu]
theorem TO (c d : Bool) (hu : P.underlying t = some .bool) : (Op.equal t (.bool c) (.bool d)).run P w = .ok (c == d) w := UW 9999 c d hu
theorem Ye (c d : Bool) (hu : P.underlying t = some .bool) : (gO .eql t ox oy (.bool c) (.bool d)).run P w = .ok (.value (.bool (c == d))) w :=
 Od rfl rfl (TO c d hu)
theorem XH (c d : Bool) (hu : P.underlying t = some .bool) : (gO .neq t ox oy (.bool c) (.bool d)).run P w = .ok (.value (.bool (!(c == d)))) w :=
 Rs rfl rfl (TO c d hu)
theorem fI {n : Int} (h0 : -9223372036854775808 <= n) (h1 : n <= 9223372036854775807) : IntKind.i64.wrap n = n := by
 unfold IntKind.wrap; simp [IntKind.bits, IntKind.signed]; split <;> omega
theorem fJ {n : Int} (h0 : 0 <= n) (h1 : n <= 18446744073709551615) : IntKind.u64.wrap n = n := by
 unfold IntKind.wrap; simp [IntKind.bits, IntKind.signed]; omega
theorem gB {n : Int} (h0 : -2147483648 <= n) (h1 : n <= 2147483647) : IntKind.i32.wrap n = n := by
 unfold IntKind.wrap; simp [IntKind.bits, IntKind.signed]; split <;> omega
theorem fM {n : Int} (h0 : 0 <= n) (h1 : n <= 4294967295) : IntKind.u32.wrap n = n := by
 unfold IntKind.wrap; simp [IntKind.bits, IntKind.signed]; omega
theorem gH {n : Int} (h0 : 0 <= n) (h1 : n <= 65535) : IntKind.u16.wrap n = n := by
 unfold IntKind.wrap; simp [IntKind.bits, IntKind.signed]; omega
theorem gQ {n : Int} (h0 : 0 <= n) (h1 : n <= 255) : IntKind.u8.wrap n = n := by
 unfold IntKind.wrap; simp [IntKind.bits, IntKind.signed]; omega
theorem V5 (x y : ByteArray) (h : ((x.size + y.size : Nat) : Int) <= 9223372036854775807) : (gO .add t ox oy (.string x) (.string y)).run P w = .ok (.value (.string (x ++ y))) w := by
 have : ¬ (((x.size + y.size : Nat) : Int) > IntKind.i64.max) := by
  have e : IntKind.i64.max = 9223372036854775807 := by decide
  rw [e]; omega
 simp only [gO, B4, nJ, binOp, Op.stringOp, this, if_false]
 rfl
theorem Yf (x y : ByteArray) : (gO .eql t ox oy (.string x) (.string y)).run P w = .ok (.value (.bool (x.toList == y.toList))) w := by
 simp [gO, B4, nJ, binOp, Op.stringOp, eqGuard]
theorem Wm (n : Nat) {e : TypeId} (hu : P.underlying t = some (.pointer e)) (x : Option Addr) : (Op.equalIn (n + 1) t (.pointer x) (.pointer none)).run P w = .ok x.isNone w := by
 simp only [Op.equalIn, underlying]
 cases x <;> simp [hu]
theorem VZ {e : TypeId} (hu : P.underlying t = some (.pointer e)) (x : Option Addr) : (Op.equal t (.pointer x) (.pointer none)).run P w = .ok x.isNone w := Wm 9999 hu x
theorem Xo (m : Nat) {e : TypeId} (hu : P.underlying t = some (.slice e)) (x : Option Addr) (n c : Nat) : (Op.equalIn (m + 1) t (.slice x n c) (.slice none 0 0)).run P w = .ok x.isNone w := by
 simp only [Op.equalIn, underlying]
 cases x <;> simp [hu]
theorem Yy {e : TypeId} (hu : P.underlying t = some (.slice e)) (x : Option Addr) (n c : Nat) : (Op.equal t (.slice x n c) (.slice none 0 0)).run P w = .ok x.isNone w := Xo 9999 hu x n c
theorem MD {e : TypeId} (hu : P.underlying t = some (.pointer e)) (x : Option Addr) : (gO .eql t ox oy (.pointer x) (.pointer none)).run P w = .ok (.value (.bool x.isNone)) w :=
 Od rfl rfl (VZ hu x)
theorem VJ {e : TypeId} (hu : P.underlying t = some (.pointer e)) (x : Option Addr) : (gO .neq t ox oy (.pointer x) (.pointer none)).run P w = .ok (.value (.bool (!x.isNone))) w :=
 Rs rfl rfl (VZ hu x)
theorem QB {e : TypeId} (hu : P.underlying t = some (.slice e)) (x : Option Addr) (n c : Nat) : (gO .eql t ox oy (.slice x n c) (.slice none 0 0)).run P w = .ok (.value (.bool x.isNone)) w :=
 Od rfl rfl (Yy hu x n c)
theorem Cf {s : TypeId} {d : TypeDesc} {kd : IntKind} (hs : P.underlying s = some d) (hu : P.underlying t = some (.int kd)) : (lC s t (.int k a)).run P w = .ok (.value (.int kd (kd.wrap a))) w := by
 cases d <;> simp [lC, nJ, convert, underlying, hs, hu, Conv.intToInt]
theorem Mb {ty : TypeId} {e : TypeId} (hu : P.underlying t = some (.slice e)) (x : Option Addr) (n c : Nat) : (mO .len #[t] ty [.slice x n c]).run P w = .ok (.value (.int .i64 n)) w := by
 simp [mO, builtin, Builtin.len_, underlying, hu, goInt]
theorem XP {ty : TypeId} (hu : P.underlying t = some .string) (x : ByteArray) : (mO .len #[t] ty [.string x]).run P w = .ok (.value (.int .i64 x.size)) w := by
 simp [mO, builtin, Builtin.len_, underlying, hu, goInt]
theorem fY {ats : Array TypeId} {ty : TypeId} : (mO .min ats ty [.int k a, .int k b]).run P w = .ok (.value (.int k (if b < a then b else a))) w := by
 simp [mO, builtin, Builtin.min_, Builtin.min2]
theorem gA {ats : Array TypeId} {ty : TypeId} : (mO .max ats ty [.int k a, .int k b]).run P w = .ok (.value (.int k (if b > a then b else a))) w := by
 simp [mO, builtin, Builtin.max_, Builtin.max2]
theorem iP (a b : adS) : (iW (.tuple #[a, b]) 0).run P w = .ok (.value a) w := Eq.trans rfl rfl
theorem iS (a b : adS) : (iW (.tuple #[a, b]) 1).run P w = .ok (.value b) w := Eq.trans rfl rfl
theorem iL (a b c : adS) : (iW (.tuple #[a, b, c]) 0).run P w = .ok (.value a) w := Eq.trans rfl rfl
theorem iT (a b c : adS) : (iW (.tuple #[a, b, c]) 1).run P w = .ok (.value b) w := Eq.trans rfl rfl
theorem iR (a b c : adS) : (iW (.tuple #[a, b, c]) 2).run P w = .ok (.value c) w := Eq.trans rfl rfl
theorem iM (a b c d : adS) : (iW (.tuple #[a, b, c, d]) 0).run P w = .ok (.value a) w := Eq.trans rfl rfl
theorem iN (a b c d : adS) : (iW (.tuple #[a, b, c, d]) 1).run P w = .ok (.value b) w := Eq.trans rfl rfl
theorem iQ (a b c d : adS) : (iW (.tuple #[a, b, c, d]) 2).run P w = .ok (.value c) w := Eq.trans rfl rfl
theorem iO (a b c d : adS) : (iW (.tuple #[a, b, c, d]) 3).run P w = .ok (.value d) w := Eq.trans rfl rfl
theorem fL (x : Addr) : (jC (.pointer (some x))).run P w = .ok (.value (.pointer (some x))) w := Eq.trans rfl rfl
theorem kO {fs : Array Field} {f : Field} {i : Nat} {inf : TypeInfo} (hu : P.underlying t = some (.struct fs)) (hf : fs[i]? = some f)
 (hi : P.info? f.type = some inf) (hz : inf.size ≠ 0) (x : Addr) : (gM t (.pointer (some x)) i).run P w = .ok (.value (.pointer (some (x.add f.offset)))) w := by
 simp [gM, nJ, Instr.fieldAt, underlying, hu, hf, Instr.sureAddr, fieldPlace, sizeOf, typeInfo, hi, hz]
theorem RX {e : TypeId} {inf : TypeInfo} (hu : P.underlying t = some (.slice e)) (hi : P.info? e = some inf) (x : Addr) (n c : Nat) (h0 : 0 <= a) (h1 : a < n) :
 (iH t (.slice (some x) n c) (.int k a)).run P w = .ok (.value (.pointer (some (x.add (a.toNat * inf.size))))) w := by
 simp [iH, nJ, Instr.indexAt, asIntOf, underlying, hu, h0, h1, sizeOf, typeInfo, hi]
theorem Wc {e : TypeId} {len : Nat} {inf : TypeInfo} (hu : P.underlying t = some (.array len e)) (hi : P.info? e = some inf) (x : Addr) (h0 : 0 <= a) (h1 : a < len) :
 (iH t (.pointer (some x)) (.int k a)).run P w = .ok (.value (.pointer (some (x.add (a.toNat * inf.size))))) w := by
 simp [iH, nJ, Instr.indexAt, asIntOf, underlying, hu, h0, h1, sizeOf, typeInfo, hi, Instr.sureAddr]
end
def jH (w : adR) (b : Nat) (cs : List adS) : Prop :=
 ∃ T lo hi, w.heap[b]? = some (.cells cs.toArray T (lo, hi)) /\ (cs.length <= lo ∨ hi = lo)
structure gT (w w' : adR) (M : Nat -> Prop) : Prop where
 os : w'.os = w.os
 tape : w'.tape = w.tape
 output : w'.output = w.output
 size : w.heap.size <= w'.heap.size
 keep : ∀ b, b < w.heap.size -> ¬ M b -> w'.heap[b]? = w.heap[b]?
def jL : Nat -> Prop := fun _ => False
theorem gT.refl (w : adR) (M : Nat -> Prop) : gT w w M := ⟨rfl, rfl, rfl, Z2 _, fun _ _ _ => rfl⟩
theorem gT.mono {w w' : adR} {M N : Nat -> Prop} (h : gT w w' M) (hm : ∀ b, b < w.heap.size -> M b -> N b) : gT w w' N :=
 ⟨h.os, h.tape, h.output, h.size, fun b hb hn => h.keep b hb fun hM => hn (hm b hb hM)⟩
theorem gT.trans {a b c : adR} {M N : Nat -> Prop} (h : gT a b M) (k : gT b c N) (hn : ∀ x, x < a.heap.size -> N x -> M x) : gT a c M :=
 ⟨k.os.trans h.os, k.tape.trans h.tape, k.output.trans h.output, acM h.size k.size,
   fun x hx hM => (k.keep x (abY hx h.size) fun h => hM (hn x hx h)).trans (h.keep x hx hM)⟩
theorem gT.seq {a b c : adR} {M : Nat -> Prop} (h : gT a b M) (k : gT b c M) : gT a c M := h.trans k fun _ _ h => h
theorem gT.new {a b c : adR} {M : Nat -> Prop} {x : Nat} (h : gT a b M) (k : gT b c (fun y => y = x)) (hx : a.heap.size <= x) : gT a c M :=
 h.trans k fun y hy e => absurd hy (by subst e; omega)
theorem gT.more {a b c : adR} {M : Nat -> Prop} (h : gT a b M) (k : gT b c (fun _ => False)) : gT a c M := h.trans k fun _ _ h => h.elim
theorem gT.below {w w' : adR} (h : gT w w' jL) : Go.RowKit.Below w.heap.size w w' :=
 ⟨h.os, h.tape, h.output, h.size, fun k hk => h.keep k hk fun h => h⟩
theorem gT.dr (w : adR) (M : Nat -> Prop) : gT w (dr w) M := ⟨rfl, rfl, rfl, Z2 _, fun _ _ _ => rfl⟩
theorem gT.alloc (w : adR) (o : Obj) (M : Nat -> Prop) : gT w (w.alloc o) M :=
 ⟨rfl, rfl, rfl, by simp, fun b hb _ => by show (w.heap.push o)[b]? = _; rw [Array.getElem?_push, if_neg (by omega)]⟩
theorem Nx (w : adR) (a : Addr) (v : adS) (b : Nat) (h : b ≠ a.block) : (w.setCell a v).heap[b]? = w.heap[b]? := Go.RowKit.Below.heap_setCell w a v b h
theorem gT.setCell (w : adR) (a : Addr) (v : adS) {M : Nat -> Prop} (h : a.block < w.heap.size -> M a.block) : gT w (w.setCell a v) M :=
 ⟨rfl, rfl, rfl, by simp, fun b hb hM => Nx w a v b fun e => hM (e ▸ h (e ▸ hb))⟩
theorem jH.lt {w : adR} {b : Nat} {cs : List adS} (h : jH w b cs) : b < w.heap.size := by
 obtain ⟨T, lo, hi, h, _⟩ := h
 rcases aaW b w.heap.size with h' | h'
 .exact h'
 .rw [aaI h'] at h; cases h
theorem jH.ext {w w' : adR} {b : Nat} {cs : List adS} {M : Nat -> Prop} (h : jH w b cs) (hx : gT w w' M) (hM : ¬ M b) : jH w' b cs := by
 have := h.lt
 obtain ⟨T, lo, hi, h, k⟩ := h
 exact ⟨T, lo, hi, by rw [hx.keep b this hM]; exact h, k⟩
theorem jH.cell {w : adR} {b off : Nat} {cs : List adS} (h : jH w b cs) : w.cell? ⟨b, off, none⟩ = cs[off]? := by
 obtain ⟨T, lo, hi, h, _⟩ := h
 simp [World.cell?, h]
theorem jH.free {w : adR} {b off : Nat} {cs : List adS} {s : Option Nat} (h : jH w b cs) (ho : off < cs.length) : w.frozen? ⟨b, off, s⟩ = false := by
 obtain ⟨T, lo, hi, h, k⟩ := h
 simp only [World.frozen?, h]
 rcases k with k | k <;> (simp; omega)
theorem jH.setCell {w : adR} {b off : Nat} {cs : List adS} (h : jH w b cs) (v : adS) : jH (w.setCell ⟨b, off, none⟩ v) b (cs.set off v) := by
 have hb := h.lt
 obtain ⟨T, lo, hi, h, k⟩ := h
 refine ⟨T, lo, hi, ?_, by simpa using k⟩
 simp only [World.setCell, abT, h]
 simp
theorem jH.alloc (w : adR) (cs : List adS) (T : TypeId) : jH (w.alloc (.cells cs.toArray T)) w.heap.size cs :=
 ⟨T, 0, 0, by show (w.heap.push _)[w.heap.size]? = _; simp, .inr rfl⟩
theorem Wj {w w' : adR} {M : Nat -> Prop} {a : Addr} {v : adS} (h : w.cell? a = some v) (hx : gT w w' M) (hM : ¬ M a.block) : w'.cell? a = some v := by
 have hb := World.block_lt_of_cell? w a h
 have e := hx.keep _ hb hM
 unfold World.cell? at h ⊢
 rw [e]; exact h
section
variable {P : Program} {w : adR} {t : TypeId}
def Qs (d : TypeDesc) : Bool := match d with | .struct _ | .array _ _ => true | _ => false
theorem CO {d : TypeDesc} (hu : P.underlying t = some d) : (isAgg t).run P w = .ok (Qs d) w := by
 cases d <;> simp [isAgg, underlying, hu, Qs]
theorem kB {i : TypeInfo} (hi : P.info? t = some i) : (sizeOf t).run P w = .ok i.size w := by simp [sizeOf, typeInfo, hi]
theorem LF {b off : Nat} {cs : List adS} (ho : jH w b cs) : ∀ (n i : Nat) (acc : Array adS), off + i + n <= cs.length →
 (loadCellsFrom ⟨b, off, none⟩ i n acc).run P w = .ok (acc ++ ((cs.drop (off + i)).take n).toArray) w := by
 intro n
 induction n with
 | zero => intro i acc _; simp [loadCellsFrom]
 | succ n ih =>
   intro i acc h
   have hc : w.cell? ((⟨b, off, none⟩ : Addr).add i) = some cs[off + i] := by
    unfold Addr.add
    split
    .rename_i hi; subst hi; rw [ho.cell]; simp
    .show w.cell? ⟨b, off + i, none⟩ = _; rw [ho.cell]; simp
   simp only [loadCellsFrom, Sem.run_bind, run_load, hc, Result.andThen_ok]
   rw [ih (i + 1) _ (by omega)]
   congr 1
   rw [acV (by omega : off + i < cs.length)]
   simp [acD]
theorem J4 {b off n : Nat} {cs : List adS} (ho : jH w b cs) (h : off + n <= cs.length) :
 (loadCells ⟨b, off, none⟩ n).run P w = .ok ((cs.drop off).take n).toArray w := by
 unfold loadCells
 rw [LF ho n 0 #[] (by omega)]
 simp
theorem G5 {d : TypeDesc} {i : TypeInfo} (hu : P.underlying t = some d) (hd : Qs d = true) (hi : P.info? t = some i) {b off : Nat} {cs : List adS} (ho : jH w b cs) (h : off + i.size <= cs.length) :
 (fK t (.pointer (some ⟨b, off, none⟩))).run P w = .ok (.value (.agg ((cs.drop off).take i.size).toArray)) w := by
 unfold fK
 rw [nJ]
 simp only [Instr.loadAt, Instr.sureAddr, loadVar, pure_bind, Sem.run_bind, CO hu, hd, Result.andThen_ok, if_true, kB hi, J4 ho h, Sem.run_pure]
def one (v : adS) : Bool := match v with | .agg _ | .tuple _ => false | _ => true
theorem Ta {a : Addr} {v x : adS} (hv : one v = true) (hc : w.cell? a = some x) (hf : w.frozen? a = false) : (store a v).run P w = .ok () (w.setCell a v) := by
 unfold store
 cases v <;> simp [one] at hv <;> simp [Sem.run, hc, hf]
def nE (cs : List adS) (off : Nat) : List adS -> List adS
 | [] => cs
 | v :: vs => nE (cs.set off v) (off + 1) vs
theorem DV {b : Nat} {M : Nat -> Prop} (hM : M b) : ∀ (vs : List adS) (w : adR) (off i : Nat) (cs : List adS), jH w b cs -> off + i + vs.length <= cs.length -> (∀ v ∈ vs, one v = true) →
 ∃ w', (storeCells ⟨b, off, none⟩ vs i).run P w = .ok () w' /\ jH w' b (nE cs (off + i) vs) /\ gT w w' M /\ w'.heap.size = w.heap.size /\ w'.drawn = w.drawn := by
 intro vs
 induction vs with
 | nil => intro w off i cs ho _ _; exact ⟨w, by simp [storeCells], ho, gT.refl _ _, rfl, rfl⟩
 | cons v vs ih =>
   intro w off i cs ho h hv
   simp only [aaG] at h
   have ha : (⟨b, off, none⟩ : Addr).add i = ⟨b, off + i, none⟩ := by
    unfold Addr.add; split
    .rename_i hi; subst hi; rfl
    .rfl
   have hlt : off + i < cs.length := by omega
   have hc : w.cell? ⟨b, off + i, none⟩ = some cs[off + i] := by rw [ho.cell]; simp
   have hs := Ta (P := P) (hv v (by simp)) hc (ho.free hlt)
   obtain ⟨w', h1, h2, h3, h4, h5⟩ := ih (w.setCell ⟨b, off + i, none⟩ v) off (i + 1) (cs.set (off + i) v) (ho.setCell v) (by simp; omega) (fun x hx => hv x (Z1 _ hx))
   refine ⟨w', ?_, h2, (gT.setCell w _ v fun _ => hM).trans h3 (fun _ _ h => h), by rw [h4]; simp, by rw [h5] <;> rfl⟩
   simp only [storeCells, Sem.run_bind, ha, hs, Result.andThen_ok]
   exact h1
theorem CM {i : TypeInfo} (hi : P.info? t = some i) {b off : Nat} {cs : List adS} (ho : jH w b cs) {v : adS} (hs : v.cells.size = i.size)
 (hv : ∀ x ∈ v.cells.toList, one x = true) (h : off + i.size <= cs.length) {K : adS -> adR -> Prop}
 (hk : ∀ w', jH w' b (nE cs off v.cells.toList) -> gT w w' (fun x => x = b) -> w'.heap.size = w.heap.size -> K undef w') : eY P (iF t (.pointer (some ⟨b, off, none⟩)) v) w K := by
 obtain ⟨w', h1, h2, h3, h4, _⟩ := DV (P := P) (M := fun x => x = b) rfl v.cells.toList w off 0 cs ho (by simp [hs]; omega) hv
 have : (iF t (.pointer (some ⟨b, off, none⟩)) v).run P w = .ok .skip w' := by
  unfold iF
  rw [Y5]
  simp only [Instr.storeAt, Instr.sureAddr, storeVar, pure_bind, Sem.run_bind, kB hi, Result.andThen_ok, hs]
  simp [h1]
 unfold eY
 rw [this]
 exact hk w' h2 h3 h4
theorem PX {v : adS} (hv : one v = true) : v.cells = #[v] := by cases v <;> simp [one] at hv <;> rfl
theorem nT {i : TypeInfo} (hi : P.info? t = some i) (h1 : i.size = 1) {b off : Nat} {cs : List adS} (ho : jH w b cs) {v : adS} (hv : one v = true) (h : off < cs.length) {K : adS -> adR -> Prop}
 (hk : ∀ w', jH w' b (cs.set off v) -> gT w w' (fun x => x = b) -> w'.heap.size = w.heap.size -> K undef w') : eY P (iF t (.pointer (some ⟨b, off, none⟩)) v) w K := by
 have e := PX hv
 refine CM hi ho (by rw [e, h1] <;> rfl) (by rw [e]; simpa using hv) (by omega) fun w' a b c => hk w' ?_ b c
 rw [e] at a; exact a
def NM (c : Option adS) (w : adR) (Pk : Result Next) : Result Next := match c with | some v => .ok (.value v) w | none => Pk
def Pk (P : Program) (t : TypeId) (x : Addr) (w : adR) : Result Next := (fK t (.pointer (some x))).run P w
theorem eP (v : adS) (w : adR) (f : Result Next) : NM (some v) w f = .ok (.value v) w := rfl
theorem JU {d : TypeDesc} (hu : P.underlying t = some d) (hd : Qs d = false) (x : Addr) (w : adR) :
 (fK t (.pointer (some x))).run P w = NM (w.cell? x) w (Pk P t x w) := by
 cases h : w.cell? x with
 | none => rfl
 | some v =>
   unfold fK
   rw [nJ]
   simp only [Instr.loadAt, Instr.sureAddr, loadVar, pure_bind, Sem.run_bind, CO hu, hd, Result.andThen_ok, ZM, if_false, run_load, h, NM]
theorem QH {d : TypeDesc} {i : TypeInfo} (hu : P.underlying t = some d) (hd : Qs d = true) (hi : P.info? t = some i) {b off : Nat} {cs : List adS} (ho : jH w b cs) (h : off + i.size <= cs.length) {K : adS -> Prop}
 (hk : K (.agg ((cs.drop off).take i.size).toArray)) : U3 P t (.pointer (some ⟨b, off, none⟩)) w K := by
 refine ⟨_, ?_, hk⟩
 simp only [asAddr, loadVar, pure_bind, Sem.run_bind, CO hu, hd, Result.andThen_ok, if_true, kB hi, J4 ho h, Sem.run_pure]
theorem oC {v : adS} {K : adS -> adR -> Prop} (hk : ∀ w', jH w' w.heap.size v.cells.toList -> gT w w' jL -> w'.heap.size = w.heap.size + 1 -> K (.pointer (some ⟨w.heap.size, 0, none⟩)) w') :
 eY P (Eh t v) w K := by
 have : (Eh t v).run P w = .ok (.value (.pointer (some ⟨w.heap.size, 0, none⟩))) (w.alloc (.cells v.cells.toList.toArray t)) := by
  unfold Eh; rw [nJ]
  simp [Instr.box, newVar, newRow]
 unfold eY
 rw [this]
 exact hk _ (jH.alloc _ _ _) (gT.alloc _ _ _) (by simp)
theorem vT {i : TypeInfo} {z : adS} (hi : P.info? t = some i) (hz : i.zero = some z) {K : adS -> adR -> Prop}
 (hk : ∀ w', jH w' w.heap.size z.cells.toList -> gT w w' jL -> w'.heap.size = w.heap.size + 1 -> K (.pointer (some ⟨w.heap.size, 0, none⟩)) w') :
 eY P (lP t) w K := by
 have : (lP t).run P w = .ok (.value (.pointer (some ⟨w.heap.size, 0, none⟩))) (w.alloc (.cells z.cells.toList.toArray t)) := by
  unfold lP; rw [nJ]
  simp [Instr.alloc, zeroValue, typeInfo, hi, hz, newVar, newRow]
 unfold eY
 rw [this]
 exact hk _ (jH.alloc _ _ _) (gT.alloc _ _ _) (by simp)
end
theorem sB {P : Program} {w : adR} {k : IntKind} {a : Int} {y : Nat} {code : BoundsCode} (h0 : 0 <= a) (h1 : a <= y) : (Instr.sliceBound (.int k a) y code).run P w = .ok a.toNat w := by
 simp [Instr.sliceBound, asIntOf, h0, h1]
section
variable {P : Program} {w : adR} {t e : TypeId} {k k' : IntKind} {lo hi : Int} {i : TypeInfo}
def jR (x : Option Addr) (m l sz : Nat) : Option Addr := if m = l then x else x.map (·.add (l * sz))
theorem Sq (hu : P.underlying t = some (.slice e)) (hi' : P.info? e = some i) (x : Option Addr) (n c : Nat) (h0 : 0 <= lo) (h1 : lo <= n) :
 (lL t (.slice x n c) (some (.int k lo)) none none).run P w = .ok (.value (.slice (jR x c lo.toNat i.size) (n - lo.toNat) (c - lo.toNat))) w := by
 simp only [lL, nJ, Instr.sliceAt, underlying, hu, Sem.run_bind, run_program, Result.andThen_ok, Sem.run_pure, Instr.slice, Instr.sliceBounds, pure_bind, sB h0 h1, kB hi', jR]
theorem Qf (hu : P.underlying t = some (.slice e)) (hi' : P.info? e = some i) (x : Option Addr) (n c : Nat) (h0 : 0 <= lo) (h1 : lo <= hi) (h2 : hi <= c) :
 (lL t (.slice x n c) (some (.int k lo)) (some (.int k' hi)) none).run P w = .ok (.value (.slice (jR x c lo.toNat i.size) (hi.toNat - lo.toNat) (c - lo.toNat))) w := by
 have h3 : (0 : Int) <= hi := by omega
 have h4 : lo <= (hi.toNat : Int) := by omega
 simp only [lL, nJ, Instr.sliceAt, underlying, hu, Sem.run_bind, run_program, Result.andThen_ok, Sem.run_pure, Instr.slice, Instr.sliceBounds, pure_bind, sB h3 h2, sB h0 h4, kB hi', jR]
def Ce (a : Addr) (m l sz : Nat) : Addr := if m = l then a else a.add (l * sz)
theorem MM {n : Nat} (hu : P.underlying t = some (.array n e)) (hi' : P.info? e = some i) (x : Addr) (h0 : 0 <= lo) (h1 : lo <= n) :
 (lL t (.pointer (some x)) (some (.int k lo)) none none).run P w = .ok (.value (.slice (some (Ce x n lo.toNat i.size)) (n - lo.toNat) (n - lo.toNat))) w := by
 simp only [lL, nJ, Instr.sliceAt, Instr.sureAddr, underlying, hu, Sem.run_bind, run_program, Result.andThen_ok, Sem.run_pure, Instr.sliceBounds, pure_bind, sB h0 h1, kB hi', Ce]
theorem Rf {n : Nat} (hu : P.underlying t = some (.array n e)) (hi' : P.info? e = some i) (x : Addr) (h0 : 0 <= hi) (h1 : hi <= n) :
 (lL t (.pointer (some x)) none (some (.int k hi)) none).run P w = .ok (.value (.slice (some (Ce x n 0 i.size)) (hi.toNat - 0) (n - 0))) w := by
 simp only [lL, nJ, Instr.sliceAt, Instr.sureAddr, underlying, hu, Sem.run_bind, run_program, Result.andThen_ok, Sem.run_pure, Instr.sliceBounds, pure_bind, sB h0 h1, kB hi', Ce]
end
def Sl (w : adR) (v : adS) (l : List adS) : Prop :=
 ∃ a n c, v = .slice a n c /\ n = l.length /\ n <= c /\ (0 < n -> ∃ b off, a = some ⟨b, off, none⟩ /\ ∀ i, i < n -> w.cell? ⟨b, off + i, none⟩ = l[i]?)
def wC (v : adS) (M : Nat -> Prop) : Prop := match v with | .slice (some a) (_ + 1) _ => M a.block | _ => False
theorem Sl.ext {w w' : adR} {v : adS} {l : List adS} {M : Nat -> Prop} (h : Sl w v l) (hx : gT w w' M) (hM : ¬ wC v M) : Sl w' v l := by
 obtain ⟨a, n, c, rfl, hn, hc, h⟩ := h
 refine ⟨a, n, c, rfl, hn, hc, fun h0 => ?_⟩
 obtain ⟨b, off, rfl, h2⟩ := h h0
 refine ⟨b, off, rfl, fun i hi => ?_⟩
 have h1 := h2 i hi
 obtain ⟨v, hv⟩ : ∃ v, l[i]? = some v := ⟨l[i], by simp⟩
 rw [hv] at h1 ⊢
 refine Wj h1 hx ?_
 obtain ⟨m, rfl⟩ : ∃ m, n = m + 1 := ⟨n - 1, by omega⟩
 exact hM
theorem Sl.old {w : adR} {v : adS} {l : List adS} (h : Sl w v l) : ¬ wC v (fun b => w.heap.size <= b) := by
 obtain ⟨a, n, c, rfl, hn, hc, h⟩ := h
 unfold wC
 split
 .rename_i x m _ e
  obtain ⟨rfl, rfl, rfl⟩ : a = some x /\ n = m + 1 /\ c = _ := by simpa using e
  obtain ⟨b, off, e, h2⟩ := h (by omega)
  have e := abB e; subst e
  have h1 := h2 0 (by omega)
  obtain ⟨v, hv⟩ : ∃ v, l[0]? = some v := ⟨l[0], by simp⟩
  rw [hv] at h1
  have := World.block_lt_of_cell? _ _ h1
  simp at this ⊢; omega
 .simp
def nU (x : UInt8) : adS := .int .u8 x.toNat
abbrev Bs (w : adR) (v : adS) (l : List UInt8) : Prop := Sl w v (l.map nU)
theorem B9 (b o n : Nat) : (⟨b, o, none⟩ : Addr).add n = ⟨b, o + n, none⟩ := by
 unfold Addr.add; split
 .rename_i h; subst h; rfl
 .rfl
section
variable {P : Program} {w : adR} {t e : TypeId} {k : IntKind} {a : Int}
theorem Mq {inf : TypeInfo} {sz : Nat} (hz : inf.size = sz) (hu : P.underlying t = some (.slice e)) (hi : P.info? e = some inf) (b o n c : Nat) (h0 : 0 <= a) (h1 : a < n) :
 (iH t (.slice (some ⟨b, o, none⟩) n c) (.int k a)).run P w = .ok (.value (.pointer (some ⟨b, o + a.toNat * sz, none⟩))) w := by
 rw [RX hu hi _ n c h0 h1, B9, hz]
theorem Mo {inf : TypeInfo} (hz : inf.size = 1) (hu : P.underlying t = some (.slice e)) (hi : P.info? e = some inf) (b o n c : Nat) (h0 : 0 <= a) (h1 : a < n) :
 (iH t (.slice (some ⟨b, o, none⟩) n c) (.int k a)).run P w = .ok (.value (.pointer (some ⟨b, o + a.toNat, none⟩))) w := by
 rw [RX hu hi _ n c h0 h1, B9, hz, abO]
theorem Jy {inf : TypeInfo} {len : Nat} (hz : inf.size = 1) (hu : P.underlying t = some (.array len e)) (hi : P.info? e = some inf) (b o : Nat) (h0 : 0 <= a) (h1 : a < (len : Int)) :
 (iH t (.pointer (some ⟨b, o, none⟩)) (.int k a)).run P w = .ok (.value (.pointer (some ⟨b, o + a.toNat, none⟩))) w := by
 rw [Wc hu hi _ h0 h1, B9, hz, abO]
end
section
variable {P : Program} {w : adR} {s d e : TypeId}
theorem Vv (hs : P.underlying s = some (.slice e)) (hd : P.underlying d = some .string) (he : P.underlying e = some (.int .u8)) {l : List UInt8} {v : adS} (h : Bs w v l) :
 (lC s d v).run P w = .ok (.value (.string ⟨l.toArray⟩)) w := by
 obtain ⟨a, n, c, rfl, hn, hc, h⟩ := h
 simp only [ZT] at hn
 unfold lC
 rw [nJ]
 have key : (convert s d (.slice a n c)).run P w = .ok (.string ⟨l.toArray⟩) w := by
  cases a with
  | none =>
    have hl : l = [] := by
     cases l with
     | nil => rfl
     | cons x l => obtain ⟨b, off, e, _⟩ := h (by rw [hn]; simp); cases e
    subst hl
    rw [run_convert_bytes_string w s d e none n c hs he hd]
    rfl
  | some x =>
    subst hn
    refine run_convert_bytes_back w s d e x c l hs he hd fun j hj => ?_
    obtain ⟨b, off, hx, h2⟩ := h (by omega)
    have hx := abB hx
    subst hx
    rw [B9, h2 j hj]
    simp [nU, hj]
 rw [key] <;> rfl
end
theorem EV (l : List UInt8) : ∀ x ∈ l.map nU, one x = true := by
 intro x hx
 obtain ⟨c, _, rfl⟩ := aaU.1 hx
 rfl
theorem UB {b o m l sz : Nat} (h : l ≠ m) : Ce ⟨b, o, none⟩ m l sz = ⟨b, o + l * sz, none⟩ := by
 unfold Ce; rw [if_neg (fun e => h e.symm), B9]
theorem KB {b o m l : Nat} (h : l ≠ m) : Ce ⟨b, o, none⟩ m l 1 = ⟨b, o + l, none⟩ := by rw [UB h, abO]
theorem Sl.drop {w : adR} {b o n c : Nat} {l : List adS} (h : Sl w (.slice (some ⟨b, o, none⟩) n c) l) {k : Nat} (hk : k <= n) :
 Sl w (.slice (jR (some ⟨b, o, none⟩) c k 1) (n - k) (c - k)) (l.drop k) := by
 obtain ⟨x, m, c', e, hm, hc, hh⟩ := h
 cases e
 refine ⟨_, _, _, rfl, by rw [Z3]; omega, by omega, fun h0 => ?_⟩
 obtain ⟨b', o', e, h2⟩ := hh (by omega)
 cases e
 have hne : ¬ c = k := by omega
 refine ⟨b, o + k, by unfold jR; rw [if_neg hne, aaS, B9, abO], fun i hi => ?_⟩
 rw [acD, h2 (k + i) (by omega), acH]
theorem Sl.take {w : adR} {b o n c : Nat} {l : List adS} (h : Sl w (.slice (some ⟨b, o, none⟩) n c) l) {k : Nat} (hk : k <= n) :
 Sl w (.slice (jR (some ⟨b, o, none⟩) c 0 1) (k - 0) (c - 0)) (l.take k) := by
 obtain ⟨x, m, c', e, hm, hc, hh⟩ := h
 cases e
 refine ⟨_, _, _, rfl, by rw [Z5]; omega, by omega, fun h0 => ?_⟩
 obtain ⟨b', o', e, h2⟩ := hh (by omega)
 cases e
 have hne : ¬ c = 0 := by omega
 refine ⟨b, o, by unfold jR; rw [if_neg hne, aaS, B9] <;> rfl, fun i hi => ?_⟩
 rw [h2 i (by omega), abM (by omega)]
theorem T5 {b o n c k : Nat} {M : Nat -> Prop} (h : ¬ wC (.slice (some ⟨b, o, none⟩) n c) M) (hn : 0 < n) (m : Nat) : ¬ wC (.slice (jR (some ⟨b, o, none⟩) c k 1) m (c - k)) M := by
 have hb : ¬ M b := by
  obtain ⟨n', rfl⟩ : ∃ n', n = n' + 1 := ⟨n - 1, by omega⟩
  exact h
 unfold wC jR
 split
 .rename_i x q _ e
  simp only [Value.slice.injEq] at e
  obtain ⟨e, _, _⟩ := e
  split at e
  .cases e; exact hb
  .rw [aaS, B9] at e; cases e; exact hb
 .simp
theorem jH.bs {w : adR} {b off c : Nat} {cs : List adS} {l : List UInt8} (h : jH w b cs) (hc : l.length <= c) (hl : ∀ i (hi : i < l.length), cs[off + i]? = some (nU l[i])) : Bs w (.slice (some ⟨b, off, none⟩) l.length c) l :=
 ⟨_, _, _, rfl, by simp, hc, fun _ => ⟨b, off, rfl, fun i hi => by rw [h.cell, hl i hi]; simp [hi]⟩⟩
section
variable {P : Program} {w : adR} {t e : TypeId} {k : IntKind} {a : Int}
theorem X0 {len : Nat} {d : TypeDesc} {i : TypeInfo} (hu : P.underlying t = some (.array len e)) (hd : P.underlying e = some d) (ha : Qs d = false) (hi : P.info? e = some i) (h1 : i.size = 1)
 (cs : Array adS) (h0 : 0 <= a) (hl : a < (len : Int)) {v : adS} (hv : cs[a.toNat]? = some v) : (T0 t (.agg cs) (.int k a)).run P w = .ok (.value v) w := by
 unfold T0
 rw [nJ]
 simp only [Instr.index, asIntOf, pure_bind, underlying, hu, Sem.run_bind, run_program, Result.andThen_ok, Sem.run_pure, h0, hl, and_self, if_true, kB hi, h1, abO, part, CO hd, ha, ZM, if_false, hv]
def YF (P : Program) (t : TypeId) (cs : Array adS) (k : IntKind) (a : Int) (w : adR) : Result Next := (T0 t (.agg cs) (.int k a)).run P w
theorem X5 {len : Nat} {d : TypeDesc} {i : TypeInfo} (hu : P.underlying t = some (.array len e)) (hd : P.underlying e = some d) (ha : Qs d = false) (hi : P.info? e = some i) (h1 : i.size = 1)
 (cs : Array adS) (h0 : 0 <= a) (hl : a < (len : Int)) : (T0 t (.agg cs) (.int k a)).run P w = NM cs[a.toNat]? w (YF P t cs k a w) := by
 cases hv : cs[a.toNat]? with
 | none => rfl
 | some v => exact X0 hu hd ha hi h1 cs h0 hl hv
theorem Lf {b off : Nat} {l : List adS} (h : ∀ i, i < l.length -> w.cell? ⟨b, off + i, none⟩ = l[i]?) (n : Nat) (hn : n <= l.length) :
 (loadCells ⟨b, off, none⟩ n).run P w = .ok (l.take n).toArray w := by
 have key : ∀ (m i : Nat) (acc : Array adS), i + m <= l.length -> (loadCellsFrom ⟨b, off, none⟩ i m acc).run P w = .ok (acc ++ ((l.drop i).take m).toArray) w := by
  intro m
  induction m with
  | zero => intro i acc _; simp [loadCellsFrom]
  | succ m ih =>
    intro i acc hm
    have hc := h i (by omega)
    rw [ZU (by omega)] at hc
    simp only [loadCellsFrom, Sem.run_bind, run_load, B9, hc, Result.andThen_ok]
    rw [ih (i + 1) _ (by omega), acV (by omega : i < l.length), List.take_succ_cons]
    simp
 unfold loadCells
 rw [key n 0 #[] (by omega)]
 simp
theorem O9 {sz n : Nat} {v : adS} {l : List adS} (h1 : sz = 1) (h : Sl w v l) (hn : n <= l.length) : (Builtin.firstCells sz n v).run P w = .ok (l.take n).toArray w := by
 subst h1
 obtain ⟨x, m, c, rfl, hm, hc, hh⟩ := h
 cases x with
 | none =>
   have : l = [] := by
    cases l with
    | nil => rfl
    | cons y l => obtain ⟨b, off, e, _⟩ := hh (by rw [hm]; simp); cases e
   subst this
   simp [Builtin.firstCells]
 | some x =>
   simp only [Builtin.firstCells, abO]
   by_cases h0 : 0 < m
   .obtain ⟨b, off, e, h2⟩ := hh h0
    have e := abB e; subst e
    exact Lf (fun i hi => h2 i (by omega)) n hn
   .have h00 : n = 0 := by omega
    subst h00
    simp [loadCells, loadCellsFrom]
theorem Yi {v : adS} {l : List adS} (h : Sl w v l) : (Builtin.lenOf v).run P w = .ok l.length w := by
 obtain ⟨x, m, c, rfl, hm, hc, hh⟩ := h
 simp [Builtin.lenOf, hm]
theorem Rr {ty t2 : TypeId} {i : TypeInfo} (hu : P.underlying t = some (.slice e)) (hi : P.info? e = some i) (h1 : i.size = 1) {b off dl c : Nat} {cs : List adS} (ho : jH w b cs) (hl : off + dl <= cs.length)
 {v : adS} {l : List adS} (h : Sl w v l) (hv : ∀ x ∈ l, one x = true) {K : adS -> adR -> Prop}
 (hk : ∀ w', jH w' b (nE cs off (l.take (min l.length dl))) -> gT w w' (fun x => x = b) -> w'.heap.size = w.heap.size -> K (.int .i64 (min l.length dl : Nat)) w') :
 eY P (mO .copy #[t, t2] ty [.slice (some ⟨b, off, none⟩) dl c, v]) w K := by
 have hlen : (l.take (min l.length dl)).length = min l.length dl := by rw [Z5]; omega
 obtain ⟨w', s1, s2, s3, s4, _⟩ := DV (P := P) (M := fun x => x = b) rfl (l.take (min l.length dl)) w off 0 cs ho (by rw [hlen]; omega) (fun x hx => hv x (adL hx))
 have : (mO .copy #[t, t2] ty [.slice (some ⟨b, off, none⟩) dl c, v]).run P w = .ok (.value (.int .i64 (min l.length dl : Nat))) w' := by
  unfold mO builtin
  simp only [Builtin.copy_, abK, ZK, ZL]
  simp only [underlying, Sem.run_bind, run_program, Result.andThen_ok, hu, Sem.run_pure, Yi h, kB hi, h1]
  have := O9 (P := P) (n := min l.length dl) rfl h (Nat.min_le_left _ _)
  rw [show (Nat.min l.length dl) = min l.length dl from rfl, this]
  simp only [Result.andThen_ok, s1, goInt]
 unfold eY
 rw [this]
 exact hk w' (by simpa using s2) s3 s4
theorem QS {i : TypeInfo} {z : adS} (hu : P.underlying t = some (.slice e)) (hi : P.info? e = some i) (h1 : i.size = 1) (hz : i.zero = some z) (hz1 : one z = true) {n : Int} (h0 : 0 <= n) (hn : i.bytes * n <= 2 ^ 48) (hn2 : n <= 9223372036854775807)
 {K : adS -> adR -> Prop}
 (hk : ∀ w', jH w' w.heap.size (List.replicate n.toNat z) -> gT w w' jL -> w'.heap.size = w.heap.size + 1 -> K (.slice (some ⟨w.heap.size, 0, none⟩) n.toNat n.toNat) w') :
 eY P (uM t (.int k n) (.int k n)) w K := by
 have hw : IntKind.i64.wrap n = n := fI (by omega) hn2
 have hcells : z.cells = #[z] := PX hz1
 have harr : (Array.range n.toNat).map (fun j => (#[z] : Array adS)[j % (#[z] : Array adS).size]!) = (List.replicate n.toNat z).toArray := by
  apply Array.ext
  .simp
  .intro j h1 h2; simp [Nat.mod_one]
 have hz' : (zeroValue e).run P w = .ok z w := by simp [zeroValue, typeInfo, hi, hz]
 have : (uM t (.int k n) (.int k n)).run P w = .ok (.value (.slice (some ⟨w.heap.size, 0, none⟩) n.toNat n.toNat)) (w.alloc (.cells (List.replicate n.toNat z).toArray e)) := by
  unfold uM
  rw [nJ]
  have t1 : (decide (n < 0) || decide ((i.bytes : Int) * n > 2 ^ 48) || decide (n < 0) || decide (n > n)) = false := by
   simp only [acO, decide_eq_false_iff_not]; omega
  by_cases hn0 : n.toNat = 0
  .simp only [Instr.makeSlice, underlying, typeInfo, asInt, asIntOf, pure_bind, Sem.run_bind, run_program, Result.andThen_ok, hu, hi, Sem.run_pure, hw, t1, ZM, if_false, run_askRoom, kB hi, h1, abO, hn0, if_true, newRow, run_newObj]
   have : (Array.range 0).map (fun x => (#[] : Array adS)[x % (#[] : Array adS).size]!) = (List.replicate 0 z).toArray := by simp
   rw [this]
   rfl
  .simp only [Instr.makeSlice, underlying, typeInfo, asInt, asIntOf, pure_bind, Sem.run_bind, run_program, Result.andThen_ok, hu, hi, Sem.run_pure, hw, t1, ZM, if_false, run_askRoom, kB hi, h1, abO, hn0, hz', hcells, newRow, run_newObj, harr]
   rfl
 unfold eY
 rw [this]
 exact hk _ (jH.alloc _ _ _) (gT.alloc _ _ _) (by simp)
end
def Cl (w : adR) (sz : Nat) (v : adS) (n : Nat) (l : List adS) : Prop :=
 ∃ a c, v = .slice a n c /\ l.length = n * sz /\ (0 < n -> ∃ b off, a = some ⟨b, off, none⟩ /\ ∀ i, i < l.length -> w.cell? ⟨b, off + i, none⟩ = l[i]?)
def zF (w : adR) (base sz : Nat) (v : adS) (n : Nat) (l : List adS) : Prop :=
 l.length = n * sz /\ ((v = .slice none 0 0 /\ n = 0) ∨
   ∃ b c rest, v = .slice (some ⟨b, 0, none⟩) n c /\ base <= b /\ jH w b (l ++ rest) /\ (l ++ rest).length = c * sz /\ n <= c)
def IQ (w : adR) (S : Nat -> Prop) (sz : Nat) (v : adS) (n : Nat) (l : List adS) : Prop :=
 l.length = n * sz /\ ((v = .slice none 0 0 /\ n = 0) ∨
   ∃ b c rest, v = .slice (some ⟨b, 0, none⟩) n c /\ S b /\ jH w b (l ++ rest) /\ (l ++ rest).length = c * sz /\ n <= c)
theorem Sl.cl {w : adR} {v : adS} {l : List adS} (h : Sl w v l) : Cl w 1 v l.length l := by
 obtain ⟨a, n, c, rfl, rfl, hc, h⟩ := h
 exact ⟨a, c, rfl, by omega, fun h0 => h h0⟩
theorem jH.cl {w : adR} {b sz n c off : Nat} {cs l : List adS} (h : jH w b cs) (hl : l.length = n * sz) (hcs : ∀ i, i < l.length -> cs[off + i]? = l[i]?) : Cl w sz (.slice (some ⟨b, off, none⟩) n c) n l :=
 ⟨_, _, rfl, hl, fun _ => ⟨b, off, rfl, fun i hi => by rw [h.cell, hcs i hi]⟩⟩
theorem zF.nil (w : adR) (base sz : Nat) : zF w base sz (.slice none 0 0) 0 [] := ⟨by simp, .inl ⟨rfl, rfl⟩⟩
theorem zF.ext {w w' : adR} {base sz n : Nat} {v : adS} {l : List adS} {M : Nat -> Prop} (h : zF w base sz v n l) (hx : gT w w' M) (hM : ∀ b, base <= b -> ¬ M b) : zF w' base sz v n l := by
 refine ⟨h.1, ?_⟩
 rcases h.2 with h2 | ⟨b, c, rest, h1, h2, h3, h4, h5⟩
 .exact .inl h2
 .exact .inr ⟨b, c, rest, h1, h2, h3.ext hx (hM b h2), h4, h5⟩
theorem zF.cl {w : adR} {base sz n : Nat} {v : adS} {l : List adS} (h : zF w base sz v n l) : Cl w sz v n l := by
 rcases h.2 with ⟨rfl, rfl⟩ | ⟨b, c, rest, rfl, h2, h3, h4, h5⟩
 .exact ⟨_, _, rfl, h.1, fun h => by omega⟩
 .refine ⟨_, _, rfl, h.1, fun _ => ⟨b, 0, rfl, fun i hi => ?_⟩⟩
  rw [h3.cell, ZS, aaA hi]
theorem zF.sl {w : adR} {base n : Nat} {v : adS} {l : List adS} (h : zF w base 1 v n l) : Sl w v l := by
 have hl := h.1
 rcases h.2 with ⟨rfl, rfl⟩ | ⟨b, c, rest, rfl, h2, h3, h4, h5⟩
 .exact ⟨_, _, _, rfl, by omega, by omega, fun h => by omega⟩
 .refine ⟨_, _, _, rfl, by omega, h5, fun _ => ⟨b, 0, rfl, fun i hi => ?_⟩⟩
  rw [h3.cell, ZS, aaA (by omega)]
section
variable {P : Program} {w : adR} {t e : TypeId}
theorem L1 {b off : Nat} {l : List adS} (h : ∀ i, i < l.length -> w.cell? ⟨b, off + i, none⟩ = l[i]?) : (loadCells ⟨b, off, none⟩ l.length).run P w = .ok l.toArray w := by
 have := Lf (P := P) h l.length (Z2 _)
 rwa [List.take_length] at this
theorem Bo {sz n : Nat} {v : adS} {l : List adS} (h : Cl w sz v n l) : (Builtin.firstCells sz n v).run P w = .ok l.toArray w := by
 obtain ⟨x, c, rfl, hl, hh⟩ := h
 cases x with
 | none =>
   have : n = 0 := by
    rcases Nat.eq_zero_or_pos n with h | h
    .exact h
    .obtain ⟨b, off, e, _⟩ := hh h; cases e
   subst this
   have : l = [] := aaB.1 (by omega)
   subst this
   simp [Builtin.firstCells]
 | some x =>
   simp only [Builtin.firstCells]
   rw [<- hl]
   by_cases h0 : 0 < n
   .obtain ⟨b, off, e, h2⟩ := hh h0
    have e := abB e; subst e
    exact L1 h2
   .have : n = 0 := by omega
    subst this
    have : l = [] := aaB.1 (by omega)
    subst this
    simp [loadCells, loadCellsFrom]
theorem GC (zs : Array adS) (n : Nat) : (Builtin.zeroCells zs n).size = n * zs.size := by simp [Builtin.zeroCells]
theorem oM (vs : List adS) : ∀ (ZJ rest : List adS), vs.length <= rest.length -> nE (ZJ ++ rest) ZJ.length vs = ZJ ++ vs ++ rest.drop vs.length := by
 induction vs with
 | nil => intro ZJ rest _; simp [nE]
 | cons v vs ih =>
   intro ZJ rest h
   cases rest with
   | nil => simp at h
   | cons r rest =>
     have := ih (ZJ ++ [v]) rest (by simpa using h)
     simp only [nE, ZV, aaG, abR, aaC, acP, Z9] at this ⊢
     rw [List.drop_succ_cons, <- this, abL _ _ (Z2 _), adM, Z7, ZS]
theorem RJ {S : Nat -> Prop} {sz n m : Nat} {i : TypeInfo} {z : adS} {ty t2 e2 : TypeId} (hu : P.underlying t = some (.slice e)) (hu2 : P.underlying t2 = some (.slice e2)) (hi : P.info? e = some i) (hsz : i.size = sz) (hz : i.zero = some z) (hzs : z.cells.size = sz)
 {v x : adS} {l news : List adS} (h : IQ w S sz v n l) (hx : Cl w sz x m news) (hone : ∀ y ∈ news, one y = true) (hb : ∀ b, w.heap.size <= b -> S b)
 (hn : n + m <= 9223372036854775807) (hbytes : (n + m) * i.bytes <= 140737488355328) (_hpos : i.bytes ≠ 0)
 {K : adS -> adR -> Prop} (hk : ∀ v' w', IQ w' S sz v' (n + m) (l ++ news) -> gT w w' S -> Cl w' sz v n l -> K v' w') : eY P (mO .append #[t, t2] ty [v, x]) w K := by
 have hlx : (Builtin.lenOf x).run P w = .ok m w := by
  obtain ⟨a, c, rfl, _⟩ := hx; simp [Builtin.lenOf]
 have hnl := hx.choose_spec.choose_spec.2.1
 have hfx := Bo (P := P) hx
 have hmax : IntKind.i64.max = 9223372036854775807 := by decide
 have hnot : ¬ (((n + m : Nat) : Int) > IntKind.i64.max /\ (False ∨ i.bytes = 0)) := by rw [hmax]; omega
 have hz' : ∀ w, (zeroValue e).run P w = .ok z w := fun w => by simp [zeroValue, typeInfo, hi, hz]
 have hlen := h.1
 rcases h.2 with ⟨rfl, rfl⟩ | ⟨b, c, rest, rfl, h2, h3, h4, h5⟩
 .
  have hl0 : l = [] := aaB.1 (by omega)
  subst hl0
  by_cases hm : m = 0
  .subst hm
   have hn0 : news = [] := aaB.1 (by omega)
   subst hn0
   have : (mO .append #[t, t2] ty [.slice none 0 0, x]).run P w = .ok (.value (.slice none 0 0)) w := by
    unfold mO builtin
    simp only [Builtin.append_, abK, ZK, ZL]
    simp only [underlying, Sem.run_bind, run_program, Result.andThen_ok, hu, hu2, Sem.run_pure, kB hi, hsz, ZM, if_false, hlx, Z2, Nat.add_zero, if_true, ZQ, hfx]
   unfold eY
   rw [this]
   exact hk _ _ ⟨by simp, .inl ⟨rfl, by omega⟩⟩ (gT.refl _ _) ⟨none, 0, rfl, hlen, fun h => absurd h (by omega)⟩
  .have hfit := growslice_fits (need := 0 + m) (old := 0) (bytes := i.bytes) (by omega) (by omega)
   have hfit' : ¬ (Builtin.nextslicecap (0 + m) 0 * i.bytes > 2 ^ 48) := by omega
   have hle : ¬ (0 + m <= 0) := by omega
   have hq : (Question.appendCap (0 + m) 0 e).forced = false := rfl
   obtain ⟨r, hr⟩ : ∃ r, (Question.appendCap (0 + m) 0 e).cut (w.tape w.drawn (.appendCap (0 + m) 0 e)) = m + r :=
    ⟨(w.tape w.drawn (.appendCap (0 + m) 0 e)) % (2 ^ 63 - (0 + m)), by simp only [Question.cut]; omega⟩
   have : (mO .append #[t, t2] ty [.slice none 0 0, x]).run P w = .ok (.value (.slice (some ⟨w.heap.size, 0, none⟩) (0 + m) (m + r))) ((dr w).alloc (.cells (news ++ (Builtin.zeroCells z.cells (m + r - (0 + m))).toList).toArray e)) := by
    have hfx' := Bo (P := P) (w := dr w) hx
    unfold mO builtin
    simp only [Builtin.append_, abK, ZK, ZL]
    simp only [underlying, typeInfo, Sem.run_bind, run_program, Result.andThen_ok, hu, hu2, hi, Sem.run_pure, kB hi, hsz, ZM, if_false, hlx, hle, ZQ, if_true, hnot, hfit', run_choose, hq, hr, run_askRoom]
    change ((Sem.run P _ (dr w)).andThen _).andThen _ = _
    simp only [Sem.run_bind, hfx', run_firstCells_none, Result.andThen_ok, hz', Sem.run_pure, newRow, run_newObj]
    have e1 : (#[] ++ news.toArray ++ Builtin.zeroCells z.cells (m + r - (0 + m)) : Array adS) = (news ++ (Builtin.zeroCells z.cells (m + r - (0 + m))).toList).toArray := by
     apply Array.ext'; simp
    rw [e1]
    rfl
   unfold eY
   rw [this]
   refine hk _ _ ⟨by simp only [Z9]; rw [hnl, ZS], .inr ⟨w.heap.size, m + r, (Builtin.zeroCells z.cells (m + r - (0 + m))).toList, by rw [ZS], hb _ (Z2 _), jH.alloc (dr w) _ _, ?_, by omega⟩⟩ ((gT.dr w _).seq (gT.alloc _ _ _)) ⟨none, 0, rfl, hlen, fun h => absurd h (by omega)⟩
   simp only [Z9, ZV, Array.length_toList, GC, hzs, hnl]
   rw [show m + r - (0 + m) = r from by omega, adD]
 .by_cases hc : n + m <= c
  .
   have hroom : news.length <= rest.length := by
    rw [ZV, hlen] at h4
    have : (n + m) * sz <= c * sz := Nat.mul_le_mul_right _ hc
    rw [adD] at this; omega
   obtain ⟨w', s1, s2, s3, s4, _⟩ := DV (P := P) (M := S) h2 news w (n * sz) 0 (l ++ rest) h3 (by rw [ZV, hlen]; omega) hone
   have : (mO .append #[t, t2] ty [.slice (some ⟨b, 0, none⟩) n c, x]).run P w = .ok (.value (.slice (some ⟨b, 0, none⟩) (n + m) c)) w' := by
    unfold mO builtin
    simp only [Builtin.append_, abK, ZK, ZL]
    simp only [underlying, Sem.run_bind, run_program, Result.andThen_ok, hu, hu2, Sem.run_pure, kB hi, hsz, ZM, if_false, hlx, hc, if_true, ZQ, hfx, B9, ZS, s1]
   unfold eY
   rw [this]
   rw [Nat.add_zero, <- hlen, oM _ _ _ hroom] at s2
   refine hk _ _ ⟨by rw [ZV, hlen, hnl, adD], .inr ⟨b, c, rest.drop news.length, rfl, h2, s2, ?_, hc⟩⟩ s3 ⟨_, _, rfl, hlen, fun _ => ⟨b, 0, rfl, fun i hi => by
    rw [s2.cell, ZS, aaC, aaA hi]⟩⟩
   rw [<- h4]; simp; omega
  .
   have hfit := growslice_fits (need := n + m) (old := c) (bytes := i.bytes) (by omega) hbytes
   have hfit' : ¬ (Builtin.nextslicecap (n + m) c * i.bytes > 2 ^ 48) := by omega
   have hq : (Question.appendCap (n + m) c e).forced = false := rfl
   obtain ⟨r, hr⟩ : ∃ r, (Question.appendCap (n + m) c e).cut (w.tape w.drawn (.appendCap (n + m) c e)) = n + m + r :=
    ⟨(w.tape w.drawn (.appendCap (n + m) c e)) % (2 ^ 63 - (n + m)), by simp only [Question.cut]⟩
   have hold : Cl (dr w) sz (.slice (some ⟨b, 0, none⟩) n c) n l := ⟨_, _, rfl, hlen, fun _ => ⟨b, 0, rfl, fun i hi => by
    show w.cell? _ = _
    rw [h3.cell, ZS, aaA hi]⟩⟩
   have : (mO .append #[t, t2] ty [.slice (some ⟨b, 0, none⟩) n c, x]).run P w = .ok (.value (.slice (some ⟨w.heap.size, 0, none⟩) (n + m) (n + m + r))) ((dr w).alloc (.cells (l ++ news ++ (Builtin.zeroCells z.cells (n + m + r - (n + m))).toList).toArray e)) := by
    have hfx' := Bo (P := P) (w := dr w) hx
    have hfo := Bo (P := P) hold
    unfold mO builtin
    simp only [Builtin.append_, abK, ZK, ZL]
    simp only [underlying, typeInfo, Sem.run_bind, run_program, Result.andThen_ok, hu, hu2, hi, Sem.run_pure, kB hi, hsz, ZM, if_false, hlx, hc, ZQ, if_true, hnot, hfit', run_choose, hq, hr, run_askRoom]
    change ((Sem.run P _ (dr w)).andThen _).andThen _ = _
    simp only [Sem.run_bind, hfx', hfo, Result.andThen_ok, hz', Sem.run_pure, newRow, run_newObj]
    have e1 : (l.toArray ++ news.toArray ++ Builtin.zeroCells z.cells (n + m + r - (n + m)) : Array adS) = (l ++ news ++ (Builtin.zeroCells z.cells (n + m + r - (n + m))).toList).toArray := by
     apply Array.ext'; simp
    rw [e1]
    rfl
   unfold eY
   rw [this]
   refine hk _ _ ⟨by rw [ZV, hlen, hnl, adD], .inr ⟨w.heap.size, n + m + r, _, rfl, hb _ (Z2 _), jH.alloc (dr w) _ _, ?_, by omega⟩⟩ ((gT.dr w _).seq (gT.alloc _ _ _)) ⟨_, _, rfl, hlen, fun _ => ⟨b, 0, rfl, fun i hi => by
    have o9 := h3.ext ((gT.dr w jL).seq (gT.alloc (dr w) (.cells (l ++ news ++ (Builtin.zeroCells z.cells (n + m + r - (n + m))).toList).toArray e) jL)) (fun h => h)
    rw [o9.cell, ZS, aaA hi]⟩⟩
   simp only [ZV, Array.length_toList, GC, hzs, hnl, hlen]
   rw [show n + m + r - (n + m) = r from by omega, adD, adD]
theorem EB {S : Nat -> Prop} {sz n m : Nat} {i : TypeInfo} {z : adS} {ty t2 e2 : TypeId} (hu : P.underlying t = some (.slice e)) (hu2 : P.underlying t2 = some (.slice e2)) (hi : P.info? e = some i) (hsz : i.size = sz) (hz : i.zero = some z) (hzs : z.cells.size = sz)
 {v x : adS} {l news : List adS} (h : IQ w S sz v n l) (hx : Cl w sz x m news) (hone : ∀ y ∈ news, one y = true) (hb : ∀ b, w.heap.size <= b -> S b)
 (hn : n + m <= 9223372036854775807) (hbytes : (n + m) * i.bytes <= 140737488355328) (_hpos : i.bytes ≠ 0)
 {K : adS -> adR -> Prop} (hk : ∀ v' w', IQ w' S sz v' (n + m) (l ++ news) -> gT w w' S -> K v' w') : eY P (mO .append #[t, t2] ty [v, x]) w K :=
 RJ hu hu2 hi hsz hz hzs h hx hone hb hn hbytes _hpos fun v' w' a b _ => hk v' w' a b
theorem Ki {base sz n m : Nat} {i : TypeInfo} {z : adS} {ty t2 e2 : TypeId} (hu : P.underlying t = some (.slice e)) (hu2 : P.underlying t2 = some (.slice e2)) (hi : P.info? e = some i) (hsz : i.size = sz) (hz : i.zero = some z) (hzs : z.cells.size = sz)
 {v x : adS} {l news : List adS} (h : zF w base sz v n l) (hx : Cl w sz x m news) (hone : ∀ y ∈ news, one y = true) (hb : base <= w.heap.size)
 (hn : n + m <= 9223372036854775807) (hbytes : (n + m) * i.bytes <= 140737488355328) (_hpos : i.bytes ≠ 0)
 {K : adS -> adR -> Prop} (hk : ∀ v' w', zF w' base sz v' (n + m) (l ++ news) -> gT w w' (fun y => base <= y) -> K v' w') : eY P (mO .append #[t, t2] ty [v, x]) w K :=
 EB (S := fun y => base <= y) hu hu2 hi hsz hz hzs h hx hone (fun _ h => acM hb h) hn hbytes _hpos hk
end
section
variable {P : Program} {w : adR} {t e : TypeId}
theorem CU {i : TypeInfo} {z : adS} {n : Nat} {ps : List (Nat × adS)} {cells : Array adS} (hu : P.underlying t = some (.slice e)) (hi : P.info? e = some i) (hz : i.zero = some z)
 (h1 : ¬ n * i.size > 2 ^ 24) (h0 : ¬ n * i.size = 0) (hf : Instr.fill (fun j => some (j * i.size, i.size)) ((Array.range (n * i.size)).map (z.cells[· % z.cells.size]!)) ps = some cells)
 {K : adS -> adR -> Prop} (hk : ∀ w', jH w' w.heap.size cells.toList -> gT w w' jL -> w'.heap.size = w.heap.size + 1 -> K (.slice (some ⟨w.heap.size, 0, none⟩) n n) w') :
 eY P (iJ t n ps) w K := by
 have hz' : (zeroValue e).run P w = .ok z w := by simp [zeroValue, typeInfo, hi, hz]
 have : (iJ t n ps).run P w = .ok (.value (.slice (some ⟨w.heap.size, 0, none⟩) n n)) (w.alloc (.cells cells.toList.toArray e)) := by
  unfold iJ; rw [nJ]
  simp only [Instr.buildSlice, underlying, pure_bind, Sem.run_bind, run_program, Result.andThen_ok, hu, Sem.run_pure, kB hi, h1, h0, if_false, hz', hf, newRow, run_newObj]
  rfl
 unfold eY
 rw [this]
 exact hk _ (jH.alloc _ _ _) (gT.alloc _ _ _) (by simp)
theorem jH.mark {b : Nat} {cs : List adS} (h : jH w b cs) : jH (w.freeze ⟨b, cs.length, none⟩ 1) b cs := by
 have hb := h.lt
 obtain ⟨T, lo, hi, h, k⟩ := h
 by_cases hlh : (lo == hi) = true
 .refine ⟨T, cs.length, cs.length + 1, ?_, .inl (Z2 _)⟩
  show (w.heap.modify b _)[b]? = _
  rw [abT, if_pos rfl, h]
  have hlh : lo = hi := by simpa using hlh
  simp [hlh]
 .refine ⟨T, min lo cs.length, max hi (cs.length + 1), ?_, .inl ?_⟩
  .show (w.heap.modify b _)[b]? = _
   rw [abT, if_pos rfl, h]
   have hlh : ¬ lo = hi := by simpa using hlh
   simp [hlh]
  .rcases k with k | k
   .omega
   .exfalso; apply hlh; rw [k]; simp
theorem gT.mark (w : adR) (a : Addr) : gT w (w.freeze a 1) (fun y => y = a.block) :=
 ⟨rfl, rfl, rfl, by show _ <= (w.heap.modify _ _).size; simp, fun b hb hn => by
  show (w.heap.modify a.block _)[b]? = _
  rw [abT]
  rw [if_neg (fun h => hn h.symm)]⟩
theorem Xi (hu : P.underlying t = some (.slice e)) (he : P.underlying e = some (.int .u8)) {b off n c : Nat} {cs : List adS} (ho : jH w b cs)
 {K : adS -> adR -> Prop} (hk : ∀ w', jH w' b cs -> gT w w' (fun y => y = b) -> w'.heap.size = w.heap.size -> K (.slice (some ⟨b, off, none⟩) n c) w') :
 eY P (lC t t (.slice (some ⟨b, off, none⟩) n c)) w K := by
 obtain ⟨T, hs⟩ : ∃ T, w.shape? b = some (T, cs.length) := by
  obtain ⟨T, lo, hi, h, _⟩ := ho
  exact ⟨T, by unfold World.shape?; rw [h]; simp⟩
 have : (lC t t (.slice (some ⟨b, off, none⟩) n c)).run P w = .ok (.value (.slice (some ⟨b, off, none⟩) n c)) (w.freeze ⟨b, cs.length, none⟩ 1) := by
  unfold lC; rw [nJ]
  simp [convert, underlying, hu, he, markStringish, shape, freeze, Sem.run, hs]
 unfold eY
 rw [this]
 exact hk _ ho.mark (gT.mark w _) (by show (w.heap.modify _ _).size = _; simp)
end
section
variable {P : Program} {w : adR} {t e : TypeId}
theorem Rb {d : TypeDesc} (he : P.underlying e = some d) (hd : Qs d = false) {cs : Array adS} {k : Nat} {v : adS} (h : cs[k]? = some v) : (part e cs k).run P w = .ok v w := by
 unfold part
 simp only [Sem.run_bind, CO he, hd, Result.andThen_ok, ZM, if_false, h, Sem.run_pure]
theorem WE {a b : UInt8} : (((a.toNat : Int)) == (b.toNat : Int)) = decide (a = b) := by
 rw [Bool.eq_iff_iff]
 simp only [<- UInt8.toNat_inj, beq_iff_eq, decide_eq_true_eq]
 omega
theorem Si {i : TypeInfo} (m n : Nat) (hu : P.underlying t = some (.array n e)) (he : P.underlying e = some (.int .u8)) (hi : P.info? e = some i) (h1 : i.size = 1) (l l' : List UInt8) (hl : l.length = n) (hl' : l'.length = n) :
 (Op.equalIn (m + 2) t (.agg (l.map nU).toArray) (.agg (l'.map nU).toArray)).run P w = .ok (decide (l = l')) w := by
 unfold Op.equalIn
 simp only [underlying, Sem.run_bind, run_program, Result.andThen_ok, hu, Sem.run_pure, kB hi, Std.Legacy.Range.forIn_eq_forIn_range', Std.Legacy.Range.size, Nat.sub_zero, Nat.add_one_sub_one, Nat.div_one, h1, abO]
 have key : ∀ (c k : Nat), k + c = n -> l.take k = l'.take k →
     ∃ r, (forIn (List.range' k c) (none, ()) fun (i : Nat) (_ : Option Bool × Unit) => (do
           let a <- part e (List.map nU l).toArray i
           let b <- part e (List.map nU l').toArray i
           let c <- Op.equalIn (m + 1) e a b
           if (!c) = true then pure (ForInStep.done (some false, ())) else pure (ForInStep.yield (none, ())) : Sem (ForInStep (Option Bool × Unit)))).run P w = .ok (r, ()) w /\ r.getD true = decide (l = l') := by
  intro c
  induction c with
  | zero =>
    intro k hk ht
    refine ⟨none, by simp, ?_⟩
    have : l = l' := by
     rw [ZY (by omega), ZY (by omega)] at ht; exact ht
    simp [this]
  | succ c ih =>
    intro k hk ht
    have g : ∀ (q : List UInt8) (h : k < q.length), (q.map nU).toArray[k]? = some (nU q[k]) := fun q h => by simp [h]
    have hv : (Op.equalIn (m + 1) e (nU (l[k]'(by omega))) (nU (l'[k]'(by omega)))).run P w = .ok (decide (l[k]'(by omega) = l'[k]'(by omega))) w := by
     unfold Op.equalIn nU
     simp only [underlying, Sem.run_bind, run_program, Result.andThen_ok, he, Sem.run_pure, if_true, WE]
    rw [List.range'_succ]
    simp only [List.forIn_cons, Sem.run_bind, Rb he rfl (g l (by omega)), Rb he rfl (g l' (by omega)), Result.andThen_ok, hv]
    by_cases hx : l[k]'(by omega) = l'[k]'(by omega)
    .simp only [hx, decide_true, ZR, ZM, if_false, Sem.run_pure, Result.andThen_ok]
     refine ih (k + 1) (by omega) ?_
     rw [acZ, acZ, ht, ZU (by omega), ZU (by omega), hx]
    .simp only [hx, decide_false, ZQ, if_true, Sem.run_pure, Result.andThen_ok]
     refine ⟨some false, rfl, ?_⟩
     have : l ≠ l' := fun h => hx (by subst h; rfl)
     simp [this]
 obtain ⟨r, h1, h2⟩ := key n 0 (by omega) (by simp)
 rw [h1, <- h2]
 cases r <;> simp
structure Ob {κ : Type} [DecidableEq κ] (P : Program) (t : TypeId) (enc : κ -> adS) : Prop where
 eq : ∀ a b (w : adR), (Op.equal t (enc a) (enc b)).run P w = .ok (decide (a = b)) w
 now : ∃ d, P.underlying t = some d /\ ∀ a b, Instr.sameNow d (enc a) (enc b) = none ∨ Instr.sameNow d (enc a) (enc b) = some (decide (a = b))
 chk : ∀ (e : Bool) a (w : adR), (Instr.checkKey e 10000 t (enc a)).run P w = .ok () w
 stay : ∀ a, Instr.sameBits 10000 (enc a) (enc a) = true
def HE {κ : Type} [DecidableEq κ] (k : κ) : List (κ × adS) -> Option adS
 | [] => none
 | p :: r => if k = p.1 then some p.2 else HE k r
def Sn {κ : Type} [DecidableEq κ] (k : κ) (v : adS) : List (κ × adS) -> List (κ × adS)
 | [] => [(k, v)]
 | p :: r => if k = p.1 then (k, v) :: r else p :: Sn k v r
theorem WC {κ : Type} [DecidableEq κ] {k : κ} {v : adS} {l : List (κ × adS)} {p : κ × adS} (h : p ∈ Sn k v l) : p = (k, v) ∨ p ∈ l := by
 induction l with
 | nil => simp [Sn] at h; exact .inl h
 | cons q r ih =>
   simp only [Sn] at h
   split at h
   .rcases aaN.1 h with h | h
    .exact .inl h
    .exact .inr (Z1 _ h)
   .rcases aaN.1 h with h | h
    .exact .inr (h ▸ abC)
    .rcases ih h with h | h
     .exact .inl h
     .exact .inr (Z1 _ h)
def Grown (es : Array MapEntry) (clock : Nat) : Prop := (es.toList.map (·.born)).Pairwise (· < ·) /\ ∀ e ∈ es.toList, e.born < clock
def Mp {κ : Type} (w : adR) (m : Nat) (enc : κ -> adS) (l : List (κ × adS)) : Prop :=
 ∃ es clock, w.heap[m]? = some (.map es clock) /\ es.toList.map (fun e => (e.key, e.val)) = l.map (fun p => (enc p.1, p.2)) /\ Grown es clock /\ (l.map (·.1)).Nodup
theorem SG {es : Array MapEntry} {c : Nat} (h : Grown es c) (k v : adS) : Grown (es.push ⟨k, v, c⟩) (c + 1) := by
 obtain ⟨h1, h2⟩ := h
 refine ⟨?_, ?_⟩
 .rw [Array.toList_push, aaY, List.pairwise_append]
  refine ⟨h1, by simp, fun a ha b hb => ?_⟩
  simp at hb
  subst hb
  obtain ⟨e, he, rfl⟩ := aaU.1 ha
  exact h2 e he
 .intro e he
  rw [Array.toList_push] at he
  rcases abJ.1 he with he | he
  .have := h2 e he; omega
  .simp at he; subst he; exact Nat.lt_succ_self c
theorem SX {es es' : Array MapEntry} {c : Nat} (h : Grown es c) (he : es'.toList.map (·.born) = es.toList.map (·.born)) : Grown es' c := by
 refine ⟨by rw [he]; exact h.1, fun e h' => ?_⟩
 have : e.born ∈ es'.toList.map (·.born) := aaU.2 ⟨e, h', rfl⟩
 rw [he] at this
 obtain ⟨x, hx, hxe⟩ := aaU.1 this
 rw [<- hxe]; exact h.2 x hx
theorem RN {κ : Type} [DecidableEq κ] {k : κ} {v : adS} : ∀ {l : List (κ × adS)}, (l.map (·.1)).Nodup -> ((Sn k v l).map (·.1)).Nodup
 | [], _ => by simp [Sn]
 | p :: r, h => by
   simp only [Sn]
   have h' := h
   rw [Z0, acA] at h
   split
   .rename_i e
    rw [Z0, acA]
    exact ⟨fun hm => h.1 (e ▸ hm), h.2⟩
   .rename_i e
    rw [Z0, acA]
    refine ⟨fun hm => ?_, RN h.2⟩
    obtain ⟨q, hq, hqe⟩ := aaU.1 hm
    rcases WC hq with h1 | h1
    .rw [h1] at hqe; exact e hqe
    .exact h.1 (aaU.2 ⟨q, h1, hqe⟩)
theorem Mp.lt {κ : Type} {m : Nat} {enc : κ -> adS} {l : List (κ × adS)} (h : Mp w m enc l) : m < w.heap.size := by
 obtain ⟨es, c, h, _⟩ := h
 rcases aaW m w.heap.size with h' | h'
 .exact h'
 .rw [aaI h'] at h; cases h
theorem Mp.ext {κ : Type} {w w' : adR} {m : Nat} {enc : κ -> adS} {l : List (κ × adS)} {M : Nat -> Prop} (h : Mp w m enc l) (hx : gT w w' M) (hM : ¬ M m) : Mp w' m enc l := by
 have := h.lt
 obtain ⟨es, c, h, k⟩ := h
 exact ⟨es, c, by rw [hx.keep m this hM]; exact h, k⟩
theorem Mp.dr {κ : Type} {w : adR} {m : Nat} {enc : κ -> adS} {l : List (κ × adS)} (h : Mp w m enc l) : Mp (dr w) m enc l := h
def Gh {κ : Type} [DecidableEq κ] (k : κ) : List (κ × adS) -> Nat -> Option (Nat × adS)
 | [], _ => none
 | p :: r, i => if k = p.1 then some (i, p.2) else Gh k r (i + 1)
theorem Oq {κ : Type} [DecidableEq κ] (k : κ) : ∀ (l : List (κ × adS)) (i : Nat), (Gh k l i).map (·.2) = HE k l := by
 intro l
 induction l with
 | nil => intro i; rfl
 | cons p r ih => intro i; simp only [Gh, HE]; split <;> simp [ih]
variable {κ : Type} [DecidableEq κ] {enc : κ -> adS}
theorem yH {r : Nat} {es : Array MapEntry} {c : Nat} (hb : w.heap[r]? = some (.map es c)) : (getObj r).run P w = .ok (.map es c) w := by simp [getObj, Sem.run, hb]
theorem Hl {r : Nat} {es : Array MapEntry} {c : Nat} (o : Obj) (hb : w.heap[r]? = some (.map es c)) : (setObj r o).run P w = .ok () { w with heap := w.heap.setIfInBounds r o } := by simp [setObj, Sem.run, hb]
theorem ON (K : Ob P t enc) (k : κ) : ∀ (es : List MapEntry) (l : List (κ × adS)) (i : Nat), es.map (fun e => (e.key, e.val)) = l.map (fun p => (enc p.1, p.2)) →
 (Instr.findAsking t (enc k) es i).run P w = .ok (Gh k l i) w := by
 intro es
 induction es with
 | nil => intro l i h; cases l with
   | nil => rfl
   | cons p r => simp at h
 | cons x es ih =>
   intro l i h
   cases l with
   | nil => simp at h
   | cons p r =>
     simp only [Z0, adN, acQ] at h
     obtain ⟨⟨h1, h2⟩, h3⟩ := h
     simp only [Instr.findAsking, Sem.run_bind, h1, K.eq, Result.andThen_ok, Gh]
     by_cases hx : k = p.1
     .simp [hx, h2]
     .simp only [hx, decide_false, ZM, if_false]
      exact ih r (i + 1) h3
theorem Qn {d : TypeDesc} (hn : ∀ a b, Instr.sameNow d (enc a) (enc b) = none ∨ Instr.sameNow d (enc a) (enc b) = some (decide (a = b))) (k : κ) : ∀ (es : List MapEntry) (l : List (κ × adS)) (i : Nat) (r : Option (Nat × adS)), es.map (fun e => (e.key, e.val)) = l.map (fun p => (enc p.1, p.2)) →
 Instr.findNow d (enc k) es i = some r -> r = Gh k l i := by
 intro es
 induction es with
 | nil => intro l i r h hr; cases l with
   | nil => simp [Instr.findNow] at hr; exact hr.symm
   | cons p r => simp at h
 | cons x es ih =>
   intro l i r h hr
   cases l with
   | nil => simp at h
   | cons p q =>
     simp only [Z0, adN, acQ] at h
     obtain ⟨⟨h1, h2⟩, h3⟩ := h
     simp only [Instr.findNow, h1] at hr
     rcases hn k p.1 with hh | hh
     .rw [hh] at hr; cases hr
     .rw [hh] at hr
      simp only [Gh]
      by_cases hx : k = p.1
      .simp only [hx, decide_true, aaH] at hr
       rw [if_pos hx, <- hr, h2]
      .simp only [hx, decide_false] at hr
       rw [if_neg hx]
       exact ih q (i + 1) r h3 hr
theorem ED (K : Ob P t enc) (k : κ) (es : List MapEntry) (l : List (κ × adS)) (h : es.map (fun e => (e.key, e.val)) = l.map (fun p => (enc p.1, p.2))) :
 (Instr.findKey t (enc k) es).run P w = .ok (Gh k l 0) w := by
 obtain ⟨d, hd, hn⟩ := K.now
 unfold Instr.findKey
 simp only [underlying, Sem.run_bind, run_program, Result.andThen_ok, hd, Sem.run_pure]
 cases hr : Instr.findNow d (enc k) es 0 with
 | none => exact ON K k es l 0 h
 | some r => rw [Qn hn k es l 0 r h hr] <;> rfl
theorem X8 {kt et : TypeId} {i : TypeInfo} {z : adS} (hu : P.underlying t = some (.map kt et)) (hi : P.info? et = some i) (hz : i.zero = some z) (K : Ob P kt enc) {m : Nat} {l : List (κ × adS)} (hm : Mp w m enc l) (k : κ) :
 (zZ t (.map (some m)) (enc k) true).run P w = .ok (.value (.tuple #[(HE k l).getD z, .bool (HE k l).isSome])) w := by
 obtain ⟨es, c, hb, he, _⟩ := hm
 unfold zZ; rw [nJ]
 unfold Instr.lookup
 simp only [underlying, Sem.run_bind, run_program, Result.andThen_ok, hu, Sem.run_pure, yH hb, K.chk, ED K k es.toList l he, <- Oq k l 0]
 cases Gh k l 0 with
 | none => simp [zeroValue, typeInfo, hi, hz]
 | some p => simp
omit [DecidableEq κ] in
theorem UK {K : adS -> adR -> Prop} (enc : κ -> adS) (hk : ∀ w', Mp w' w.heap.size enc ([] : List (κ × adS)) -> gT w w' jL -> w'.heap.size = w.heap.size + 1 -> K (.map (some w.heap.size)) w') : eY P (Mm t none) w K := by
 have : (Mm t none).run P w = .ok (.value (.map (some w.heap.size))) (w.alloc (.map #[] 0)) := by
  unfold Mm; rw [nJ]
  simp [Instr.makeMap]
 unfold eY
 rw [this]
 exact hk _ ⟨#[], 0, by show (w.heap.push _)[w.heap.size]? = _; simp, rfl, ⟨by simp, by simp⟩, by simp⟩ (gT.alloc _ _ _) (by simp)
theorem T6 {kt et : TypeId} (hu : P.underlying t = some (.map kt et)) (Ke : Ob P kt enc) {m : Nat} {l : List (κ × adS)} (hm : Mp w m enc l) (k : κ) (v : adS) {K : adS -> adR -> Prop}
 (hk : ∀ w', Mp w' m enc (Sn k v l) -> gT w w' (fun y => y = m) -> w'.heap.size = w.heap.size -> K undef w') : eY P (KE t (.map (some m)) (enc k) v) w K := by
 have hlt := hm.lt
 obtain ⟨es, c, hb, he, hgr, hnd⟩ := hm
 have hext : ∀ o, gT w { w with heap := w.heap.setIfInBounds m o } (fun y => y = m) := fun o =>
  ⟨rfl, rfl, rfl, by simp, fun b hb hn => by
   show (w.heap.setIfInBounds m o)[b]? = _
   rw [Z8 (fun e => hn e.symm)]⟩
 have key : ∃ es' c', (KE t (.map (some m)) (enc k) v).run P w = .ok .skip { w with heap := w.heap.setIfInBounds m (.map es' c') } /\ es'.toList.map (fun e => (e.key, e.val)) = ((Sn k v l).map fun p => (enc p.1, p.2)) /\ Grown es' c' := by
  have gen : ∀ (es : List MapEntry) (l : List (κ × adS)) (i : Nat), es.map (fun e => (e.key, e.val)) = l.map (fun p => (enc p.1, p.2)) →
      (Gh k l i = none -> ∀ b, (es ++ [(⟨enc k, v, b⟩ : MapEntry)]).map (fun e => (e.key, e.val)) = (Sn k v l).map fun p => (enc p.1, p.2)) /\
      (∀ j x, Gh k l i = some (j, x) -> i <= j /\ ∃ old, es[j - i]? = some old /\ old.key = enc k /\ (es.set (j - i) ({ old with key := enc k, val := v } : MapEntry)).map (fun e => (e.key, e.val)) = (Sn k v l).map fun p => (enc p.1, p.2)) := by
   intro es
   induction es with
   | nil =>
     intro l i h
     cases l with
     | nil => exact ⟨fun _ b => rfl, fun j x h => by simp [Gh] at h⟩
     | cons p r => simp at h
   | cons x es ih =>
     intro l i h
     cases l with
     | nil => simp at h
     | cons p r =>
       simp only [Z0, adN, acQ] at h
       obtain ⟨⟨h1, h2⟩, h3⟩ := h
       simp only [Gh, Sn]
       by_cases hx : k = p.1
       .rw [if_pos hx, if_pos hx]
        refine ⟨fun h => by (cases h), fun j y h => ?_⟩
        cases h
        refine ⟨Z2 _, x, by simp, by rw [h1, hx], ?_⟩
        simp [h3]
       .rw [if_neg hx, if_neg hx]
        obtain ⟨a, b⟩ := ih r (i + 1) h3
        refine ⟨fun h q => ?_, fun j y h => ?_⟩
        .simp only [acP, Z0, a h q, h1, h2]
        .obtain ⟨hj, old, o1, o2, o3⟩ := b j y h
         refine ⟨by omega, old, ?_, o2, ?_⟩
         .rw [show j - i = (j - (i + 1)) + 1 from by omega, ZL]; exact o1
         .rw [show j - i = (j - (i + 1)) + 1 from by omega, aaR]
          simp only [Z0, o3, h1, h2]
  obtain ⟨g1, g2⟩ := gen es.toList l 0 he
  unfold KE
  rw [Y5]
  unfold Instr.mapUpdate
  simp only [underlying, Sem.run_bind, run_program, Result.andThen_ok, hu, Sem.run_pure, yH hb, Ke.chk, ED Ke k es.toList l he]
  cases hi : Gh k l 0 with
  | none =>
    refine ⟨es.push ⟨enc k, v, c⟩, c + 1, ?_, by simpa using g1 hi c, SG hgr _ _⟩
    simp only [Hl _ hb, Result.andThen_ok]
  | some q =>
    obtain ⟨j, x⟩ := q
    obtain ⟨_, old, o1, o2, o3⟩ := g2 j x hi
    rw [Nat.sub_zero] at o1 o3
    have o1' : es[j]? = some old := by simpa using o1
    refine ⟨es.modify j fun e => { e with key := enc k, val := v }, c, ?_, ?_, SX hgr ?_⟩
    .simp only [o1', aaS, aaZ, o2, Instr.keyThatStays, Ke.stay, if_true, Sem.run_pure, Result.andThen_ok, Hl _ hb, Sem.run_bind]
    .have hj : j < es.toList.length := by
      rcases aaW j es.toList.length with h | h
      .exact h
      .rw [aaK h] at o1; cases o1
     rw [<- o3]
     congr 1
     apply abW
     intro y
     rw [abZ, abT, adA]
     by_cases hy : j = y
     .subst hy
      have hj' : j < es.size := by simpa using hj
      have e1 : es[j] = old := by rw [Z4 hj'] at o1'; exact abB o1'
      simp [hj', e1]
     .simp [hy]
    .apply abW
     intro y
     rw [aaD, aaD, abZ, abZ, abT]
     split
     .rename_i h; subst h
      cases es[j]? <;> rfl
     .rfl
 obtain ⟨es', c', h1, h2, h3⟩ := key
 unfold eY
 rw [h1]
 refine hk _ ⟨es', c', by show (w.heap.setIfInBounds m _)[m]? = _; rw [Z6 hlt], h2, h3, RN hnd⟩ (hext _) (by simp)
theorem Jz (hu : P.underlying t = some .string) : Ob P t (fun s : ByteArray => Value.string s) := by
 have hb : ∀ a b : ByteArray, (a == b) = decide (a = b) := fun a b => by
  have h1 : (a == b) = (a.data == b.data) := rfl
  rw [h1, Bool.eq_iff_iff, beq_iff_eq, decide_eq_true_eq]
  exact ⟨fun h => by cases a; cases b; simp only at h; rw [h], fun h => h ▸ rfl⟩
 refine ⟨fun a b w => ?_, ⟨_, hu, fun a b => .inr (by simp [Instr.sameNow, hb])⟩, fun c a w => ?_, fun a => ?_⟩
 .unfold Op.equal Op.maxDepth Op.equalIn
  simp only [underlying, Sem.run_bind, run_program, Result.andThen_ok, hu, Sem.run_pure, hb]
 .unfold Instr.checkKey
  simp only [underlying, Sem.run_bind, run_program, Result.andThen_ok, hu, Sem.run_pure]
 .simp [Instr.sameBits, hb]
theorem Tn {d : TypeDesc} {i : TypeInfo} (hu : P.underlying t = some d) (hd : Qs d = true) (hi : P.info? t = some i) {b off : Nat} {l : List adS} (hl : i.size = l.length) (h : ∀ j, j < l.length -> w.cell? ⟨b, off + j, none⟩ = l[j]?) :
 (fK t (.pointer (some ⟨b, off, none⟩))).run P w = .ok (.value (.agg l.toArray)) w := by
 unfold fK
 rw [nJ]
 simp only [Instr.loadAt, Instr.sureAddr, loadVar, pure_bind, Sem.run_bind, CO hu, hd, Result.andThen_ok, if_true, kB hi, hl, L1 h, Sem.run_pure]
end
theorem kI {w : adR} {b : Nat} {cs : List adS} (h : jH w b cs) : jH (dr w) b cs := h.ext (gT.dr w jL) (fun h => h)
theorem Sl.dr {w : adR} {v : adS} {l : List adS} (h : Sl w v l) : Sl (dr w) v l := h
theorem Sl.open {w : adR} {v : adS} {l : List UInt8} (h : Bs w v l) (h0 : 0 < l.length) : ∃ b off c, v = .slice (some ⟨b, off, none⟩) l.length c /\ l.length <= c /\ ∀ i, (h : i < l.length) -> w.cell? ⟨b, off + i, none⟩ = some (nU l[i]) := by
 obtain ⟨a, n, c, rfl, hn, hc, h⟩ := h
 simp only [ZT] at hn
 subst hn
 obtain ⟨b, off, rfl, hh⟩ := h h0
 exact ⟨b, off, c, rfl, hc, fun i hi => by rw [hh i hi]; simp [hi]⟩
theorem Sl.len {w : adR} {v : adS} {l : List adS} (h : Sl w v l) : ∃ a c, v = .slice a l.length c /\ l.length <= c := by
 obtain ⟨a, n, c, rfl, rfl, hc, _⟩ := h
 exact ⟨a, c, rfl, hc⟩
theorem jI (v : adS) : ¬ wC v jL := by unfold wC jL; split <;> simp
theorem Sw {b o m l : Nat} (h : l ≠ m) : jR (some ⟨b, o, none⟩) m l 1 = some ⟨b, o + l, none⟩ := by
 unfold jR; rw [if_neg (fun e => h e.symm)]; simp [B9]
theorem zJ {v : adS} {M N : Nat -> Prop} (h : wC v M) (hm : ∀ b, M b -> N b) : wC v N := by
 unfold wC at *
 split at h
 .exact hm _ h
 .exact h
theorem zF.len {w : adR} {b sz n : Nat} {v : adS} {l : List adS} (h : zF w b sz v n l) : ∃ a c, v = .slice a n c := by
 rcases h.2 with ⟨rfl, rfl⟩ | ⟨x, c, r, rfl, _⟩
 .exact ⟨_, _, rfl⟩
 .exact ⟨_, _, rfl⟩
theorem Sl.nil (w : adR) : Sl w (.slice none 0 0) [] := ⟨none, 0, 0, rfl, rfl, Z2 _, fun h => absurd h (by simp)⟩
theorem jH.whole {w : adR} {b c : Nat} {l : List UInt8} (h : jH w b (l.map nU)) (hc : l.length <= c) : Bs w (.slice (some ⟨b, 0, none⟩) l.length c) l :=
 h.bs hc fun i hi => by rw [ZS]; simp [hi]
theorem Sl.drop' {w : adR} {a : Option Addr} {n c : Nat} {l : List adS} (h : Sl w (.slice a n c) l) {k : Nat} (hk : k <= n) : Sl w (.slice (jR a c k 1) (n - k) (c - k)) (l.drop k) := by
 have h' := h
 obtain ⟨a', n', c', e, hn, hc, hh⟩ := h'
 cases e
 by_cases h0 : n = 0
 .exact ⟨_, _, _, rfl, by rw [Z3]; omega, by omega, fun h => by omega⟩
 .obtain ⟨b, off, rfl, _⟩ := hh (by omega)
  exact h.drop hk
theorem Sl.mid {w : adR} {a : Option Addr} {n c : Nat} {l : List adS} (h : Sl w (.slice a n c) l) {i j : Nat} (hij : i <= j) (hj : j <= n) : Sl w (.slice (jR a c i 1) (j - i) (c - i)) ((l.drop i).take (j - i)) := by
 have h' := h
 obtain ⟨a', n', c', e, hn, hc, hh⟩ := h'
 cases e
 by_cases h0 : j - i = 0
 .rw [h0]
  exact ⟨_, _, _, rfl, by simp, by omega, fun h => by omega⟩
 .obtain ⟨b, off, rfl, _⟩ := hh (by omega)
  have hd := h.drop (k := i) (by omega)
  obtain ⟨a', n', c', e, hn', hc', hh'⟩ := hd
  obtain ⟨b', off', e', h2⟩ := hh' (by have := (Value.slice.inj e).2.1; omega)
  injection e with e1 e2 e3
  subst e3
  refine ⟨_, _, _, rfl, by rw [Z5, Z3]; omega, by omega, fun _ => ⟨b', off', by rw [e1]; exact e', fun x hx => ?_⟩⟩
  rw [h2 x (by omega), abM hx]
theorem Sl.openV {w : adR} {v : adS} {l : List adS} (h : Sl w v l) (h0 : 0 < l.length) : ∃ b off c, v = .slice (some ⟨b, off, none⟩) l.length c /\ l.length <= c /\ ∀ i, (h : i < l.length) -> w.cell? ⟨b, off + i, none⟩ = some l[i] := by
 obtain ⟨a, n, c, rfl, hn, hc, h⟩ := h
 subst hn
 obtain ⟨b, off, rfl, hh⟩ := h h0
 exact ⟨b, off, c, rfl, hc, fun i hi => by rw [hh i hi]; simp [hi]⟩
theorem St {P : Program} {w : adR} {t e : TypeId} {k k' : IntKind} {hi mx : Int} {i : TypeInfo} (hu : P.underlying t = some (.slice e)) (hi' : P.info? e = some i) (x : Option Addr) (n c : Nat) (h0 : 0 <= hi) (h1 : hi <= mx) (h2 : mx <= c) :
 (lL t (.slice x n c) none (some (.int k hi)) (some (.int k' mx))).run P w = .ok (.value (.slice (jR x mx.toNat 0 i.size) (hi.toNat - 0) (mx.toNat - 0))) w := by
 have h3 : (0 : Int) <= mx := by omega
 have h4 : hi <= (mx.toNat : Int) := by omega
 simp only [lL, nJ, Instr.sliceAt, underlying, hu, Sem.run_bind, run_program, Result.andThen_ok, Sem.run_pure, Instr.slice, Instr.sliceBounds, pure_bind, sB h3 h2, sB h0 h4, kB hi', jR]
section
variable {P : Program} {w : adR} {t e : TypeId}
variable {κ : Type} [DecidableEq κ] {enc : κ -> adS}
theorem WS {kt et : TypeId} {i : TypeInfo} {z : adS} (hu : P.underlying t = some (.map kt et)) (hi : P.info? et = some i) (hz : i.zero = some z) (K : Ob P kt enc) {m : Nat} {l : List (κ × adS)} (hm : Mp w m enc l) (k : κ) :
 (zZ t (.map (some m)) (enc k) false).run P w = .ok (.value ((HE k l).getD z)) w := by
 obtain ⟨es, c, hb, he, _⟩ := hm
 unfold zZ; rw [nJ]
 unfold Instr.lookup
 simp only [underlying, Sem.run_bind, run_program, Result.andThen_ok, hu, Sem.run_pure, yH hb, K.chk, ED K k es.toList l he, <- Oq k l 0]
 cases Gh k l 0 with
 | none => simp [zeroValue, typeInfo, hi, hz]
 | some p => simp
def del {κ : Type} [DecidableEq κ] (k : κ) : List (κ × adS) -> List (κ × adS)
 | [] => []
 | p :: r => if k = p.1 then r else p :: del k r
theorem Tx {k : κ} : ∀ l : List (κ × adS), (del k l).Sublist l
 | [] => .slnil
 | p :: r => by
   simp only [del]
   split
   .exact List.sublist_cons_self _ _
   .exact (Tx r).cons_cons p
theorem R8 {k : κ} : ∀ {es : List MapEntry} {l : List (κ × adS)} {i : Nat}, es.map (fun e => (e.key, e.val)) = l.map (fun p => (enc p.1, p.2)) →
 (Gh k l i = none -> del k l = l) /\ (∀ j x, Gh k l i = some (j, x) -> i <= j /\ (es.eraseIdx (j - i)).map (fun e => (e.key, e.val)) = (del k l).map (fun p => (enc p.1, p.2)))
 | es, [], i, h => ⟨fun _ => rfl, fun j x h => by simp [Gh] at h⟩
 | [], p :: r, i, h => by simp at h
 | x :: es, p :: r, i, h => by
   rw [Z0, Z0, adN] at h
   obtain ⟨h1, h2⟩ := h
   simp only [Gh, del]
   by_cases hk : k = p.1
   .rw [if_pos hk, if_pos hk]
    refine ⟨fun h => by (cases h), fun j y h => ?_⟩
    cases h
    exact ⟨Z2 _, by simp [h2]⟩
   .rw [if_neg hk, if_neg hk]
    obtain ⟨a, b⟩ := R8 (k := k) (i := i + 1) h2
    refine ⟨fun h => by rw [a h], fun j y h => ?_⟩
    obtain ⟨c, d⟩ := b j y h
    refine ⟨by omega, ?_⟩
    rw [show j - i = (j - (i + 1)) + 1 from by omega, abE, Z0, Z0, d, h1]
theorem SZ {kt et kt2 ty : TypeId} (hu : P.underlying t = some (.map kt et)) (Ke : Ob P kt enc) {m : Nat} {l : List (κ × adS)} (hm : Mp w m enc l) (k : κ) {K : adS -> adR -> Prop}
 (hk : ∀ w', Mp w' m enc (del k l) -> gT w w' (fun y => y = m) -> w'.heap.size = w.heap.size -> K (.tuple #[]) w') : eY P (mO .delete #[t, kt2] ty [.map (some m), enc k]) w K := by
 have hlt := hm.lt
 obtain ⟨es, c, hb, he, hgr, hnd⟩ := hm
 have hext : ∀ o, gT w { w with heap := w.heap.setIfInBounds m o } (fun y => y = m) := fun o =>
  ⟨rfl, rfl, rfl, by simp, fun b hb hn => by
   show (w.heap.setIfInBounds m o)[b]? = _
   rw [Z8 (fun e => hn e.symm)]⟩
 have key : ∃ es', (mO .delete #[t, kt2] ty [.map (some m), enc k]).run P w = .ok (.value (.tuple #[])) { w with heap := w.heap.setIfInBounds m (.map es' c) } /\ es'.toList.map (fun e => (e.key, e.val)) = ((del k l).map fun p => (enc p.1, p.2)) /\ Grown es' c := by
  obtain ⟨g1, g2⟩ := R8 (k := k) (i := 0) he
  unfold mO builtin
  simp only [Builtin.delete_, abK, ZK, ZL]
  simp only [underlying, Sem.run_bind, run_program, Result.andThen_ok, hu, Sem.run_pure, yH hb, Ke.chk, ED Ke k es.toList l he]
  cases hi : Gh k l 0 with
  | none =>
    refine ⟨es, ?_, by rw [g1 hi]; exact he, hgr⟩
    simp only [Hl _ hb, Result.andThen_ok, Sem.run_pure, Sem.run_bind]
  | some q =>
    obtain ⟨j, x⟩ := q
    obtain ⟨_, g3⟩ := g2 j x hi
    rw [Nat.sub_zero] at g3
    have htl : (es.eraseIdxIfInBounds j).toList = es.toList.eraseIdx j := by
     simp
    refine ⟨es.eraseIdxIfInBounds j, ?_, by rw [htl]; exact g3, ?_, ?_⟩
    .simp only [Hl _ hb, Result.andThen_ok, Sem.run_pure, Sem.run_bind]
    .rw [htl]; exact hgr.1.sublist ((List.eraseIdx_sublist _ _).map _)
    .intro e he'
     rw [htl] at he'
     exact hgr.2 e ((List.eraseIdx_sublist _ _).subset he')
 obtain ⟨es', h1, h2, h3⟩ := key
 unfold eY
 rw [h1]
 exact hk _ ⟨es', c, by show (w.heap.setIfInBounds m _)[m]? = _; rw [Z6 hlt], h2, h3, hnd.sublist ((Tx l).map _)⟩ (hext _) (by simp)
theorem Hy : ∀ {l : List MapEntry} {i : Nat} (hi : i < l.length), (l.map (·.born)).Pairwise (· ≠ ·) -> (l.filter fun e => decide (e.born ≠ (l[i]).born)) = l.eraseIdx i
 | [], i, hi, _ => by simp at hi
 | x :: l, 0, hi, h => by
   rw [Z0, List.pairwise_cons] at h
   rw [List.getElem_cons_zero, List.filter_cons_of_neg (by simp), List.eraseIdx_cons_zero, List.filter_eq_self]
   intro a ha
   have := h.1 a.born (aaU.2 ⟨a, ha, rfl⟩)
   simpa using fun e => this e.symm
 | x :: l, i + 1, hi, h => by
   rw [Z0, List.pairwise_cons] at h
   have hi' : i < l.length := by simpa using hi
   have := h.1 (l[i]).born (aaU.2 ⟨l[i], abG hi', rfl⟩)
   rw [List.getElem_cons_succ, List.filter_cons_of_pos (by simpa using this), abE, Hy hi' h.2]
theorem Ft {α β : Type} (f : α -> β) : ∀ (l : List α) (i : Nat), (l.eraseIdx i).map f = (l.map f).eraseIdx i
 | [], i => by simp
 | x :: l, 0 => by simp
 | x :: l, i + 1 => by rw [abE, Z0, Z0, abE, Ft f l i]
def Xy {κ : Type} (w : adR) (it m : Nat) (enc : κ -> adS) (rest : List (κ × adS)) : Prop :=
 ∃ es clock seen, w.heap[m]? = some (.map es clock) /\ w.heap[it]? = some (.mapIter (some m) clock seen clock) /\ Grown es clock /\
   (es.toList.filter fun e => !seen.contains e.born).map (fun e => (e.key, e.val)) = rest.map fun p => (enc p.1, p.2)
theorem Xy.ext {κ : Type} {w w' : adR} {it m : Nat} {enc : κ -> adS} {rest : List (κ × adS)} {M : Nat -> Prop} (h : Xy w it m enc rest) (hx : gT w w' M) (hm : ¬ M m) (hi : ¬ M it) : Xy w' it m enc rest := by
 obtain ⟨es, c, seen, h1, h2, h3⟩ := h
 have lt : ∀ {b : Nat} {o : Obj}, w.heap[b]? = some o -> b < w.heap.size := fun {b o} h => by
  rcases aaW b w.heap.size with h' | h'
  .exact h'
  .rw [aaI h'] at h; cases h
 exact ⟨es, c, seen, by rw [hx.keep m (lt h1) hm]; exact h1, by rw [hx.keep it (lt h2) hi]; exact h2, h3⟩
theorem PZ : ∀ {l : List MapEntry} {e : MapEntry}, (l.map (·.born)).Pairwise (· < ·) -> e ∈ l -> l.find? (fun x => x.born == e.born) = some e
 | [], e, _, h => by simp at h
 | x :: l, e, hp, h => by
   rw [Z0, List.pairwise_cons] at hp
   rw [List.find?_cons]
   rcases aaN.1 h with rfl | h
   .simp
   .have := hp.1 e.born (aaU.2 ⟨e, h, rfl⟩)
    have hb : (x.born == e.born) = false := by simp; omega
    rw [hb]
    exact PZ hp.2 h
def Yq {κ : Type} (w : adR) (it m : Nat) (enc : κ -> adS) (p : κ × adS) : Prop :=
 ∃ es clock c0 seen e, w.heap[m]? = some (.map es clock) /\ w.heap[it]? = some (.mapIter (some m) c0 seen clock) /\ seen.back? = some e.born /\ es.find? (fun x => x.born == e.born) = some e /\ e.key = enc p.1 /\ e.val = p.2
omit [DecidableEq κ] in
theorem Yq.ext {w w' : adR} {it m : Nat} {p : κ × adS} {M : Nat -> Prop} (h : Yq w it m enc p) (hx : gT w w' M) (hm : ¬ M m) (hi : ¬ M it) : Yq w' it m enc p := by
 obtain ⟨es, c, c0, seen, e, h1, h2, h3⟩ := h
 have lt : ∀ {b : Nat} {o : Obj}, w.heap[b]? = some o -> b < w.heap.size := fun {b o} h => by
  rcases aaW b w.heap.size with h' | h'
  .exact h'
  .rw [aaI h'] at h; cases h
 exact ⟨es, c, c0, seen, e, by rw [hx.keep m (lt h1) hm]; exact h1, by rw [hx.keep it (lt h2) hi]; exact h2, h3⟩
omit [DecidableEq κ] in
theorem Xg {it m : Nat} {p : κ × adS} (h : Yq w it m enc p) : (SV (.pointer (some ⟨it, 0, none⟩))).run P w = .ok (.value (.tuple #[enc p.1, p.2])) w := by
 obtain ⟨es, c, c0, seen, e, h1, h2, h3, h4, h5, h6⟩ := h
 have hgi : (getObj it).run P w = .ok (.mapIter (some m) c0 seen c) w := by simp [getObj, Sem.run, h2]
 unfold SV; rw [nJ]
 simp only [Instr.entry, Sem.run_bind, hgi, Result.andThen_ok, h3, yH h1, bne_self_eq_false, ZM, if_false, h4, Sem.run_pure, h5, h6]
omit [DecidableEq κ] in
theorem Uj {kt et : TypeId} (hu : P.underlying t = some (.map kt et)) {m : Nat} {l : List (κ × adS)} (hm : Mp w m enc l) {K : adS -> adR -> Prop}
 (hk : ∀ w', Xy w' w.heap.size m enc l -> gT w w' jL -> w'.heap.size = w.heap.size + 1 -> K (.pointer (some ⟨w.heap.size, 0, none⟩)) w') : eY P (OA t (.map (some m))) w K := by
 have hlt := hm.lt
 obtain ⟨es, c, hb, he, hgr, hnd⟩ := hm
 have : (OA t (.map (some m))).run P w = .ok (.value (.pointer (some ⟨w.heap.size, 0, none⟩))) (w.alloc (.mapIter (some m) c #[] c)) := by
  unfold OA; rw [nJ]
  simp only [Instr.range, underlying, Sem.run_bind, run_program, Result.andThen_ok, hu, Sem.run_pure, yH hb, run_newObj]
  rfl
 unfold eY
 rw [this]
 refine hk _ ⟨es, c, #[], ?_, ?_, hgr, ?_⟩ (gT.alloc _ _ _) (by simp)
 .show (w.heap.push _)[m]? = _
  rw [Array.getElem?_push, if_neg (by omega)]; exact hb
 .show (w.heap.push _)[w.heap.size]? = _
  simp
 .rw [<- he]
  congr 1
  rw [List.filter_eq_self]
  intro a _
  simp
omit [DecidableEq κ] in
theorem V3 {it m : Nat} {ty : TypeId} {rest : List (κ × adS)} (h : Xy w it m enc rest) (hne : it ≠ m) {K : adS -> adR -> Prop}
 (h0 : rest = [] -> K (.tuple #[.bool false]) w)
 (hk : ∀ w' (j : Nat) (hj : j < rest.length), Xy w' it m enc (rest.eraseIdx j) -> Yq w' it m enc rest[j] -> gT w w' (fun y => y = it) -> w'.heap.size = w.heap.size -> K (.tuple #[.bool true, enc rest[j].1, rest[j].2]) w') :
 eY P (Tm (.pointer (some ⟨it, 0, none⟩)) false ty) w K := by
 obtain ⟨es, c, seen, hm, hi, hgr, hr⟩ := h
 have hlt : it < w.heap.size := by
  rcases aaW it w.heap.size with h' | h'
  .exact h'
  .rw [aaI h'] at hi; cases hi
 have hgi : (getObj it).run P w = .ok (.mapIter (some m) c seen c) w := by simp [getObj, Sem.run, hi]
 have hnot : (!seen.isEmpty && !es.isEmpty && es.all fun e => decide (e.born ≥ c)) = false := by
  cases hes : es.toList with
  | nil =>
    have : es = #[] := by rw [<- Array.toArray_toList (xs := es), hes]
    subst this; simp
  | cons x r =>
    have hx : x ∈ es.toList := by rw [hes]; simp
    have := hgr.2 x hx
    have : (es.all fun e => decide (e.born ≥ c)) = false := by
     rw [Array.all_eq_false']
     exact ⟨x, by simpa using hx, by simp; omega⟩
    rw [this]; simp
 have hold : ((es.filter fun e => !seen.contains e.born).filter fun e => decide (e.born < c)) = es.filter fun e => !seen.contains e.born := by
  rw [Array.filter_eq_self]
  intro a ha
  have := hgr.2 a (by simpa using (Array.mem_filter.1 ha).1)
  simpa using this
 have hnew : ((es.filter fun e => !seen.contains e.born).filter fun e => decide (e.born ≥ c)) = #[] := by
  rw [Array.filter_eq_empty_iff]
  intro a ha
  have := hgr.2 a (by simpa using (Array.mem_filter.1 ha).1)
  simp; omega
 have hll : (es.filter fun e => !seen.contains e.born).toList = es.toList.filter fun e => !seen.contains e.born := by simp
 generalize hL : (es.filter fun e => !seen.contains e.born) = L at *
 have hlen : L.size = rest.length := by
  have := congrArg List.length hr
  rw [ZT, ZT, <- hll] at this
  simpa using this
 have hrun : (Tm (.pointer (some ⟨it, 0, none⟩)) false ty).run P w = ((choose (.mapNext ((if L.isEmpty then #[none] else #[]) ++ (L ++ #[]).map some).size)).run P w).andThen fun i w =>
     ((match ((if L.isEmpty then #[none] else #[]) ++ (L ++ #[]).map some)[i]? with
       | some (some e) => do
         setObj it (.mapIter (some m) c (seen.push e.born) c)
         pure (.tuple #[.bool true, e.key, e.val])
       | some none => pure (.tuple #[.bool false])
       | none => stuck "Next: no such candidate" : Sem adS).run P w).andThen fun v w => .ok (.value v) w := by
  unfold Tm; rw [nJ]
  simp only [Instr.next, Sem.run_bind, hgi, Result.andThen_ok, yH hm, hnot, ZM, if_false, hL, hold, hnew]
  cases (choose (.mapNext ((if L.isEmpty then #[none] else #[]) ++ (L ++ #[]).map some).size)).run P w with
  | ok a w' => rfl
  | _ => rfl
 unfold eY
 rw [hrun]
 by_cases hz : L.size = 0
 .have hLe : L = #[] := Array.eq_empty_of_size_eq_zero hz
  subst hLe
  have hre : rest = [] := aaB.1 (by omega)
  have hf : (Question.mapNext 1).forced = true := rfl
  simp only [Array.isEmpty_empty, if_true, Array.append_empty, Array.map_empty, abV, acB, run_choose, hf]
  exact h0 hre
 .have hLe : L.isEmpty = false := by
   simp [Array.isEmpty]; intro h; subst h; simp at hz
  have hsz : ((if L.isEmpty then #[none] else #[]) ++ (L ++ #[]).map some).size = L.size := by rw [hLe]; simp
  have hat : ∀ i (h : i < L.size), ((if L.isEmpty then #[none] else #[]) ++ (L ++ #[]).map some)[i]? = some (some L[i]) := by
   intro i h; rw [hLe]; simp [h]
  obtain ⟨i, w', hi', hw', hch⟩ : ∃ i w', i < L.size /\ (w' = w ∨ w' = dr w) /\ (choose (.mapNext ((if L.isEmpty then #[none] else #[]) ++ (L ++ #[]).map some).size)).run P w = .ok i w' := by
   rw [hsz, run_choose]
   by_cases hf : (Question.mapNext L.size).forced = true
   .rw [if_pos hf]
    exact ⟨0, w, by omega, .inl rfl, rfl⟩
   .rw [if_neg hf]
    exact ⟨_, dr w, acG _ (by omega), .inr rfl, rfl⟩
  rw [hch]
  have hi2 : w'.heap[it]? = some (.mapIter (some m) c seen c) := by rcases hw' with rfl | rfl <;> exact hi
  have hm2 : w'.heap[m]? = some (.map es c) := by rcases hw' with rfl | rfl <;> exact hm
  have hx0 : gT w w' (fun y => y = it) := by
   rcases hw' with rfl | rfl
   .exact gT.refl _ _
   .exact gT.dr _ _
  have hset : (setObj it (.mapIter (some m) c (seen.push (L[i]).born) c)).run P w' = .ok () { w' with heap := w'.heap.setIfInBounds it (.mapIter (some m) c (seen.push (L[i]).born) c) } := by simp [setObj, Sem.run, hi2]
  simp only [Result.andThen_ok, hat i hi', Sem.run_bind, hset, Sem.run_pure]
  have hri : i < rest.length := by omega
  have hkv : ((L[i]).key, (L[i]).val) = (enc rest[i].1, rest[i].2) := by
   have := congrArg (fun (x : List (adS × adS)) => x[i]?) hr
   simp only [<- hll, aaD] at this
   rw [abZ, Z4 hi', ZU hri] at this
   simpa using this
  obtain ⟨hk1, hk2⟩ := Prod.mk.inj hkv
  have hkk : (Value.tuple #[.bool true, L[i].key, L[i].val]) = .tuple #[.bool true, enc rest[i].1, rest[i].2] := by rw [hk1, hk2]
  rw [hkk]
  have hsize : ({ w' with heap := w'.heap.setIfInBounds it (.mapIter (some m) c (seen.push (L[i]).born) c) } : adR).heap.size = w.heap.size := by
   rcases hw' with rfl | rfl
   .simp
   .simp; rfl
  have hwlt : it < w'.heap.size := by rcases hw' with rfl | rfl <;> exact hlt
  have hwm : ({ w' with heap := w'.heap.setIfInBounds it (.mapIter (some m) c (seen.push (L[i]).born) c) } : adR).heap[m]? = some (.map es c) := by
   show (w'.heap.setIfInBounds it _)[m]? = _
   rw [Z8 hne]; exact hm2
  have hwi : ({ w' with heap := w'.heap.setIfInBounds it (.mapIter (some m) c (seen.push (L[i]).born) c) } : adR).heap[it]? = some (.mapIter (some m) c (seen.push (L[i]).born) c) := by
   show (w'.heap.setIfInBounds it _)[it]? = _
   rw [Z6 hwlt]
  have hmemL : L[i] ∈ es.toList := by
   have hm0 : L[i] ∈ es.filter fun e => !seen.contains e.born := by rw [hL]; exact Array.getElem_mem hi'
   simpa using (Array.mem_filter.1 hm0).1
  have hcur : Yq ({ w' with heap := w'.heap.setIfInBounds it (.mapIter (some m) c (seen.push (L[i]).born) c) } : adR) it m enc rest[i] :=
   ⟨es, c, c, _, L[i], hwm, hwi, by simp, by rw [<- Array.find?_toList]; exact PZ hgr.1 hmemL, hk1, hk2⟩
  refine hk _ i hri ⟨es, c, seen.push (L[i]).born, ?_, ?_, hgr, ?_⟩ hcur (hx0.seq ⟨rfl, rfl, rfl, by simp, fun b hb hn => by
   show (w'.heap.setIfInBounds it _)[b]? = _
   rw [Z8 (fun e => hn e.symm)]⟩) hsize
  .show (w'.heap.setIfInBounds it _)[m]? = _
   rw [Z8 hne]; exact hm2
  .show (w'.heap.setIfInBounds it _)[it]? = _
   rw [Z6 hwlt]
  .
   have hfil : (es.toList.filter fun e => !(seen.push (L[i]).born).contains e.born) = (es.toList.filter fun e => !seen.contains e.born).filter fun e => decide (e.born ≠ (L[i]).born) := by
    rw [List.filter_filter]
    congr 1
    funext e
    simp only [Array.contains_push]
    by_cases h : e.born = (L[i]).born
    .simp [h]
    .have h' : ¬ (L[i]).born = e.born := fun x => h x.symm
     simp [h, h']
   have hLi : L[i] = L.toList[i]'(by simpa using hi') := by simp
   rw [hfil, <- hll, hLi, Hy, Ft, hll, hr, <- Ft]
   rw [hll]
   exact (hgr.1.imp (fun h => acK h)).sublist ((List.filter_sublist).map _)
end
end Go.En
namespace Go.Proofs.YteelnmpbnaohpaaDoor
open Go Go.En
set_option maxRecDepth 4000
theorem eA {ty : TypeId} (x : Option Addr) (n c : Nat) (w : adR) : (mO .len #[22] ty [.slice x n c]).run pg w = .ok (.value (.int .i64 n)) w := Mb Tryd.underlying22 x n c
theorem dV {k : IntKind} (a : Int) (w : adR) : (lC 5 3 (.int k a)).run pg w = .ok (.value (.int .i64 (IntKind.i64.wrap a))) w := Cf Tryd.underlying5 Tryd.underlying3
theorem Q5 : (pg).info? 28 = some Tryd.t28 := by kernel_rfl
theorem rS {w : adR} {K : adS -> adR -> Prop} (hk : ∀ w', jH w' w.heap.size [(.int .u64 0), (.int .u32 0), (.slice none 0 0)] -> gT w w' jL -> w'.heap.size = w.heap.size + 1 -> K (.pointer (some ⟨w.heap.size, 0, none⟩)) w') : eY pg (lP 28) w K := vT (i := Tryd.t28) Q5 rfl hk
theorem qD {b off : Nat} {cs : List adS} {w : adR} {xs : Array adS} {K : adS -> adR -> Prop} (ho : jH w b cs) (hs : xs.size = 3) (hv : ∀ x ∈ xs.toList, one x = true) (h : off + 3 <= cs.length) (hk : ∀ w', jH w' b (nE cs off xs.toList) -> gT w w' (fun x => x = b) -> w'.heap.size = w.heap.size -> K undef w') : eY pg (iF 28 (.pointer (some ⟨b, off, none⟩)) (.agg xs)) w K := CM (v := .agg xs) Q5 ho hs hv h hk
theorem qI {b off : Nat} {cs : List adS} {w : adR} (ho : jH w b cs) (h : off + 3 <= cs.length) : (fK 28 (.pointer (some ⟨b, off, none⟩))).run pg w = .ok (.value (.agg ((cs.drop off).take 3).toArray)) w := G5 Tryd.underlying28 rfl Q5 ho h
theorem XF : (pg).info? 26 = some Tryd.t26 := by kernel_rfl
theorem aB (b o : Nat) (w : adR) : (gM 28 (.pointer (some ⟨b, o, none⟩)) 2).run pg w = .ok (.value (.pointer (some ⟨b, o + 2, none⟩))) w := kO (i := 2) Tryd.underlying28 rfl XF (by decide) _
theorem dE (x : Addr) (w : adR) : (fK 26 (.pointer (some x))).run pg w = NM (w.cell? x) w (Pk pg 26 x w) := JU Tryd.underlying26 rfl x w
theorem dJ {ty : TypeId} (x : Option Addr) (n c : Nat) (w : adR) : (mO .len #[26] ty [.slice x n c]).run pg w = .ok (.value (.int .i64 n)) w := Mb Tryd.underlying26 x n c
theorem I8 : (pg).info? 5 = some Tryd.t5 := by kernel_rfl
theorem cB {k k' : IntKind} {lo hi : Int} (a : Option Addr) (n c : Nat) (w : adR) (h0 : 0 <= lo) (h1 : lo <= hi) (h2 : hi <= c) : (lL 22 (.slice a n c) (some (.int k lo)) (some (.int k' hi)) none).run pg w = .ok (.value (.slice (jR a c (lo.toNat) 1) (hi.toNat - lo.toNat) (c - lo.toNat))) w := Qf Tryd.underlying22 I8 _ n c h0 h1 h2
theorem Kk {l : List UInt8} {v : adS} {w : adR} (h : Bs w v l) : (lC 22 9 v).run pg w = .ok (.value (.string ⟨l.toArray⟩)) w := Vv Tryd.underlying22 Tryd.underlying9 Tryd.underlying5 h
theorem Su : (pg).info? 4 = some Tryd.t4 := by kernel_rfl
theorem Kv {k : IntKind} {n : Int} {w : adR} {K : adS -> adR -> Prop} (h0 : 0 <= n) (hn : 1 * n <= 2 ^ 48) (hk : ∀ w', jH w' w.heap.size (List.replicate n.toNat (.bool false)) -> gT w w' jL -> w'.heap.size = w.heap.size + 1 -> K (.slice (some ⟨w.heap.size, 0, none⟩) n.toNat n.toNat) w') : eY pg (uM 45 (.int k n) (.int k n)) w K := QS (i := Tryd.t4) Tryd.underlying45 Su rfl rfl rfl h0 hn (by omega) hk
theorem eB {k : IntKind} {a : Int} (b o n c : Nat) (w : adR) (h0 : 0 <= a) (h1 : a < n) : (iH 22 (.slice (some ⟨b, o, none⟩) n c) (.int k a)).run pg w = .ok (.value (.pointer (some ⟨b, o + a.toNat, none⟩))) w := Mo rfl Tryd.underlying22 I8 b o n c h0 h1
theorem eS (x : Addr) (w : adR) : (fK 5 (.pointer (some x))).run pg w = NM (w.cell? x) w (Pk pg 5 x w) := JU Tryd.underlying5 rfl x w
theorem eD {k : IntKind} {a : Int} (b o n c : Nat) (w : adR) (h0 : 0 <= a) (h1 : a < n) : (iH 45 (.slice (some ⟨b, o, none⟩) n c) (.int k a)).run pg w = .ok (.value (.pointer (some ⟨b, o + a.toNat, none⟩))) w := Mo rfl Tryd.underlying45 Su b o n c h0 h1
theorem Er {b off : Nat} {cs : List adS} {w : adR} {v : adS} {K : adS -> adR -> Prop} (ho : jH w b cs) (hv : one v = true) (h : off < cs.length) (hk : ∀ w', jH w' b (cs.set off v) -> gT w w' (fun x => x = b) -> w'.heap.size = w.heap.size -> K undef w') : eY pg (iF 4 (.pointer (some ⟨b, off, none⟩)) v) w K := nT Su rfl ho hv h hk
theorem dN {k : IntKind} (a : Int) (w : adR) : (lC 44 3 (.int k a)).run pg w = .ok (.value (.int .i64 (IntKind.i64.wrap a))) w := Cf Tryd.underlying44 Tryd.underlying3
theorem Rd {b off : Nat} {cs : List adS} {w : adR} {v : adS} {K : adS -> adR -> Prop} (ho : jH w b cs) (hv : one v = true) (h : off < cs.length) (hk : ∀ w', jH w' b (cs.set off v) -> gT w w' (fun x => x = b) -> w'.heap.size = w.heap.size -> K undef w') : eY pg (iF 5 (.pointer (some ⟨b, off, none⟩)) v) w K := nT I8 rfl ho hv h hk
theorem eE {ty : TypeId} (x : Option Addr) (n c : Nat) (w : adR) : (mO .len #[45] ty [.slice x n c]).run pg w = .ok (.value (.int .i64 n)) w := Mb Tryd.underlying45 x n c
theorem fA (x : Addr) (w : adR) : (fK 4 (.pointer (some x))).run pg w = NM (w.cell? x) w (Pk pg 4 x w) := JU Tryd.underlying4 rfl x w
theorem LA : (pg).info? 49 = some Tryd.t49 := by kernel_rfl
theorem dG {k : IntKind} {a : Int} (b o n c : Nat) (w : adR) (h0 : 0 <= a) (h1 : a < n) : (iH 26 (.slice (some ⟨b, o, none⟩) n c) (.int k a)).run pg w = .ok (.value (.pointer (some ⟨b, o + a.toNat * 32, none⟩))) w := Mq rfl Tryd.underlying26 LA b o n c h0 h1
theorem MO {b off : Nat} {l : List adS} {w : adR} (hl : l.length = 32) (h : ∀ j, j < l.length -> w.cell? ⟨b, off + j, none⟩ = l[j]?) : (fK 49 (.pointer (some ⟨b, off, none⟩))).run pg w = .ok (.value (.agg l.toArray)) w := Tn Tryd.underlying49 rfl LA hl.symm h
theorem Rg {b off : Nat} {cs : List adS} {w : adR} (ho : jH w b cs) (h : off + 32 <= cs.length) : (fK 49 (.pointer (some ⟨b, off, none⟩))).run pg w = .ok (.value (.agg ((cs.drop off).take 32).toArray)) w := G5 Tryd.underlying49 rfl LA ho h
theorem eI {ox oy : Operand} (c d : Bool) (w : adR) : (gO .neq 4 ox oy (.bool c) (.bool d)).run pg w = .ok (.value (.bool (!(c == d)))) w := XH c d Tryd.underlying4
theorem bR {ox oy : Operand} (x : Option Addr) (w : adR) : (gO .eql 35 ox oy (.pointer x) (.pointer none)).run pg w = .ok (.value (.bool x.isNone)) w := MD Tryd.underlying35 x
theorem EL {n : Nat} {ps : List (Nat × adS)} {cells : Array adS} {w : adR} (h1 : ¬ n * 1 > 2 ^ 24) (h0 : ¬ n * 1 = 0) (hf : Go.Instr.fill (fun j => some (j * 1, 1)) ((Array.range (n * 1)).map ((Tryd.t5.zero.get!).cells[· % (Tryd.t5.zero.get!).cells.size]!)) ps = some cells) {K : adS -> adR -> Prop} (hk : ∀ w', jH w' w.heap.size cells.toList -> gT w w' jL -> w'.heap.size = w.heap.size + 1 -> K (.slice (some ⟨w.heap.size, 0, none⟩) n n) w') : eY pg (iJ 22 n ps) w K := CU (i := Tryd.t5) Tryd.underlying22 I8 rfl h1 h0 hf hk
theorem Qg {b off n c : Nat} {cs : List adS} {w : adR} (ho : jH w b cs) {K : adS -> adR -> Prop} (hk : ∀ w', jH w' b cs -> gT w w' (fun y => y = b) -> w'.heap.size = w.heap.size -> K (.slice (some ⟨b, off, none⟩) n c) w') : eY pg (lC 22 22 (.slice (some ⟨b, off, none⟩) n c)) w K := Xi Tryd.underlying22 Tryd.underlying5 ho hk
theorem JI {b off : Nat} {cs : List adS} {w : adR} (ho : jH w b cs) (h : off + 3 <= cs.length) {K : adS -> Prop} (hk : K (.agg ((cs.drop off).take 3).toArray)) : U3 pg 28 (.pointer (some ⟨b, off, none⟩)) w K := QH Tryd.underlying28 rfl Q5 ho h hk
theorem dL {k : IntKind} (a : Int) (w : adR) : (lC 3 24 (.int k a)).run pg w = .ok (.value (.int .u64 (IntKind.u64.wrap a))) w := Cf Tryd.underlying3 Tryd.underlying24
theorem bC  (w : adR) : (lI 28 []).run pg w = .ok (.value (.agg #[(.int .u64 0), (.int .u32 0), (.slice none 0 0)])) w := by kernel_rfl
theorem dR {k : IntKind} (a : Int) (w : adR) : (lC 3 25 (.int k a)).run pg w = .ok (.value (.int .u32 (IntKind.u32.wrap a))) w := Cf Tryd.underlying3 Tryd.underlying25
theorem aL (n0 : Int) (n1 : Int) (w : adR) : (lI 28 [(0, (.int .u64 n0)), (1, (.int .u32 n1))]).run pg w = .ok (.value (.agg #[(.int .u64 n0), (.int .u32 n1), (.slice none 0 0)])) w := by kernel_rfl
theorem PI : (pg).info? 24 = some Tryd.t24 := by kernel_rfl
theorem aH (b o : Nat) (w : adR) : (gM 28 (.pointer (some ⟨b, o, none⟩)) 0).run pg w = .ok (.value (.pointer (some ⟨b, o, none⟩))) w := kO (i := 0) Tryd.underlying28 rfl PI (by decide) _
theorem eK (x : Addr) (w : adR) : (fK 24 (.pointer (some x))).run pg w = NM (w.cell? x) w (Pk pg 24 x w) := JU Tryd.underlying24 rfl x w
theorem Ps {n : Nat} {ps : List (Nat × adS)} {cells : Array adS} {w : adR} (h1 : ¬ n * 32 > 2 ^ 24) (h0 : ¬ n * 32 = 0) (hf : Go.Instr.fill (fun j => some (j * 32, 32)) ((Array.range (n * 32)).map ((Tryd.t49.zero.get!).cells[· % (Tryd.t49.zero.get!).cells.size]!)) ps = some cells) {K : adS -> adR -> Prop} (hk : ∀ w', jH w' w.heap.size cells.toList -> gT w w' jL -> w'.heap.size = w.heap.size + 1 -> K (.slice (some ⟨w.heap.size, 0, none⟩) n n) w') : eY pg (iJ 26 n ps) w K := CU (i := Tryd.t49) Tryd.underlying26 LA rfl h1 h0 hf hk
theorem wV {base n m : Nat} {ty : TypeId} {w : adR} {v x : adS} {l news : List adS} (h : zF w base 32 v n l) (hx : Cl w 32 x m news) (hone : ∀ y ∈ news, one y = true) (hb : base <= w.heap.size) (hbytes : (n + m) * 32 <= 140737488355328) {K : adS -> adR -> Prop} (hk : ∀ v' w', zF w' base 32 v' (n + m) (l ++ news) -> gT w w' (fun y => base <= y) -> K v' w') : eY pg (mO .append #[26, 26] ty [v, x]) w K := Ki (i := Tryd.t49) Tryd.underlying26 Tryd.underlying26 LA rfl rfl rfl h hx hone hb (by omega) hbytes (by decide) hk
theorem J5 {b off : Nat} {cs : List adS} {w : adR} {v : adS} {K : adS -> adR -> Prop} (ho : jH w b cs) (hv : one v = true) (h : off < cs.length) (hk : ∀ w', jH w' b (cs.set off v) -> gT w w' (fun x => x = b) -> w'.heap.size = w.heap.size -> K undef w') : eY pg (iF 26 (.pointer (some ⟨b, off, none⟩)) v) w K := nT XF rfl ho hv h hk
theorem Kb {w : adR} {K : adS -> adR -> Prop} (hk : ∀ w', Mp w' w.heap.size (fun s : ByteArray => Value.string s) ([] : List (ByteArray × adS)) -> gT w w' jL -> w'.heap.size = w.heap.size + 1 -> K (.map (some w.heap.size)) w') : eY pg (Mm 61 none) w K := UK _ hk
theorem aZ (n0 : Int) (m1 : Option Nat) (m2 : Option Nat) (n3 : Int) (w : adR) : (lI 64 [(0, (.int .i64 n0)), (1, (.map m1)), (2, (.map m2)), (4, (.int .i64 n3))]).run pg w = .ok (.value (.agg #[(.int .i64 n0), (.map m1), (.map m2), (.slice none 0 0), (.int .i64 n3), (.bool false)])) w := by kernel_rfl
theorem cI {ox oy : Operand} (x : Option Addr) (w : adR) : (gO .eql 32 ox oy (.pointer x) (.pointer none)).run pg w = .ok (.value (.bool x.isNone)) w := MD Tryd.underlying32 x
theorem eJ {ty : TypeId} (x : ByteArray) (w : adR) : (mO .len #[9] ty [.string x]).run pg w = .ok (.value (.int .i64 x.size)) w := XP Tryd.underlying9 x
theorem LV : (pg).info? 25 = some Tryd.t25 := by kernel_rfl
theorem aG (b o : Nat) (w : adR) : (gM 28 (.pointer (some ⟨b, o, none⟩)) 1).run pg w = .ok (.value (.pointer (some ⟨b, o + 1, none⟩))) w := kO (i := 1) Tryd.underlying28 rfl LV (by decide) _
theorem eL (x : Addr) (w : adR) : (fK 25 (.pointer (some x))).run pg w = NM (w.cell? x) w (Pk pg 25 x w) := JU Tryd.underlying25 rfl x w
theorem dQ {k : IntKind} (a : Int) (w : adR) : (lC 25 3 (.int k a)).run pg w = .ok (.value (.int .i64 (IntKind.i64.wrap a))) w := Cf Tryd.underlying25 Tryd.underlying3
theorem aR (p0 : Option Addr) (s1 : ByteArray) (Yu YK YE : adS) (w : adR) : (lI 67 [(0, (.pointer p0)), (1, (.string s1)), (2, (.agg #[Yu, YK, YE]))]).run pg w = .ok (.value (.agg #[(.pointer p0), (.string s1), Yu, YK, YE, (.int .u64 0), (.slice none 0 0), (.int .i64 0), (.bool false), (.int .i64 0)])) w := by kernel_rfl
theorem Xr : (pg).info? 45 = some Tryd.t45 := by kernel_rfl
theorem bD (b o : Nat) (w : adR) : (gM 67 (.pointer (some ⟨b, o, none⟩)) 4).run pg w = .ok (.value (.pointer (some ⟨b, o + 6, none⟩))) w := kO (i := 4) Tryd.underlying67 rfl Xr (by decide) _
theorem KL {b off : Nat} {cs : List adS} {w : adR} {v : adS} {K : adS -> adR -> Prop} (ho : jH w b cs) (hv : one v = true) (h : off < cs.length) (hk : ∀ w', jH w' b (cs.set off v) -> gT w w' (fun x => x = b) -> w'.heap.size = w.heap.size -> K undef w') : eY pg (iF 45 (.pointer (some ⟨b, off, none⟩)) v) w K := nT Xr rfl ho hv h hk
theorem eC (x : Addr) (w : adR) : (fK 45 (.pointer (some x))).run pg w = NM (w.cell? x) w (Pk pg 45 x w) := JU Tryd.underlying45 rfl x w
theorem bG (b o : Nat) (w : adR) : (gM 67 (.pointer (some ⟨b, o, none⟩)) 6).run pg w = .ok (.value (.pointer (some ⟨b, o + 8, none⟩))) w := kO (i := 6) Tryd.underlying67 rfl Su (by decide) _
theorem bF {ty : TypeId} (x : Option Addr) (n c : Nat) (w : adR) : (mO .len #[72] ty [.slice x n c]).run pg w = .ok (.value (.int .i64 n)) w := Mb Tryd.underlying72 x n c
theorem Og : (pg).info? 77 = some Tryd.t77 := by kernel_rfl
theorem bJ {k : IntKind} {a : Int} (b o n c : Nat) (w : adR) (h0 : 0 <= a) (h1 : a < n) : (iH 72 (.slice (some ⟨b, o, none⟩) n c) (.int k a)).run pg w = .ok (.value (.pointer (some ⟨b, o + a.toNat * 2, none⟩))) w := Mq rfl Tryd.underlying72 Og b o n c h0 h1
theorem LL {b off : Nat} {l : List adS} {w : adR} (hl : l.length = 2) (h : ∀ j, j < l.length -> w.cell? ⟨b, off + j, none⟩ = l[j]?) : (fK 77 (.pointer (some ⟨b, off, none⟩))).run pg w = .ok (.value (.agg l.toArray)) w := Tn Tryd.underlying77 rfl Og hl.symm h
theorem uA {b off : Nat} {cs : List adS} {w : adR} (ho : jH w b cs) (h : off + 2 <= cs.length) : (fK 77 (.pointer (some ⟨b, off, none⟩))).run pg w = .ok (.value (.agg ((cs.drop off).take 2).toArray)) w := G5 Tryd.underlying77 rfl Og ho h
theorem Ba {w : adR} {K : adS -> adR -> Prop} (hk : ∀ w', jH w' w.heap.size [(.int .u8 0), (.int .u64 0)] -> gT w w' jL -> w'.heap.size = w.heap.size + 1 -> K (.pointer (some ⟨w.heap.size, 0, none⟩)) w') : eY pg (lP 77) w K := vT (i := Tryd.t77) Og rfl hk
theorem Az {b off : Nat} {cs : List adS} {w : adR} {xs : Array adS} {K : adS -> adR -> Prop} (ho : jH w b cs) (hs : xs.size = 2) (hv : ∀ x ∈ xs.toList, one x = true) (h : off + 2 <= cs.length) (hk : ∀ w', jH w' b (nE cs off xs.toList) -> gT w w' (fun x => x = b) -> w'.heap.size = w.heap.size -> K undef w') : eY pg (iF 77 (.pointer (some ⟨b, off, none⟩)) (.agg xs)) w K := CM (v := .agg xs) Og ho hs hv h hk
theorem aP (b o : Nat) (w : adR) : (gM 77 (.pointer (some ⟨b, o, none⟩)) 0).run pg w = .ok (.value (.pointer (some ⟨b, o, none⟩))) w := kO (i := 0) Tryd.underlying77 rfl I8 (by decide) _
theorem aM (b o : Nat) (w : adR) : (gM 77 (.pointer (some ⟨b, o, none⟩)) 1).run pg w = .ok (.value (.pointer (some ⟨b, o + 1, none⟩))) w := kO (i := 1) Tryd.underlying77 rfl PI (by decide) _
theorem cG (x : Addr) (w : adR) : (fK 35 (.pointer (some x))).run pg w = NM (w.cell? x) w (Pk pg 35 x w) := JU Tryd.underlying35 rfl x w
theorem fH (x : Addr) (w : adR) : (fK 3 (.pointer (some x))).run pg w = NM (w.cell? x) w (Pk pg 3 x w) := JU Tryd.underlying3 rfl x w
theorem dY (x : Addr) (w : adR) : (fK 22 (.pointer (some x))).run pg w = NM (w.cell? x) w (Pk pg 22 x w) := JU Tryd.underlying22 rfl x w
theorem cJ (b o : Nat) (w : adR) : (gM 67 (.pointer (some ⟨b, o, none⟩)) 2).run pg w = .ok (.value (.pointer (some ⟨b, o + 2, none⟩))) w := kO (i := 2) Tryd.underlying67 rfl Q5 (by decide) _
theorem PA {w : adR} {K : adS -> adR -> Prop} (hk : ∀ w', jH w' w.heap.size [(.int .u64 0)] -> gT w w' jL -> w'.heap.size = w.heap.size + 1 -> K (.pointer (some ⟨w.heap.size, 0, none⟩)) w') : eY pg (lP 24) w K := vT (i := Tryd.t24) PI rfl hk
theorem Ju {b off : Nat} {cs : List adS} {w : adR} {v : adS} {K : adS -> adR -> Prop} (ho : jH w b cs) (hv : one v = true) (h : off < cs.length) (hk : ∀ w', jH w' b (cs.set off v) -> gT w w' (fun x => x = b) -> w'.heap.size = w.heap.size -> K undef w') : eY pg (iF 24 (.pointer (some ⟨b, off, none⟩)) v) w K := nT PI rfl ho hv h hk
theorem YG : (pg).info? 32 = some Tryd.t32 := by kernel_rfl
theorem cA (b o : Nat) (w : adR) : (gM 67 (.pointer (some ⟨b, o, none⟩)) 0).run pg w = .ok (.value (.pointer (some ⟨b, o, none⟩))) w := kO (i := 0) Tryd.underlying67 rfl YG (by decide) _
theorem dB (x : Addr) (w : adR) : (fK 32 (.pointer (some x))).run pg w = NM (w.cell? x) w (Pk pg 32 x w) := JU Tryd.underlying32 rfl x w
theorem Xz : (pg).info? 39 = some Tryd.t39 := by kernel_rfl
theorem Ac {n : Nat} {ps : List (Nat × adS)} {cells : Array adS} {w : adR} (h1 : ¬ n * 1 > 2 ^ 24) (h0 : ¬ n * 1 = 0) (hf : Go.Instr.fill (fun j => some (j * 1, 1)) ((Array.range (n * 1)).map ((Tryd.t39.zero.get!).cells[· % (Tryd.t39.zero.get!).cells.size]!)) ps = some cells) {K : adS -> adR -> Prop} (hk : ∀ w', jH w' w.heap.size cells.toList -> gT w w' jL -> w'.heap.size = w.heap.size + 1 -> K (.slice (some ⟨w.heap.size, 0, none⟩) n n) w') : eY pg (iJ 98 n ps) w K := CU (i := Tryd.t39) Tryd.underlying98 Xz rfl h1 h0 hf hk
theorem Wf : (pg).info? 29 = some Tryd.t29 := by kernel_rfl
theorem cH (b o : Nat) (w : adR) : (gM 67 (.pointer (some ⟨b, o, none⟩)) 7).run pg w = .ok (.value (.pointer (some ⟨b, o + 9, none⟩))) w := kO (i := 7) Tryd.underlying67 rfl Wf (by decide) _
theorem CH {b off : Nat} {cs : List adS} {w : adR} {v : adS} {K : adS -> adR -> Prop} (ho : jH w b cs) (hv : one v = true) (h : off < cs.length) (hk : ∀ w', jH w' b (cs.set off v) -> gT w w' (fun x => x = b) -> w'.heap.size = w.heap.size -> K undef w') : eY pg (iF 29 (.pointer (some ⟨b, off, none⟩)) v) w K := nT Wf rfl ho hv h hk
theorem dT (x : Addr) (w : adR) : (fK 29 (.pointer (some x))).run pg w = NM (w.cell? x) w (Pk pg 29 x w) := JU Tryd.underlying29 rfl x w
theorem XY : (pg).info? 9 = some Tryd.t9 := by kernel_rfl
theorem bB (b o : Nat) (w : adR) : (gM 67 (.pointer (some ⟨b, o, none⟩)) 1).run pg w = .ok (.value (.pointer (some ⟨b, o + 1, none⟩))) w := kO (i := 1) Tryd.underlying67 rfl XY (by decide) _
theorem eM (x : Addr) (w : adR) : (fK 9 (.pointer (some x))).run pg w = NM (w.cell? x) w (Pk pg 9 x w) := JU Tryd.underlying9 rfl x w
theorem VN : (pg).info? 61 = some Tryd.t61 := by kernel_rfl
theorem bX (b o : Nat) (w : adR) : (gM 64 (.pointer (some ⟨b, o, none⟩)) 2).run pg w = .ok (.value (.pointer (some ⟨b, o + 2, none⟩))) w := kO (i := 2) Tryd.underlying64 rfl VN (by decide) _
theorem dS (x : Addr) (w : adR) : (fK 61 (.pointer (some x))).run pg w = NM (w.cell? x) w (Pk pg 61 x w) := JU Tryd.underlying61 rfl x w
theorem Qb : (pg).info? 22 = some Tryd.t22 := by kernel_rfl
theorem Bn {w : adR} {m : Nat} {l : List (ByteArray × adS)} (hm : Mp w m (fun s : ByteArray => Value.string s) l) (k : ByteArray) : (zZ 61 (.map (some m)) ((fun s : ByteArray => Value.string s) k) true).run pg w = .ok (.value (.tuple #[(HE k l).getD (.slice none 0 0), .bool (HE k l).isSome])) w := X8 Tryd.underlying61 Qb rfl (Jz Tryd.underlying9) hm k
theorem NL {w : adR} {m : Nat} {l : List (ByteArray × adS)} (hm : Mp w m (fun s : ByteArray => Value.string s) l) (k : ByteArray) : (zZ 61 (.map (some m)) ((fun s : ByteArray => Value.string s) k) false).run pg w = .ok (.value ((HE k l).getD (.slice none 0 0))) w := WS Tryd.underlying61 Qb rfl (Jz Tryd.underlying9) hm k
theorem bQ {ox oy : Operand} (x : Option Addr) (w : adR) : (gO .neq 35 ox oy (.pointer x) (.pointer none)).run pg w = .ok (.value (.bool (!x.isNone))) w := VJ Tryd.underlying35 x
theorem bA (b o : Nat) (w : adR) : (gM 67 (.pointer (some ⟨b, o, none⟩)) 3).run pg w = .ok (.value (.pointer (some ⟨b, o + 5, none⟩))) w := kO (i := 3) Tryd.underlying67 rfl PI (by decide) _
theorem Q0 : (pg).info? 3 = some Tryd.t3 := by kernel_rfl
theorem bT (b o : Nat) (w : adR) : (gM 64 (.pointer (some ⟨b, o, none⟩)) 0).run pg w = .ok (.value (.pointer (some ⟨b, o, none⟩))) w := kO (i := 0) Tryd.underlying64 rfl Q0 (by decide) _
theorem aC (n0 : Int) (s1 : ByteArray) (n2 : Int) (a3 : Option Addr) (l3 c3 : Nat) (w : adR) : (lI 88 [(0, (.int .i64 n0)), (1, (.string s1)), (3, (.int .i64 n2)), (4, (.slice a3 l3 c3))]).run pg w = .ok (.value (.agg #[(.int .i64 n0), (.string s1), (.string ⟨#[]⟩), (.int .i64 n2), (.slice a3 l3 c3)])) w := by kernel_rfl
theorem ID {b off : Nat} {cs : List adS} {w : adR} (ho : jH w b cs) (h : off + 32 <= cs.length) {K : adS -> Prop} (hk : K (.agg ((cs.drop off).take 32).toArray)) : U3 pg 49 (.pointer (some ⟨b, off, none⟩)) w K := QH Tryd.underlying49 rfl LA ho h hk
theorem Hk {w : adR} {K : adS -> adR -> Prop} (hk : ∀ w', jH w' w.heap.size [(.int .u8 0), (.int .u8 0), (.int .u8 0), (.int .u8 0), (.int .u8 0), (.int .u8 0), (.int .u8 0), (.int .u8 0), (.int .u8 0), (.int .u8 0), (.int .u8 0), (.int .u8 0), (.int .u8 0), (.int .u8 0), (.int .u8 0), (.int .u8 0), (.int .u8 0), (.int .u8 0), (.int .u8 0), (.int .u8 0), (.int .u8 0), (.int .u8 0), (.int .u8 0), (.int .u8 0), (.int .u8 0), (.int .u8 0), (.int .u8 0), (.int .u8 0), (.int .u8 0), (.int .u8 0), (.int .u8 0), (.int .u8 0)] -> gT w w' jL -> w'.heap.size = w.heap.size + 1 -> K (.pointer (some ⟨w.heap.size, 0, none⟩)) w') : eY pg (lP 49) w K := vT (i := Tryd.t49) LA rfl hk
theorem BM {base n m : Nat} {ty : TypeId} {w : adR} {v x : adS} {l news : List adS} (h : zF w base 1 v n l) (hx : Cl w 1 x m news) (hone : ∀ y ∈ news, one y = true) (hb : base <= w.heap.size) (hbytes : (n + m) * 1 <= 140737488355328) {K : adS -> adR -> Prop} (hk : ∀ v' w', zF w' base 1 v' (n + m) (l ++ news) -> gT w w' (fun y => base <= y) -> K v' w') : eY pg (mO .append #[22, 22] ty [v, x]) w K := Ki (i := Tryd.t5) Tryd.underlying22 Tryd.underlying22 I8 rfl rfl rfl h hx hone hb (by omega) hbytes (by decide) hk
theorem I4 {b off : Nat} {cs : List adS} {w : adR} {xs : Array adS} {K : adS -> adR -> Prop} (ho : jH w b cs) (hs : xs.size = 32) (hv : ∀ x ∈ xs.toList, one x = true) (h : off + 32 <= cs.length) (hk : ∀ w', jH w' b (nE cs off xs.toList) -> gT w w' (fun x => x = b) -> w'.heap.size = w.heap.size -> K undef w') : eY pg (iF 49 (.pointer (some ⟨b, off, none⟩)) (.agg xs)) w K := CM (v := .agg xs) LA ho hs hv h hk
theorem bU (b o : Nat) (w : adR) : (gM 64 (.pointer (some ⟨b, o, none⟩)) 1).run pg w = .ok (.value (.pointer (some ⟨b, o + 1, none⟩))) w := kO (i := 1) Tryd.underlying64 rfl VN (by decide) _
theorem Po {b off : Nat} {cs : List adS} {w : adR} {v : adS} {K : adS -> adR -> Prop} (ho : jH w b cs) (hv : one v = true) (h : off < cs.length) (hk : ∀ w', jH w' b (cs.set off v) -> gT w w' (fun x => x = b) -> w'.heap.size = w.heap.size -> K undef w') : eY pg (iF 61 (.pointer (some ⟨b, off, none⟩)) v) w K := nT VN rfl ho hv h hk
theorem Xu : (pg).info? 62 = some Tryd.t62 := by kernel_rfl
theorem bP (b o : Nat) (w : adR) : (gM 64 (.pointer (some ⟨b, o, none⟩)) 3).run pg w = .ok (.value (.pointer (some ⟨b, o + 3, none⟩))) w := kO (i := 3) Tryd.underlying64 rfl Xu (by decide) _
theorem BX {b off : Nat} {cs : List adS} {w : adR} {v : adS} {K : adS -> adR -> Prop} (ho : jH w b cs) (hv : one v = true) (h : off < cs.length) (hk : ∀ w', jH w' b (cs.set off v) -> gT w w' (fun x => x = b) -> w'.heap.size = w.heap.size -> K undef w') : eY pg (iF 62 (.pointer (some ⟨b, off, none⟩)) v) w K := nT Xu rfl ho hv h hk
theorem cF {ox oy : Operand} (x : Option Addr) (w : adR) : (gO .neq 32 ox oy (.pointer x) (.pointer none)).run pg w = .ok (.value (.bool (!x.isNone))) w := VJ Tryd.underlying32 x
theorem bY (b o : Nat) (w : adR) : (gM 64 (.pointer (some ⟨b, o, none⟩)) 4).run pg w = .ok (.value (.pointer (some ⟨b, o + 4, none⟩))) w := kO (i := 4) Tryd.underlying64 rfl Q0 (by decide) _
theorem KC {b off : Nat} {cs : List adS} {w : adR} {v : adS} {K : adS -> adR -> Prop} (ho : jH w b cs) (hv : one v = true) (h : off < cs.length) (hk : ∀ w', jH w' b (cs.set off v) -> gT w w' (fun x => x = b) -> w'.heap.size = w.heap.size -> K undef w') : eY pg (iF 3 (.pointer (some ⟨b, off, none⟩)) v) w K := nT Q0 rfl ho hv h hk
theorem aU (x : Addr) (w : adR) : (fK 62 (.pointer (some x))).run pg w = NM (w.cell? x) w (Pk pg 62 x w) := JU Tryd.underlying62 rfl x w
theorem aV {ty : TypeId} (x : Option Addr) (n c : Nat) (w : adR) : (mO .len #[62] ty [.slice x n c]).run pg w = .ok (.value (.int .i64 n)) w := Mb Tryd.underlying62 x n c
theorem TQ : (pg).info? 88 = some Tryd.t88 := by kernel_rfl
theorem aX {k : IntKind} {a : Int} (b o n c : Nat) (w : adR) (h0 : 0 <= a) (h1 : a < n) : (iH 62 (.slice (some ⟨b, o, none⟩) n c) (.int k a)).run pg w = .ok (.value (.pointer (some ⟨b, o + a.toNat * 5, none⟩))) w := Mq rfl Tryd.underlying62 TQ b o n c h0 h1
theorem Df {b off : Nat} {cs : List adS} {w : adR} (ho : jH w b cs) (h : off + 5 <= cs.length) : (fK 88 (.pointer (some ⟨b, off, none⟩))).run pg w = .ok (.value (.agg ((cs.drop off).take 5).toArray)) w := G5 Tryd.underlying88 rfl TQ ho h
theorem bV (b o : Nat) (w : adR) : (gM 64 (.pointer (some ⟨b, o, none⟩)) 5).run pg w = .ok (.value (.pointer (some ⟨b, o + 5, none⟩))) w := kO (i := 5) Tryd.underlying64 rfl Su (by decide) _
theorem dD {k : IntKind} (a : Int) (w : adR) : (lC 24 3 (.int k a)).run pg w = .ok (.value (.int .i64 (IntKind.i64.wrap a))) w := Cf Tryd.underlying24 Tryd.underlying3
theorem cP {ox oy : Operand} (x : Option Addr) (n c : Nat) (w : adR) : (gO .eql 26 ox oy (.slice x n c) (.slice none 0 0)).run pg w = .ok (.value (.bool x.isNone)) w := QB Tryd.underlying26 x n c
theorem bO (b o : Nat) (w : adR) : (gM 67 (.pointer (some ⟨b, o, none⟩)) 5).run pg w = .ok (.value (.pointer (some ⟨b, o + 7, none⟩))) w := kO (i := 5) Tryd.underlying67 rfl Q0 (by decide) _
theorem aY (n0 : Int) (n1 : Int) (w : adR) : (lI 77 [(0, (.int .u8 n0)), (1, (.int .u64 n1))]).run pg w = .ok (.value (.agg #[(.int .u8 n0), (.int .u64 n1)])) w := by kernel_rfl
theorem Nf {k : IntKind} {n : Int} {w : adR} {K : adS -> adR -> Prop} (h0 : 0 <= n) (hn : 1 * n <= 2 ^ 48) (hk : ∀ w', jH w' w.heap.size (List.replicate n.toNat (.int .u8 0)) -> gT w w' jL -> w'.heap.size = w.heap.size + 1 -> K (.slice (some ⟨w.heap.size, 0, none⟩) n.toNat n.toNat) w') : eY pg (uM 22 (.int k n) (.int k n)) w K := QS (i := Tryd.t5) Tryd.underlying22 I8 rfl rfl rfl h0 hn (by omega) hk
theorem aN {ty : TypeId} (x : Option Addr) (n c : Nat) (w : adR) : (mO .len #[98] ty [.slice x n c]).run pg w = .ok (.value (.int .i64 n)) w := Mb Tryd.underlying98 x n c
theorem aK {k : IntKind} {a : Int} (b o n c : Nat) (w : adR) (h0 : 0 <= a) (h1 : a < n) : (iH 98 (.slice (some ⟨b, o, none⟩) n c) (.int k a)).run pg w = .ok (.value (.pointer (some ⟨b, o + a.toNat, none⟩))) w := Mo rfl Tryd.underlying98 Xz b o n c h0 h1
theorem bH (x : Addr) (w : adR) : (fK 39 (.pointer (some x))).run pg w = NM (w.cell? x) w (Pk pg 39 x w) := JU Tryd.underlying39 rfl x w
theorem aD (n0 : Int) (s1 : ByteArray) (s2 : ByteArray) (w : adR) : (lI 88 [(0, (.int .i64 n0)), (1, (.string s1)), (2, (.string s2))]).run pg w = .ok (.value (.agg #[(.int .i64 n0), (.string s1), (.string s2), (.int .i64 0), (.slice none 0 0)])) w := by kernel_rfl
theorem dC {ox oy : Operand} (x : Option Addr) (n c : Nat) (w : adR) : (gO .eql 22 ox oy (.slice x n c) (.slice none 0 0)).run pg w = .ok (.value (.bool x.isNone)) w := QB Tryd.underlying22 x n c
theorem Pd {w : adR} {m : Nat} {l : List (ByteArray × adS)} (hm : Mp w m (fun s : ByteArray => Value.string s) l) {K : adS -> adR -> Prop} (hk : ∀ w', Xy w' w.heap.size m (fun s : ByteArray => Value.string s) l -> gT w w' jL -> w'.heap.size = w.heap.size + 1 -> K (.pointer (some ⟨w.heap.size, 0, none⟩)) w') : eY pg (OA 61 (.map (some m))) w K := Uj Tryd.underlying61 hm hk
theorem Iz {n : Nat} {ps : List (Nat × adS)} {cells : Array adS} {w : adR} (h1 : ¬ n * 5 > 2 ^ 24) (h0 : ¬ n * 5 = 0) (hf : Go.Instr.fill (fun j => some (j * 5, 5)) ((Array.range (n * 5)).map ((Tryd.t88.zero.get!).cells[· % (Tryd.t88.zero.get!).cells.size]!)) ps = some cells) {K : adS -> adR -> Prop} (hk : ∀ w', jH w' w.heap.size cells.toList -> gT w w' jL -> w'.heap.size = w.heap.size + 1 -> K (.slice (some ⟨w.heap.size, 0, none⟩) n n) w') : eY pg (iJ 62 n ps) w K := CU (i := Tryd.t88) Tryd.underlying62 TQ rfl h1 h0 hf hk
theorem dW {ox oy : Operand} (x : Option Addr) (n c : Nat) (w : adR) : (gO .eql 45 ox oy (.slice x n c) (.slice none 0 0)).run pg w = .ok (.value (.bool x.isNone)) w := QB Tryd.underlying45 x n c
theorem KD {base n m : Nat} {ty : TypeId} {w : adR} {v x : adS} {l news : List adS} (h : zF w base 1 v n l) (hx : Cl w 1 x m news) (hone : ∀ y ∈ news, one y = true) (hb : base <= w.heap.size) (hbytes : (n + m) * 1 <= 140737488355328) {K : adS -> adR -> Prop} (hk : ∀ v' w', zF w' base 1 v' (n + m) (l ++ news) -> gT w w' (fun y => base <= y) -> K v' w') : eY pg (mO .append #[45, 45] ty [v, x]) w K := Ki (i := Tryd.t4) Tryd.underlying45 Tryd.underlying45 Su rfl rfl rfl h hx hone hb (by omega) hbytes (by decide) hk
theorem aJ (b o : Nat) (w : adR) : (gM 88 (.pointer (some ⟨b, o, none⟩)) 1).run pg w = .ok (.value (.pointer (some ⟨b, o + 1, none⟩))) w := kO (i := 1) Tryd.underlying88 rfl XY (by decide) _
theorem aI (b o : Nat) (w : adR) : (gM 88 (.pointer (some ⟨b, o, none⟩)) 0).run pg w = .ok (.value (.pointer (some ⟨b, o, none⟩))) w := kO (i := 0) Tryd.underlying88 rfl Q0 (by decide) _
theorem aT (b o : Nat) (w : adR) : (gM 88 (.pointer (some ⟨b, o, none⟩)) 3).run pg w = .ok (.value (.pointer (some ⟨b, o + 3, none⟩))) w := kO (i := 3) Tryd.underlying88 rfl Q0 (by decide) _
theorem aF (b o : Nat) (w : adR) : (gM 88 (.pointer (some ⟨b, o, none⟩)) 4).run pg w = .ok (.value (.pointer (some ⟨b, o + 4, none⟩))) w := kO (i := 4) Tryd.underlying88 rfl Qb (by decide) _
theorem Ey {ty : TypeId} {w : adR} {b off dl c : Nat} {cs : List adS} (ho : jH w b cs) (hl : off + dl <= cs.length) {v : adS} {l : List adS} (h : Sl w v l) (hv : ∀ x ∈ l, one x = true) {K : adS -> adR -> Prop} (hk : ∀ w', jH w' b (nE cs off (l.take (min l.length dl))) -> gT w w' (fun x => x = b) -> w'.heap.size = w.heap.size -> K (.int .i64 (min l.length dl : Nat)) w') : eY pg (mO .copy #[22, 22] ty [.slice (some ⟨b, off, none⟩) dl c, v]) w K := Rr Tryd.underlying22 I8 rfl ho hl h hv hk
theorem cY {k : IntKind} {lo : Int} (a : Option Addr) (n c : Nat) (w : adR) (h0 : 0 <= lo) (h1 : lo <= n) : (lL 22 (.slice a n c) (some (.int k lo)) none none).run pg w = .ok (.value (.slice (jR a c (lo.toNat) 1) (n - lo.toNat) (c - lo.toNat))) w := Sq Tryd.underlying22 I8 _ n c h0 h1
theorem J8 {w : adR} {m : Nat} {l : List (ByteArray × adS)} (hm : Mp w m (fun s : ByteArray => Value.string s) l) (k : ByteArray) (v : adS) {K : adS -> adR -> Prop} (hk : ∀ w', Mp w' m (fun s : ByteArray => Value.string s) (Sn k v l) -> gT w w' (fun y => y = m) -> w'.heap.size = w.heap.size -> K undef w') : eY pg (KE 61 (.map (some m)) ((fun s : ByteArray => Value.string s) k) v) w K := T6 Tryd.underlying61 (Jz Tryd.underlying9) hm k v hk
theorem Kd {ty : TypeId} {w : adR} {m : Nat} {l : List (ByteArray × adS)} (hm : Mp w m (fun s : ByteArray => Value.string s) l) (k : ByteArray) {K : adS -> adR -> Prop} (hk : ∀ w', Mp w' m (fun s : ByteArray => Value.string s) (del k l) -> gT w w' (fun y => y = m) -> w'.heap.size = w.heap.size -> K (.tuple #[]) w') : eY pg (mO .delete #[61, 9] ty [.map (some m), .string k]) w K := SZ Tryd.underlying61 (Jz Tryd.underlying9) hm k hk
theorem aE (b o : Nat) (w : adR) : (gM 88 (.pointer (some ⟨b, o, none⟩)) 2).run pg w = .ok (.value (.pointer (some ⟨b, o + 2, none⟩))) w := kO (i := 2) Tryd.underlying88 rfl XY (by decide) _
theorem Xs : (pg).info? 72 = some Tryd.t72 := by kernel_rfl
theorem JN {w : adR} {K : adS -> adR -> Prop} (hk : ∀ w', jH w' w.heap.size [(.slice none 0 0)] -> gT w w' jL -> w'.heap.size = w.heap.size + 1 -> K (.pointer (some ⟨w.heap.size, 0, none⟩)) w') : eY pg (lP 72) w K := vT (i := Tryd.t72) Xs rfl hk
theorem XI {w : adR} {K : adS -> adR -> Prop} (hk : ∀ w', jH w' w.heap.size [(.int .i64 0)] -> gT w w' jL -> w'.heap.size = w.heap.size + 1 -> K (.pointer (some ⟨w.heap.size, 0, none⟩)) w') : eY pg (lP 3) w K := vT (i := Tryd.t3) Q0 rfl hk
theorem cL {k : IntKind} (a : Int) (w : adR) : (lC 24 5 (.int k a)).run pg w = .ok (.value (.int .u8 (IntKind.u8.wrap a))) w := Cf Tryd.underlying24 Tryd.underlying5
theorem bW  (w : adR) : (lI 77 []).run pg w = .ok (.value (.agg #[(.int .u8 0), (.int .u64 0)])) w := by kernel_rfl
theorem bE (x : Addr) (w : adR) : (fK 72 (.pointer (some x))).run pg w = NM (w.cell? x) w (Pk pg 72 x w) := JU Tryd.underlying72 rfl x w
theorem JH {n : Nat} {ps : List (Nat × adS)} {cells : Array adS} {w : adR} (h1 : ¬ n * 2 > 2 ^ 24) (h0 : ¬ n * 2 = 0) (hf : Go.Instr.fill (fun j => some (j * 2, 2)) ((Array.range (n * 2)).map ((Tryd.t77.zero.get!).cells[· % (Tryd.t77.zero.get!).cells.size]!)) ps = some cells) {K : adS -> adR -> Prop} (hk : ∀ w', jH w' w.heap.size cells.toList -> gT w w' jL -> w'.heap.size = w.heap.size + 1 -> K (.slice (some ⟨w.heap.size, 0, none⟩) n n) w') : eY pg (iJ 72 n ps) w K := CU (i := Tryd.t77) Tryd.underlying72 Og rfl h1 h0 hf hk
theorem JL {b off : Nat} {cs : List adS} {w : adR} {v : adS} {K : adS -> adR -> Prop} (ho : jH w b cs) (hv : one v = true) (h : off < cs.length) (hk : ∀ w', jH w' b (cs.set off v) -> gT w w' (fun x => x = b) -> w'.heap.size = w.heap.size -> K undef w') : eY pg (iF 72 (.pointer (some ⟨b, off, none⟩)) v) w K := nT Xs rfl ho hv h hk
theorem aO (n0 : Int) (s1 : ByteArray) (w : adR) : (lI 88 [(0, (.int .i64 n0)), (1, (.string s1))]).run pg w = .ok (.value (.agg #[(.int .i64 n0), (.string s1), (.string ⟨#[]⟩), (.int .i64 0), (.slice none 0 0)])) w := by kernel_rfl
theorem cM {k : IntKind} (a : Int) (w : adR) : (lC 5 24 (.int k a)).run pg w = .ok (.value (.int .u64 (IntKind.u64.wrap a))) w := Cf Tryd.underlying5 Tryd.underlying24
theorem bZ {k : IntKind} (a : Int) (w : adR) : (lC 25 24 (.int k a)).run pg w = .ok (.value (.int .u64 (IntKind.u64.wrap a))) w := Cf Tryd.underlying25 Tryd.underlying24
theorem aA (n0 : Int) (n1 : Int) (n2 : Int) (n3 : Int) (n4 : Int) (n5 : Int) (n6 : Int) (n7 : Int) (w : adR) : (lI 119 [(0, (.int .u32 n0)), (1, (.int .u32 n1)), (2, (.int .u32 n2)), (3, (.int .u32 n3)), (4, (.int .u32 n4)), (5, (.int .u32 n5)), (6, (.int .u32 n6)), (7, (.int .u32 n7))]).run pg w = .ok (.value (.agg #[(.int .u32 n0), (.int .u32 n1), (.int .u32 n2), (.int .u32 n3), (.int .u32 n4), (.int .u32 n5), (.int .u32 n6), (.int .u32 n7)])) w := by kernel_rfl
theorem dF (YY Y3 Yw YX YI YU Yt Y0 : adS) (w : adR) : (lI 122 [(0, (.agg #[YY, Y3, Yw, YX, YI, YU, Yt, Y0]))]).run pg w = .ok (.value (.agg #[YY, Y3, Yw, YX, YI, YU, Yt, Y0, (.int .u8 0), (.int .u8 0), (.int .u8 0), (.int .u8 0), (.int .u8 0), (.int .u8 0), (.int .u8 0), (.int .u8 0), (.int .u8 0), (.int .u8 0), (.int .u8 0), (.int .u8 0), (.int .u8 0), (.int .u8 0), (.int .u8 0), (.int .u8 0), (.int .u8 0), (.int .u8 0), (.int .u8 0), (.int .u8 0), (.int .u8 0), (.int .u8 0), (.int .u8 0), (.int .u8 0), (.int .u8 0), (.int .u8 0), (.int .u8 0), (.int .u8 0), (.int .u8 0), (.int .u8 0), (.int .u8 0), (.int .u8 0), (.int .u8 0), (.int .u8 0), (.int .u8 0), (.int .u8 0), (.int .u8 0), (.int .u8 0), (.int .u8 0), (.int .u8 0), (.int .u8 0), (.int .u8 0), (.int .u8 0), (.int .u8 0), (.int .u8 0), (.int .u8 0), (.int .u8 0), (.int .u8 0), (.int .u8 0), (.int .u8 0), (.int .u8 0), (.int .u8 0), (.int .u8 0), (.int .u8 0), (.int .u8 0), (.int .u8 0), (.int .u8 0), (.int .u8 0), (.int .u8 0), (.int .u8 0), (.int .u8 0), (.int .u8 0), (.int .u8 0), (.int .u8 0), (.int .i64 0), (.int .u64 0)])) w := by kernel_rfl
theorem cU {ox oy : Operand} (x : Option Addr) (w : adR) : (gO .eql 100 ox oy (.pointer x) (.pointer none)).run pg w = .ok (.value (.bool x.isNone)) w := MD Tryd.underlying100 x
theorem cV (b o : Nat) (w : adR) : (gM 122 (.pointer (some ⟨b, o, none⟩)) 3).run pg w = .ok (.value (.pointer (some ⟨b, o + 73, none⟩))) w := kO (i := 3) Tryd.underlying122 rfl PI (by decide) _
theorem V1 : (pg).info? 120 = some Tryd.t120 := by kernel_rfl
theorem cC (b o : Nat) (w : adR) : (gM 122 (.pointer (some ⟨b, o, none⟩)) 1).run pg w = .ok (.value (.pointer (some ⟨b, o + 8, none⟩))) w := kO (i := 1) Tryd.underlying122 rfl V1 (by decide) _
theorem dK (b o : Nat) (w : adR) : (gM 122 (.pointer (some ⟨b, o, none⟩)) 2).run pg w = .ok (.value (.pointer (some ⟨b, o + 72, none⟩))) w := kO (i := 2) Tryd.underlying122 rfl Q0 (by decide) _
theorem cD {k : IntKind} {lo : Int} (b o : Nat) (w : adR) (h0 : 0 <= lo) (h1 : lo <= 64) : (lL 120 (.pointer (some ⟨b, o, none⟩)) (some (.int k lo)) none none).run pg w = .ok (.value (.slice (some (Ce ⟨b, o, none⟩ 64 (lo.toNat) 1)) (64 - lo.toNat) (64 - lo.toNat))) w := MM Tryd.underlying120 I8 _ h0 (by simpa using h1)
theorem OX : (pg).info? 119 = some Tryd.t119 := by kernel_rfl
theorem dM (b o : Nat) (w : adR) : (gM 122 (.pointer (some ⟨b, o, none⟩)) 0).run pg w = .ok (.value (.pointer (some ⟨b, o, none⟩))) w := kO (i := 0) Tryd.underlying122 rfl OX (by decide) _
theorem Fq {b off : Nat} {cs : List adS} {w : adR} (ho : jH w b cs) (h : off + 8 <= cs.length) : (fK 119 (.pointer (some ⟨b, off, none⟩))).run pg w = .ok (.value (.agg ((cs.drop off).take 8).toArray)) w := G5 Tryd.underlying119 rfl OX ho h
theorem Ix {b off : Nat} {cs : List adS} {w : adR} (ho : jH w b cs) (h : off + 64 <= cs.length) : (fK 120 (.pointer (some ⟨b, off, none⟩))).run pg w = .ok (.value (.agg ((cs.drop off).take 64).toArray)) w := G5 Tryd.underlying120 rfl V1 ho h
theorem EP {b off : Nat} {cs : List adS} {w : adR} {xs : Array adS} {K : adS -> adR -> Prop} (ho : jH w b cs) (hs : xs.size = 8) (hv : ∀ x ∈ xs.toList, one x = true) (h : off + 8 <= cs.length) (hk : ∀ w', jH w' b (nE cs off xs.toList) -> gT w w' (fun x => x = b) -> w'.heap.size = w.heap.size -> K undef w') : eY pg (iF 119 (.pointer (some ⟨b, off, none⟩)) (.agg xs)) w K := CM (v := .agg xs) OX ho hs hv h hk
theorem SA : (pg).info? 122 = some Tryd.t122 := by kernel_rfl
theorem Qk {b off : Nat} {cs : List adS} {w : adR} (ho : jH w b cs) (h : off + 74 <= cs.length) : (fK 122 (.pointer (some ⟨b, off, none⟩))).run pg w = .ok (.value (.agg ((cs.drop off).take 74).toArray)) w := G5 Tryd.underlying122 rfl SA ho h
theorem R2 {w : adR} {K : adS -> adR -> Prop} (hk : ∀ w', jH w' w.heap.size [(.int .u32 0), (.int .u32 0), (.int .u32 0), (.int .u32 0), (.int .u32 0), (.int .u32 0), (.int .u32 0), (.int .u32 0), (.int .u8 0), (.int .u8 0), (.int .u8 0), (.int .u8 0), (.int .u8 0), (.int .u8 0), (.int .u8 0), (.int .u8 0), (.int .u8 0), (.int .u8 0), (.int .u8 0), (.int .u8 0), (.int .u8 0), (.int .u8 0), (.int .u8 0), (.int .u8 0), (.int .u8 0), (.int .u8 0), (.int .u8 0), (.int .u8 0), (.int .u8 0), (.int .u8 0), (.int .u8 0), (.int .u8 0), (.int .u8 0), (.int .u8 0), (.int .u8 0), (.int .u8 0), (.int .u8 0), (.int .u8 0), (.int .u8 0), (.int .u8 0), (.int .u8 0), (.int .u8 0), (.int .u8 0), (.int .u8 0), (.int .u8 0), (.int .u8 0), (.int .u8 0), (.int .u8 0), (.int .u8 0), (.int .u8 0), (.int .u8 0), (.int .u8 0), (.int .u8 0), (.int .u8 0), (.int .u8 0), (.int .u8 0), (.int .u8 0), (.int .u8 0), (.int .u8 0), (.int .u8 0), (.int .u8 0), (.int .u8 0), (.int .u8 0), (.int .u8 0), (.int .u8 0), (.int .u8 0), (.int .u8 0), (.int .u8 0), (.int .u8 0), (.int .u8 0), (.int .u8 0), (.int .u8 0), (.int .i64 0), (.int .u64 0)] -> gT w w' jL -> w'.heap.size = w.heap.size + 1 -> K (.pointer (some ⟨w.heap.size, 0, none⟩)) w') : eY pg (lP 122) w K := vT (i := Tryd.t122) SA rfl hk
theorem Qm {b off : Nat} {cs : List adS} {w : adR} {xs : Array adS} {K : adS -> adR -> Prop} (ho : jH w b cs) (hs : xs.size = 74) (hv : ∀ x ∈ xs.toList, one x = true) (h : off + 74 <= cs.length) (hk : ∀ w', jH w' b (nE cs off xs.toList) -> gT w w' (fun x => x = b) -> w'.heap.size = w.heap.size -> K undef w') : eY pg (iF 122 (.pointer (some ⟨b, off, none⟩)) (.agg xs)) w K := CM (v := .agg xs) SA ho hs hv h hk
theorem dU {k : IntKind} {a : Int} (b o : Nat) (w : adR) (h0 : 0 <= a) (h1 : a < 8) : (iH 119 (.pointer (some ⟨b, o, none⟩)) (.int k a)).run pg w = .ok (.value (.pointer (some ⟨b, o + a.toNat, none⟩))) w := Jy rfl Tryd.underlying119 LV b o h0 (by simpa using h1)
theorem cN {k : IntKind} (a : Int) (w : adR) : (lC 25 5 (.int k a)).run pg w = .ok (.value (.int .u8 (IntKind.u8.wrap a))) w := Cf Tryd.underlying25 Tryd.underlying5
theorem eF {k : IntKind} {a : Int} (b o : Nat) (w : adR) (h0 : 0 <= a) (h1 : a < 32) : (iH 49 (.pointer (some ⟨b, o, none⟩)) (.int k a)).run pg w = .ok (.value (.pointer (some ⟨b, o + a.toNat, none⟩))) w := Jy rfl Tryd.underlying49 I8 b o h0 (by simpa using h1)
theorem eN {ox oy : Operand} (c d : Bool) (w : adR) : (gO .eql 4 ox oy (.bool c) (.bool d)).run pg w = .ok (.value (.bool (c == d))) w := Ye c d Tryd.underlying4
theorem bN (a0 : Option Addr) (l0 c0 : Nat) (w : adR) : (lI 126 [(0, (.slice a0 l0 c0))]).run pg w = .ok (.value (.agg #[(.slice a0 l0 c0), (.int .i64 0)])) w := by kernel_rfl
theorem aS {ox oy : Operand} (x : Option Addr) (w : adR) : (gO .eql 109 ox oy (.pointer x) (.pointer none)).run pg w = .ok (.value (.bool x.isNone)) w := MD Tryd.underlying109 x
theorem dZ {k : IntKind} (a : Int) (w : adR) : (lC 3 128 (.int k a)).run pg w = .ok (.value (.int .u64 (IntKind.u64.wrap a))) w := Cf Tryd.underlying3 Tryd.underlying128
theorem bS  (w : adR) : (lI 130 []).run pg w = .ok (.value (.agg #[(.slice none 0 0)])) w := by kernel_rfl
theorem aQ {ox oy : Operand} (x : Option Addr) (w : adR) : (gO .eql 113 ox oy (.pointer x) (.pointer none)).run pg w = .ok (.value (.bool x.isNone)) w := MD Tryd.underlying113 x
theorem bM (b o : Nat) (w : adR) : (gM 130 (.pointer (some ⟨b, o, none⟩)) 0).run pg w = .ok (.value (.pointer (some ⟨b, o, none⟩))) w := kO (i := 0) Tryd.underlying130 rfl Qb (by decide) _
theorem MT {b off : Nat} {cs : List adS} {w : adR} {v : adS} {K : adS -> adR -> Prop} (ho : jH w b cs) (hv : one v = true) (h : off < cs.length) (hk : ∀ w', jH w' b (cs.set off v) -> gT w w' (fun x => x = b) -> w'.heap.size = w.heap.size -> K undef w') : eY pg (iF 22 (.pointer (some ⟨b, off, none⟩)) v) w K := nT Qb rfl ho hv h hk
theorem Pr {b off : Nat} {cs : List adS} {w : adR} (ho : jH w b cs) (h : off + 8 <= cs.length) {K : adS -> Prop} (hk : K (.agg ((cs.drop off).take 8).toArray)) : U3 pg 119 (.pointer (some ⟨b, off, none⟩)) w K := QH Tryd.underlying119 rfl OX ho h hk
theorem Lw {w : adR} {K : adS -> adR -> Prop} (hk : ∀ w', jH w' w.heap.size [(.int .u32 0), (.int .u32 0), (.int .u32 0), (.int .u32 0), (.int .u32 0), (.int .u32 0), (.int .u32 0), (.int .u32 0)] -> gT w w' jL -> w'.heap.size = w.heap.size + 1 -> K (.pointer (some ⟨w.heap.size, 0, none⟩)) w') : eY pg (lP 119) w K := vT (i := Tryd.t119) OX rfl hk
theorem XM : (pg).info? 134 = some Tryd.t134 := by kernel_rfl
theorem OQ {w : adR} {K : adS -> adR -> Prop} (hk : ∀ w', jH w' w.heap.size [(.int .u32 0), (.int .u32 0), (.int .u32 0), (.int .u32 0), (.int .u32 0), (.int .u32 0), (.int .u32 0), (.int .u32 0), (.int .u32 0), (.int .u32 0), (.int .u32 0), (.int .u32 0), (.int .u32 0), (.int .u32 0), (.int .u32 0), (.int .u32 0), (.int .u32 0), (.int .u32 0), (.int .u32 0), (.int .u32 0), (.int .u32 0), (.int .u32 0), (.int .u32 0), (.int .u32 0), (.int .u32 0), (.int .u32 0), (.int .u32 0), (.int .u32 0), (.int .u32 0), (.int .u32 0), (.int .u32 0), (.int .u32 0), (.int .u32 0), (.int .u32 0), (.int .u32 0), (.int .u32 0), (.int .u32 0), (.int .u32 0), (.int .u32 0), (.int .u32 0), (.int .u32 0), (.int .u32 0), (.int .u32 0), (.int .u32 0), (.int .u32 0), (.int .u32 0), (.int .u32 0), (.int .u32 0), (.int .u32 0), (.int .u32 0), (.int .u32 0), (.int .u32 0), (.int .u32 0), (.int .u32 0), (.int .u32 0), (.int .u32 0), (.int .u32 0), (.int .u32 0), (.int .u32 0), (.int .u32 0), (.int .u32 0), (.int .u32 0), (.int .u32 0), (.int .u32 0)] -> gT w w' jL -> w'.heap.size = w.heap.size + 1 -> K (.pointer (some ⟨w.heap.size, 0, none⟩)) w') : eY pg (lP 134) w K := vT (i := Tryd.t134) XM rfl hk
theorem dI {k : IntKind} {a : Int} (cs : Array adS) (w : adR) (h0 : 0 <= a) (h1 : a < 64) : (T0 120 (.agg cs) (.int k a)).run pg w = NM cs[a.toNat]? w (YF pg 120 cs k a w) := X5 Tryd.underlying120 Tryd.underlying5 rfl I8 rfl cs h0 (by simpa using h1)
theorem dA {k : IntKind} {a : Int} (b o : Nat) (w : adR) (h0 : 0 <= a) (h1 : a < 64) : (iH 134 (.pointer (some ⟨b, o, none⟩)) (.int k a)).run pg w = .ok (.value (.pointer (some ⟨b, o + a.toNat, none⟩))) w := Jy rfl Tryd.underlying134 LV b o h0 (by simpa using h1)
theorem cS {k : IntKind} (a : Int) (w : adR) : (lC 5 25 (.int k a)).run pg w = .ok (.value (.int .u32 (IntKind.u32.wrap a))) w := Cf Tryd.underlying5 Tryd.underlying25
theorem yQ {b off : Nat} {cs : List adS} {w : adR} {v : adS} {K : adS -> adR -> Prop} (ho : jH w b cs) (hv : one v = true) (h : off < cs.length) (hk : ∀ w', jH w' b (cs.set off v) -> gT w w' (fun x => x = b) -> w'.heap.size = w.heap.size -> K undef w') : eY pg (iF 25 (.pointer (some ⟨b, off, none⟩)) v) w K := nT LV rfl ho hv h hk
theorem cO {k : IntKind} {lo : Int} (b o : Nat) (w : adR) (h0 : 0 <= lo) (h1 : lo <= 8) : (lL 119 (.pointer (some ⟨b, o, none⟩)) (some (.int k lo)) none none).run pg w = .ok (.value (.slice (some (Ce ⟨b, o, none⟩ 8 (lo.toNat) 1)) (8 - lo.toNat) (8 - lo.toNat))) w := MM Tryd.underlying119 LV _ h0 (by simpa using h1)
theorem cR {k : IntKind} {hi : Int} (b o : Nat) (w : adR) (h0 : 0 <= hi) (h1 : hi <= 8) : (lL 119 (.pointer (some ⟨b, o, none⟩)) none (some (.int k hi)) none).run pg w = .ok (.value (.slice (some (Ce ⟨b, o, none⟩ 8 (0) 1)) (hi.toNat - 0) (8 - 0))) w := Rf Tryd.underlying119 LV _ h0 (by simpa using h1)
theorem Qt {ty : TypeId} {w : adR} {b off dl c : Nat} {cs : List adS} (ho : jH w b cs) (hl : off + dl <= cs.length) {v : adS} {l : List adS} (h : Sl w v l) (hv : ∀ x ∈ l, one x = true) {K : adS -> adR -> Prop} (hk : ∀ w', jH w' b (nE cs off (l.take (min l.length dl))) -> gT w w' (fun x => x = b) -> w'.heap.size = w.heap.size -> K (.int .i64 (min l.length dl : Nat)) w') : eY pg (mO .copy #[136, 136] ty [.slice (some ⟨b, off, none⟩) dl c, v]) w K := Rr Tryd.underlying136 LV rfl ho hl h hv hk
theorem bK (b o : Nat) (w : adR) : (gM 126 (.pointer (some ⟨b, o, none⟩)) 1).run pg w = .ok (.value (.pointer (some ⟨b, o + 1, none⟩))) w := kO (i := 1) Tryd.underlying126 rfl Wf (by decide) _
theorem bL (b o : Nat) (w : adR) : (gM 126 (.pointer (some ⟨b, o, none⟩)) 0).run pg w = .ok (.value (.pointer (some ⟨b, o, none⟩))) w := kO (i := 0) Tryd.underlying126 rfl Qb (by decide) _
theorem cX {k k' : IntKind} {hi mx : Int} (a : Option Addr) (n c : Nat) (w : adR) (h0 : 0 <= hi) (h1 : hi <= mx) (h2 : mx <= c) : (lL 22 (.slice a n c) none (some (.int k hi)) (some (.int k' mx))).run pg w = .ok (.value (.slice (jR a mx.toNat 0 1) (hi.toNat - 0) (mx.toNat - 0))) w := St Tryd.underlying22 I8 a n c h0 h1 h2
theorem dO (n0 : Int) (w : adR) : (lI 138 [(0, (.int .u32 n0))]).run pg w = .ok (.value (.agg #[(.int .u32 n0)])) w := by kernel_rfl
theorem cQ {ox oy : Operand} (x : Option Addr) (w : adR) : (gO .eql 131 ox oy (.pointer x) (.pointer none)).run pg w = .ok (.value (.bool x.isNone)) w := MD Tryd.underlying131 x
theorem dH (b o : Nat) (w : adR) : (gM 138 (.pointer (some ⟨b, o, none⟩)) 0).run pg w = .ok (.value (.pointer (some ⟨b, o, none⟩))) w := kO (i := 0) Tryd.underlying138 rfl LV (by decide) _
theorem cZ {k : IntKind} {a : Int} (b o : Nat) (w : adR) (h0 : 0 <= a) (h1 : a < 16) : (iH 139 (.pointer (some ⟨b, o, none⟩)) (.int k a)).run pg w = .ok (.value (.pointer (some ⟨b, o + a.toNat, none⟩))) w := Jy rfl Tryd.underlying139 LV b o h0 (by simpa using h1)
end Go.Proofs.YteelnmpbnaohpaaDoor
namespace Go.Pu
def Kz (p : Int) : Int := if p < 0 then 1 else p
def fits : Int -> List Int -> Bool
 | left, [] => left == 0
 | left, p :: r => if p < -1 ∨ left < Kz p then false else fits (left - Kz p) r
def QW (ps : List Int) : Int := (ps.map Kz).sum
def Xw (log : Int) (ps : List Int) : Bool := decide (5 <= log /\ log <= 15 /\ 1 <= ps.length /\ ps.length <= 256 /\ ps.getLast? ≠ some 0)
def YV (log : Int) (ps : List Int) : Bool := Xw log ps && fits (2 ^ log.toNat) ps
theorem PH (p : Int) (ps : List Int) : QW (p :: ps) = Kz p + QW ps := by simp [QW]
theorem Pp {p : Int} (h : -1 <= p) : 0 <= Kz p := by unfold Kz; split <;> omega
theorem RU {ps : List Int} (h : ∀ p ∈ ps, -1 <= p) : 0 <= QW ps := by
 induction ps with
 | nil => simp [QW]
 | cons p r ih =>
   rw [PH]
   have := Pp (h p (by simp))
   have := ih fun q hq => h q (Z1 _ hq)
   omega
theorem Ro : ∀ {ps : List Int} {left : Int}, fits left ps = true ↔ (∀ p ∈ ps, -1 <= p) /\ QW ps = left
 | [], left => by simp [fits, QW]; constructor <;> intro h <;> omega
 | p :: r, left => by
   rw [fits, PH]
   by_cases h : p < -1 ∨ left < Kz p
   .rw [if_pos h]
    constructor
    .intro h; cases h
    .rintro ⟨h1, h2⟩
     have hp := h1 p (by simp)
     have := RU (ps := r) fun q hq => h1 q (Z1 _ hq)
     omega
   .rw [if_neg h, Ro]
    constructor
    .rintro ⟨h1, h2⟩
     exact ⟨fun q hq => by rcases aaN.1 hq with rfl | hq; · omega
                           .exact h1 q hq, by omega⟩
    .rintro ⟨h1, h2⟩
     exact ⟨fun q hq => h1 q (Z1 _ hq), by omega⟩
structure Zy (log : Nat) (ps : List Int) : Prop where
 log5 : 5 <= log
 log15 : log <= 15
 len1 : 1 <= ps.length
 len256 : ps.length <= 256
 last : ps.getLast? ≠ some 0
 low : ∀ p ∈ ps, -1 <= p
 sum : QW ps = 2 ^ log
theorem Zy.b {log : Nat} {ps : List Int} (h : Zy log ps) : YV log ps = true := by
 unfold YV Xw
 simp only [ZZ, decide_eq_true_eq]
 have h1 := h.log5
 have h2 := h.log15
 refine ⟨⟨by omega, by omega, h.len1, h.len256, h.last⟩, ?_⟩
 rw [Ro, ZO]
 exact ⟨h.low, h.sum⟩
def pos (n j : Nat) : Nat := (j * (n / 2 + n / 8 + 3)) % n
end Go.Pu
namespace Go.Pu
open Go Go.En
def YP (c : UInt8) : List Bool := (List.range 8).map c.toNat.testBit
def XG : List UInt8 -> List Bool
 | [] => []
 | c :: l => YP c ++ XG l
theorem XK {x i : Nat} (h : x < 2 ^ i) (b : Nat) : x ||| (b * 2 ^ i) = x + 2 ^ i * b := by
 rw [Nat.or_comm, Nat.mul_comm b, <- Nat.two_pow_add_eq_or_of_lt h b, Nat.add_comm]
theorem Wz {a b : Nat} (ha : a < 2 ^ 64) (hb : b < 2 ^ 64) : Yp .u64 (a : Int) (b : Int) = ((a ||| b : Nat) : Int) := by
 have h := Nat.or_lt_two_pow ha hb
 unfold Yp
 have e : IntKind.u64.bits = 64 := rfl
 rw [e, BitVec.ofInt_natCast, BitVec.ofInt_natCast, BitVec.toNat_or, BitVec.toNat_ofNat, BitVec.toNat_ofNat, abN ha, abN hb]
 exact fJ (by omega) (by have : ((a ||| b : Nat) : Int) < ((2 ^ 64 : Nat) : Int) := by exact_mod_cast h
                         omega)
end Go.Pu
namespace Go.Pu
open Go.En
abbrev uF : Nat := 4294967296
theorem To {a b : Nat} (ha : a < uF) (hb : b < uF) : Yp .u32 (a : Int) (b : Int) = ((a ||| b : Nat) : Int) := by
 have h := Nat.or_lt_two_pow (n := 32) ha hb
 unfold Yp
 have e : IntKind.u32.bits = 32 := rfl
 rw [e, BitVec.ofInt_natCast, BitVec.ofInt_natCast, BitVec.toNat_or, BitVec.toNat_ofNat, BitVec.toNat_ofNat, abN ha, abN hb]
 exact fM (by omega) (by have : ((a ||| b : Nat) : Int) < ((2 ^ 32 : Nat) : Int) := by exact_mod_cast h
                         omega)
theorem vN {a b : Nat} (ha : a < uF) (hb : b < uF) : OK .u32 (a : Int) (b : Int) = ((a ^^^ b : Nat) : Int) := by
 have h := Nat.xor_lt_two_pow (n := 32) ha hb
 unfold OK
 have e : IntKind.u32.bits = 32 := rfl
 rw [e, BitVec.ofInt_natCast, BitVec.ofInt_natCast, BitVec.toNat_xor, BitVec.toNat_ofNat, BitVec.toNat_ofNat, abN ha, abN hb]
 exact fM (by omega) (by have : ((a ^^^ b : Nat) : Int) < ((2 ^ 32 : Nat) : Int) := by exact_mod_cast h
                         omega)
theorem Gy {a b : Nat} (ha : a < uF) (hb : b < uF) : UR .u32 (a : Int) (b : Int) = ((a &&& b : Nat) : Int) := by
 have h := Nat.and_lt_two_pow (n := 32) a hb
 unfold UR
 have e : IntKind.u32.bits = 32 := rfl
 rw [e, BitVec.ofInt_natCast, BitVec.ofInt_natCast, BitVec.toNat_and, BitVec.toNat_ofNat, BitVec.toNat_ofNat, abN ha, abN hb]
 exact fM (by omega) (by have : ((a &&& b : Nat) : Int) < ((2 ^ 32 : Nat) : Int) := by exact_mod_cast h
                         omega)
theorem R7 (a : Nat) : IntKind.u32.wrap (a : Int) = ((a % uF : Nat) : Int) := by
 show (a : Int) % 4294967296 = ((a % 4294967296 : Nat) : Int)
 omega
theorem Oe (a b : Nat) : IntKind.u32.wrap ((a : Int) + (b : Int)) = (((a + b) % uF : Nat) : Int) := by
 rw [<- R7]; congr 1
theorem Ra (a k : Nat) : IntKind.u32.wrap ((a : Int) * 2 ^ k) = ((a * 2 ^ k % uF : Nat) : Int) := by
 have e : ((a : Int) * 2 ^ k) = ((a * 2 ^ k : Nat) : Int) := by simp
 rw [e, R7]
theorem OB (a k : Nat) : (a : Int).fdiv (2 ^ k) = ((a / 2 ^ k : Nat) : Int) := by
 rw [Int.fdiv_eq_ediv_of_nonneg _ (by exact Int.le_of_lt (Int.pow_pos (by decide)))]
 simp
theorem Ir {a b : Nat} (ha : a < uF) (hb : b < uF) : a ^^^ b < uF := Nat.xor_lt_two_pow (n := 32) ha hb
theorem Xv {a b : Nat} (ha : a < uF) (hb : b < uF) : a ||| b < uF := Nat.or_lt_two_pow (n := 32) ha hb
theorem Ky (a : Nat) {b : Nat} (hb : b < uF) : a &&& b < uF := Nat.and_lt_two_pow (n := 32) a hb
theorem EH (a : Nat) : a % uF < uF := acG _ (by decide)
theorem OU {a : Nat} (h : a < uF) (k : Nat) : a / 2 ^ k < uF := Nat.lt_of_le_of_lt (Nat.div_le_self _ _) h
def Q3 (x k : Nat) : Nat := (x * 2 ^ (32 - k) % uF) ||| (x / 2 ^ k)
theorem CG {x k : Nat} (h : x < uF) : Q3 x k < uF := Xv (EH _) (OU h k)
def PC (x a b c : Nat) : Nat := Q3 x a ^^^ Q3 x b ^^^ Q3 x c
def Tc (x a b d : Nat) : Nat := Q3 x a ^^^ Q3 x b ^^^ (x / 2 ^ d)
def Sz (b : List UInt8) : Nat -> List Nat
 | 0 => List.replicate 64 0
 | i + 1 => (Sz b i).set (i / 4) (((Sz b i).getD (i / 4) 0 * 2 ^ 8 % uF) ||| (b.getD i 0).toNat)
def T9 (l : List Nat) : Nat -> List Nat
 | 0 => l
 | j + 1 => (T9 l j).set (16 + j) (((((T9 l j).getD j 0 + Tc ((T9 l j).getD (j + 1) 0) 7 18 3) % uF + (T9 l j).getD (j + 9) 0) % uF + Tc ((T9 l j).getD (j + 14) 0) 17 19 10) % uF)
def kN : List Nat := [1116352408, 1899447441, 3049323471, 3921009573, 961987163, 1508970993, 2453635748, 2870763221, 3624381080, 310598401, 607225278, 1426881987, 1925078388, 2162078206, 2614888103, 3248222580, 3835390401, 4022224774, 264347078, 604807628, 770255983, 1249150122, 1555081692, 1996064986, 2554220882, 2821834349, 2952996808, 3210313671, 3336571891, 3584528711, 113926993, 338241895, 666307205, 773529912, 1294757372, 1396182291, 1695183700, 1986661051, 2177026350, 2456956037, 2730485921, 2820302411, 3259730800, 3345764771, 3516065817, 3600352804, 4094571909, 275423344, 430227734, 506948616, 659060556, 883997877, 958139571, 1322822218, 1537002063, 1747873779, 1955562222, 2024104815, 2227730452, 2361852424, 2428436474, 2756734187, 3204031479, 3329325298]
def XS (v : List Nat) (k w : Nat) : Nat :=
 ((((v.getD 7 0 + PC (v.getD 4 0) 6 11 25) % uF + ((v.getD 4 0 &&& v.getD 5 0) ^^^ ((4294967295 ^^^ v.getD 4 0) &&& v.getD 6 0))) % uF + k) % uF + w) % uF
def Y6 (v : List Nat) : Nat := (PC (v.getD 0 0) 2 13 22 + ((v.getD 0 0 &&& v.getD 1 0) ^^^ (v.getD 0 0 &&& v.getD 2 0) ^^^ (v.getD 1 0 &&& v.getD 2 0))) % uF
def RD (v : List Nat) (k w : Nat) : List Nat :=
 [(XS v k w + Y6 v) % uF, v.getD 0 0, v.getD 1 0, v.getD 2 0, (v.getD 3 0 + XS v k w) % uF, v.getD 4 0, v.getD 5 0, v.getD 6 0]
def xC (W : List Nat) (s : List Nat) : Nat -> List Nat
 | 0 => s
 | t + 1 => RD (xC W s t) (kN.getD t 0) (W.getD t 0)
def BI (v s : List Nat) (i : Nat) : List Nat := v.mapIdx fun j x => if j < i then (x + s.getD j 0) % uF else x
def J6 (s : List Nat) (b : List UInt8) : List Nat := BI (xC (T9 (Sz b 64) 48) s 64) s 8
def CJ (l : List Nat) : Prop := ∀ x ∈ l, x < uF
theorem CJ.getD {l : List Nat} (h : CJ l) (i : Nat) : l.getD i 0 < uF := by
 rw [ZW]
 cases e : l[i]? with
 | none => decide
 | some x => exact h x (adK e)
theorem CJ.set {l : List Nat} (h : CJ l) {i x : Nat} (hx : x < uF) : CJ (l.set i x) := fun y hy => by
 rcases List.mem_or_eq_of_mem_set hy with h1 | h1
 .exact h y h1
 .rw [h1]; exact hx
theorem TJ (b : List UInt8) : ∀ i, (Sz b i).length = 64
 | 0 => by simp [Sz]
 | i + 1 => by rw [Sz, acC, TJ b i]
theorem S0 (b : List UInt8) : ∀ i, CJ (Sz b i)
 | 0 => fun x hx => by
   rw [Sz] at hx
   rw [(List.mem_replicate.1 hx).2]; decide
 | i + 1 => by
   have h2 := (b.getD i 0).toNat_lt
   exact (S0 b i).set (Xv (EH _) (by have : uF = 4294967296 := rfl
                                     omega))
theorem Tg (l : List Nat) : ∀ j, (T9 l j).length = l.length
 | 0 => rfl
 | j + 1 => by rw [T9, acC, Tg l j]
theorem Vy {l : List Nat} (h : CJ l) : ∀ j, CJ (T9 l j)
 | 0 => h
 | j + 1 => (Vy h j).set (EH _)
theorem TS (v : List Nat) (k w : Nat) : (RD v k w).length = 8 := rfl
theorem U8 {v : List Nat} (h : CJ v) (k w : Nat) : CJ (RD v k w) := fun x hx => by
 unfold RD at hx
 simp only [aaN, List.not_mem_nil, or_false] at hx
 rcases hx with rfl | rfl | rfl | rfl | rfl | rfl | rfl | rfl
 .exact EH _
 .exact h.getD 0
 .exact h.getD 1
 .exact h.getD 2
 .exact EH _
 .exact h.getD 4
 .exact h.getD 5
 .exact h.getD 6
theorem MS {W s : List Nat} (h : s.length = 8) : ∀ t, (xC W s t).length = 8
 | 0 => h
 | t + 1 => TS _ _ _
theorem KK {W s : List Nat} (h : CJ s) : ∀ t, CJ (xC W s t)
 | 0 => h
 | t + 1 => U8 (KK h t) _ _
theorem Mx (v s : List Nat) (i : Nat) : (BI v s i).length = v.length := by simp [BI]
theorem Sj (v s : List Nat) : BI v s 0 = v := by
 apply adF
 .simp [BI]
 .intro i h1 h2; simp [BI]
theorem TX {v s : List Nat} {i : Nat} (h : i < v.length) : (BI v s i).getD i 0 = v.getD i 0 := by
 rw [ZW, ZW, ZU (by rw [Mx]; exact h), ZU h]
 simp [BI]
theorem Uc {v s : List Nat} {i : Nat} (h : i < v.length) : (BI v s i).set i ((v.getD i 0 + s.getD i 0) % uF) = BI v s (i + 1) := by
 have hv : v.getD i 0 = v[i] := by rw [ZW, ZU h] <;> rfl
 rw [hv]
 apply adF
 .simp [BI]
 .intro j h1 h2
  rw [List.getElem_set]
  simp only [BI, List.getElem_mapIdx]
  by_cases hij : i = j
  .subst hij; simp
  .simp only [hij, if_false]
   by_cases hj : j < i
   .rw [if_pos hj, if_pos (by omega)]
   .rw [if_neg hj, if_neg (by omega)]
theorem Vq {v s : List Nat} (hv : CJ v) (i : Nat) : CJ (BI v s i) := fun x hx => by
 unfold BI at hx
 obtain ⟨j, hj, rfl⟩ := List.mem_mapIdx.1 hx
 split
 .exact EH _
 .exact hv _ (abG hj)
theorem Px {s : List Nat} (b : List UInt8) (h : s.length = 8) : (J6 s b).length = 8 := by unfold J6; rw [Mx, MS h]
theorem VE {s : List Nat} (b : List UInt8) (h : CJ s) : CJ (J6 s b) := Vq (KK h _) _
def V8 : List Nat := [1779033703, 3144134277, 1013904242, 2773480762, 1359893119, 2600822924, 528734635, 1541459225]
def Iy : Nat -> List UInt8 -> List Nat
 | 0, _ => V8
 | k + 1, L => J6 (Iy k L) ((L.drop (64 * k)).take 64)
theorem Bv : ∀ k L, (Iy k L).length = 8
 | 0, _ => rfl
 | k + 1, L => Px _ (Bv k L)
theorem QL : ∀ k L, CJ (Iy k L)
 | 0, _ => by
   show CJ V8
   unfold CJ V8; decide
 | k + 1, L => VE _ (QL k L)
theorem Nd : ∀ k (L M : List UInt8), 64 * k <= L.length -> Iy k (L ++ M) = Iy k L
 | 0, _, _, _ => rfl
 | k + 1, L, M, h => by
   rw [Iy, Iy, Nd k L M (by omega)]
   congr 1
   rw [aaL (by omega), aaJ (by rw [Z3]; omega)]
def Wo (x : Nat) (k : Nat) : List UInt8 := (List.range k).map fun i => UInt8.ofNat (x / 2 ^ (56 - 8 * i) % 256)
theorem TA (x k : Nat) : (Wo x k).length = k := by simp [Wo]
theorem Vl (x k : Nat) : Wo x (k + 1) = Wo x k ++ [UInt8.ofNat (x / 2 ^ (56 - 8 * k) % 256)] := by simp [Wo, adO]
def UM (L : List UInt8) : List UInt8 := L ++ [128] ++ List.replicate ((119 - L.length % 64) % 64) 0 ++ Wo (8 * L.length) 8
def O7 (s : List Nat) (k : Nat) : List UInt8 := (List.range k).map fun i => UInt8.ofNat (s.getD (i / 4) 0 / 2 ^ (24 - i % 4 * 8) % 256)
theorem UP (s : List Nat) (k : Nat) : O7 s (k + 1) = O7 s k ++ [UInt8.ofNat (s.getD (k / 4) 0 / 2 ^ (24 - k % 4 * 8) % 256)] := by simp [O7, adO]
theorem Lv (s : List Nat) (k : Nat) : (O7 s k).length = k := by simp [O7]
def RE (L : List UInt8) : List UInt8 := O7 (Iy ((UM L).length / 64) (UM L)) 32
theorem wT (L : List UInt8) : (RE L).length = 32 := Lv _ _
def gZ (l : List UInt8) : List UInt8 := RE (0 :: l)
def hN : List Nat := [0, 274646895, 549293790, 820201905, 1098587580, 1361435347, 1640403810, 1905808397, 2197175160, 2460548119, 2722870694, 2987750089, 3280807620, 3553878443, 3811616794, 4084100981]
theorem XD : CJ hN := by unfold CJ hN; decide
def PW (x : Nat) : Nat := x / 2 ^ 4 ^^^ hN.getD (x &&& 15) 0
def WX (x : Nat) (c : UInt8) : Nat := PW (PW (x ^^^ c.toNat))
theorem Of {x : Nat} (h : x < uF) : PW x < uF := Ir (OU h _) (XD.getD _)
theorem Jv (c : UInt8) : c.toNat < uF := by
 have := c.toNat_lt
 have : uF = 4294967296 := rfl
 omega
theorem WT {x : Nat} (h : x < uF) (c : UInt8) : WX x c < uF := Of (Of (Ir h (Jv c)))
def Oi (x : Nat) (l : List UInt8) : Nat := l.foldl WX x
theorem Qz {x : Nat} (h : x < uF) (l : List UInt8) : Oi x l < uF := by
 unfold Oi
 induction l generalizing x with
 | nil => exact h
 | cons c l ih => exact ih (WT h c)
theorem TT (x : Nat) (l : List UInt8) (c : UInt8) : Oi x (l ++ [c]) = WX (Oi x l) c := by unfold Oi; rw [List.foldl_append] <;> rfl
def iI (l : List UInt8) : Nat := 4294967295 ^^^ Oi 4294967295 l
theorem Wt (l : List UInt8) : iI l < uF := Ir (by decide) (Qz (by decide) l)
end Go.Pu
namespace Go.Proofs.YteelnmpbnaohpaaDoor
open Go Go.En Go.Pu
set_option maxRecDepth 4000
structure rF (w : adR) : Prop where
 sh : ∀ i, i < 64 -> w.cell? ⟨0, i, none⟩ = some (.int .u32 (kN.getD i 0 : Nat))
 cr : ∀ i, i < 16 -> w.cell? ⟨1, i, none⟩ = some (.int .u32 (hN.getD i 0 : Nat))
theorem CP {w w' : adR} {g i : Nat} {v : adS} {M : Nat -> Prop} (hc : w.cell? ⟨g, i, none⟩ = some v) (x : gT w w' M) (hM : ¬ M g) : w'.cell? ⟨g, i, none⟩ = some v := by
 have hg : g < w.heap.size := by
  rcases aaW g w.heap.size with h | h
  .exact h
  .unfold World.cell? at hc
   rw [aaI h] at hc
   cases hc
 rw [<- hc]
 unfold World.cell?
 rw [x.keep g hg hM]
theorem rF.extM {w w' : adR} {M : Nat -> Prop} (h : rF w) (x : gT w w' M) (h1 : ¬ M 0) (h2 : ¬ M 1) : rF w' :=
 ⟨fun i hi => CP (h.sh i hi) x h1, fun i hi => CP (h.cr i hi) x h2⟩
theorem rF.ext {w w' : adR} (h : rF w) (x : gT w w' jL) : rF w' := h.extM x (fun h => h) (fun h => h)
theorem rF.lt {w : adR} (h : rF w) : 0 < w.heap.size /\ 1 < w.heap.size := by
 have q : ∀ {g : Nat} {v : adS}, w.cell? ⟨g, 0, none⟩ = some v -> g < w.heap.size := fun {g v} hc => by
  rcases aaW g w.heap.size with h | h
  .exact h
  .unfold World.cell? at hc
   rw [aaI h] at hc
   cases hc
 exact ⟨q (h.sh 0 (by omega)), q (h.cr 0 (by omega))⟩
theorem X6 : ∀ k : Fin 31, UR .u64 (IntKind.u64.wrap (-((k.val + 1 : Nat) : Int))) 31 = ((31 - k.val : Nat) : Int) := by decide
theorem XQ : ∀ k : Fin 31, IntKind.u64.wrap (32 - ((31 - k.val : Nat) : Int)) = ((k.val + 1 : Nat) : Int) := by decide
theorem Ou {x k : Nat} (hx : x < uF) (h1 : 1 <= k) (h2 : k <= 31) (w : adR) :
 gS pg jN #[.int .u32 (x : Nat), .int .i64 (-(k : Int))] w (fun r w' => r = .int .u32 (Q3 x k : Nat) /\ w' = w) := by
 refine CE ?_
 have e1 := X6 ⟨k - 1, by omega⟩
 have e2 := XQ ⟨k - 1, by omega⟩
 simp only [show k - 1 + 1 = k from by omega, show 31 - (k - 1) = 32 - k from by omega] at e1 e2
 have m1 : min (32 - k) IntKind.u32.bits = 32 - k := aaM (by have : IntKind.u32.bits = 32 := rfl
                                                             omega)
 have m2 : min k IntKind.u32.bits = k := aaM (by have : IntKind.u32.bits = 32 := rfl
                                                 omega)
 have e3 := Ra x (32 - k)
 have e4 := OB x k
 have e5 := To (a := x * 2 ^ (32 - k) % uF) (b := x / 2 ^ k) (EH _) (OU hx k)
 unfold Aa pL Q3
 simp (disch := omega) only [eY, gN, dX, stepR_skip, fO, gI, fP, gJ, gC, gE, gR, fZ, eU, fX, fU, gD, fR, fN, fW, fS, fV, gK, gG, fQ, fC, fY, gA, fL, iP, iS, iL, iT, iR, iM, iN, iQ, iO, eP, Result.ok.injEq, Next.value.injEq, true_and, and_true, fI, fJ, gB, fM, gH, gQ, ZO, fD, fF, fG, fE, eZ, eT, fB, eX, eQ, eH, if_true, if_false, ZM, ZS, ZN, ZP, ZR, ZQ, ZL, ZK, eA, dV, aB, dE, dJ, cB, eB, eS, eD, dN, eE, fA, dG, eI, bR, dL, bC, dR, aL, aH, eK, aZ, cI, eJ, aG, eL, dQ, aR, bD, eC, bG, bF, bJ, aP, aM, cG, fH, dY, cJ, cA, dB, cH, dT, bB, eM, bX, dS, bQ, bA, bT, aC, bU, bP, cF, bY, aU, aV, aX, bV, dD, cP, bO, aY, aN, aK, bH, aD, dC, dW, aJ, aI, aT, aF, cY, aE, cL, bW, bE, aO, cM, bZ, aA, dF, cU, cV, cC, dK, cD, dM, dU, cN, eF, eN, bN, aS, dZ, bS, aQ, bM, dI, dA, cS, cO, cR, bK, bL, cX, dO, cQ, dH, cZ, e1, e2, m1, m2, e3, e4, e5]
theorem Rh {x a b c : Nat} (hx : x < uF) (ha : 1 <= a /\ a <= 31) (hb : 1 <= b /\ b <= 31) (hc : 1 <= c /\ c <= 31) (w : adR) :
 gS pg Ak #[.int .u32 (x : Nat), .int .i64 (a : Nat), .int .i64 (b : Nat), .int .i64 (c : Nat)] w (fun r w' => r = .int .u32 (PC x a b c : Nat) /\ w' = w) := by
 refine Nn ?_
 unfold OE EX PC
 have n1 : ∀ k : Nat, k <= 31 -> IntKind.i64.wrap (0 - (k : Int)) = -(k : Int) := fun k hk => by rw [Int.zero_sub]; exact fI (by omega) (by omega)
 simp (disch := omega) only [eY, gN, dX, stepR_skip, fO, gI, fP, gJ, gC, gE, gR, fZ, eU, fX, fU, gD, fR, fN, fW, fS, fV, gK, gG, fQ, fC, fY, gA, fL, iP, iS, iL, iT, iR, iM, iN, iQ, iO, eP, Result.ok.injEq, Next.value.injEq, true_and, and_true, fI, fJ, gB, fM, gH, gQ, ZO, fD, fF, fG, fE, eZ, eT, fB, eX, eQ, eH, if_true, if_false, ZM, ZS, ZN, ZP, ZR, ZQ, ZL, ZK, eA, dV, aB, dE, dJ, cB, eB, eS, eD, dN, eE, fA, dG, eI, bR, dL, bC, dR, aL, aH, eK, aZ, cI, eJ, aG, eL, dQ, aR, bD, eC, bG, bF, bJ, aP, aM, cG, fH, dY, cJ, cA, dB, cH, dT, bB, eM, bX, dS, bQ, bA, bT, aC, bU, bP, cF, bY, aU, aV, aX, bV, dD, cP, bO, aY, aN, aK, bH, aD, dC, dW, aJ, aI, aT, aF, cY, aE, cL, bW, bE, aO, cM, bZ, aA, dF, cU, cV, cC, dK, cD, dM, dU, cN, eF, eN, bN, aS, dZ, bS, aQ, bM, dI, dA, cS, cO, cR, bK, bL, cX, dO, cQ, dH, cZ, n1 a ha.2, n1 b hb.2, n1 c hc.2]
 refine (Ou hx ha.1 ha.2 w).mono ?_
 rintro r w1 ⟨rfl, hw⟩
 rw [hw]; clear hw w1
 refine (Ou hx hb.1 hb.2 w).mono ?_
 rintro r w1 ⟨rfl, hw⟩
 rw [hw]; clear hw w1
 have e1 := vN (CG (k := a) hx) (CG (k := b) hx)
 simp (disch := omega) only [eY, gN, dX, stepR_skip, fO, gI, fP, gJ, gC, gE, gR, fZ, eU, fX, fU, gD, fR, fN, fW, fS, fV, gK, gG, fQ, fC, fY, gA, fL, iP, iS, iL, iT, iR, iM, iN, iQ, iO, eP, Result.ok.injEq, Next.value.injEq, true_and, and_true, fI, fJ, gB, fM, gH, gQ, ZO, fD, fF, fG, fE, eZ, eT, fB, eX, eQ, eH, if_true, if_false, ZM, ZS, ZN, ZP, ZR, ZQ, ZL, ZK, eA, dV, aB, dE, dJ, cB, eB, eS, eD, dN, eE, fA, dG, eI, bR, dL, bC, dR, aL, aH, eK, aZ, cI, eJ, aG, eL, dQ, aR, bD, eC, bG, bF, bJ, aP, aM, cG, fH, dY, cJ, cA, dB, cH, dT, bB, eM, bX, dS, bQ, bA, bT, aC, bU, bP, cF, bY, aU, aV, aX, bV, dD, cP, bO, aY, aN, aK, bH, aD, dC, dW, aJ, aI, aT, aF, cY, aE, cL, bW, bE, aO, cM, bZ, aA, dF, cU, cV, cC, dK, cD, dM, dU, cN, eF, eN, bN, aS, dZ, bS, aQ, bM, dI, dA, cS, cO, cR, bK, bL, cX, dO, cQ, dH, cZ, n1 c hc.2, e1]
 refine (Ou hx hc.1 hc.2 w).mono ?_
 rintro r w1 ⟨rfl, hw⟩
 rw [hw]; clear hw w1
 have e2 := vN (Ir (CG (k := a) hx) (CG (k := b) hx)) (CG (k := c) hx)
 simp (disch := omega) only [eY, gN, dX, stepR_skip, fO, gI, fP, gJ, gC, gE, gR, fZ, eU, fX, fU, gD, fR, fN, fW, fS, fV, gK, gG, fQ, fC, fY, gA, fL, iP, iS, iL, iT, iR, iM, iN, iQ, iO, eP, Result.ok.injEq, Next.value.injEq, true_and, and_true, fI, fJ, gB, fM, gH, gQ, ZO, fD, fF, fG, fE, eZ, eT, fB, eX, eQ, eH, if_true, if_false, ZM, ZS, ZN, ZP, ZR, ZQ, ZL, ZK, eA, dV, aB, dE, dJ, cB, eB, eS, eD, dN, eE, fA, dG, eI, bR, dL, bC, dR, aL, aH, eK, aZ, cI, eJ, aG, eL, dQ, aR, bD, eC, bG, bF, bJ, aP, aM, cG, fH, dY, cJ, cA, dB, cH, dT, bB, eM, bX, dS, bQ, bA, bT, aC, bU, bP, cF, bY, aU, aV, aX, bV, dD, cP, bO, aY, aN, aK, bH, aD, dC, dW, aJ, aI, aT, aF, cY, aE, cL, bW, bE, aO, cM, bZ, aA, dF, cU, cV, cC, dK, cD, dM, dU, cN, eF, eN, bN, aS, dZ, bS, aQ, bM, dI, dA, cS, cO, cR, bK, bL, cX, dO, cQ, dH, cZ, e2]
theorem P5 {x a b d : Nat} (hx : x < uF) (ha : 1 <= a /\ a <= 31) (hb : 1 <= b /\ b <= 31) (hd : d <= 31) (w : adR) :
 gS pg Dp #[.int .u32 (x : Nat), .int .i64 (a : Nat), .int .i64 (b : Nat), .int .i64 (d : Nat)] w (fun r w' => r = .int .u32 (Tc x a b d : Nat) /\ gT w w' jL) := by
 refine O5 ?_
 unfold R4 Jf Tc
 have n1 : ∀ k : Nat, k <= 31 -> IntKind.i64.wrap (0 - (k : Int)) = -(k : Int) := fun k hk => by rw [Int.zero_sub]; exact fI (by omega) (by omega)
 have m2 : min d IntKind.u32.bits = d := aaM (by have : IntKind.u32.bits = 32 := rfl
                                                 omega)
 have e4 := OB x d
 simp (disch := omega) only [eY, gN, dX, stepR_skip, fO, gI, fP, gJ, gC, gE, gR, fZ, eU, fX, fU, gD, fR, fN, fW, fS, fV, gK, gG, fQ, fC, fY, gA, fL, iP, iS, iL, iT, iR, iM, iN, iQ, iO, eP, Result.ok.injEq, Next.value.injEq, true_and, and_true, fI, fJ, gB, fM, gH, gQ, ZO, fD, fF, fG, fE, eZ, eT, fB, eX, eQ, eH, if_true, if_false, ZM, ZS, ZN, ZP, ZR, ZQ, ZL, ZK, eA, dV, aB, dE, dJ, cB, eB, eS, eD, dN, eE, fA, dG, eI, bR, dL, bC, dR, aL, aH, eK, aZ, cI, eJ, aG, eL, dQ, aR, bD, eC, bG, bF, bJ, aP, aM, cG, fH, dY, cJ, cA, dB, cH, dT, bB, eM, bX, dS, bQ, bA, bT, aC, bU, bP, cF, bY, aU, aV, aX, bV, dD, cP, bO, aY, aN, aK, bH, aD, dC, dW, aJ, aI, aT, aF, cY, aE, cL, bW, bE, aO, cM, bZ, aA, dF, cU, cV, cC, dK, cD, dM, dU, cN, eF, eN, bN, aS, dZ, bS, aQ, bM, dI, dA, cS, cO, cR, bK, bL, cX, dO, cQ, dH, cZ, n1 a ha.2, n1 b hb.2, m2, e4]
 refine (Ou hx ha.1 ha.2 _).mono ?_
 rintro r w1 ⟨rfl, hw⟩
 rw [hw]; clear hw w1
 refine (Ou hx hb.1 hb.2 _).mono ?_
 rintro r w1 ⟨rfl, hw⟩
 rw [hw]; clear hw w1
 have e1 := vN (CG (k := a) hx) (CG (k := b) hx)
 have e2 := vN (Ir (CG (k := a) hx) (CG (k := b) hx)) (OU hx d)
 simp (disch := omega) only [eY, gN, dX, stepR_skip, fO, gI, fP, gJ, gC, gE, gR, fZ, eU, fX, fU, gD, fR, fN, fW, fS, fV, gK, gG, fQ, fC, fY, gA, fL, iP, iS, iL, iT, iR, iM, iN, iQ, iO, eP, Result.ok.injEq, Next.value.injEq, true_and, and_true, fI, fJ, gB, fM, gH, gQ, ZO, fD, fF, fG, fE, eZ, eT, fB, eX, eQ, eH, if_true, if_false, ZM, ZS, ZN, ZP, ZR, ZQ, ZL, ZK, eA, dV, aB, dE, dJ, cB, eB, eS, eD, dN, eE, fA, dG, eI, bR, dL, bC, dR, aL, aH, eK, aZ, cI, eJ, aG, eL, dQ, aR, bD, eC, bG, bF, bJ, aP, aM, cG, fH, dY, cJ, cA, dB, cH, dT, bB, eM, bX, dS, bQ, bA, bT, aC, bU, bP, cF, bY, aU, aV, aX, bV, dD, cP, bO, aY, aN, aK, bH, aD, dC, dW, aJ, aI, aT, aF, cY, aE, cL, bW, bE, aO, cM, bZ, aA, dF, cU, cV, cC, dK, cD, dM, dU, cN, eF, eN, bN, aS, dZ, bS, aQ, bM, dI, dA, cS, cO, cR, bK, bL, cX, dO, cQ, dH, cZ, n1 b hb.2, m2, e4, e1, e2]
 exact gT.dr _ _
theorem WM {l : List UInt8} {v : adS} {w : adR} (hg : rF w) (hv : Bs w v l) (hl : l.length <= 1000000000) :
 gS pg L4 #[v] w (fun r w' => r = .int .u32 (iI l : Nat) /\ gT w w' jL) := by
 refine Sc ?_
 obtain ⟨RR, hRR⟩ : ∃ RR : adS -> adR -> Prop, RR = fun r w' => r = .int .u32 (iI l : Nat) /\ gT w w' jL := ⟨_, rfl⟩
 rw [<- hRR]
 obtain ⟨hg0, hg1⟩ := hg.lt
 unfold Wa Mh
 refine Qr ?_
 unfold TC Kp
 simp (disch := omega) only [eY, gN, dX, stepR_skip, fO, gI, fP, gJ, gC, gE, gR, fZ, eU, fX, fU, gD, fR, fN, fW, fS, fV, gK, gG, fQ, fC, fY, gA, fL, iP, iS, iL, iT, iR, iM, iN, iQ, iO, eP, Result.ok.injEq, Next.value.injEq, true_and, and_true, fI, fJ, gB, fM, gH, gQ, ZO, fD, fF, fG, fE, eZ, eT, fB, eX, eQ, eH, if_true, if_false, ZM, ZS, ZN, ZP, ZR, ZQ, ZL, ZK, eA, dV, aB, dE, dJ, cB, eB, eS, eD, dN, eE, fA, dG, eI, bR, dL, bC, dR, aL, aH, eK, aZ, cI, eJ, aG, eL, dQ, aR, bD, eC, bG, bF, bJ, aP, aM, cG, fH, dY, cJ, cA, dB, cH, dT, bB, eM, bX, dS, bQ, bA, bT, aC, bU, bP, cF, bY, aU, aV, aX, bV, dD, cP, bO, aY, aN, aK, bH, aD, dC, dW, aJ, aI, aT, aF, cY, aE, cL, bW, bE, aO, cM, bZ, aA, dF, cU, cV, cC, dK, cD, dM, dU, cN, eF, eN, bN, aS, dZ, bS, aQ, bM, dI, dA, cS, cO, cR, bK, bL, cX, dO, cQ, dH, cZ]
 refine oC fun w1 o1 x1 s1 => ?_
 obtain ⟨p, hp⟩ : ∃ p, p = w.heap.size := ⟨_, rfl⟩
 rw [<- hp] at o1 ⊢
 have o1 : jH w1 p [.int .u32 (Oi 4294967295 (l.take 0) : Nat)] := o1
 refine JC ?_
 unfold IC An zX
 obtain ⟨va, vc, rfl, _⟩ := hv.len
 rw [ZT] at hv
 simp (disch := omega) only [eY, gN, dX, stepR_skip, fO, gI, fP, gJ, gC, gE, gR, fZ, eU, fX, fU, gD, fR, fN, fW, fS, fV, gK, gG, fQ, fC, fY, gA, fL, iP, iS, iL, iT, iR, iM, iN, iQ, iO, eP, Result.ok.injEq, Next.value.injEq, true_and, and_true, fI, fJ, gB, fM, gH, gQ, ZO, fD, fF, fG, fE, eZ, eT, fB, eX, eQ, eH, if_true, if_false, ZM, ZS, ZN, ZP, ZR, ZQ, ZL, ZK, eA, dV, aB, dE, dJ, cB, eB, eS, eD, dN, eE, fA, dG, eI, bR, dL, bC, dR, aL, aH, eK, aZ, cI, eJ, aG, eL, dQ, aR, bD, eC, bG, bF, bJ, aP, aM, cG, fH, dY, cJ, cA, dB, cH, dT, bB, eM, bX, dS, bQ, bA, bT, aC, bU, bP, cF, bY, aU, aV, aX, bV, dD, cP, bO, aY, aN, aK, bH, aD, dC, dW, aJ, aI, aT, aF, cY, aE, cL, bW, bE, aO, cM, bZ, aA, dF, cU, cV, cC, dK, cD, dM, dU, cN, eF, eN, bN, aS, dZ, bS, aQ, bM, dI, dA, cS, cO, cR, bK, bL, cX, dO, cQ, dH, cZ, ZT]
 unfold zG zS
 refine kC.rule (fun m (t : adS) w' => ∃ i : Nat, m = l.length - i /\ i <= l.length /\ t = .int .i64 (i : Nat) /\ jH w' p [.int .u32 (Oi 4294967295 (l.take i) : Nat)] /\ gT w1 w' (fun y => y = p)) l.length ⟨0, rfl, by omega, rfl, o1, gT.refl _ _⟩ ?_
 clear o1
 rintro m t w2 ⟨i, rfl, hi, rfl, o2, x2⟩
 unfold tS
 have x02 : gT w w2 jL := x1.trans x2 fun y hy h => by omega
 by_cases hlt : i < l.length
 .have d1 : decide ((i : Int) < (l.length : Int)) = true := by simp; omega
  have hv2 := hv.ext x02 (jI _)
  obtain ⟨b, off, c', hv', hc', hcell⟩ := hv2.openV (by rw [ZT]; omega)
  have g1 := hcell i (by rw [ZT]; exact hlt)
  rw [ZT] at hv'
  cases hv'
  rw [adG] at g1
  obtain ⟨c, hc⟩ : ∃ c, c = l[i]'hlt := ⟨_, rfl⟩
  rw [<- hc] at g1
  simp only [nU] at g1
  have htk : l.take (i + 1) = l.take i ++ [c] := by rw [acZ, ZU hlt, <- hc] <;> rfl
  have hx := Qz (x := 4294967295) (by decide) (l.take i)
  obtain ⟨x, hxx⟩ : ∃ x, x = Oi 4294967295 (l.take i) := ⟨_, rfl⟩
  rw [<- hxx] at hx o2
  have c1 := o2.cell (off := 0)
  simp only [ZK] at c1
  have hcb : c.toNat < 256 := c.toNat_lt
  have e0 : IntKind.u32.wrap ((c.toNat : Nat) : Int) = ((c.toNat : Nat) : Int) := fM (by omega) (by omega)
  have e1 := vN hx (Jv c)
  have hy : x ^^^ c.toNat < uF := Ir hx (Jv c)
  simp (disch := omega) only [eY, gN, dX, stepR_skip, fO, gI, fP, gJ, gC, gE, gR, fZ, eU, fX, fU, gD, fR, fN, fW, fS, fV, gK, gG, fQ, fC, fY, gA, fL, iP, iS, iL, iT, iR, iM, iN, iQ, iO, eP, Result.ok.injEq, Next.value.injEq, true_and, and_true, fI, fJ, gB, fM, gH, gQ, ZO, fD, fF, fG, fE, eZ, eT, fB, eX, eQ, eH, if_true, if_false, ZM, ZS, ZN, ZP, ZR, ZQ, ZL, ZK, eA, dV, aB, dE, dJ, cB, eB, eS, eD, dN, eE, fA, dG, eI, bR, dL, bC, dR, aL, aH, eK, aZ, cI, eJ, aG, eL, dQ, aR, bD, eC, bG, bF, bJ, aP, aM, cG, fH, dY, cJ, cA, dB, cH, dT, bB, eM, bX, dS, bQ, bA, bT, aC, bU, bP, cF, bY, aU, aV, aX, bV, dD, cP, bO, aY, aN, aK, bH, aD, dC, dW, aJ, aI, aT, aF, cY, aE, cL, bW, bE, aO, cM, bZ, aA, dF, cU, cV, cC, dK, cD, dM, dU, cN, eF, eN, bN, aS, dZ, bS, aQ, bM, dI, dA, cS, cO, cR, bK, bL, cX, dO, cQ, dH, cZ, d1, g1, c1, e0, e1]
  refine yQ o2 rfl (by simp) fun w3 o3 x3 s3 => ?_
  simp only [Z7] at o3
  obtain ⟨y, hyy⟩ : ∃ y, y = x ^^^ c.toNat := ⟨_, rfl⟩
  rw [<- hyy] at hy o3
  have b32 : IntKind.u32.bits = 32 := rfl
  have m4 : min (4 : Int).toNat IntKind.u32.bits = 4 := rfl
  have half : ∀ {y : Nat} {w' : adR}, y < uF -> jH w' p [.int .u32 (y : Nat)] -> gT w w' jL →
      w'.cell? ⟨1, y &&& 15, none⟩ = some (.int .u32 (hN.getD (y &&& 15) 0 : Nat)) /\ w'.cell? ⟨p, 0, none⟩ = some (.int .u32 (y : Nat)) /\ UR .u32 (y : Int) 15 = ((y &&& 15 : Nat) : Int) /\ y &&& 15 < 16 /\ (y : Int).fdiv (2 ^ 4) = ((y / 2 ^ 4 : Nat) : Int) /\ OK .u32 ((y / 2 ^ 4 : Nat) : Int) ((hN.getD (y &&& 15) 0 : Nat) : Int) = ((PW y : Nat) : Int) := fun {y w'} hy o x => by
   have h16 : y &&& 15 < 16 := Nat.and_lt_two_pow (n := 4) y (by decide)
   have c := o.cell (off := 0)
   simp only [ZK] at c
   exact ⟨(hg.ext x).cr _ h16, c, Gy (b := 15) hy (by decide), h16, OB y 4, vN (OU hy 4) (XD.getD _)⟩
  have x03 : gT w w3 jL := x02.trans x3 fun y hy h => by omega
  have od := kI o3
  obtain ⟨a1, a2, a3, a4, a5, a6⟩ := half hy od (x03.seq (gT.dr _ _))
  obtain ⟨b1, b2, -, -, -, -⟩ := half hy o3 x03
  obtain ⟨yy, hyd⟩ : ∃ yy, yy = y &&& 15 := ⟨_, rfl⟩
  rw [<- hyd] at a1 a3 a4 a6 b1
  simp (disch := omega) only [eY, gN, dX, stepR_skip, fO, gI, fP, gJ, gC, gE, gR, fZ, eU, fX, fU, gD, fR, fN, fW, fS, fV, gK, gG, fQ, fC, fY, gA, fL, iP, iS, iL, iT, iR, iM, iN, iQ, iO, eP, Result.ok.injEq, Next.value.injEq, true_and, and_true, fI, fJ, gB, fM, gH, gQ, ZO, fD, fF, fG, fE, eZ, eT, fB, eX, eQ, eH, if_true, if_false, ZM, ZS, ZN, ZP, ZR, ZQ, ZL, ZK, eA, dV, aB, dE, dJ, cB, eB, eS, eD, dN, eE, fA, dG, eI, bR, dL, bC, dR, aL, aH, eK, aZ, cI, eJ, aG, eL, dQ, aR, bD, eC, bG, bF, bJ, aP, aM, cG, fH, dY, cJ, cA, dB, cH, dT, bB, eM, bX, dS, bQ, bA, bT, aC, bU, bP, cF, bY, aU, aV, aX, bV, dD, cP, bO, aY, aN, aK, bH, aD, dC, dW, aJ, aI, aT, aF, cY, aE, cL, bW, bE, aO, cM, bZ, aA, dF, cU, cV, cC, dK, cD, dM, dU, cN, eF, eN, bN, aS, dZ, bS, aQ, bM, dI, dA, cS, cO, cR, bK, bL, cX, dO, cQ, dH, cZ, a1, a2, a3, a5, a6, b1, b2, m4]
  refine yQ od rfl (by simp) fun w4 o4 x4 s4 => ?_
  simp only [Z7] at o4
  obtain ⟨z, hz⟩ : ∃ z, z = PW y := ⟨_, rfl⟩
  have hz32 : z < uF := hz ▸ Of hy
  rw [<- hz] at o4
  have x04 : gT w w4 jL := (x03.seq (gT.dr _ _)).trans x4 fun y hy h => by omega
  have oe := kI o4
  obtain ⟨a1, a2, a3, a4, a5, a6⟩ := half hz32 oe (x04.seq (gT.dr _ _))
  obtain ⟨yy, hyd⟩ : ∃ yy, yy = z &&& 15 := ⟨_, rfl⟩
  rw [<- hyd] at a1 a3 a4 a6
  simp (disch := omega) only [eY, gN, dX, stepR_skip, fO, gI, fP, gJ, gC, gE, gR, fZ, eU, fX, fU, gD, fR, fN, fW, fS, fV, gK, gG, fQ, fC, fY, gA, fL, iP, iS, iL, iT, iR, iM, iN, iQ, iO, eP, Result.ok.injEq, Next.value.injEq, true_and, and_true, fI, fJ, gB, fM, gH, gQ, ZO, fD, fF, fG, fE, eZ, eT, fB, eX, eQ, eH, if_true, if_false, ZM, ZS, ZN, ZP, ZR, ZQ, ZL, ZK, eA, dV, aB, dE, dJ, cB, eB, eS, eD, dN, eE, fA, dG, eI, bR, dL, bC, dR, aL, aH, eK, aZ, cI, eJ, aG, eL, dQ, aR, bD, eC, bG, bF, bJ, aP, aM, cG, fH, dY, cJ, cA, dB, cH, dT, bB, eM, bX, dS, bQ, bA, bT, aC, bU, bP, cF, bY, aU, aV, aX, bV, dD, cP, bO, aY, aN, aK, bH, aD, dC, dW, aJ, aI, aT, aF, cY, aE, cL, bW, bE, aO, cM, bZ, aA, dF, cU, cV, cC, dK, cD, dM, dU, cN, eF, eN, bN, aS, dZ, bS, aQ, bM, dI, dA, cS, cO, cR, bK, bL, cX, dO, cQ, dH, cZ, a1, a2, a3, a5, a6, m4]
  refine yQ oe rfl (by simp) fun w5 o5 x5 s5 => ?_
  simp only [Z7] at o5
  refine ⟨l.length - (i + 1), by omega, i + 1, rfl, by omega, rfl, ?_, ((((x2.seq x3).seq (gT.dr _ _)).seq x4).seq (gT.dr _ _)).seq x5⟩
  have e : Oi 4294967295 (l.take (i + 1)) = PW z := by rw [htk, TT, <- hxx, WX, <- hyy, <- hz]
  rw [e]
  exact o5
 have d1 : decide ((i : Int) < (l.length : Int)) = false := by simp; omega
 obtain rfl : i = l.length := by omega
 rw [ZY (Z2 _)] at o2
 simp (disch := omega) only [eY, gN, dX, stepR_skip, fO, gI, fP, gJ, gC, gE, gR, fZ, eU, fX, fU, gD, fR, fN, fW, fS, fV, gK, gG, fQ, fC, fY, gA, fL, iP, iS, iL, iT, iR, iM, iN, iQ, iO, eP, Result.ok.injEq, Next.value.injEq, true_and, and_true, fI, fJ, gB, fM, gH, gQ, ZO, fD, fF, fG, fE, eZ, eT, fB, eX, eQ, eH, if_true, if_false, ZM, ZS, ZN, ZP, ZR, ZQ, ZL, ZK, eA, dV, aB, dE, dJ, cB, eB, eS, eD, dN, eE, fA, dG, eI, bR, dL, bC, dR, aL, aH, eK, aZ, cI, eJ, aG, eL, dQ, aR, bD, eC, bG, bF, bJ, aP, aM, cG, fH, dY, cJ, cA, dB, cH, dT, bB, eM, bX, dS, bQ, bA, bT, aC, bU, bP, cF, bY, aU, aV, aX, bV, dD, cP, bO, aY, aN, aK, bH, aD, dC, dW, aJ, aI, aT, aF, cY, aE, cL, bW, bE, aO, cM, bZ, aA, dF, cU, cV, cC, dK, cD, dM, dU, cN, eF, eN, bN, aS, dZ, bS, aQ, bM, dI, dA, cS, cO, cR, bK, bL, cX, dO, cQ, dH, cZ, d1]
 refine Ly ?_
 unfold Ld B8
 have c1 := o2.cell (off := 0)
 simp only [ZK] at c1
 have hx := Qz (x := 4294967295) (by decide) l
 have g1 : IntKind.u32.signed = false := rfl
 have g2 : IntKind.u32.max = 4294967295 := rfl
 have e2 : OK .u32 (4294967295 : Int) ((Oi 4294967295 l : Nat) : Int) = ((iI l : Nat) : Int) := vN (a := 4294967295) (by decide) hx
 simp (disch := omega) only [eY, gN, dX, stepR_skip, fO, gI, fP, gJ, gC, gE, gR, fZ, eU, fX, fU, gD, fR, fN, fW, fS, fV, gK, gG, fQ, fC, fY, gA, fL, iP, iS, iL, iT, iR, iM, iN, iQ, iO, eP, Result.ok.injEq, Next.value.injEq, true_and, and_true, fI, fJ, gB, fM, gH, gQ, ZO, fD, fF, fG, fE, eZ, eT, fB, eX, eQ, eH, if_true, if_false, ZM, ZS, ZN, ZP, ZR, ZQ, ZL, ZK, eA, dV, aB, dE, dJ, cB, eB, eS, eD, dN, eE, fA, dG, eI, bR, dL, bC, dR, aL, aH, eK, aZ, cI, eJ, aG, eL, dQ, aR, bD, eC, bG, bF, bJ, aP, aM, cG, fH, dY, cJ, cA, dB, cH, dT, bB, eM, bX, dS, bQ, bA, bT, aC, bU, bP, cF, bY, aU, aV, aX, bV, dD, cP, bO, aY, aN, aK, bH, aD, dC, dW, aJ, aI, aT, aF, cY, aE, cL, bW, bE, aO, cM, bZ, aA, dF, cU, cV, cC, dK, cD, dM, dU, cN, eF, eN, bN, aS, dZ, bS, aQ, bM, dI, dA, cS, cO, cR, bK, bL, cX, dO, cQ, dH, cZ, c1, g1, g2, e2]
 rw [hRR]
 exact ⟨rfl, x02⟩
end Go.Proofs.YteelnmpbnaohpaaDoor

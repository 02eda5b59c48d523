/- Parts of the proof of StoreSafe: merged and given short names by a program of ours. -/
import Derived.Laws.IdiomStrings
import Derived.Test.YteelnmpbnaohpaaDoorZvA
set_option linter.unusedVariables false
set_option linter.unusedSimpArgs false
open Array renaming getElem?_eq_getElem → adD, getElem?_setIfInBounds_self_of_lt → adF, getElem?_setIfInBounds_ne → adG, getElem?_eq_none → adR, getElem?_modify → afD, getElem?_toList → afL
open Bool renaming false_eq_true → acK, not_false → acO, not_true → acP, and_eq_true → acV, or_eq_false_iff → afW
open Int renaming toNat_natCast → acM
open List renaming getElem?_cons_zero → acI, getElem?_cons_succ → acJ, length_map → acR, getElem?_eq_getElem → acS, length_append → acT, getD_eq_getElem?_getD → acU, take_of_length_le → acX, map_cons → acZ, set_cons_zero → adA, length_drop → adB, mem_cons_of_mem → adC, length_take → adE, nil_append → adJ, length_eq_zero_iff → adK, take_append_of_le_length → adL, append_assoc → adM, set_cons_succ → adN, length_cons → adP, getElem?_map → adQ, drop_append_of_le_length → adS, getElem?_append_left → adU, mem_append → adV, mem_cons → adX, getElem?_eq_none → adZ, length_singleton → aeB, mem_map → aeE, map_append → aeI, length_nil → aeN, mem_cons_self → aeO, eraseIdx_cons_succ → aeQ, getElem?_toArray → aeT, set_append_right → aeU, getElem?_take_of_lt → aeW, getElem_mem → aeX, nodup_cons → afG, length_set → afH, size_toArray → afI, getElem?_drop → afQ, ext_getElem? → afS, cons_append → afY, drop_eq_getElem_cons → agG, take_add_one → agI, ext_getElem → agO, getElem_map → agP, mem_of_getElem? → agT, mem_of_mem_take → agU, range_succ → agX
open List.cons renaming injEq → agW
open Nat renaming zero_add → acQ, le_refl → acY, min_eq_left → adW, lt_or_ge → aeG, le_trans → aeV, mod_eq_of_lt → aeY, mul_one → afE, lt_of_lt_of_le → afK, add_assoc → afN, ne_of_lt → afT, mod_lt → afX, add_mul → agL, sub_self → agV
open Option renaming isNone_some → acL, isNone_none → acN, getD_some → adH, map_some → aeA
open Option.some renaming injEq → adT, inj → aeM
open Prod.mk renaming injEq → agA
namespace Go.Proofs.YteelnmpbnaohpaaDoor
open Go Go.En
set_option maxRecDepth 20000
attribute [local irreducible] Go.En.iY
variable (Q : Exit -> Env -> ahA -> Prop) (g : Env) (w : ahA)
def kK : FA := ⟨mM, fun i => match Nat.beq i 5 with | true => .leaf ([12], []) [(false, []), (false, []), (false, []), (false, []), (false, []), (false, []), (false, []), (false, []), (false, []), (false, []), (false, []), (false, []), (true, []), (false, []), (false, []), (false, []), (false, []), (false, []), (false, []), (false, [])] | false => .leaf ([], []) []⟩
def tE : List ResultVar := [.tmp 4]
noncomputable def jZ : Code := jB Tryd.f27
def pH (R : K1) (kM : ahB) (w : ahA) : Prop :=
 R kM w
theorem Fz (R : K1) (hr : HR tE R Q) (h : pH R (g 5) w) : iY pg kK (gK 1 (gK 2 jZ)) Q g w :=
 lN (kn := no) (l := []) h mH hr trivial
def pK (kn : K5) (k0 : K1) (lS A6 kM c9 d0 : ahB) (w : ahA) : Prop :=
 eY pg (gO .lss 3 iB iB d0 c9) w fun d1 w =>
 mC d1
  ((dr w) = (dr w) /\
  eY pg (jD lS) (dr w) fun d5 w_ => w_ = (dr w) /\
  eY pg (gM 67 d5 2) (dr w) fun d6 w_ => w_ = (dr w) /\
  eY pg (gM 28 d6 0) (dr w) fun d7 w_ => w_ = (dr w) /\
  eY pg (gJ 24 d7) (dr w) fun d8 w_ => w_ = (dr w) /\
  (dr w) = (dr w) /\
  eY pg (jD lS) (dr w) fun e0 w_ => w_ = (dr w) /\
  eY pg (gM 67 e0 2) (dr w) fun e1 w_ => w_ = (dr w) /\
  eY pg (gM 28 e1 1) (dr w) fun e2 w_ => w_ = (dr w) /\
  eY pg (gJ 25 e2) (dr w) fun e3 w_ => w_ = (dr w) /\
  eY pg (lL 25 3 e3) (dr w) fun e4 w_ => w_ = (dr w) /\
  (dr w) = (dr w) /\
  gT pg pT #[d8, e4, d0] (dr w) fun e6 DY =>
  DY = DY /\
  eY pg (iZ e6 0) DY fun e7 w_ => w_ = DY /\
  eY pg (iZ e6 1) DY fun e8 w_ => w_ = DY /\
  eY pg (iZ e6 2) DY fun e9 w_ => w_ = DY /\
  DY = DY /\
  DY = DY /\
  DY = DY /\
  eY pg (lL 3 24 e8) DY fun f2 w =>
  eY pg (gO .add 24 iB iB e7 f2) w fun f3 w =>
  eY pg (gO .eql 29 (.tmp 46) (.const (ahC 0)) e9 (ahC 0)) w fun f7 w =>
  Gd (kE f7 true) (fun K => K f3 w) w fun f9 w =>
  Gd (kE f7 true) (fun K => K A6 w) w fun i0 w =>
  Gd (kE f7 true) (fun K => eY pg (mV .len #[22] 3 [i0]) w K) w fun i1 w =>
  Gd (kE f7 true) (fun K => eY pg (lL 3 24 i1) w K) w fun i2 w =>
  Gd (kE f7 true) (fun K => eY pg (gO .leq 24 iB iB f9 i2) w K) w fun i3 w =>
  eY pg (lD f7 i3 (.bool false)) w fun i4 w =>
  Gd (kE i4 true) (fun K => K lS w) w fun i6 w =>
  Gd (kE i4 true) (fun K => K d0 w) w fun i7 w =>
  Gd (kE i4 true) (fun K => K A6 w) w fun i8 w =>
  Gd (kE i4 true) (fun K => K e7 w) w fun i9 w =>
  Gd (kE i4 true) (fun K => K f3 w) w fun j0 w =>
  Gd (kE i4 true) (fun K => eY pg (mG 22 i8 (some i9) (some j0) none) w K) w fun j1 w =>
  Gd (kE i4 true) (fun K => gT pg oE #[i6, i7, j1] w K) w fun j2 w =>
  eY pg (lD i4 j2 (.bool false)) w fun j3 w =>
  eY pg (iK 45 kM d0) w fun j4 w =>
  eY pg (iG 4 j4 j3) w fun _u w =>
  eY pg (gO .add 3 iB iB d0 (ahC 1)) w fun j5 w =>
  kn lS A6 kM c9 j5 w)
  (k0 kM w)
theorem FI (kn : K5) (k0 : K1) (hn : N5 Q kn 0 1 5 19 20) (h0 : E1 Q k0 0 5) (h : pK kn k0 (g 0) (g 1) (g 5) (g 19) (g 20) w) : iY pg kK (bI (bI (gK 1 (gX 1 (gK 2 jZ))))) Q g w :=
 lN (kr := no) (l := [(0, fun g w => k0 (g 5) w)]) h hn mH ⟨h0, trivial⟩
def sZ (k0 : K1) (lS A6 kM c9 d0 : ahB) (w : ahA) : Prop :=
 kJ (fun (X : ahB -> K0) (t : ahB) (w : ahA) => pK (fun _ _ _ _ d0 w => X d0 w) k0 lS A6 kM c9 t w) d0 w
theorem FN (k0 : K1) (h0 : E1 Q k0 0 5) (h : sZ k0 (g 0) (g 1) (g 5) (g 19) (g 20) w) : iY pg kK (bI (gK 1 (gX 1 (gK 2 jZ)))) Q g w := by
 refine OW (fun g : Env => g 20) (fun X t w => pK (fun _ _ _ _ d0 w => X d0 w) k0 (g 0) (g 1) (g 5) (g 19) t w) h (fun X g1 w1 ha hL => ?_)
 rw [<- qI 0 ha, <- qI 1 ha, <- qI 5 ha, <- qI 19 ha] at hL
 exact (FI _ g1 w1 (fun _ _ _ _ d0 w => X d0 w) k0 (fun _ _ h => h) h0 hL)
def sY (kn : K1) (lS A6 kM c9 d0 : ahB) (w : ahA) : Prop :=
 sZ kn lS A6 kM c9 d0 w
def tI (kn : K5) (lS A6 kM : ahB) (w : ahA) : Prop :=
 eY pg (mV .len #[45] 3 [kM]) w fun c9 w =>
 kn lS A6 kM c9 (ahC 0) w
theorem FF (kn : K5) (hn : N5 Q kn 0 1 5 19 20) (h : tI kn (g 0) (g 1) (g 5) w) : iY pg kK (gX 1 (gX 1 (gK 2 jZ))) Q g w :=
 lN (kr := no) (l := []) h hn mH trivial
def tH (kn : K1) (lS A6 kM : ahB) (w : ahA) : Prop :=
 tI (fun lS A6 kM c9 d0 w => sY kn lS A6 kM c9 d0 w) lS A6 kM w
def tD (R : K1) (lS A6 kM : ahB) (w : ahA) : Prop :=
 tH (fun kM w => pH R kM w) lS A6 kM w
theorem FE (kn : K1) (hn : N1 Q kn 5) (h : tH kn (g 0) (g 1) (g 5) w) : iY pg kK (gX 1 (gK 2 jZ)) Q g w :=
 sW 1 (FF _ g w (sY kn) (fun g w h => iC (Oq 0 (FN _ g w kn hn h))) h)
def tG (kn : K3) (lS A6 : ahB) (w : ahA) : Prop :=
 eY pg (jD lS) w fun c2 w =>
 eY pg (gM 67 c2 2) w fun c3 w =>
 eY pg (gM 28 c3 2) w fun c4 w =>
 eY pg (gJ 26 c4) w fun c5 w =>
 eY pg (mV .len #[26] 3 [c5]) w fun c6 w =>
 eY pg (vK 45 c6 c6) w fun c7 w =>
 kn lS A6 c7 w
theorem FJ (kn : K3) (hn : N3 Q kn 0 1 5) (h : tG kn (g 0) (g 1) w) : iY pg kK (gX 2 jZ) Q g w :=
 lN (kr := no) (l := []) h hn mH trivial
def tC (R : K1) (lS A6 : ahB) (w : ahA) : Prop :=
 tG (fun lS A6 kM w => tD R lS A6 kM w) lS A6 w
theorem Fu (R : K1) (hr : HR tE R Q) (h : tC R (g 0) (g 1) w) : iY pg kK jZ Q g w :=
 sW 2 (FJ _ g w (tD R) (fun g w h => iC (sW 1 (FE _ g w (pH R) (fun g w h => iC (Fz _ g w R hr h)) h))) h)
def Dp (a0 a1 : ahB) (w : ahA) (R : K1) : Prop :=
 tC R a0 a1 w
theorem Gn {a0 a1 : ahB} {w : ahA} {R : K1} (h : Dp a0 a1 w R) : gT pg mM #[a0, a1] w R := by
 refine xB (ann := kK) Tryd.f27 jZ [a0, a1] tE 67 TrydM.mixed Tryd.func27 ?_
 exact (Fu _ _ _ R (fun _ _ h => h) h)
def KT : FA := ⟨zP, fun i => .leaf ([], []) []⟩
def LU : List ResultVar := [.tmp 2]
noncomputable def I0 : Code := jB Tryd.f28
def G0 (R : K1) (S8 : ahB) (w : ahA) : Prop :=
 gT pg rV #[S8, (.bool false)] w fun b4 w =>
 eY pg (KO .not b4) w fun b5 w =>
 R b5 w
theorem OC (R : K1) (hr : HR LU R Q) (h : G0 R (g 0) w) : iY pg KT I0 Q g w :=
 lN (kn := no) (l := []) h mH hr trivial
def QJ (a0 : ahB) (w : ahA) (R : K1) : Prop :=
 G0 R a0 w
theorem O4 {a0 : ahB} {w : ahA} {R : K1} (h : QJ a0 w R) : gT pg zP #[a0] w R := by
 refine xB (ann := KT) Tryd.f28 I0 [a0] LU 6 TrydM.mixed Tryd.func28 ?_
 exact (OC _ _ _ R (fun _ _ h => h) h)
def Ai : FA := ⟨nK, fun i => .leaf ([], []) []⟩
def Bo : List ResultVar := [.tmp 2, .tmp 3]
noncomputable def zY : Code := jB Tryd.f29
def tJ (R : K1) (lS : ahB) (w : ahA) : Prop :=
 eY pg (jD lS) w fun c4 w =>
 eY pg (gM 67 c4 1) w fun c5 w =>
 eY pg (gJ 9 c5) w fun c6 w =>
 eY pg (gO .add 9 iB iB c6 (.string ⟨#[46, 108, 111, 103]⟩)) w fun c7 w =>
 gT pg nD #[lS, c7] w fun c8 w =>
 eY pg (iZ c8 0) w fun c9 w =>
 eY pg (iZ c8 1) w fun d0 w =>
 eY pg (iZ c8 2) w fun d1 w =>
 eY pg (gO .neq 29 (.tmp 22) (.const (ahC 0)) d1 (ahC 0)) w fun d3 w =>
 mC d3
  (R (.tuple #[(.slice none 0 0), d1]) w)
  (gT pg lF #[c9] w fun d7 w =>
  eY pg (iZ d7 0) w fun d8 w =>
  eY pg (iZ d7 1) w fun d9 w =>
  gT pg BV #[d8, (.int .u8 1)] w fun e2 w =>
  eY pg (iZ e2 0) w fun e3 w =>
  eY pg (iZ e2 1) w fun e4 w =>
  eY pg (gO .eql 24 (.tmp 35) (.const (.int .u64 18446744073709551615)) e3 (.int .u64 18446744073709551615)) w fun e6 w =>
  mC e6
   (R (.tuple #[(.slice none 0 0), (ahC 23)]) w)
   (eY pg (gO .add 24 iB iB e3 (.int .u64 1)) w fun f0 w =>
   eY pg (jD lS) w fun f2 w =>
   eY pg (gM 67 f2 3) w fun f3 w =>
   eY pg (iG 24 f3 f0) w fun _u w =>
   eY pg (jD lS) w fun f4 w =>
   eY pg (gM 67 f4 5) w fun f5 w =>
   eY pg (iG 3 f5 d9) w fun _u w =>
   eY pg (jD lS) w fun f9 w =>
   eY pg (gM 67 f9 3) w fun i0 w =>
   eY pg (gJ 24 i0) w fun i1 w =>
   eY pg (lZ 77 [(0, (.int .u8 1)), (1, i1)]) w fun i2 w =>
   gT pg nM #[lS, i2] w fun i3 w =>
   R (.tuple #[d8, i3]) w))
theorem FG (R : K1) (hr : HR Bo R Q) (h : tJ R (g 0) w) : iY pg Ai zY Q g w :=
 lN (kn := no) (l := []) h mH hr trivial
def Ea (a0 : ahB) (w : ahA) (R : K1) : Prop :=
 tJ R a0 w
theorem GK {a0 : ahB} {w : ahA} {R : K1} (h : Ea a0 w R) : gT pg nK #[a0] w R := by
 refine xB (ann := Ai) Tryd.f29 zY [a0] Bo 54 TrydM.mixed Tryd.func29 ?_
 exact (FG _ _ _ R (fun _ _ h => h) h)
def oI : FA := ⟨pV, fun i => match Nat.beq i 5 with | true => .leaf ([9], []) [(false, []), (false, []), (false, []), (false, []), (false, []), (false, []), (false, []), (false, []), (false, []), (true, []), (false, [])] | false => match Nat.beq i 11 with | true => .leaf ([13, 14], [(2, 13), (3, 13), (4, 13), (6, 13), (7, 13), (8, 13), (9, 13), (11, 13)]) [(false, []), (false, []), (false, []), (false, []), (false, []), (false, []), (false, []), (false, []), (false, []), (false, []), (false, []), (false, []), (false, []), (true, [1, 3, 4, 5, 6, 8, 9, 10]), (true, []), (false, []), (false, [])] | false => .leaf ([], []) []⟩
def pJ : List ResultVar := [.tmp 2, .tmp 3]
noncomputable def nU : Code := jB Tryd.f30
def mX (R : K1) (lS XT b5 : ahB) (w : ahA) : Prop :=
 eY pg (jD lS) w fun f6 w =>
 eY pg (gM 67 f6 2) w fun f7 w =>
 eY pg (gM 28 f7 0) w fun f8 w =>
 eY pg (gJ 24 f8) w fun f9 w =>
 eY pg (lL 24 3 f9) w fun i0 w =>
 eY pg (mV .len #[22] 3 [XT]) w fun i2 w =>
 eY pg (gO .sub 3 iB iB i0 i2) w fun i3 w =>
 eY pg (gO .gtr 3 iB iB i3 (ahC 0)) w fun i5 w =>
 Gd (kE i5 false) (fun K => K b5 w) w fun i7 w =>
 Gd (kE i5 false) (fun K => eY pg (KO .not i7) w K) w fun i8 w =>
 eY pg (lD i5 (.bool true) i8) w fun i9 w =>
 mC i9
  ((dr w) = (dr w) /\
  (dr w) = (dr w) /\
  eY pg (jD lS) (dr w) fun j2 w_ => w_ = (dr w) /\
  eY pg (gM 67 j2 0) (dr w) fun j3 w_ => w_ = (dr w) /\
  eY pg (gJ 32 j3) (dr w) fun j4 w_ => w_ = (dr w) /\
  (dr w) = (dr w) /\
  eY pg (jD lS) (dr w) fun j6 w_ => w_ = (dr w) /\
  eY pg (gM 67 j6 1) (dr w) fun j7 w_ => w_ = (dr w) /\
  eY pg (gJ 9 j7) (dr w) fun j8 w_ => w_ = (dr w) /\
  eY pg (gO .add 9 iB iB j8 (.string ⟨#[46, 112, 97, 114, 116]⟩)) (dr w) fun j9 w_ => w_ = (dr w) /\
  (dr w) = (dr w) /\
  eY pg (mV .len #[22] 3 [XT]) (dr w) fun l1 w_ => w_ = (dr w) /\
  (dr w) = (dr w) /\
  eY pg (vK 22 i3 i3) (dr w) fun l3 DR =>
  (gN pg (mV .len #[22] 3 [XT]) l1 DR /\ gN pg (gO .add 9 iB iB j8 (.string ⟨#[46, 112, 97, 114, 116]⟩)) j9 DR /\ gN pg (gJ 9 j7) j8 DR /\ gN pg (gM 67 j6 1) j7 DR /\ gN pg (jD lS) j6 DR /\ gN pg (gJ 32 j3) j4 DR /\ gN pg (gM 67 j2 0) j3 DR /\ gN pg (jD lS) j2 DR /\ True) /\
  gT pg kY #[j4, j9, l1, l3] DR fun l4 Pn =>
  Pn = Pn /\
  Pn = Pn /\
  R (.tuple #[XT, l4]) Pn)
  (R (.tuple #[XT, (ahC 0)]) w)
theorem Fw (R : K1) (hr : HR pJ R Q) (h : mX R (g 0) (g 4) (g 5) w) : iY pg oI (gK 4 nU) Q g w :=
 lN (kn := no) (l := []) h mH hr trivial
def tK (kn : K3) (R : K1) (lS : ahB) (w : ahA) : Prop :=
 eY pg (jD lS) w fun c2 w =>
 eY pg (gM 67 c2 1) w fun c3 w =>
 eY pg (gJ 9 c3) w fun c4 w =>
 eY pg (gO .add 9 iB iB c4 (.string ⟨#[46, 112, 97, 114, 116]⟩)) w fun c5 w =>
 gT pg nD #[lS, c5] w fun c6 w =>
 eY pg (iZ c6 0) w fun c7 w =>
 eY pg (iZ c6 1) w fun c8 w =>
 eY pg (iZ c6 2) w fun c9 w =>
 eY pg (gO .neq 29 (.tmp 20) (.const (ahC 0)) c9 (ahC 0)) w fun d1 w =>
 mC d1
  (R (.tuple #[(.slice none 0 0), c9]) w)
  (eY pg (mV .len #[22] 3 [c7]) w fun d4 w =>
  eY pg (lL 3 24 d4) w fun d5 w =>
  eY pg (jD lS) w fun d7 w =>
  eY pg (gM 67 d7 2) w fun d8 w =>
  eY pg (gM 28 d8 0) w fun d9 w =>
  eY pg (gJ 24 d9) w fun e0 w =>
  eY pg (gO .gtr 24 iB iB d5 e0) w fun e1 w =>
  mC e1
   ((dr w) = (dr w) /\
   eY pg (jD lS) (dr w) fun e3 w_ => w_ = (dr w) /\
   eY pg (gM 67 e3 0) (dr w) fun e4 w_ => w_ = (dr w) /\
   eY pg (gJ 32 e4) (dr w) fun e5 w_ => w_ = (dr w) /\
   (dr w) = (dr w) /\
   eY pg (jD lS) (dr w) fun e7 w_ => w_ = (dr w) /\
   eY pg (gM 67 e7 1) (dr w) fun e8 w_ => w_ = (dr w) /\
   eY pg (gJ 9 e8) (dr w) fun e9 w_ => w_ = (dr w) /\
   eY pg (gO .add 9 iB iB e9 (.string ⟨#[46, 112, 97, 114, 116]⟩)) (dr w) fun f0 w_ => w_ = (dr w) /\
   gT pg sB #[e5, f0] (dr w) fun f1 YZ =>
   YZ = YZ /\
   eY pg (gO .neq 29 (.tmp 42) (.const (ahC 0)) f1 (ahC 0)) YZ fun f3 w =>
   mC f3
    (R (.tuple #[(.slice none 0 0), f1]) w)
    (kn lS (.slice none 0 0) (.bool false) w))
   (kn lS c7 c8 w))
theorem FV (kn : K3) (R : K1) (hn : N3 Q kn 0 4 5) (hr : HR pJ R Q) (h : tK kn R (g 0) w) : iY pg oI (gX 4 nU) Q g w :=
 lN (l := []) h hn hr trivial
def tP (R : K1) (lS : ahB) (w : ahA) : Prop :=
 tK (fun lS XT b5 w => mX R lS XT b5 w) R lS w
theorem FD (R : K1) (hr : HR pJ R Q) (h : tP R (g 0) w) : iY pg oI nU Q g w :=
 sW 4 (FV _ g w (mX R) R (fun g w h => iC (Fw _ g w R hr h)) hr h)
def Ds (a0 : ahB) (w : ahA) (R : K1) : Prop :=
 tP R a0 w
theorem GB {a0 : ahB} {w : ahA} {R : K1} (h : Ds a0 w R) : gT pg pV #[a0] w R := by
 refine xB (ann := oI) Tryd.f30 nU [a0] pJ 76 TrydM.mixed Tryd.func30 ?_
 exact (FD _ _ _ R (fun _ _ h => h) h)
def A9 : FA := ⟨oE, fun i => match Nat.beq i 1 with | true => .leaf ([12], []) [(false, []), (false, []), (false, []), (false, []), (false, []), (false, []), (false, []), (false, []), (false, []), (false, []), (false, []), (false, []), (true, []), (false, []), (false, []), (false, []), (false, []), (false, []), (false, []), (false, [])] | false => match Nat.beq i 2 with | true => .leaf ([10], [(10, 12), (10, 13), (10, 14), (10, 15), (10, 17), (10, 18)]) [(false, []), (false, []), (false, []), (false, []), (false, []), (false, []), (false, []), (false, []), (false, []), (false, []), (true, []), (false, []), (false, [1]), (false, [2]), (false, [3]), (false, [4]), (false, []), (false, [6]), (false, [7]), (false, []), (false, []), (false, [])] | false => .leaf ([], []) []⟩
def Ce : List ResultVar := [.tmp 6]
noncomputable def AZ : Code := jB Tryd.f31
def uI (R : K1) (lS ZL WW : ahB) (w : ahA) : Prop :=
 (dr w) = (dr w) /\
 eY pg (jD lS) (dr w) fun c2 w_ => w_ = (dr w) /\
 eY pg (gM 67 c2 2) (dr w) fun c3 w_ => w_ = (dr w) /\
 eY pg (gM 28 c3 0) (dr w) fun c4 w_ => w_ = (dr w) /\
 eY pg (gJ 24 c4) (dr w) fun c5 w_ => w_ = (dr w) /\
 (dr w) = (dr w) /\
 eY pg (jD lS) (dr w) fun c7 w_ => w_ = (dr w) /\
 eY pg (gM 67 c7 2) (dr w) fun c8 w_ => w_ = (dr w) /\
 eY pg (gM 28 c8 1) (dr w) fun c9 w_ => w_ = (dr w) /\
 eY pg (gJ 25 c9) (dr w) fun d0 w_ => w_ = (dr w) /\
 eY pg (lL 25 3 d0) (dr w) fun d1 w_ => w_ = (dr w) /\
 (dr w) = (dr w) /\
 gT pg pT #[c5, d1, ZL] (dr w) fun d3 lB =>
 lB = lB /\
 eY pg (iZ d3 0) lB fun d4 w_ => w_ = lB /\
 eY pg (iZ d3 1) lB fun d5 w_ => w_ = lB /\
 eY pg (iZ d3 2) lB fun d6 w_ => w_ = lB /\
 lB = lB /\
 lB = lB /\
 lB = lB /\
 (dr lB) = (dr lB) /\
 eY pg (gO .eql 29 (.tmp 27) (.const (ahC 0)) d6 (ahC 0)) (dr lB) fun d8 w_ => w_ = (dr lB) /\
 (dr lB) = (dr lB) /\
 Gd (kE d8 true) (fun K => K WW (dr lB)) (dr lB) fun e0 w_ => w_ = (dr lB) /\
 Gd (kE d8 true) (fun K => eY pg (mV .len #[22] 3 [e0]) (dr lB) K) (dr lB) fun e1 w_ => w_ = (dr lB) /\
 Gd (kE d8 true) (fun K => K d5 (dr lB)) (dr lB) fun e2 w_ => w_ = (dr lB) /\
 Gd (kE d8 true) (fun K => eY pg (gO .eql 3 (.tmp 31) (.tmp 32) e1 e2) (dr lB) K) (dr lB) fun e3 w_ => w_ = (dr lB) /\
 eY pg (lD d8 e3 (.bool false)) (dr lB) fun e4 w_ => w_ = (dr lB) /\
 (dr lB) = (dr lB) /\
 Gd (kE e4 true) (fun K => K WW (dr lB)) (dr lB) fun e6 w_ => w_ = (dr lB) /\
 Gd (kE e4 true) (fun K => gT pg xI #[e6] (dr lB) K) (dr lB) fun e7 oN =>
 Gd (kE e4 true) (fun K => K lS oN) oN fun e8 w_ => w_ = oN /\
 Gd (kE e4 true) (fun K => eY pg (jD e8) oN K) oN fun e9 w_ => w_ = oN /\
 (Gs (kE e4 true) (gN pg (jD e8) e9 (dr lB)) /\ True) /\
 Gd (kE e4 true) (fun K => eY pg (gM 67 e9 2) oN K) oN fun f0 w_ => w_ = oN /\
 (Gs (kE e4 true) (gN pg (gM 67 e9 2) f0 (dr lB)) /\ True) /\
 Gd (kE e4 true) (fun K => eY pg (gM 28 f0 2) oN K) oN fun f1 w_ => w_ = oN /\
 (Gs (kE e4 true) (gN pg (gM 28 f0 2) f1 (dr lB)) /\ True) /\
 Gd (kE e4 true) (fun K => eY pg (gJ 26 f1) oN K) oN fun f2 w_ => w_ = oN /\
 (Gs (kE e4 true) (gN pg (gJ 26 f1) f2 (dr lB)) /\ True) /\
 Gd (kE e4 true) (fun K => K ZL oN) oN fun f3 w_ => w_ = oN /\
 Gd (kE e4 true) (fun K => eY pg (iK 26 f2 f3) oN K) oN fun f4 w_ => w_ = oN /\
 (Gs (kE e4 true) (gN pg (iK 26 f2 f3) f4 (dr lB)) /\ True) /\
 Gd (kE e4 true) (fun K => eY pg (gJ 49 f4) oN K) oN fun f5 w_ => w_ = oN /\
 (Gs (kE e4 true) (gN pg (gJ 49 f4) f5 (dr lB)) /\ True) /\
 Gd (kE e4 true) (fun K => eY pg (gO .eql 49 (.tmp 37) (.tmp 45) e7 f5) oN K) oN fun f6 w_ => w_ = oN /\
 eY pg (lD e4 f6 (.bool false)) oN fun f7 w_ => w_ = oN /\
 oN = oN /\
 R f7 oN
theorem Gg (R : K1) (hr : HR Ce R Q) (h : uI R (g 0) (g 1) (g 2) w) : iY pg A9 AZ Q g w :=
 lN (kn := no) (l := []) h mH hr trivial
def EU (a0 a1 a2 : ahB) (w : ahA) (R : K1) : Prop :=
 uI R a0 a1 a2 w
theorem Hp {a0 a1 a2 : ahB} {w : ahA} {R : K1} (h : EU a0 a1 a2 w R) : gT pg oE #[a0, a1, a2] w R := by
 refine xB (ann := A9) Tryd.f31 AZ [a0, a1, a2] Ce 48 TrydM.mixed Tryd.func31 ?_
 exact (Gg _ _ _ R (fun _ _ h => h) h)
def mU : FA := ⟨xF, fun i => .leaf ([], []) []⟩
def qY : List ResultVar := [.tmp 2]
noncomputable def mI : Code := jB Tryd.f32
def A0 (R : K1)  (w : ahA) : Prop :=
 R (ahC 0) w
theorem L6 (R : K1) (hr : HR qY R Q) (h : A0 R w) : iY pg mU (gK 1 (gK 1 mI)) Q g w :=
 lN (kn := no) (l := []) h mH hr trivial
def AW (kn : K3) (k0 : K0) (R : K1) (b6 b7 b8 : ahB) (w : ahA) : Prop :=
 eY pg (gO .lss 3 iB iB b8 b7) w fun b9 w =>
 mC b9
  (eY pg (iK 98 b6 b8) w fun c0 w =>
  eY pg (gJ 39 c0) w fun c1 w =>
  eY pg (zL c1 []) w fun c3 w =>
  eY pg (gO .neq 29 (.tmp 14) (.const (ahC 0)) c3 (ahC 0)) w fun c5 w =>
  mC c5
   (R c3 w)
   (eY pg (gO .add 3 iB iB b8 (ahC 1)) w fun c7 w =>
   kn b6 b7 c7 w))
  (k0 w)
theorem ML (kn : K3) (k0 : K0) (R : K1) (hn : N3 Q kn 6 7 8) (h0 : E0 Q k0 0) (hr : HR qY R Q) (h : AW kn k0 R (g 6) (g 7) (g 8) w) : iY pg mU (bI (bI (gK 1 (gX 1 (gK 1 mI))))) Q g w :=
 lN (l := [(0, fun g w => k0 w)]) h hn hr ⟨h0, trivial⟩
def Ew (k0 : K0) (R : K1) (b6 b7 b8 : ahB) (w : ahA) : Prop :=
 kJ (fun (X : ahB -> K0) (t : ahB) (w : ahA) => AW (fun _ _ b8 w => X b8 w) k0 R b6 b7 t w) b8 w
theorem MN (k0 : K0) (R : K1) (h0 : E0 Q k0 0) (hr : HR qY R Q) (h : Ew k0 R (g 6) (g 7) (g 8) w) : iY pg mU (bI (gK 1 (gX 1 (gK 1 mI)))) Q g w := by
 refine OW (fun g : Env => g 8) (fun X t w => AW (fun _ _ b8 w => X b8 w) k0 R (g 6) (g 7) t w) h (fun X g1 w1 ha hL => ?_)
 rw [<- qI 6 ha, <- qI 7 ha] at hL
 exact (ML _ g1 w1 (fun _ _ b8 w => X b8 w) k0 R (fun _ _ h => h) h0 hr hL)
def D4 (kn : K0) (R : K1) (b6 b7 b8 : ahB) (w : ahA) : Prop :=
 Ew kn R b6 b7 b8 w
def Eg (kn : K3) (tQ : ahB) (w : ahA) : Prop :=
 eY pg (mV .len #[98] 3 [tQ]) w fun b7 w =>
 kn tQ b7 (ahC 0) w
theorem Mw (kn : K3) (hn : N3 Q kn 6 7 8) (h : Eg kn (g 0) w) : iY pg mU (gX 1 (gX 1 (gK 1 mI))) Q g w :=
 lN (kr := no) (l := []) h hn mH trivial
def Ek (kn : K0) (R : K1) (tQ : ahB) (w : ahA) : Prop :=
 Eg (fun b6 b7 b8 w => D4 kn R b6 b7 b8 w) tQ w
def Dv (R : K1) (tQ : ahB) (w : ahA) : Prop :=
 Ek (fun  w => A0 R w) R tQ w
theorem MI (kn : K0) (R : K1) (hn : N0 Q kn) (hr : HR qY R Q) (h : Ek kn R (g 0) w) : iY pg mU (gX 1 (gK 1 mI)) Q g w :=
 sW 1 (Mw _ g w (D4 kn R) (fun g w h => iC (Oq 0 (MN _ g w kn R hn hr h))) h)
def Dk (kn : K1) (tQ : ahB) (w : ahA) : Prop :=
 kn tQ w
theorem Ml (kn : K1) (hn : N1 Q kn 0) (h : Dk kn (g 0) w) : iY pg mU (gX 1 mI) Q g w :=
 lN (kr := no) (l := []) h hn mH trivial
def D5 (R : K1) (tQ : ahB) (w : ahA) : Prop :=
 Dk (fun tQ w => Dv R tQ w) tQ w
theorem LX (R : K1) (hr : HR qY R Q) (h : D5 R (g 0) w) : iY pg mU mI Q g w :=
 sW 1 (Ml _ g w (Dv R) (fun g w h => iC (sW 1 (MI _ g w (fun  w => A0 R w) R (fun g w h => iC (L6 _ g w R hr h)) hr h))) h)
def NI (a0 : ahB) (w : ahA) (R : K1) : Prop :=
 D5 R a0 w
theorem M3 {a0 : ahB} {w : ahA} {R : K1} (h : NI a0 w R) : gT pg xF #[a0] w R := by
 refine xB (ann := mU) Tryd.f32 mI [a0] qY 18 TrydM.mixed Tryd.func32 ?_
 exact (LX _ _ _ R (fun _ _ h => h) h)
def Bj : FA := ⟨oC, fun i => match Nat.beq i 1 with | true => .leaf ([12], []) [(false, []), (false, []), (false, []), (false, []), (false, []), (false, []), (false, []), (false, []), (false, []), (false, []), (false, []), (false, []), (true, []), (false, [])] | false => .leaf ([], []) []⟩
def B1 : List ResultVar := [.tmp 3]
noncomputable def AU : Code := jB Tryd.f33
def uT (R : K1) (b0 b1 b2 : ahB) (w : ahA) : Prop :=
 eY pg (gJ 35 b0) (dr w) fun b4 w_ => w_ = (dr w) /\
 eY pg (jD b4) (dr w) fun b5 w_ => w_ = (dr w) /\
 eY pg (gM 67 b5 0) (dr w) fun b6 w_ => w_ = (dr w) /\
 eY pg (gJ 32 b6) (dr w) fun b7 w_ => w_ = (dr w) /\
 eY pg (gJ 35 b0) (dr w) fun b8 w_ => w_ = (dr w) /\
 eY pg (jD b8) (dr w) fun b9 w_ => w_ = (dr w) /\
 eY pg (gM 67 b9 1) (dr w) fun c0 w_ => w_ = (dr w) /\
 eY pg (gJ 9 c0) (dr w) fun c1 w_ => w_ = (dr w) /\
 eY pg (gO .add 9 iB iB c1 (.string ⟨#[46, 112, 97, 114, 116]⟩)) (dr w) fun c2 w_ => w_ = (dr w) /\
 eY pg (gJ 24 b1) (dr w) fun c3 w_ => w_ = (dr w) /\
 eY pg (lL 24 3 c3) (dr w) fun c4 w_ => w_ = (dr w) /\
 eY pg (gJ 22 b2) (dr w) fun c5 w_ => w_ = (dr w) /\
 gT pg kY #[b7, c2, c4, c5] (dr w) fun c6 lB =>
 lB = lB /\
 R c6 lB
theorem GM (R : K1) (hr : HR B1 R Q) (h : uT R (g 0) (g 1) (g 2) w) : iY pg Bj AU Q g w :=
 lN (kn := no) (l := []) h mH hr trivial
def Fb (a0 a1 a2 : ahB) (w : ahA) (R : K1) : Prop :=
 uT R a0 a1 a2 w
theorem GX {a0 a1 a2 : ahB} {w : ahA} {R : K1} (h : Fb a0 a1 a2 w R) : gT pg oC #[a0, a1, a2] w R := by
 refine xB (ann := Bj) Tryd.f33 AU [a0, a1, a2] B1 17 TrydM.mixed Tryd.func33 ?_
 exact (GM _ _ _ R (fun _ _ h => h) h)
def Bh : FA := ⟨oH, fun i => .leaf ([], []) []⟩
def B3 : List ResultVar := [.tmp 2]
noncomputable def AJ : Code := jB Tryd.f34
def vL (R : K1) (b0 b1 : ahB) (w : ahA) : Prop :=
 eY pg (gJ 35 b0) w fun b3 w =>
 eY pg (gJ 3 b1) w fun b4 w =>
 eY pg (lL 3 24 b4) w fun b5 w =>
 eY pg (lZ 77 [(0, (.int .u8 2)), (1, b5)]) w fun b6 w =>
 gT pg nM #[b3, b6] w fun b7 w =>
 R b7 w
theorem F5 (R : K1) (hr : HR B3 R Q) (h : vL R (g 0) (g 1) w) : iY pg Bh AJ Q g w :=
 lN (kn := no) (l := []) h mH hr trivial
def Fj (a0 a1 : ahB) (w : ahA) (R : K1) : Prop :=
 vL R a0 a1 w
theorem Hq {a0 a1 : ahB} {w : ahA} {R : K1} (h : Fj a0 a1 w R) : gT pg oH #[a0, a1] w R := by
 refine xB (ann := Bh) Tryd.f34 AJ [a0, a1] B3 8 TrydM.mixed Tryd.func34 ?_
 exact (F5 _ _ _ R (fun _ _ h => h) h)
def mN : FA := ⟨nM, fun i => match Nat.beq i 3 with | true => .leaf ([14], []) [(false, []), (false, []), (false, []), (false, []), (false, []), (false, []), (false, []), (false, []), (false, []), (false, []), (false, []), (false, []), (false, []), (false, []), (true, []), (false, [])] | false => .leaf ([], []) []⟩
def tL : List ResultVar := [.tmp 4]
noncomputable def mL : Code := jB Tryd.f35
def pI (R : K1) (Tm : ahB) (w : ahA) : Prop :=
 R Tm w
theorem Fy (R : K1) (hr : HR tL R Q) (h : pI R (g 6) w) : iY pg mN (gK 1 (gK 3 mL)) Q g w :=
 lN (kn := no) (l := []) h mH hr trivial
def tA (kn : K1) (lS Sq Tm : ahB) (w : ahA) : Prop :=
 eY pg (gO .eql 29 (.tmp 29) (.const (ahC 0)) Tm (ahC 0)) w fun e0 w =>
 mC e0
  (eY pg (jD lS) w fun e2 w =>
  eY pg (gM 67 e2 5) w fun e3 w =>
  eY pg (gJ 3 e3) w fun e4 w =>
  eY pg (mV .len #[22] 3 [Sq]) w fun e6 w =>
  eY pg (gO .add 3 iB iB e4 e6) w fun e7 w =>
  eY pg (jD lS) w fun e8 w =>
  eY pg (gM 67 e8 5) w fun e9 w =>
  eY pg (iG 3 e9 e7) w fun _u w =>
  kn Tm w)
  (kn Tm w)
theorem Fo (kn : K1) (hn : N1 Q kn 6) (h : tA kn (g 0) (g 5) (g 6) w) : iY pg mN (gX 1 (gK 3 mL)) Q g w :=
 lN (kr := no) (l := []) h hn mH trivial
def tO (R : K1) (lS Sq Tm : ahB) (w : ahA) : Prop :=
 tA (fun Tm w => pI R Tm w) lS Sq Tm w
def tM (kn : K3) (lS YC : ahB) (w : ahA) : Prop :=
 eY pg (EL 77 YC) w fun r_3 w =>
 eY pg (gJ 77 r_3) w fun b8 w =>
 gT pg Az #[b8] w fun b9 w =>
 eY pg (iZ b9 0) w fun c0 w =>
 eY pg (iZ b9 1) w fun c1 w =>
 eY pg (gO .eql 29 (.tmp 12) (.const (ahC 0)) c1 (ahC 0)) w fun c3 w =>
 mC c3
  ((dr w) = (dr w) /\
  eY pg (jD lS) (dr w) fun c5 w_ => w_ = (dr w) /\
  eY pg (gM 67 c5 0) (dr w) fun c6 w_ => w_ = (dr w) /\
  eY pg (gJ 32 c6) (dr w) fun c7 w_ => w_ = (dr w) /\
  (dr w) = (dr w) /\
  eY pg (jD lS) (dr w) fun c9 w_ => w_ = (dr w) /\
  eY pg (gM 67 c9 1) (dr w) fun d0 w_ => w_ = (dr w) /\
  eY pg (gJ 9 d0) (dr w) fun d1 w_ => w_ = (dr w) /\
  eY pg (gO .add 9 iB iB d1 (.string ⟨#[46, 108, 111, 103]⟩)) (dr w) fun d2 w_ => w_ = (dr w) /\
  (dr w) = (dr w) /\
  eY pg (jD lS) (dr w) fun d4 w_ => w_ = (dr w) /\
  eY pg (gM 67 d4 5) (dr w) fun d5 w_ => w_ = (dr w) /\
  eY pg (gJ 3 d5) (dr w) fun d6 w_ => w_ = (dr w) /\
  (dr w) = (dr w) /\
  gT pg kY #[c7, d2, d6, c0] (dr w) fun d8 XF =>
  XF = XF /\
  kn lS c0 d8 XF)
  (kn lS c0 c1 w)
theorem Fx (kn : K3) (hn : N3 Q kn 0 5 6) (h : tM kn (g 0) (g 1) w) : iY pg mN (gX 3 mL) Q g w :=
 lN (kr := no) (l := []) h hn mH trivial
def tB (R : K1) (lS YC : ahB) (w : ahA) : Prop :=
 tM (fun lS Sq Tm w => tO R lS Sq Tm w) lS YC w
theorem FR (R : K1) (hr : HR tL R Q) (h : tB R (g 0) (g 1) w) : iY pg mN mL Q g w :=
 sW 3 (Fx _ g w (tO R) (fun g w h => iC (sW 1 (Fo _ g w (pI R) (fun g w h => iC (Fy _ g w R hr h)) h))) h)
def DC (a0 a1 : ahB) (w : ahA) (R : K1) : Prop :=
 tB R a0 a1 w
theorem Gt {a0 a1 : ahB} {w : ahA} {R : K1} (h : DC a0 a1 w R) : gT pg nM #[a0, a1] w R := by
 refine xB (ann := mN) Tryd.f35 mL [a0, a1] tL 41 TrydM.mixed Tryd.func35 ?_
 exact (FR _ _ _ R (fun _ _ h => h) h)
def xC : FA := ⟨mP, fun i => match Nat.beq i 1 with | true => .leaf ([13], []) [(false, []), (false, []), (false, []), (false, []), (false, []), (false, []), (false, []), (false, []), (false, []), (false, []), (false, []), (false, []), (false, []), (true, []), (false, [])] | false => .leaf ([], []) []⟩
def zU : List ResultVar := [.tmp 1]
noncomputable def vW : Code := jB Tryd.f36
def rF (R : K1) (b0 : ahB) (w : ahA) : Prop :=
 eY pg (gJ 35 b0) (dr w) fun b2 w_ => w_ = (dr w) /\
 eY pg (jD b2) (dr w) fun b3 w_ => w_ = (dr w) /\
 eY pg (gM 67 b3 0) (dr w) fun b4 w_ => w_ = (dr w) /\
 eY pg (gJ 32 b4) (dr w) fun b5 w_ => w_ = (dr w) /\
 eY pg (gJ 35 b0) (dr w) fun b6 w_ => w_ = (dr w) /\
 eY pg (jD b6) (dr w) fun b7 w_ => w_ = (dr w) /\
 eY pg (gM 67 b7 1) (dr w) fun b8 w_ => w_ = (dr w) /\
 eY pg (gJ 9 b8) (dr w) fun b9 w_ => w_ = (dr w) /\
 eY pg (gO .add 9 iB iB b9 (.string ⟨#[46, 112, 97, 114, 116]⟩)) (dr w) fun c0 w_ => w_ = (dr w) /\
 eY pg (gJ 35 b0) (dr w) fun c1 w_ => w_ = (dr w) /\
 eY pg (jD c1) (dr w) fun c2 w_ => w_ = (dr w) /\
 eY pg (gM 67 c2 1) (dr w) fun c3 w_ => w_ = (dr w) /\
 eY pg (gJ 9 c3) (dr w) fun c4 w_ => w_ = (dr w) /\
 gT pg sL #[b5, c0, c4] (dr w) fun c5 WE =>
 WE = WE /\
 R c5 WE
theorem DP (R : K1) (hr : HR zU R Q) (h : rF R (g 0) w) : iY pg xC vW Q g w :=
 lN (kn := no) (l := []) h mH hr trivial
def B4 (a0 : ahB) (w : ahA) (R : K1) : Prop :=
 rF R a0 w
theorem EK {a0 : ahB} {w : ahA} {R : K1} (h : B4 a0 w R) : gT pg mP #[a0] w R := by
 refine xB (ann := xC) Tryd.f36 vW [a0] zU 16 TrydM.mixed Tryd.func36 ?_
 exact (DP _ _ _ R (fun _ _ h => h) h)
def Ci : FA := ⟨sL, fun i => .leaf ([], []) []⟩
def CW : List ResultVar := [.tmp 6]
noncomputable def A8 : Code := jB Tryd.f37
def wN (R : K1) (lE XG V1 : ahB) (w : ahA) : Prop :=
 gT pg nI #[lE] w fun c1 w =>
 eY pg (gO .neq 29 (.tmp 12) (.const (ahC 0)) c1 (ahC 0)) w fun c3 w =>
 mC c3
  (R c1 w)
  (gT pg Bz #[XG] w fun c6 w =>
  eY pg (KO .not c6) w fun c7 w =>
  Gd (kE c7 false) (fun K => K V1 w) w fun c9 w =>
  Gd (kE c7 false) (fun K => gT pg Bz #[c9] w K) w fun d0 w =>
  Gd (kE c7 false) (fun K => eY pg (KO .not d0) w K) w fun d1 w =>
  eY pg (lD c7 (.bool true) d1) w fun d2 w =>
  mC d2
   (R (ahC 1) w)
   (eY pg (jD lE) w fun d5 w =>
   eY pg (gM 64 d5 2) w fun d6 w =>
   eY pg (gJ 61 d6) w fun d7 w =>
   eY pg (Ay 61 d7 XG true) w fun d9 w =>
   eY pg (iZ d9 0) w fun e0 w =>
   eY pg (iZ d9 1) w fun e1 w =>
   eY pg (KO .not e1) w fun e3 w =>
   mC e3
    (R (ahC 21) w)
    (eY pg (lZ 88 [(0, (ahC 1)), (1, XG), (2, V1)]) w fun e7 w =>
    gT pg oT #[lE, e7] w fun e8 w =>
    R e8 w)))
theorem Hv (R : K1) (hr : HR CW R Q) (h : wN R (g 0) (g 1) (g 2) w) : iY pg Ci A8 Q g w :=
 lN (kn := no) (l := []) h mH hr trivial
def GH (a0 a1 a2 : ahB) (w : ahA) (R : K1) : Prop :=
 wN R a0 a1 a2 w
theorem IA {a0 a1 a2 : ahB} {w : ahA} {R : K1} (h : GH a0 a1 a2 w R) : gT pg sL #[a0, a1, a2] w R := by
 refine xB (ann := Ci) Tryd.f37 A8 [a0, a1, a2] CW 39 TrydM.mixed Tryd.func37 ?_
 exact (Hv _ _ _ R (fun _ _ h => h) h)
def GI : FA := ⟨nI, fun i => .leaf ([], []) []⟩
def HN : List ResultVar := [.tmp 2]
noncomputable def Fi : Code := jB Tryd.f38
def CE (R : K1) (lE : ahB) (w : ahA) : Prop :=
 eY pg (gO .eql 32 (.tmp 4) (.const (.pointer none)) lE (.pointer none)) w fun b5 w =>
 mC b5
  (R (ahC 1) w)
  (eY pg (jD lE) w fun b8 w =>
  eY pg (gM 64 b8 5) w fun b9 w =>
  eY pg (gJ 4 b9) w fun c0 w =>
  mC c0
   (R (ahC 20) w)
   (R (ahC 0) w))
theorem Lp (R : K1) (hr : HR HN R Q) (h : CE R (g 0) w) : iY pg GI Fi Q g w :=
 lN (kn := no) (l := []) h mH hr trivial
def MJ (a0 : ahB) (w : ahA) (R : K1) : Prop :=
 CE R a0 w
theorem MD {a0 : ahB} {w : ahA} {R : K1} (h : MJ a0 w R) : gT pg nI #[a0] w R := by
 refine xB (ann := GI) Tryd.f38 Fi [a0] HN 11 TrydM.mixed Tryd.func38 ?_
 exact (Lp _ _ _ R (fun _ _ h => h) h)
def xG : FA := ⟨lA, fun i => .leaf ([], []) []⟩
def zT : List ResultVar := [.tmp 2]
noncomputable def vZ : Code := jB Tryd.f39
def rE (R : K1) (lS : ahB) (w : ahA) : Prop :=
 eY pg (gO .eql 22 (.tmp 3) (.const (.slice none 0 0)) lS (.slice none 0 0)) w fun b4 w =>
 mC b4
  (R (.slice none 0 0) w)
  (eY pg (iL 22 0 []) w fun b5 w =>
  eY pg (mV .append #[22, 22] 22 [b5, lS]) w fun b7 w =>
  R b7 w)
theorem Eb (R : K1) (hr : HR zT R Q) (h : rE R (g 0) w) : iY pg xG vZ Q g w :=
 lN (kn := no) (l := []) h mH hr trivial
def Cg (a0 : ahB) (w : ahA) (R : K1) : Prop :=
 rE R a0 w
theorem EI {a0 : ahB} {w : ahA} {R : K1} (h : Cg a0 w R) : gT pg lA #[a0] w R := by
 refine xB (ann := xG) Tryd.f39 vZ [a0] zT 8 TrydM.mixed Tryd.func39 ?_
 exact (Eb _ _ _ R (fun _ _ h => h) h)
def MV : FA := ⟨Bz, fun i => .leaf ([], []) []⟩
def NU : List ResultVar := [.tmp 2]
noncomputable def KZ : Code := jB Tryd.f40
def JG (R : K1) (Xm : ahB) (w : ahA) : Prop :=
 eY pg (mV .len #[9] 3 [Xm]) w fun b4 w =>
 eY pg (gO .geq 3 iB iB b4 (ahC 1)) w fun b5 w =>
 Gd (kE b5 true) (fun K => K Xm w) w fun b7 w =>
 Gd (kE b5 true) (fun K => eY pg (mV .len #[9] 3 [b7]) w K) w fun b8 w =>
 Gd (kE b5 true) (fun K => eY pg (gO .leq 3 iB iB b8 (ahC 32)) w K) w fun b9 w =>
 eY pg (lD b5 b9 (.bool false)) w fun c0 w =>
 R c0 w
theorem OT (R : K1) (hr : HR NU R Q) (h : JG R (g 0) w) : iY pg MV KZ Q g w :=
 lN (kn := no) (l := []) h mH hr trivial
def SA (a0 : ahB) (w : ahA) (R : K1) : Prop :=
 JG R a0 w
theorem Qf {a0 : ahB} {w : ahA} {R : K1} (h : SA a0 w R) : gT pg Bz #[a0] w R := by
 refine xB (ann := MV) Tryd.f40 KZ [a0] NU 11 TrydM.mixed Tryd.func40 ?_
 exact (OT _ _ _ R (fun _ _ h => h) h)
def lI : FA := ⟨uD, fun i => .leaf ([], []) []⟩
def zF : List ResultVar := [.tmp 2]
noncomputable def kZ : Code := jB Tryd.f41
def sE (R : K1) (FW : ahB) (w : ahA) : Prop :=
 R FW w
theorem Iw (R : K1) (hr : HR zF R Q) (h : sE R (g 3) w) : iY pg lI (gK 1 (gK 2 kZ)) Q g w :=
 lN (kn := no) (l := []) h mH hr trivial
def sN (kn : K2) (k0 : K1) (FW b7 : ahB) (w : ahA) : Prop :=
 eY pg (Ux b7 false 0) w fun b8 w =>
 eY pg (iZ b8 0) w fun b9 w =>
 mC b9
  (eY pg (TS b7) w fun c0 w =>
  eY pg (iZ c0 1) w fun c1 w =>
  eY pg (mV .len #[22] 3 [c1]) w fun c4 w =>
  eY pg (gO .add 3 iB iB FW c4) w fun c5 w =>
  kn c5 b7 w)
  (k0 FW w)
theorem Iz (kn : K2) (k0 : K1) (hn : N2 Q kn 3 7) (h0 : E1 Q k0 0 3) (h : sN kn k0 (g 3) (g 7) w) : iY pg lI (bI (bI (gK 1 (gX 1 (gK 2 kZ))))) Q g w :=
 lN (kr := no) (l := [(0, fun g w => k0 (g 3) w)]) h hn mH ⟨h0, trivial⟩
def xV (k0 : K1) (FW b7 : ahB) (w : ahA) : Prop :=
 kJ (fun (X : ahB -> K0) (t : ahB) (w : ahA) => sN (fun FW _ w => X FW w) k0 t b7 w) FW w
theorem IS (k0 : K1) (h0 : E1 Q k0 0 3) (h : xV k0 (g 3) (g 7) w) : iY pg lI (bI (gK 1 (gX 1 (gK 2 kZ)))) Q g w := by
 refine OW (fun g : Env => g 3) (fun X t w => sN (fun FW _ w => X FW w) k0 t (g 7) w) h (fun X g1 w1 ha hL => ?_)
 rw [<- qI 7 ha] at hL
 exact (Iz _ g1 w1 (fun FW _ w => X FW w) k0 (fun _ _ h => h) h0 hL)
def yQ (kn : K1) (FW b7 : ahB) (w : ahA) : Prop :=
 xV kn FW b7 w
def yH (kn : K2) (Rl FW : ahB) (w : ahA) : Prop :=
 eY pg (PC 61 Rl) w fun b7 w =>
 kn FW b7 w
theorem Io (kn : K2) (hn : N2 Q kn 3 7) (h : yH kn (g 0) (g 3) w) : iY pg lI (gX 1 (gX 1 (gK 2 kZ))) Q g w :=
 lN (kr := no) (l := []) h hn mH trivial
def yU (kn : K1) (Rl FW : ahB) (w : ahA) : Prop :=
 yH (fun FW b7 w => yQ kn FW b7 w) Rl FW w
def yB (R : K1) (Rl FW : ahB) (w : ahA) : Prop :=
 yU (fun FW w => sE R FW w) Rl FW w
theorem IB (kn : K1) (hn : N1 Q kn 3) (h : yU kn (g 0) (g 3) w) : iY pg lI (gX 1 (gK 2 kZ)) Q g w :=
 sW 1 (Io _ g w (yQ kn) (fun g w h => iC (Oq 0 (IS _ g w kn hn h))) h)
def zG (kn : K2) (Rl : ahB) (w : ahA) : Prop :=
 kn Rl (ahC 0) w
theorem Ia (kn : K2) (hn : N2 Q kn 0 3) (h : zG kn (g 0) w) : iY pg lI (gX 2 kZ) Q g w :=
 lN (kr := no) (l := []) h hn mH trivial
def xT (R : K1) (Rl : ahB) (w : ahA) : Prop :=
 zG (fun Rl FW w => yB R Rl FW w) Rl w
theorem IQ (R : K1) (hr : HR zF R Q) (h : xT R (g 0) w) : iY pg lI kZ Q g w :=
 sW 2 (Ia _ g w (yB R) (fun g w h => iC (sW 1 (IB _ g w (sE R) (fun g w h => iC (Iw _ g w R hr h)) h))) h)
def H0 (a0 : ahB) (w : ahA) (R : K1) : Prop :=
 xT R a0 w
theorem I1 {a0 : ahB} {w : ahA} {R : K1} (h : H0 a0 w R) : gT pg uD #[a0] w R := by
 refine xB (ann := lI) Tryd.f41 kZ [a0] zF 17 TrydM.mixed Tryd.func41 ?_
 exact (IQ _ _ _ R (fun _ _ h => h) h)
def DU : FA := ⟨oT, fun i => match Nat.beq i 3 with | true => .leaf ([6, 7, 10], [(2, 6), (3, 6), (4, 6)]) [(false, []), (false, []), (false, []), (false, []), (false, []), (false, []), (true, [1, 2, 3]), (true, []), (false, []), (false, []), (true, [])] | false => match Nat.beq i 4 with | true => .leaf ([5], []) [(false, []), (false, []), (false, []), (false, []), (false, []), (true, [])] | false => .leaf ([], []) []⟩
def ER : List ResultVar := [.tmp 4]
noncomputable def C0 : Code := jB Tryd.f42
def Aj (R : K1) (lE o_1 : ahB) (w : ahA) : Prop :=
 eY pg (EL 88 o_1) w fun VJ w =>
 gT pg pZ #[lE] w fun b6 w =>
 mC b6
  (R (ahC 20) w)
  ((dr w) = (dr w) /\
  (dr w) = (dr w) /\
  eY pg (jD lE) (dr w) fun b9 w_ => w_ = (dr w) /\
  eY pg (gM 64 b9 3) (dr w) fun c0 w_ => w_ = (dr w) /\
  eY pg (gJ 62 c0) (dr w) fun c1 w_ => w_ = (dr w) /\
  eY pg (gJ 88 VJ) (dr w) fun c2 w_ => w_ = (dr w) /\
  eY pg (iL 62 1 [(0, c2)]) (dr w) fun c3 Ys =>
  (gN pg (gJ 62 c0) c1 Ys /\ gN pg (gM 64 b9 3) c0 Ys /\ gN pg (jD lE) b9 Ys /\ True) /\
  eY pg (mV .append #[62, 62] 62 [c1, c3]) Ys fun c4 Wa =>
  eY pg (jD lE) Wa fun c5 w_ => w_ = Wa /\
  eY pg (gM 64 c5 3) Wa fun c6 w_ => w_ = Wa /\
  eY pg (iG 62 c6 c4) Wa fun _u10 J2 =>
  (dr J2) = (dr J2) /\
  eY pg (jD lE) (dr J2) fun c8 w_ => w_ = (dr J2) /\
  eY pg (gM 64 c8 2) (dr J2) fun c9 w_ => w_ = (dr J2) /\
  eY pg (gJ 61 c9) (dr J2) fun d0 w_ => w_ = (dr J2) /\
  eY pg (gJ 88 VJ) (dr J2) fun d1 w_ => w_ = (dr J2) /\
  gT pg sS #[d0, d1] (dr J2) fun d2 abN =>
  R (ahC 0) abN)
theorem J0 (R : K1) (hr : HR ER R Q) (h : Aj R (g 0) (g 1) w) : iY pg DU C0 Q g w :=
 lN (kn := no) (l := []) h mH hr trivial
def JA (a0 a1 : ahB) (w : ahA) (R : K1) : Prop :=
 Aj R a0 a1 w
theorem Kj {a0 a1 : ahB} {w : ahA} {R : K1} (h : JA a0 a1 w R) : gT pg oT #[a0, a1] w R := by
 refine xB (ann := DU) Tryd.f42 C0 [a0, a1] ER 23 TrydM.mixed Tryd.func42 ?_
 exact (J0 _ _ _ R (fun _ _ h => h) h)
def xH : FA := ⟨oL, fun i => .leaf ([], []) []⟩
def zN : List ResultVar := [.tmp 2]
noncomputable def vY : Code := jB Tryd.f43
def rA (R : K1) (lS : ahB) (w : ahA) : Prop :=
 eY pg (gO .eql 45 (.tmp 3) (.const (.slice none 0 0)) lS (.slice none 0 0)) w fun b4 w =>
 mC b4
  (R (.slice none 0 0) w)
  (eY pg (iL 45 0 []) w fun b5 w =>
  eY pg (mV .append #[45, 45] 45 [b5, lS]) w fun b7 w =>
  R b7 w)
theorem Ee (R : K1) (hr : HR zN R Q) (h : rA R (g 0) w) : iY pg xH vY Q g w :=
 lN (kn := no) (l := []) h mH hr trivial
def Co (a0 : ahB) (w : ahA) (R : K1) : Prop :=
 rA R a0 w
theorem EH {a0 : ahB} {w : ahA} {R : K1} (h : Co a0 w R) : gT pg oL #[a0] w R := by
 refine xB (ann := xH) Tryd.f43 vY [a0] zN 8 TrydM.mixed Tryd.func43 ?_
 exact (Ee _ _ _ R (fun _ _ h => h) h)
def Pm : FA := ⟨JD, fun i => .leaf ([], []) []⟩
def QF : List ResultVar := [.cell 2 49]
noncomputable def Oh : Code := jB Tryd.f44
def NG (R : K1) (A5 : ahB) (w : ahA) : Prop :=
 eY pg (lY 49) w fun b2 w =>
 gT pg J6 #[] w fun b4 w =>
 gT pg mJ #[b4, A5] w fun b7 w =>
 gT pg AY #[b4] w fun b9 w =>
 eY pg (iG 49 b2 b9) w fun _u w =>
 VR pg 49 b2 w fun r0 => R r0 w
theorem Rz (R : K1) (hr : HR QF R Q) (h : NG R (g 0) w) : iY pg Pm Oh Q g w :=
 lN (kn := no) (l := []) h mH hr trivial
def Wx (a0 : ahB) (w : ahA) (R : K1) : Prop :=
 NG R a0 w
theorem SH {a0 : ahB} {w : ahA} {R : K1} (h : Wx a0 w R) : gT pg JD #[a0] w R := by
 refine xB (ann := Pm) Tryd.f44 Oh [a0] QF 10 TrydM.mixed Tryd.func44 ?_
 exact (Rz _ _ _ R (fun _ _ h => h) h)
def qN : FA := ⟨pZ, fun i => .leaf ([], []) []⟩
def yR : List ResultVar := [.tmp 2]
noncomputable def pY : Code := jB Tryd.f45
def mY (R : K1) (lE : ahB) (w : ahA) : Prop :=
 eY pg (jD lE) w fun d6 w =>
 eY pg (gM 64 d6 5) w fun d7 w =>
 eY pg (gJ 4 d7) w fun d8 w =>
 R d8 w
theorem IG (R : K1) (hr : HR yR R Q) (h : mY R (g 0) w) : iY pg qN (gK 2 pY) Q g w :=
 lN (kn := no) (l := []) h mH hr trivial
def yS (kn : K1) (lE : ahB) (w : ahA) : Prop :=
 eY pg (jD lE) w fun b5 w =>
 eY pg (gM 64 b5 4) w fun b6 w =>
 eY pg (gJ 3 b6) w fun b7 w =>
 eY pg (gO .eql 3 (.tmp 7) (.const (ahC 0)) b7 (ahC 0)) w fun b8 w =>
 mC b8
  (eY pg (jD lE) w fun c0 w =>
  eY pg (gM 64 c0 5) w fun c1 w =>
  eY pg (iG 4 c1 (.bool true)) w fun _u w =>
  kn lE w)
  (eY pg (jD lE) w fun c4 w =>
  eY pg (gM 64 c4 4) w fun c5 w =>
  eY pg (gJ 3 c5) w fun c6 w =>
  eY pg (gO .gtr 3 iB iB c6 (ahC 0)) w fun c7 w =>
  mC c7
   (eY pg (jD lE) w fun c9 w =>
   eY pg (gM 64 c9 4) w fun d0 w =>
   eY pg (gJ 3 d0) w fun d1 w =>
   eY pg (gO .sub 3 iB iB d1 (ahC 1)) w fun d2 w =>
   eY pg (jD lE) w fun d3 w =>
   eY pg (gM 64 d3 4) w fun d4 w =>
   eY pg (iG 3 d4 d2) w fun _u w =>
   kn lE w)
   (kn lE w))
theorem IH (kn : K1) (hn : N1 Q kn 0) (h : yS kn (g 0) w) : iY pg qN (gX 2 pY) Q g w :=
 lN (kr := no) (l := []) h hn mH trivial
def zK (R : K1) (lE : ahB) (w : ahA) : Prop :=
 yS (fun lE w => mY R lE w) lE w
theorem Ih (R : K1) (hr : HR yR R Q) (h : zK R (g 0) w) : iY pg qN pY Q g w :=
 sW 2 (IH _ g w (mY R) (fun g w h => iC (IG _ g w R hr h)) h)
def HW (a0 : ahB) (w : ahA) (R : K1) : Prop :=
 zK R a0 w
theorem Jj {a0 : ahB} {w : ahA} {R : K1} (h : HW a0 w R) : gT pg pZ #[a0] w R := by
 refine xB (ann := qN) Tryd.f45 pY [a0] yR 29 TrydM.mixed Tryd.func45 ?_
 exact (Ih _ _ _ R (fun _ _ h => h) h)
def EX : FA := ⟨sS, fun i => match Nat.beq i 6 with | true => .leaf ([6], []) [(false, []), (false, []), (false, []), (false, []), (false, []), (false, []), (true, [])] | false => .leaf ([], []) []⟩
def Na : List ResultVar := []
noncomputable def D6 : Code := jB Tryd.f47
def BK (kn : K0) (Rl o_1 : ahB) (w : ahA) : Prop :=
 eY pg (EL 88 o_1) w fun VJ w =>
 eY pg (gM 88 VJ 1) w fun b9 w =>
 eY pg (gJ 9 b9) w fun c0 w =>
 eY pg (Ay 61 Rl c0 true) w fun c1 w =>
 eY pg (iZ c1 0) w fun c2 w =>
 eY pg (iZ c1 1) w fun c3 w =>
 eY pg (gM 88 VJ 0) w fun c4 w =>
 eY pg (gJ 3 c4) w fun c5 w =>
 eY pg (gO .eql 3 (.tmp 15) (.const (ahC 0)) c5 (ahC 0)) w fun c7 w =>
 mC c7
  (eY pg (mV .len #[22] 3 [c2]) w fun c9 w =>
  eY pg (gM 88 VJ 3) w fun d0 w =>
  eY pg (gJ 3 d0) w fun d1 w =>
  eY pg (gM 88 VJ 4) w fun d2 w =>
  eY pg (gJ 22 d2) w fun d3 w =>
  eY pg (mV .len #[22] 3 [d3]) w fun d4 w =>
  eY pg (gO .add 3 iB iB d1 d4) w fun d5 w =>
  eY pg (mV .max #[3, 3] 3 [c9, d5]) w fun d6 w =>
  eY pg (vK 22 d6 d6) w fun d7 w =>
  eY pg (mV .copy #[22, 22] 3 [d7, c2]) w fun e0 w =>
  (dr w) = (dr w) /\
  eY pg (gM 88 VJ 3) (dr w) fun e2 w_ => w_ = (dr w) /\
  eY pg (gJ 3 e2) (dr w) fun e3 w_ => w_ = (dr w) /\
  eY pg (mG 22 d7 (some e3) none none) (dr w) fun e4 w_ => w_ = (dr w) /\
  eY pg (gM 88 VJ 4) (dr w) fun e5 w_ => w_ = (dr w) /\
  eY pg (gJ 22 e5) (dr w) fun e6 w_ => w_ = (dr w) /\
  eY pg (mV .copy #[22, 22] 3 [e4, e6]) (dr w) fun e7 abI =>
  eY pg (gM 88 VJ 1) abI fun e9 w =>
  eY pg (gJ 9 e9) w fun f0 w =>
  eY pg (Li 61 Rl f0 d7) w fun _u w =>
  kn w)
  (eY pg (gO .eql 3 (.tmp 15) (.const (ahC 1)) c5 (ahC 1)) w fun f3 w =>
  mC f3
   (mC c3
    (eY pg (gM 88 VJ 1) w fun f6 w =>
    eY pg (gJ 9 f6) w fun f7 w =>
    eY pg (mV .delete #[61, 9] 0 [Rl, f7]) w fun _u w =>
    eY pg (gM 88 VJ 2) w fun f9 w =>
    eY pg (gJ 9 f9) w fun i0 w =>
    eY pg (Li 61 Rl i0 c2) w fun _u w =>
    kn w)
    (kn w))
   (eY pg (gO .eql 3 (.tmp 15) (.const (ahC 2)) c5 (ahC 2)) w fun i3 w =>
   mC i3
    (eY pg (gM 88 VJ 1) w fun i5 w =>
    eY pg (gJ 9 i5) w fun i6 w =>
    eY pg (mV .delete #[61, 9] 0 [Rl, i6]) w fun _u w =>
    kn w)
    (kn w)))
theorem Kw (kn : K0) (hn : N0 Q kn) (h : BK kn (g 0) (g 1) w) : iY pg EX D6 Q g w :=
 lN (kr := no) (l := []) h hn mH trivial
def KM (a0 a1 : ahB) (w : ahA) (R : K1) : Prop :=
 BK (fun  w => R (.tuple #[]) w) a0 a1 w
theorem Lo {a0 a1 : ahB} {w : ahA} {R : K1} (h : KM a0 a1 w R) : gT pg sS #[a0, a1] w R := by
 refine xB (ann := EX) Tryd.f47 D6 [a0, a1] Na 57 TrydM.mixed Tryd.func47 ?_
 exact (Kw _ _ _ (fun  w => R (.tuple #[]) w) (fun _ _ h => h) h)
def xE : FA := ⟨rV, fun i => .leaf ([], []) []⟩
def zV : List ResultVar := [.tmp 4]
noncomputable def vX : Code := jB Tryd.f48
def qX (R : K1) (lS NK : ahB) (w : ahA) : Prop :=
 gT pg wQ #[lS, NK] w fun b7 w =>
 eY pg (gO .geq 3 iB iB b7 (ahC 0)) w fun b8 w =>
 R b8 w
theorem DG (R : K1) (hr : HR zV R Q) (h : qX R (g 0) (g 1) w) : iY pg xE vX Q g w :=
 lN (kn := no) (l := []) h mH hr trivial
def B6 (a0 a1 : ahB) (w : ahA) (R : K1) : Prop :=
 qX R a0 a1 w
theorem EJ {a0 a1 : ahB} {w : ahA} {R : K1} (h : B6 a0 a1 w R) : gT pg rV #[a0, a1] w R := by
 refine xB (ann := xE) Tryd.f48 vX [a0, a1] zV 9 TrydM.mixed Tryd.func48 ?_
 exact (DG _ _ _ R (fun _ _ h => h) h)
def kV : FA := ⟨lF, fun i => match Nat.beq i 12 with | true => .leaf ([], []) [(false, []), (false, []), (false, []), (false, [])] | false => .leaf ([], []) []⟩
def D0 : List ResultVar := [.tmp 2, .tmp 3]
noncomputable def iD : Code := jB Tryd.f49
def uA (kn : K0) (k0 : K0) (nE Iq M0 : ahB) (w : ahA) : Prop :=
 gT pg rW #[M0] w fun c5 w =>
 gT pg mR #[c5, (ahC 1)] w fun c7 w =>
 eY pg (lL 24 5 c7) w fun c8 w =>
 gT pg mR #[c5, (ahC 8)] w fun d0 w =>
 eY pg (lZ 77 [(0, c8), (1, d0)]) w fun d1 w =>
 eY pg (lY 77) w fun r_8 w =>
 eY pg (iG 77 r_8 d1) w fun _u w =>
 eY pg (gJ 77 r_8) w fun d2 w =>
 eY pg (lZ 77 []) w fun d3 w =>
 eY pg (gO .eql 77 (.tmp 22) (.tmp 23) d2 d3) w fun d4 w =>
 mC d4
  (k0 w)
  (eY pg (gJ 77 r_8) w fun d6 w =>
  gT pg Az #[d6] w fun d7 w =>
  eY pg (iZ d7 0) w fun d8 w =>
  eY pg (iZ d7 1) w fun d9 w =>
  eY pg (gO .neq 29 (.tmp 30) (.const (ahC 0)) d9 (ahC 0)) w fun e1 w =>
  Gd (kE e1 false) (fun K => K d8 w) w fun e3 w =>
  Gd (kE e1 false) (fun K => K M0 w) w fun e4 w =>
  Gd (kE e1 false) (fun K => gT pg qS #[e3, e4] w K) w fun e5 w =>
  Gd (kE e1 false) (fun K => eY pg (KO .not e5) w K) w fun e6 w =>
  eY pg (lD e1 (.bool true) e6) w fun e7 w =>
  mC e7
   (k0 w)
   (eY pg (gJ 72 nE) w fun e8 w =>
   eY pg (gJ 77 r_8) w fun e9 w =>
   eY pg (iL 72 1 [(0, e9)]) w fun f0 w =>
   eY pg (mV .append #[72, 72] 72 [e8, f0]) w fun f1 w =>
   eY pg (iG 72 nE f1) w fun _u w =>
   eY pg (gJ 3 Iq) w fun f2 w =>
   eY pg (gO .add 3 iB iB f2 (ahC 13)) w fun f3 w =>
   eY pg (iG 3 Iq f3) w fun _u w =>
   kn w))
theorem Jo (kn : K0) (k0 : K0) (hn : N0 Q kn) (h0 : E0 Q k0 0) (h : uA kn k0 (g 4) (g 5) (g 6) w) : iY pg kV (Tw iD) Q g w :=
 lN (kr := no) (l := [(0, fun g w => k0 w)]) h hn mH ⟨h0, trivial⟩
def AE (kn : K3) (nE Iq c3 : ahB) (w : ahA) : Prop :=
 kn nE Iq c3 w
theorem Jh (kn : K3) (hn : N3 Q kn 4 5 6) (h : AE kn (g 4) (g 5) (g 13) w) : iY pg kV (Vx iD) Q g w :=
 lN (kr := no) (l := []) h hn mH trivial
def HZ (l : Nat) (R : K1) (nE Iq c3 : ahB) (w : ahA) : Prop :=
 AE (fun nE Iq M0 w => Rdy l w fun w => uA (fun w => RY l none R w) (fun w => RY l (some (.exit 0)) R w) nE Iq M0 w) nE Iq c3 w
theorem MA {l : Nat} {tmps : Array ahB} {w : ahA} {R : K1} (hsz : tmps.size = 46) (h : HZ l R (KB tmps 4) (KB tmps 5) (KB tmps 13) w) : QH pg l lF tmps (Vx iD) (Tw iD) w R :=
 dsR (ann := kV) 46 TrydM.mixed hsz (Jh (asQ pg kV l (Tw iD) R) (KB tmps) w (fun nE Iq M0 w => Rdy l w fun w => uA (RY l none R) (fun w => RY l (some (.exit 0)) R w) nE Iq M0 w) (fun g w h => let ⟨r, h1, h2, h3⟩ := h; ⟨r, h1, h2, (Jo (Q8 l R) g _ (RY l none R) (fun w => RY l (some (.exit 0)) R w) (fun _ _ h => h) (fun _ _ h => h) h3)⟩) h) (by kernel_rfl) (by kernel_rfl) (by kernel_rfl)
def pF (R : K1) (nE Iq t1000003 : ahB) (w : ahA) : Prop :=
 eY pg (gJ 72 nE) (dr w) fun f4 w_ => w_ = (dr w) /\
 eY pg (gJ 3 Iq) (dr w) fun f5 w_ => w_ = (dr w) /\
 (dr w) = (dr w) /\
 (dr w) = (dr w) /\
 CT t1000003 (dr w) fun w => R (.tuple #[f4, f5]) w
theorem MF (R : K1) (hr : HRF D0 R Q) (h : pF R (g 4) (g 5) (g 1000003) w) : iY pg kV (gK 1 (gK 3 (bI (gK 1 iD)))) Q g w :=
 lN (kn := no) (l := []) h mH hr trivial
def DV (kn : K3) (k0 : K3) (nE Iq c2 t1000003 : ahB) (w : ahA) : Prop :=
 ∀ g : Env, g 4 = nE -> g 5 = Iq -> g 12 = c2 -> g 1000003 = t1000003 -> RF pg lF (.tmp 12) (V0 iD) (Vx iD) (Tw iD) (exQ (fun g w => kn (g 4) (g 5) (g 1000003) w) no [(0, (fun g w => k0 (g 4) (g 5) (g 1000003) w))]) g w
theorem MQ (kn : K3) (k0 : K3) (hn : N3 Q kn 4 5 1000003) (h0 : E3 Q k0 0 4 5 1000003) (h : DV kn k0 (g 4) (g 5) (g 12) (g 1000003) w) : iY pg kV (bI (gK 1 (gX 1 (gK 3 (bI (gK 1 iD)))))) Q g w :=
 lN (kr := no) (l := [(0, fun g w => k0 (g 4) (g 5) (g 1000003) w)]) (h g rfl rfl rfl rfl) hn mH ⟨h0, trivial⟩
def Eo (kn : K3) (nE Iq c2 t1000003 : ahB) (w : ahA) : Prop :=
 DV kn kn nE Iq c2 t1000003 w
def ED (kn : K4) (A5 nE Iq t1000003 : ahB) (w : ahA) : Prop :=
 gT pg wB #[A5, (ahC 13)] w fun c2 w =>
 kn nE Iq c2 t1000003 w
theorem Ms (kn : K4) (hn : N4 Q kn 4 5 12 1000003) (h : ED kn (g 0) (g 4) (g 5) (g 1000003) w) : iY pg kV (gX 1 (gX 1 (gK 3 (bI (gK 1 iD))))) Q g w :=
 lN (kr := no) (l := []) h hn mH trivial
def Eh (kn : K3) (A5 nE Iq t1000003 : ahB) (w : ahA) : Prop :=
 ED (fun nE Iq c2 t1000003 w => Eo kn nE Iq c2 t1000003 w) A5 nE Iq t1000003 w
def Ed (R : K1) (A5 nE Iq t1000003 : ahB) (w : ahA) : Prop :=
 Eh (fun nE Iq t1000003 w => pF R nE Iq t1000003 w) A5 nE Iq t1000003 w
theorem MB (kn : K3) (hn : N3 Q kn 4 5 1000003) (h : Eh kn (g 0) (g 4) (g 5) (g 1000003) w) : iY pg kV (gX 1 (gK 3 (bI (gK 1 iD)))) Q g w :=
 sW 1 (Ms _ g w (Eo kn) (fun g w h => iC (Oq 0 (MQ _ g w kn kn hn hn h))) h)
def Dq (kn : K4) (A5 t1000003 : ahB) (w : ahA) : Prop :=
 eY pg (lY 72) w fun nE w =>
 eY pg (lY 3) w fun Iq w =>
 eY pg (iG 3 Iq (ahC 0)) w fun _u w =>
 kn A5 nE Iq t1000003 w
theorem Mx (kn : K4) (hn : N4 Q kn 0 4 5 1000003) (h : Dq kn (g 0) (g 1000003) w) : iY pg kV (gX 3 (bI (gK 1 iD))) Q g w :=
 lN (kr := no) (l := []) h hn mH trivial
def I3 (R : K1) (A5 t1000003 : ahB) (w : ahA) : Prop :=
 Dq (fun A5 nE Iq t1000003 w => Ed R A5 nE Iq t1000003 w) A5 t1000003 w
def DD (R : K1) (A5 t1000003 : ahB) (w : ahA) : Prop :=
 I3 R A5 t1000003 w
def CK (kn : K2) (A5 t1000003 : ahB) (w : ahA) : Prop :=
 kn A5 t1000003 w
theorem LA (kn : K2) (hn : N2 Q kn 0 1000003) (h : CK kn (g 0) (g 1000003) w) : iY pg kV (gX 1 iD) Q g w :=
 lN (kr := no) (l := []) h hn mH trivial
def CM (R : K1) (A5 t1000003 : ahB) (w : ahA) : Prop :=
 CK (fun A5 t1000003 w => DD R A5 t1000003 w) A5 t1000003 w
theorem Lu (R : K1) (hr : HRF D0 R Q) (h : CM R (g 0) (g 1000003) w) : iY pg kV iD Q g w :=
 sW 1 (LA _ g w (DD R) (fun g w h => iC (scD (sW 3 (Mx _ g w (Ed R) (fun g w h => iC (sW 1 (MB _ g w (pF R) (fun g w h => iC (MF _ g w R hr h)) h))) h)))) h)
def Om (a0 : ahB) (w : ahA) (R : K1) : Prop :=
 CM R a0 undef w
theorem NF {a0 : ahB} {w : ahA} {R : K1} (h : Om a0 w R) : gT pg lF #[a0] w R := by
 refine dsF (ann := kV) Tryd.f49 iD [a0] D0 46 TrydM.mixed Tryd.func49 ?_
 exact (Lu _ _ _ R (fun _ _ h => h) h)
def lR : FA := ⟨BV, fun i => .leaf ([], []) []⟩
def DW : List ResultVar := [.tmp 4, .tmp 5]
noncomputable def lG : Code := jB Tryd.f50
def AT (R : K1) (kW b7 : ahB) (w : ahA) : Prop :=
 R (.tuple #[kW, b7]) w
theorem L4 (R : K1) (hr : HR DW R Q) (h : AT R (g 6) (g 7) w) : iY pg lR (gK 1 (gK 2 lG)) Q g w :=
 lN (kn := no) (l := []) h mH hr trivial
def uM (kn : K6) (mB kW b7 c0 c1 c2 : ahB) (w : ahA) : Prop :=
 eY pg (gO .add 3 iB iB c2 (ahC 1)) w fun d4 w =>
 kn mB kW b7 c0 c1 d4 w
theorem Mc (kn : K6) (hn : N6 Q kn 1 6 7 10 11 12) (h : uM kn (g 1) (g 6) (g 7) (g 10) (g 11) (g 12) w) : iY pg lR (gK 3 (bI (bI (gK 1 (gX 1 (gK 2 lG)))))) Q g w :=
 lN (kr := no) (l := []) h hn mH trivial
def EA (kn : K6) (k0 : K2) (mB kW b7 c0 c1 c2 : ahB) (w : ahA) : Prop :=
 eY pg (gO .lss 3 iB iB c2 c1) w fun c3 w =>
 mC c3
  (eY pg (iK 72 c0 c2) w fun c4 w =>
  eY pg (gJ 77 c4) w fun c5 w =>
  eY pg (lY 77) w fun r_9 w =>
  eY pg (iG 77 r_9 c5) w fun _u w =>
  eY pg (gM 77 r_9 0) w fun c6 w =>
  eY pg (gJ 5 c6) w fun c7 w =>
  eY pg (gO .eql 5 (.tmp 17) (.tmp 18) c7 mB) w fun c9 w =>
  mC c9
   (eY pg (gM 77 r_9 1) w fun d1 w =>
   eY pg (gJ 24 d1) w fun d2 w =>
   eY pg (mV .max #[24, 24] 24 [kW, d2]) w fun d3 w =>
   kn mB d3 (.bool true) c0 c1 c2 w)
   (kn mB kW b7 c0 c1 c2 w))
  (k0 kW b7 w)
theorem MG (kn : K6) (k0 : K2) (hn : N6 Q kn 1 6 7 10 11 12) (h0 : E2 Q k0 0 6 7) (h : EA kn k0 (g 1) (g 6) (g 7) (g 10) (g 11) (g 12) w) : iY pg lR (gX 3 (bI (bI (gK 1 (gX 1 (gK 2 lG)))))) Q g w :=
 lN (kr := no) (l := [(0, fun g w => k0 (g 6) (g 7) w)]) h hn mH ⟨h0, trivial⟩
def AX (kn : K6) (k0 : K2) (mB kW b7 c0 c1 c2 : ahB) (w : ahA) : Prop :=
 EA (fun mB kW b7 c0 c1 c2 w => uM kn mB kW b7 c0 c1 c2 w) k0 mB kW b7 c0 c1 c2 w
def DA (k0 : K2) (mB kW b7 c0 c1 c2 : ahB) (w : ahA) : Prop :=
 kJ (fun (X : (ahB × ahB × ahB) -> K0) (t : ahB × ahB × ahB) (w : ahA) => AX (fun _ kW b7 _ _ c2 w => X (kW, b7, c2) w) k0 mB t.1 t.2.1 c0 c1 t.2.2 w) (kW, b7, c2) w
theorem L2 (kn : K6) (k0 : K2) (hn : N6 Q kn 1 6 7 10 11 12) (h0 : E2 Q k0 0 6 7) (h : AX kn k0 (g 1) (g 6) (g 7) (g 10) (g 11) (g 12) w) : iY pg lR (bI (bI (gK 1 (gX 1 (gK 2 lG))))) Q g w :=
 sW 3 (MG _ g w (uM kn) k0 (fun g w h => iC (Mc _ g w kn hn h)) h0 h)
theorem Mv (k0 : K2) (h0 : E2 Q k0 0 6 7) (h : DA k0 (g 1) (g 6) (g 7) (g 10) (g 11) (g 12) w) : iY pg lR (bI (gK 1 (gX 1 (gK 2 lG)))) Q g w := by
 refine OW (fun g : Env => (g 6, g 7, g 12)) (fun X t w => AX (fun _ kW b7 _ _ c2 w => X (kW, b7, c2) w) k0 (g 1) t.1 t.2.1 (g 10) (g 11) t.2.2 w) h (fun X g1 w1 ha hL => ?_)
 rw [<- qI 1 ha, <- qI 10 ha, <- qI 11 ha] at hL
 exact (L2 _ g1 w1 (fun _ kW b7 _ _ c2 w => X (kW, b7, c2) w) k0 (fun _ _ h => h) h0 hL)
def El (kn : K2) (mB kW b7 c0 c1 c2 : ahB) (w : ahA) : Prop :=
 DA kn mB kW b7 c0 c1 c2 w
def EB (kn : K6) (S8 mB kW b7 : ahB) (w : ahA) : Prop :=
 eY pg (mV .len #[72] 3 [S8]) w fun c1 w =>
 kn mB kW b7 S8 c1 (ahC 0) w
theorem Mi (kn : K6) (hn : N6 Q kn 1 6 7 10 11 12) (h : EB kn (g 0) (g 1) (g 6) (g 7) w) : iY pg lR (gX 1 (gX 1 (gK 2 lG))) Q g w :=
 lN (kr := no) (l := []) h hn mH trivial
def Dx (kn : K2) (S8 mB kW b7 : ahB) (w : ahA) : Prop :=
 EB (fun mB kW b7 c0 c1 c2 w => El kn mB kW b7 c0 c1 c2 w) S8 mB kW b7 w
def Dr (R : K1) (S8 mB kW b7 : ahB) (w : ahA) : Prop :=
 Dx (fun kW b7 w => AT R kW b7 w) S8 mB kW b7 w
theorem L1 (kn : K2) (hn : N2 Q kn 6 7) (h : Dx kn (g 0) (g 1) (g 6) (g 7) w) : iY pg lR (gX 1 (gK 2 lG)) Q g w :=
 sW 1 (Mi _ g w (El kn) (fun g w h => iC (Oq 0 (Mv _ g w kn hn h))) h)
def CI (kn : K4) (S8 mB : ahB) (w : ahA) : Prop :=
 kn S8 mB (.int .u64 0) (.bool false) w
theorem Ly (kn : K4) (hn : N4 Q kn 0 1 6 7) (h : CI kn (g 0) (g 1) w) : iY pg lR (gX 2 lG) Q g w :=
 lN (kr := no) (l := []) h hn mH trivial
def CL (R : K1) (S8 mB : ahB) (w : ahA) : Prop :=
 CI (fun S8 mB kW b7 w => Dr R S8 mB kW b7 w) S8 mB w
theorem LI (R : K1) (hr : HR DW R Q) (h : CL R (g 0) (g 1) w) : iY pg lR lG Q g w :=
 sW 2 (Ly _ g w (Dr R) (fun g w h => iC (sW 1 (L1 _ g w (AT R) (fun g w h => iC (L4 _ g w R hr h)) h))) h)
def NQ (a0 a1 : ahB) (w : ahA) (R : K1) : Prop :=
 CL R a0 a1 w
theorem Nt {a0 a1 : ahB} {w : ahA} {R : K1} (h : NQ a0 a1 w R) : gT pg BV #[a0, a1] w R := by
 refine xB (ann := lR) Tryd.f50 lG [a0, a1] DW 27 TrydM.mixed Tryd.func50 ?_
 exact (LI _ _ _ R (fun _ _ h => h) h)
def BZ : FA := ⟨sB, fun i => .leaf ([], []) []⟩
def CS : List ResultVar := [.tmp 4]
noncomputable def Bm : Code := jB Tryd.f51
def wO (R : K1) (lE uS : ahB) (w : ahA) : Prop :=
 gT pg nI #[lE] w fun b9 w =>
 eY pg (gO .neq 29 (.tmp 10) (.const (ahC 0)) b9 (ahC 0)) w fun c1 w =>
 mC c1
  (R b9 w)
  (eY pg (jD lE) w fun c5 w =>
  eY pg (gM 64 c5 2) w fun c6 w =>
  eY pg (gJ 61 c6) w fun c7 w =>
  eY pg (Ay 61 c7 uS true) w fun c9 w =>
  eY pg (iZ c9 0) w fun d0 w =>
  eY pg (iZ c9 1) w fun d1 w =>
  eY pg (KO .not d1) w fun d3 w =>
  mC d3
   (R (ahC 21) w)
   (eY pg (lZ 88 [(0, (ahC 2)), (1, uS)]) w fun d6 w =>
   gT pg oT #[lE, d6] w fun d7 w =>
   R d7 w))
theorem Ho (R : K1) (hr : HR CS R Q) (h : wO R (g 0) (g 1) w) : iY pg BZ Bm Q g w :=
 lN (kn := no) (l := []) h mH hr trivial
def Gk (a0 a1 : ahB) (w : ahA) (R : K1) : Prop :=
 wO R a0 a1 w
theorem IU {a0 a1 : ahB} {w : ahA} {R : K1} (h : Gk a0 a1 w R) : gT pg sB #[a0, a1] w R := by
 refine xB (ann := BZ) Tryd.f51 Bm [a0, a1] CS 28 TrydM.mixed Tryd.func51 ?_
 exact (Ho _ _ _ R (fun _ _ h => h) h)
def JU : FA := ⟨Az, fun i => .leaf ([], []) []⟩
def KU : List ResultVar := [.tmp 2, .tmp 3]
noncomputable def HX : Code := jB Tryd.f52
def FM (R : K1) (OI : ahB) (w : ahA) : Prop :=
 eY pg (EL 77 OI) w fun YC w =>
 eY pg (gM 77 YC 0) w fun b5 w =>
 eY pg (gJ 5 b5) w fun b6 w =>
 eY pg (gO .lss 5 iB iB b6 (.int .u8 1)) w fun b7 w =>
 Gd (kE b7 false) (fun K => eY pg (gM 77 YC 0) w K) w fun b9 w =>
 Gd (kE b7 false) (fun K => eY pg (gJ 5 b9) w K) w fun c0 w =>
 Gd (kE b7 false) (fun K => eY pg (gO .gtr 5 iB iB c0 (.int .u8 2)) w K) w fun c1 w =>
 eY pg (lD b7 (.bool true) c1) w fun c2 w =>
 mC c2
  (R (.tuple #[(.slice none 0 0), (ahC 1)]) w)
  (gT pg sG #[] w fun c3 w =>
  eY pg (gM 77 YC 0) w fun c5 w =>
  eY pg (gJ 5 c5) w fun c6 w =>
  eY pg (lL 5 24 c6) w fun c7 w =>
  gT pg lV #[c3, c7, (ahC 1)] w fun c8 w =>
  eY pg (gM 77 YC 1) w fun d0 w =>
  eY pg (gJ 24 d0) w fun d1 w =>
  gT pg lV #[c3, d1, (ahC 8)] w fun d2 w =>
  gT pg oB #[c3] w fun d5 w =>
  gT pg Mg #[d5] w fun d6 w =>
  eY pg (lL 25 24 d6) w fun d7 w =>
  gT pg lV #[c3, d7, (ahC 4)] w fun d8 w =>
  gT pg oB #[c3] w fun e0 w =>
  R (.tuple #[e0, (ahC 0)]) w)
theorem Ny (R : K1) (hr : HR KU R Q) (h : FM R (g 0) w) : iY pg JU HX Q g w :=
 lN (kn := no) (l := []) h mH hr trivial
def O9 (a0 : ahB) (w : ahA) (R : K1) : Prop :=
 FM R a0 w
theorem OD {a0 : ahB} {w : ahA} {R : K1} (h : O9 a0 w R) : gT pg Az #[a0] w R := by
 refine xB (ann := JU) Tryd.f52 HX [a0] KU 31 TrydM.mixed Tryd.func52 ?_
 exact (Ny _ _ _ R (fun _ _ h => h) h)
def NW : FA := ⟨J6, fun i => .leaf ([], []) []⟩
def OR : List ResultVar := [.tmp 0]
noncomputable def LQ : Code := jB Tryd.f53
def Lz (R : K1)  (w : ahA) : Prop :=
 eY pg (lZ 119 [(0, (.int .u32 1779033703)), (1, (.int .u32 3144134277)), (2, (.int .u32 1013904242)), (3, (.int .u32 2773480762)), (4, (.int .u32 1359893119)), (5, (.int .u32 2600822924)), (6, (.int .u32 528734635)), (7, (.int .u32 1541459225))]) w fun b1 w =>
 eY pg (lZ 122 [(0, b1)]) w fun b2 w =>
 eY pg (EL 122 b2) w fun b3 w =>
 R b3 w
theorem Qj (R : K1) (hr : HR OR R Q) (h : Lz R w) : iY pg NW LQ Q g w :=
 lN (kn := no) (l := []) h mH hr trivial
def UG (w : ahA) (R : K1) : Prop :=
 Lz R w
theorem Rj {w : ahA} {R : K1} (h : UG w R) : gT pg J6 #[] w R := by
 refine xB (ann := NW) Tryd.f53 LQ [] OR 4 TrydM.mixed Tryd.func53 ?_
 exact (Qj _ _ _ R (fun _ _ h => h) h)
def pB : FA := ⟨mJ, fun i => match Nat.beq i 3 with | true => .leaf ([9], []) [(false, []), (false, []), (false, []), (false, []), (false, []), (false, []), (false, []), (false, []), (false, []), (true, []), (false, [])] | false => match Nat.beq i 7 with | true => .leaf ([9, 12], []) [(false, []), (false, []), (false, []), (false, []), (false, []), (false, []), (false, []), (false, []), (false, []), (true, []), (false, []), (false, []), (true, [])] | false => .leaf ([], []) []⟩
def Au : List ResultVar := []
noncomputable def oF : Code := jB Tryd.f54
def tW (kn : K2) (k0 : K0) (pN A6 : ahB) (w : ahA) : Prop :=
 eY pg (mV .len #[22] 3 [A6]) w fun c8 w =>
 eY pg (gO .gtr 3 iB iB c8 (ahC 0)) w fun c9 w =>
 mC c9
  ((dr w) = (dr w) /\
  eY pg (jD pN) (dr w) fun d1 w_ => w_ = (dr w) /\
  eY pg (gM 122 d1 1) (dr w) fun d2 w_ => w_ = (dr w) /\
  (dr w) = (dr w) /\
  eY pg (jD pN) (dr w) fun d4 w_ => w_ = (dr w) /\
  eY pg (gM 122 d4 2) (dr w) fun d5 w_ => w_ = (dr w) /\
  eY pg (gJ 3 d5) (dr w) fun d6 w_ => w_ = (dr w) /\
  eY pg (mG 120 d2 (some d6) none none) (dr w) fun d7 w_ => w_ = (dr w) /\
  (dr w) = (dr w) /\
  eY pg (mV .copy #[22, 22] 3 [d7, A6]) (dr w) fun d9 Zu =>
  Zu = Zu /\
  eY pg (jD pN) Zu fun e1 w =>
  eY pg (gM 122 e1 2) w fun e2 w =>
  eY pg (gJ 3 e2) w fun e3 w =>
  eY pg (gO .add 3 iB iB e3 d9) w fun e5 w =>
  eY pg (jD pN) w fun e6 w =>
  eY pg (gM 122 e6 2) w fun e7 w =>
  eY pg (iG 3 e7 e5) w fun _u w =>
  eY pg (mG 22 A6 (some d9) none none) w fun f0 w =>
  eY pg (jD pN) w fun f2 w =>
  eY pg (gM 122 f2 2) w fun f3 w =>
  eY pg (gJ 3 f3) w fun f4 w =>
  eY pg (gO .eql 3 (.tmp 44) (.const (ahC 64)) f4 (ahC 64)) w fun f5 w =>
  mC f5
   ((dr w) = (dr w) /\
   (dr w) = (dr w) /\
   eY pg (jD pN) (dr w) fun f8 w_ => w_ = (dr w) /\
   eY pg (gM 122 f8 0) (dr w) fun f9 w_ => w_ = (dr w) /\
   eY pg (gJ 119 f9) (dr w) fun i0 w_ => w_ = (dr w) /\
   (dr w) = (dr w) /\
   eY pg (jD pN) (dr w) fun i2 w_ => w_ = (dr w) /\
   eY pg (gM 122 i2 1) (dr w) fun i3 w_ => w_ = (dr w) /\
   eY pg (gJ 120 i3) (dr w) fun i4 w_ => w_ = (dr w) /\
   gT pg vT #[i0, i4] (dr w) fun i5 I9 =>
   eY pg (jD pN) I9 fun i6 w_ => w_ = I9 /\
   eY pg (gM 122 i6 0) I9 fun i7 w_ => w_ = I9 /\
   eY pg (iG 119 i7 i5) I9 fun _u12 ZZ =>
   eY pg (jD pN) ZZ fun i9 w =>
   eY pg (gM 122 i9 2) w fun j0 w =>
   eY pg (iG 3 j0 (ahC 0)) w fun _u w =>
   kn pN f0 w)
   (kn pN f0 w))
  (k0 w)
theorem Jw (kn : K2) (k0 : K0) (hn : N2 Q kn 0 1) (h0 : E0 Q k0 0) (h : tW kn k0 (g 0) (g 1) w) : iY pg pB (bI (bI (gK 2 oF))) Q g w :=
 lN (kr := no) (l := [(0, fun g w => k0 w)]) h hn mH ⟨h0, trivial⟩
def tV (k0 : K0) (pN A6 : ahB) (w : ahA) : Prop :=
 kJ (fun (X : ahB -> K0) (t : ahB) (w : ahA) => tW (fun _ A6 w => X A6 w) k0 pN t w) A6 w
theorem JJ (k0 : K0) (h0 : E0 Q k0 0) (h : tV k0 (g 0) (g 1) w) : iY pg pB (bI (gK 2 oF)) Q g w := by
 refine OW (fun g : Env => g 1) (fun X t w => tW (fun _ A6 w => X A6 w) k0 (g 0) t w) h (fun X g1 w1 ha hL => ?_)
 rw [<- qI 0 ha] at hL
 exact (Jw _ g1 w1 (fun _ A6 w => X A6 w) k0 (fun _ _ h => h) h0 hL)
def Ap (kn : K0) (pN A6 : ahB) (w : ahA) : Prop :=
 tV kn pN A6 w
def AK (kn : K2) (R : K1) (pN A6 : ahB) (w : ahA) : Prop :=
 eY pg (gO .eql 100 (.tmp 5) (.const (.pointer none)) pN (.pointer none)) w fun b6 w =>
 mC b6
  (R (.tuple #[]) w)
  (eY pg (jD pN) w fun b8 w =>
  eY pg (gM 122 b8 3) w fun b9 w =>
  eY pg (gJ 24 b9) w fun c0 w =>
  eY pg (mV .len #[22] 3 [A6]) w fun c2 w =>
  eY pg (lL 3 24 c2) w fun c3 w =>
  eY pg (gO .add 24 iB iB c0 c3) w fun c4 w =>
  eY pg (jD pN) w fun c5 w =>
  eY pg (gM 122 c5 3) w fun c6 w =>
  eY pg (iG 24 c6 c4) w fun _u w =>
  kn pN A6 w)
theorem JN (kn : K2) (R : K1) (hn : N2 Q kn 0 1) (hr : HR Au R Q) (h : AK kn R (g 0) (g 1) w) : iY pg pB (gX 2 oF) Q g w :=
 lN (l := []) h hn hr trivial
def AO (kn : K0) (R : K1) (pN A6 : ahB) (w : ahA) : Prop :=
 AK (fun pN A6 w => Ap kn pN A6 w) R pN A6 w
theorem Jy (kn : K0) (R : K1) (hn : N0 Q kn) (hr : HR Au R Q) (h : AO kn R (g 0) (g 1) w) : iY pg pB oF Q g w :=
 sW 2 (JN _ g w (Ap kn) R (fun g w h => iC (Oq 0 (JJ _ g w kn hn h))) hr h)
def J1 (a0 a1 : ahB) (w : ahA) (R : K1) : Prop :=
 AO (fun  w => R (.tuple #[]) w) R a0 a1 w
theorem KD {a0 a1 : ahB} {w : ahA} {R : K1} (h : J1 a0 a1 w R) : gT pg mJ #[a0, a1] w R := by
 refine xB (ann := pB) Tryd.f54 oF [a0, a1] Au 61 TrydM.mixed Tryd.func54 ?_
 exact (Jy _ _ _ (fun  w => R (.tuple #[]) w) R (fun _ _ h => h) (fun _ _ h => h) h)
def jF : FA := ⟨AY, fun i => .leaf ([], []) []⟩
def xL : List ResultVar := [.cell 2 49]
noncomputable def jE : Code := jB Tryd.f55
def xM (R : K1) (b2 kM : ahB) (w : ahA) : Prop :=
 eY pg (gJ 49 kM) w fun i1 w =>
 eY pg (iG 49 b2 i1) w fun _u w =>
 VR pg 49 b2 w fun r0 => R r0 w
theorem Ln (R : K1) (hr : HR xL R Q) (h : xM R (g 2) (g 5) w) : iY pg jF (gK 1 (gK 1 (gK 1 (gK 1 (gK 4 jE))))) Q g w :=
 lN (kn := no) (l := []) h mH hr trivial
def xN (kn : K4) (k4 : K2) (b2 vU kM e4 : ahB) (w : ahA) : Prop :=
 eY pg (gO .lss 3 iB iB e4 (ahC 32)) w fun e5 w =>
 mC e5
  (eY pg (gO .quo 3 iB iB e4 (ahC 4)) w fun e9 w =>
  eY pg (gM 122 vU 0) w fun f0 w =>
  eY pg (iK 119 f0 e9) w fun f1 w =>
  eY pg (gJ 25 f1) w fun f2 w =>
  eY pg (gO .rem 3 iB iB e4 (ahC 4)) w fun f4 w =>
  eY pg (gO .mul 3 iB iB f4 (ahC 8)) w fun f5 w =>
  eY pg (gO .sub 3 iB iB (ahC 24) f5) w fun f6 w =>
  eY pg (gO .shr 25 iB iB f2 f6) w fun f7 w =>
  eY pg (lL 25 5 f7) w fun f8 w =>
  eY pg (iK 49 kM e4) w fun f9 w =>
  eY pg (iG 5 f9 f8) w fun _u w =>
  eY pg (gO .add 3 iB iB e4 (ahC 1)) w fun i0 w =>
  kn b2 vU kM i0 w)
  (k4 b2 kM w)
theorem LL (kn : K4) (k4 : K2) (hn : N4 Q kn 2 3 5 34) (h4 : E2 Q k4 4 2 5) (h : xN kn k4 (g 2) (g 3) (g 5) (g 34) w) : iY pg jF (bI (bI (gK 1 (gX 1 (gK 1 (gK 1 (gK 1 (gK 4 jE)))))))) Q g w :=
 lN (kr := no) (l := [(4, fun g w => k4 (g 2) (g 5) w)]) h hn mH ⟨h4, trivial⟩
def CH (k4 : K2) (b2 vU kM e4 : ahB) (w : ahA) : Prop :=
 kJ (fun (X : ahB -> K0) (t : ahB) (w : ahA) => xN (fun _ _ _ e4 w => X e4 w) k4 b2 vU kM t w) e4 w
theorem Ll (k4 : K2) (h4 : E2 Q k4 4 2 5) (h : CH k4 (g 2) (g 3) (g 5) (g 34) w) : iY pg jF (bI (gK 1 (gX 1 (gK 1 (gK 1 (gK 1 (gK 4 jE))))))) Q g w := by
 refine OW (fun g : Env => g 34) (fun X t w => xN (fun _ _ _ e4 w => X e4 w) k4 (g 2) (g 3) (g 5) t w) h (fun X g1 w1 ha hL => ?_)
 rw [<- qI 2 ha, <- qI 3 ha, <- qI 5 ha] at hL
 exact (LL _ g1 w1 (fun _ _ _ e4 w => X e4 w) k4 (fun _ _ h => h) h4 hL)
def CB (kn : K2) (b2 vU kM e4 : ahB) (w : ahA) : Prop :=
 CH kn b2 vU kM e4 w
def CD (kn : K4) (b2 vU kM : ahB) (w : ahA) : Prop :=
 kn b2 vU kM (ahC 0) w
theorem Lk (kn : K4) (hn : N4 Q kn 2 3 5 34) (h : CD kn (g 2) (g 3) (g 5) w) : iY pg jF (gX 1 (gX 1 (gK 1 (gK 1 (gK 1 (gK 4 jE)))))) Q g w :=
 lN (kr := no) (l := []) h hn mH trivial
def CC (kn : K2) (b2 vU kM : ahB) (w : ahA) : Prop :=
 CD (fun b2 vU kM e4 w => CB kn b2 vU kM e4 w) b2 vU kM w
def CA (R : K1) (b2 vU kM : ahB) (w : ahA) : Prop :=
 CC (fun b2 kM w => xM R b2 kM w) b2 vU kM w
theorem Lx (kn : K2) (hn : N2 Q kn 2 5) (h : CC kn (g 2) (g 3) (g 5) w) : iY pg jF (gX 1 (gK 1 (gK 1 (gK 1 (gK 4 jE))))) Q g w :=
 sW 1 (Lk _ g w (CB kn) (fun g w h => iC (Oq 4 (Ll _ g w kn hn h))) h)
def Cy (kn : K3) (b2 vU : ahB) (w : ahA) : Prop :=
 eY pg (lY 49) w fun kM w =>
 kn b2 vU kM w
theorem LF (kn : K3) (hn : N3 Q kn 2 3 5) (h : Cy kn (g 2) (g 3) w) : iY pg jF (gX 1 (gK 1 (gK 1 (gK 4 jE)))) Q g w :=
 lN (kr := no) (l := []) h hn mH trivial
def Cz (R : K1) (b2 vU : ahB) (w : ahA) : Prop :=
 Cy (fun b2 vU kM w => CA R b2 vU kM w) b2 vU w
def vQ (kn : K4) (k2 : K2) (pN b2 vU qH : ahB) (w : ahA) : Prop :=
 eY pg (gO .geq 3 iB iB qH (ahC 0)) w fun d1 w =>
 mC d1
  (eY pg (jD pN) w fun d5 w =>
  eY pg (gM 122 d5 3) w fun d6 w =>
  eY pg (gJ 24 d6) w fun d7 w =>
  eY pg (gO .mul 24 iB iB (.int .u64 8) d7) w fun d8 w =>
  eY pg (gO .shr 24 iB iB d8 qH) w fun e0 w =>
  eY pg (lL 24 5 e0) w fun e1 w =>
  eY pg (iL 22 1 [(0, e1)]) w fun e2 w =>
  gT pg mJ #[vU, e2] w fun e3 w =>
  eY pg (gO .sub 3 iB iB qH (ahC 8)) w fun d3 w =>
  kn pN b2 vU d3 w)
  (k2 b2 vU w)
theorem Kk (kn : K4) (k2 : K2) (hn : N4 Q kn 0 2 3 4) (h2 : E2 Q k2 2 2 3) (h : vQ kn k2 (g 0) (g 2) (g 3) (g 4) w) : iY pg jF (bI (bI (gK 1 (gX 1 (gK 1 (gK 4 jE)))))) Q g w :=
 lN (kr := no) (l := [(2, fun g w => k2 (g 2) (g 3) w)]) h hn mH ⟨h2, trivial⟩
def BO (k2 : K2) (pN b2 vU qH : ahB) (w : ahA) : Prop :=
 kJ (fun (X : ahB -> K0) (t : ahB) (w : ahA) => vQ (fun _ _ _ qH w => X qH w) k2 pN b2 vU t w) qH w
theorem Kn (k2 : K2) (h2 : E2 Q k2 2 2 3) (h : BO k2 (g 0) (g 2) (g 3) (g 4) w) : iY pg jF (bI (gK 1 (gX 1 (gK 1 (gK 4 jE))))) Q g w := by
 refine OW (fun g : Env => g 4) (fun X t w => vQ (fun _ _ _ qH w => X qH w) k2 (g 0) (g 2) (g 3) t w) h (fun X g1 w1 ha hL => ?_)
 rw [<- qI 0 ha, <- qI 2 ha, <- qI 3 ha] at hL
 exact (Kk _ g1 w1 (fun _ _ _ qH w => X qH w) k2 (fun _ _ h => h) h2 hL)
def By (kn : K2) (pN b2 vU qH : ahB) (w : ahA) : Prop :=
 BO kn pN b2 vU qH w
def BH (kn : K4) (pN b2 vU : ahB) (w : ahA) : Prop :=
 kn pN b2 vU (ahC 56) w
theorem KA (kn : K4) (hn : N4 Q kn 0 2 3 4) (h : BH kn (g 0) (g 2) (g 3) w) : iY pg jF (gX 1 (gX 1 (gK 1 (gK 4 jE)))) Q g w :=
 lN (kr := no) (l := []) h hn mH trivial
def Bx (kn : K2) (pN b2 vU : ahB) (w : ahA) : Prop :=
 BH (fun pN b2 vU qH w => By kn pN b2 vU qH w) pN b2 vU w
def BA (R : K1) (pN b2 vU : ahB) (w : ahA) : Prop :=
 Bx (fun b2 vU w => Cz R b2 vU w) pN b2 vU w
theorem Ks (kn : K2) (hn : N2 Q kn 2 3) (h : Bx kn (g 0) (g 2) (g 3) w) : iY pg jF (gX 1 (gK 1 (gK 4 jE))) Q g w :=
 sW 1 (KA _ g w (By kn) (fun g w h => iC (Oq 2 (Kn _ g w kn hn h))) h)
def vS (kn : K3) (k0 : K3) (pN b2 vU : ahB) (w : ahA) : Prop :=
 eY pg (gM 122 vU 2) w fun c5 w =>
 eY pg (gJ 3 c5) w fun c6 w =>
 eY pg (gO .neq 3 (.tmp 16) (.const (ahC 56)) c6 (ahC 56)) w fun c7 w =>
 mC c7
  (eY pg (iL 22 1 [(0, (.int .u8 0))]) w fun c8 w =>
  gT pg mJ #[vU, c8] w fun c9 w =>
  kn pN b2 vU w)
  (k0 pN b2 vU w)
theorem Ko (kn : K3) (k0 : K3) (hn : N3 Q kn 0 2 3) (h0 : E3 Q k0 0 0 2 3) (h : vS kn k0 (g 0) (g 2) (g 3) w) : iY pg jF (bI (bI (gX 1 (gK 4 jE)))) Q g w :=
 lN (kr := no) (l := [(0, fun g w => k0 (g 0) (g 2) (g 3) w)]) h hn mH ⟨h0, trivial⟩
def Bq (k0 : K3) (pN b2 vU : ahB) (w : ahA) : Prop :=
 kJ (fun (X : Unit -> K0) (t : Unit) (w : ahA) => vS (fun _ _ _ w => X () w) k0 pN b2 vU w) () w
theorem Kp (k0 : K3) (h0 : E3 Q k0 0 0 2 3) (h : Bq k0 (g 0) (g 2) (g 3) w) : iY pg jF (bI (gX 1 (gK 4 jE))) Q g w := by
 refine OW (fun _ : Env => ()) (fun X t w => vS (fun _ _ _ w => X () w) k0 (g 0) (g 2) (g 3) w) h (fun X g1 w1 ha hL => ?_)
 rw [<- qI 0 ha, <- qI 2 ha, <- qI 3 ha] at hL
 exact (Ko _ g1 w1 (fun _ _ _ w => X () w) k0 (fun _ _ h => h) h0 hL)
def BE (kn : K3) (pN b2 vU : ahB) (w : ahA) : Prop :=
 Bq kn pN b2 vU w
def BL (R : K1) (pN b2 vU : ahB) (w : ahA) : Prop :=
 BE (fun pN b2 vU w => BA R pN b2 vU w) pN b2 vU w
theorem Ki (kn : K3) (hn : N3 Q kn 0 2 3) (h : BE kn (g 0) (g 2) (g 3) w) : iY pg jF (gX 1 (gK 4 jE)) Q g w :=
 Oq 0 (Kp _ g w kn hn h)
def BP (kn : K3) (R : K1) (pN : ahB) (w : ahA) : Prop :=
 eY pg (lY 49) w fun b2 w =>
 eY pg (gO .eql 100 (.tmp 7) (.const (.pointer none)) pN (.pointer none)) w fun b8 w =>
 mC b8
  (gT pg JD #[(.slice none 0 0)] w fun b9 w =>
  eY pg (iG 49 b2 b9) w fun _u w =>
  VR pg 49 b2 w fun r0 => R r0 w)
  (eY pg (jD pN) w fun c1 w =>
  eY pg (gJ 122 c1) w fun c2 w =>
  eY pg (lY 122) w fun vU w =>
  eY pg (iG 122 vU c2) w fun _u w =>
  eY pg (iL 22 1 [(0, (.int .u8 128))]) w fun c3 w =>
  gT pg mJ #[vU, c3] w fun c4 w =>
  kn pN b2 vU w)
theorem KC (kn : K3) (R : K1) (hn : N3 Q kn 0 2 3) (hr : HR xL R Q) (h : BP kn R (g 0) w) : iY pg jF (gX 4 jE) Q g w :=
 lN (l := []) h hn hr trivial
def BC (R : K1) (pN : ahB) (w : ahA) : Prop :=
 BP (fun pN b2 vU w => BL R pN b2 vU w) R pN w
theorem Kr (R : K1) (hr : HR xL R Q) (h : BC R (g 0) w) : iY pg jF jE Q g w :=
 sW 4 (KC _ g w (BL R) R (fun g w h => iC (sW 1 (Ki _ g w (BA R) (fun g w h => iC (sW 1 (Ks _ g w (Cz R) (fun g w h => iC (sW 1 (LF _ g w (CA R) (fun g w h => iC (sW 1 (Lx _ g w (xM R) (fun g w h => iC (Ln _ g w R hr h)) h))) h))) h))) h))) hr h)
def L5 (a0 : ahB) (w : ahA) (R : K1) : Prop :=
 BC R a0 w
theorem Mt {a0 : ahB} {w : ahA} {R : K1} (h : L5 a0 w R) : gT pg AY #[a0] w R := by
 refine xB (ann := jF) Tryd.f55 jE [a0] xL 52 TrydM.mixed Tryd.func55 ?_
 exact (Kr _ _ _ R (fun _ _ h => h) h)
def kT : FA := ⟨wQ, fun i => .leaf ([], []) []⟩
def mK : List ResultVar := [.tmp 4]
noncomputable def kL : Code := jB Tryd.f57
def qA (R : K1)  (w : ahA) : Prop :=
 R (ahC (-1)) w
theorem Gw (R : K1) (hr : HR mK R Q) (h : qA R w) : iY pg kT (gK 1 (gK 1 kL)) Q g w :=
 lN (kn := no) (l := []) h mH hr trivial
def qF (kn : K4) (k0 : K0) (R : K1) (lS NK b7 b8 : ahB) (w : ahA) : Prop :=
 eY pg (gO .lss 3 iB iB b8 b7) w fun b9 w =>
 mC b9
  (eY pg (iK 45 lS b8) w fun c4 w =>
  eY pg (gJ 4 c4) w fun c5 w =>
  eY pg (gO .eql 4 (.tmp 11) (.tmp 15) NK c5) w fun c6 w =>
  mC c6
   (R b8 w)
   (eY pg (gO .add 3 iB iB b8 (ahC 1)) w fun c8 w =>
   kn lS NK b7 c8 w))
  (k0 w)
theorem F7 (kn : K4) (k0 : K0) (R : K1) (hn : N4 Q kn 0 1 7 8) (h0 : E0 Q k0 0) (hr : HR mK R Q) (h : qF kn k0 R (g 0) (g 1) (g 7) (g 8) w) : iY pg kT (bI (bI (gK 1 (gX 1 (gK 1 kL))))) Q g w :=
 lN (l := [(0, fun g w => k0 w)]) h hn hr ⟨h0, trivial⟩
def vI (k0 : K0) (R : K1) (lS NK b7 b8 : ahB) (w : ahA) : Prop :=
 kJ (fun (X : ahB -> K0) (t : ahB) (w : ahA) => qF (fun _ _ _ b8 w => X b8 w) k0 R lS NK b7 t w) b8 w
theorem GG (k0 : K0) (R : K1) (h0 : E0 Q k0 0) (hr : HR mK R Q) (h : vI k0 R (g 0) (g 1) (g 7) (g 8) w) : iY pg kT (bI (gK 1 (gX 1 (gK 1 kL)))) Q g w := by
 refine OW (fun g : Env => g 8) (fun X t w => qF (fun _ _ _ b8 w => X b8 w) k0 R (g 0) (g 1) (g 7) t w) h (fun X g1 w1 ha hL => ?_)
 rw [<- qI 0 ha, <- qI 1 ha, <- qI 7 ha] at hL
 exact (F7 _ g1 w1 (fun _ _ _ b8 w => X b8 w) k0 R (fun _ _ h => h) h0 hr hL)
def uP (kn : K0) (R : K1) (lS NK b7 b8 : ahB) (w : ahA) : Prop :=
 vI kn R lS NK b7 b8 w
def vJ (kn : K4) (lS NK : ahB) (w : ahA) : Prop :=
 eY pg (mV .len #[45] 3 [lS]) w fun b7 w =>
 kn lS NK b7 (ahC 0) w
theorem F8 (kn : K4) (hn : N4 Q kn 0 1 7 8) (h : vJ kn (g 0) (g 1) w) : iY pg kT (gX 1 (gX 1 (gK 1 kL))) Q g w :=
 lN (kr := no) (l := []) h hn mH trivial
def uU (kn : K0) (R : K1) (lS NK : ahB) (w : ahA) : Prop :=
 vJ (fun lS NK b7 b8 w => uP kn R lS NK b7 b8 w) lS NK w
def uL (R : K1) (lS NK : ahB) (w : ahA) : Prop :=
 uU (fun  w => qA R w) R lS NK w
theorem Gb (kn : K0) (R : K1) (hn : N0 Q kn) (hr : HR mK R Q) (h : uU kn R (g 0) (g 1) w) : iY pg kT (gX 1 (gK 1 kL)) Q g w :=
 sW 1 (F8 _ g w (uP kn R) (fun g w h => iC (Oq 0 (GG _ g w kn R hn hr h))) h)
def vD (kn : K2) (lS NK : ahB) (w : ahA) : Prop :=
 kn lS NK w
theorem FX (kn : K2) (hn : N2 Q kn 0 1) (h : vD kn (g 0) (g 1) w) : iY pg kT (gX 1 kL) Q g w :=
 lN (kr := no) (l := []) h hn mH trivial
def vF (R : K1) (lS NK : ahB) (w : ahA) : Prop :=
 vD (fun lS NK w => uL R lS NK w) lS NK w
theorem GN (R : K1) (hr : HR mK R Q) (h : vF R (g 0) (g 1) w) : iY pg kT kL Q g w :=
 sW 1 (FX _ g w (uL R) (fun g w h => iC (sW 1 (Gb _ g w (fun  w => qA R w) R (fun g w h => iC (Gw _ g w R hr h)) hr h))) h)
def Fl (a0 a1 : ahB) (w : ahA) (R : K1) : Prop :=
 vF R a0 a1 w
theorem HF {a0 a1 : ahB} {w : ahA} {R : K1} (h : Fl a0 a1 w R) : gT pg wQ #[a0, a1] w R := by
 refine xB (ann := kT) Tryd.f57 kL [a0, a1] mK 19 TrydM.mixed Tryd.func57 ?_
 exact (GN _ _ _ R (fun _ _ h => h) h)
def pL : FA := ⟨wB, fun i => .leaf ([], []) []⟩
def vC : List ResultVar := [.tmp 4]
noncomputable def oK : Code := jB Tryd.f58
def qB (R : K1) (nX FW : ahB) (w : ahA) : Prop :=
 eY pg (JM (.func 67) [] [nX, FW]) w fun b8 w =>
 R b8 w
theorem Gm (R : K1) (hr : HR vC R Q) (h : qB R (g 2) (g 3) w) : iY pg pL (gK 2 oK) Q g w :=
 lN (kn := no) (l := []) h mH hr trivial
def vE (kn : K2) (lS OO : ahB) (w : ahA) : Prop :=
 eY pg (EL 22 lS) w fun nX w =>
 eY pg (EL 3 OO) w fun FW w =>
 eY pg (gJ 3 FW) w fun b5 w =>
 eY pg (gO .lss 3 iB iB b5 (ahC 1)) w fun b6 w =>
 mC b6
  (eY pg (Y5 9 (.string ⟨#[99, 97, 110, 110, 111, 116, 32, 98, 101, 32, 108, 101, 115, 115, 32, 116, 104, 97, 110, 32, 49]⟩)) w fun b7 w =>
  eY pg (V (Instr.panic b7)) w fun _u w =>
  kn nX FW w)
  (kn nX FW w)
theorem Gc (kn : K2) (hn : N2 Q kn 2 3) (h : vE kn (g 0) (g 1) w) : iY pg pL (gX 2 oK) Q g w :=
 lN (kr := no) (l := []) h hn mH trivial
def vM (R : K1) (lS OO : ahB) (w : ahA) : Prop :=
 vE (fun nX FW w => qB R nX FW w) lS OO w
theorem F2 (R : K1) (hr : HR vC R Q) (h : vM R (g 0) (g 1) w) : iY pg pL oK Q g w :=
 sW 2 (Gc _ g w (qB R) (fun g w h => iC (Gm _ g w R hr h)) h)
def ET (a0 a1 : ahB) (w : ahA) (R : K1) : Prop :=
 vM R a0 a1 w
theorem GQ {a0 a1 : ahB} {w : ahA} {R : K1} (h : ET a0 a1 w R) : gT pg wB #[a0, a1] w R := by
 refine xB (ann := pL) Tryd.f58 oK [a0, a1] vC 9 TrydM.mixed Tryd.func58 ?_
 exact (F2 _ _ _ R (fun _ _ h => h) h)
def B9 : FA := ⟨rW, fun i => .leaf ([], []) []⟩
def CU : List ResultVar := [.tmp 2]
noncomputable def Bp : Code := jB Tryd.f59
def wU (R : K1) (A5 : ahB) (w : ahA) : Prop :=
 gT pg lA #[A5] w fun b4 w =>
 eY pg (lZ 126 [(0, b4)]) w fun b5 w =>
 eY pg (EL 126 b5) w fun b6 w =>
 R b6 w
theorem Hm (R : K1) (hr : HR CU R Q) (h : wU R (g 0) w) : iY pg B9 Bp Q g w :=
 lN (kn := no) (l := []) h mH hr trivial
def Gz (a0 : ahB) (w : ahA) (R : K1) : Prop :=
 wU R a0 w
theorem H9 {a0 : ahB} {w : ahA} {R : K1} (h : Gz a0 w R) : gT pg rW #[a0] w R := by
 refine xB (ann := B9) Tryd.f59 Bp [a0] CU 7 TrydM.mixed Tryd.func59 ?_
 exact (Hm _ _ _ R (fun _ _ h => h) h)
def jT : FA := ⟨mR, fun i => .leaf ([], []) []⟩
def nO : List ResultVar := [.tmp 4]
noncomputable def jO : Code := jB Tryd.f60
def nV (R : K1) (KV : ahB) (w : ahA) : Prop :=
 R KV w
theorem DL (R : K1) (hr : HR nO R Q) (h : nV R (g 5) w) : iY pg jT (gK 1 (gK 3 jO)) Q g w :=
 lN (kn := no) (l := []) h mH hr trivial
def nQ (kn : K4) (k0 : K1) (KV c8 c9 d0 : ahB) (w : ahA) : Prop :=
 eY pg (gO .lss 3 iB iB d0 c9) w fun d1 w =>
 mC d1
  (eY pg (iK 22 c8 d0) w fun d3 w =>
  eY pg (gJ 5 d3) w fun d4 w =>
  eY pg (lL 5 24 d4) w fun d7 w =>
  eY pg (gO .mul 3 iB iB (ahC 8) d0) w fun d9 w =>
  eY pg (lL 3 128 d9) w fun e0 w =>
  eY pg (gO .shl 24 iB iB d7 e0) w fun e1 w =>
  eY pg (gO .or 24 iB iB KV e1) w fun e2 w =>
  eY pg (gO .add 3 iB iB d0 (ahC 1)) w fun e3 w =>
  kn e2 c8 c9 e3 w)
  (k0 KV w)
theorem Eu (kn : K4) (k0 : K1) (hn : N4 Q kn 5 18 19 20) (h0 : E1 Q k0 0 5) (h : nQ kn k0 (g 5) (g 18) (g 19) (g 20) w) : iY pg jT (bI (bI (gK 1 (gX 1 (gK 3 jO))))) Q g w :=
 lN (kr := no) (l := [(0, fun g w => k0 (g 5) w)]) h hn mH ⟨h0, trivial⟩
def rC (k0 : K1) (KV c8 c9 d0 : ahB) (w : ahA) : Prop :=
 kJ (fun (X : (ahB × ahB) -> K0) (t : ahB × ahB) (w : ahA) => nQ (fun KV _ _ d0 w => X (KV, d0) w) k0 t.1 c8 c9 t.2 w) (KV, d0) w
theorem DK (k0 : K1) (h0 : E1 Q k0 0 5) (h : rC k0 (g 5) (g 18) (g 19) (g 20) w) : iY pg jT (bI (gK 1 (gX 1 (gK 3 jO)))) Q g w := by
 refine OW (fun g : Env => (g 5, g 20)) (fun X t w => nQ (fun KV _ _ d0 w => X (KV, d0) w) k0 t.1 (g 18) (g 19) t.2 w) h (fun X g1 w1 ha hL => ?_)
 rw [<- qI 18 ha, <- qI 19 ha] at hL
 exact (Eu _ g1 w1 (fun KV _ _ d0 w => X (KV, d0) w) k0 (fun _ _ h => h) h0 hL)
def rB (kn : K1) (KV c8 c9 d0 : ahB) (w : ahA) : Prop :=
 rC kn KV c8 c9 d0 w
def rK (kn : K4) (OI OO KV : ahB) (w : ahA) : Prop :=
 eY pg (gO .geq 3 iB iB OO (ahC 1)) w fun c3 w =>
 Gd (kE c3 true) (fun K => K OO w) w fun c5 w =>
 Gd (kE c3 true) (fun K => eY pg (gO .leq 3 iB iB c5 (ahC 8)) w K) w fun c6 w =>
 eY pg (lD c3 c6 (.bool false)) w fun c7 w =>
 gT pg pR #[OI, OO, c7] w fun c8 w =>
 eY pg (mV .len #[22] 3 [c8]) w fun c9 w =>
 kn KV c8 c9 (ahC 0) w
theorem DZ (kn : K4) (hn : N4 Q kn 5 18 19 20) (h : rK kn (g 0) (g 1) (g 5) w) : iY pg jT (gX 1 (gX 1 (gK 3 jO))) Q g w :=
 lN (kr := no) (l := []) h hn mH trivial
def rR (kn : K1) (OI OO KV : ahB) (w : ahA) : Prop :=
 rK (fun KV c8 c9 d0 w => rB kn KV c8 c9 d0 w) OI OO KV w
def rI (R : K1) (OI OO KV : ahB) (w : ahA) : Prop :=
 rR (fun KV w => nV R KV w) OI OO KV w
theorem EC (kn : K1) (hn : N1 Q kn 5) (h : rR kn (g 0) (g 1) (g 5) w) : iY pg jT (gX 1 (gK 3 jO)) Q g w :=
 sW 1 (DZ _ g w (rB kn) (fun g w h => iC (Oq 0 (DK _ g w kn hn h))) h)
def rM (kn : K3) (R : K1) (OI OO : ahB) (w : ahA) : Prop :=
 eY pg (gO .eql 109 (.tmp 8) (.const (.pointer none)) OI (.pointer none)) w fun b9 w =>
 mC b9
  (R (.int .u64 0) w)
  (kn OI OO (.int .u64 0) w)
theorem D8 (kn : K3) (R : K1) (hn : N3 Q kn 0 1 5) (hr : HR nO R Q) (h : rM kn R (g 0) (g 1) w) : iY pg jT (gX 3 jO) Q g w :=
 lN (l := []) h hn hr trivial
def rH (R : K1) (OI OO : ahB) (w : ahA) : Prop :=
 rM (fun OI OO KV w => rI R OI OO KV w) R OI OO w
theorem Dz (R : K1) (hr : HR nO R Q) (h : rH R (g 0) (g 1) w) : iY pg jT jO Q g w :=
 sW 3 (D8 _ g w (rI R) R (fun g w h => iC (sW 1 (EC _ g w (nV R) (fun g w h => iC (DL _ g w R hr h)) h))) hr h)
def BY (a0 a1 : ahB) (w : ahA) (R : K1) : Prop :=
 rH R a0 a1 w
theorem EE {a0 a1 : ahB} {w : ahA} {R : K1} (h : BY a0 a1 w R) : gT pg mR #[a0, a1] w R := by
 refine xB (ann := jT) Tryd.f60 jO [a0, a1] nO 35 TrydM.mixed Tryd.func60 ?_
 exact (Dz _ _ _ R (fun _ _ h => h) h)
def kS : FA := ⟨qS, fun i => match Nat.beq i 6 with | true => .leaf ([], []) [(false, []), (false, []), (false, []), (false, []), (false, []), (false, []), (false, []), (false, []), (false, [])] | false => .leaf ([], []) []⟩
def lP : List ResultVar := [.tmp 4]
noncomputable def kF : Code := jB Tryd.f61
def pX (R : K1)  (w : ahA) : Prop :=
 R (.bool true) w
theorem Gj (R : K1) (hr : HR lP R Q) (h : pX R w) : iY pg kS (gK 1 (gK 2 kF)) Q g w :=
 lN (kn := no) (l := []) h mH hr trivial
def pS (kn : K4) (k0 : K0) (R : K1) (Ck CF c2 c3 : ahB) (w : ahA) : Prop :=
 eY pg (gO .lss 3 iB iB c3 c2) w fun c4 w =>
 mC c4
  ((dr w) = (dr w) /\
  (dr w) = (dr w) /\
  eY pg (iK 22 Ck c3) (dr w) fun c8 w_ => w_ = (dr w) /\
  eY pg (gJ 5 c8) (dr w) fun c9 w_ => w_ = (dr w) /\
  (dr w) = (dr w) /\
  (dr w) = (dr w) /\
  eY pg (iK 22 CF c3) (dr w) fun d2 w_ => w_ = (dr w) /\
  eY pg (gJ 5 d2) (dr w) fun d3 w_ => w_ = (dr w) /\
  eY pg (gO .neq 5 (.tmp 19) (.tmp 23) c9 d3) (dr w) fun d4 w_ => w_ = (dr w) /\
  mC d4
   (R (.bool false) (dr w))
   (eY pg (gO .add 3 iB iB c3 (ahC 1)) (dr w) fun d5 w =>
   kn Ck CF c2 d5 w))
  (k0 w)
theorem FZ (kn : K4) (k0 : K0) (R : K1) (hn : N4 Q kn 0 1 12 13) (h0 : E0 Q k0 0) (hr : HR lP R Q) (h : pS kn k0 R (g 0) (g 1) (g 12) (g 13) w) : iY pg kS (bI (bI (gK 1 (gX 1 (gK 2 kF))))) Q g w :=
 lN (l := [(0, fun g w => k0 w)]) h hn hr ⟨h0, trivial⟩
def uO (k0 : K0) (R : K1) (Ck CF c2 c3 : ahB) (w : ahA) : Prop :=
 kJ (fun (X : ahB -> K0) (t : ahB) (w : ahA) => pS (fun _ _ _ c3 w => X c3 w) k0 R Ck CF c2 t w) c3 w
theorem Gx (k0 : K0) (R : K1) (h0 : E0 Q k0 0) (hr : HR lP R Q) (h : uO k0 R (g 0) (g 1) (g 12) (g 13) w) : iY pg kS (bI (gK 1 (gX 1 (gK 2 kF)))) Q g w := by
 refine OW (fun g : Env => g 13) (fun X t w => pS (fun _ _ _ c3 w => X c3 w) k0 R (g 0) (g 1) (g 12) t w) h (fun X g1 w1 ha hL => ?_)
 rw [<- qI 0 ha, <- qI 1 ha, <- qI 12 ha] at hL
 exact (FZ _ g1 w1 (fun _ _ _ c3 w => X c3 w) k0 R (fun _ _ h => h) h0 hr hL)
def vA (kn : K0) (R : K1) (Ck CF c2 c3 : ahB) (w : ahA) : Prop :=
 uO kn R Ck CF c2 c3 w
def uR (kn : K4) (Ck CF : ahB) (w : ahA) : Prop :=
 eY pg (mV .len #[22] 3 [Ck]) w fun c2 w =>
 kn Ck CF c2 (ahC 0) w
theorem Ga (kn : K4) (hn : N4 Q kn 0 1 12 13) (h : uR kn (g 0) (g 1) w) : iY pg kS (gX 1 (gX 1 (gK 2 kF))) Q g w :=
 lN (kr := no) (l := []) h hn mH trivial
def uV (kn : K0) (R : K1) (Ck CF : ahB) (w : ahA) : Prop :=
 uR (fun Ck CF c2 c3 w => vA kn R Ck CF c2 c3 w) Ck CF w
def uK (R : K1) (Ck CF : ahB) (w : ahA) : Prop :=
 uV (fun  w => pX R w) R Ck CF w
theorem GA (kn : K0) (R : K1) (hn : N0 Q kn) (hr : HR lP R Q) (h : uV kn R (g 0) (g 1) w) : iY pg kS (gX 1 (gK 2 kF)) Q g w :=
 sW 1 (Ga _ g w (vA kn R) (fun g w h => iC (Oq 0 (Gx _ g w kn R hn hr h))) h)
def uY (kn : K2) (R : K1) (Ck CF : ahB) (w : ahA) : Prop :=
 eY pg (mV .len #[22] 3 [Ck]) w fun b7 w =>
 eY pg (mV .len #[22] 3 [CF]) w fun b9 w =>
 eY pg (gO .neq 3 (.tmp 7) (.tmp 9) b7 b9) w fun c0 w =>
 mC c0
  (R (.bool false) w)
  (kn Ck CF w)
theorem GP (kn : K2) (R : K1) (hn : N2 Q kn 0 1) (hr : HR lP R Q) (h : uY kn R (g 0) (g 1) w) : iY pg kS (gX 2 kF) Q g w :=
 lN (l := []) h hn hr trivial
def uJ (R : K1) (Ck CF : ahB) (w : ahA) : Prop :=
 uY (fun Ck CF w => uK R Ck CF w) R Ck CF w
theorem GJ (R : K1) (hr : HR lP R Q) (h : uJ R (g 0) (g 1) w) : iY pg kS kF Q g w :=
 sW 2 (GP _ g w (uK R) R (fun g w h => iC (sW 1 (GA _ g w (fun  w => pX R w) R (fun g w h => iC (Gj _ g w R hr h)) hr h))) hr h)
def Fc (a0 a1 : ahB) (w : ahA) (R : K1) : Prop :=
 uJ R a0 a1 w
theorem Hg {a0 a1 : ahB} {w : ahA} {R : K1} (h : Fc a0 a1 w R) : gT pg qS #[a0, a1] w R := by
 refine xB (ann := kS) Tryd.f61 kF [a0, a1] lP 26 TrydM.mixed Tryd.func61 ?_
 exact (GJ _ _ _ R (fun _ _ h => h) h)
def B8 : FA := ⟨sG, fun i => .leaf ([], []) []⟩
def CQ : List ResultVar := [.tmp 0]
noncomputable def Bd : Code := jB Tryd.f62
def wT (R : K1)  (w : ahA) : Prop :=
 eY pg (lZ 130 []) w fun b1 w =>
 eY pg (EL 130 b1) w fun b2 w =>
 R b2 w
theorem G7 (R : K1) (hr : HR CQ R Q) (h : wT R w) : iY pg B8 Bd Q g w :=
 lN (kn := no) (l := []) h mH hr trivial
def Gh (w : ahA) (R : K1) : Prop :=
 wT R w
theorem Is {w : ahA} {R : K1} (h : Gh w R) : gT pg sG #[] w R := by
 refine xB (ann := B8) Tryd.f62 Bd [] CQ 3 TrydM.mixed Tryd.func62 ?_
 exact (G7 _ _ _ R (fun _ _ h => h) h)
def mD : FA := ⟨lV, fun i => .leaf ([], []) []⟩
def rJ : List ResultVar := []
noncomputable def lX : Code := jB Tryd.f63
def nS (kn : K4) (k0 : K0) (RG Un c7 c8 : ahB) (w : ahA) : Prop :=
 eY pg (gO .lss 3 iB iB c8 c7) w fun c9 w =>
 mC c9
  (eY pg (jD RG) w fun d3 w =>
  eY pg (gM 130 d3 0) w fun d4 w =>
  eY pg (gJ 22 d4) w fun d5 w =>
  eY pg (gO .mul 3 iB iB (ahC 8) c8) w fun d8 w =>
  eY pg (lL 3 128 d8) w fun d9 w =>
  eY pg (gO .shr 24 iB iB Un d9) w fun e0 w =>
  eY pg (lL 24 5 e0) w fun e1 w =>
  eY pg (iL 22 1 [(0, e1)]) w fun e2 w =>
  eY pg (mV .append #[22, 22] 22 [d5, e2]) w fun e3 w =>
  eY pg (jD RG) w fun e4 w =>
  eY pg (gM 130 e4 0) w fun e5 w =>
  eY pg (iG 22 e5 e3) w fun _u w =>
  eY pg (gO .add 3 iB iB c8 (ahC 1)) w fun e6 w =>
  kn RG Un c7 e6 w)
  (k0 w)
theorem DN (kn : K4) (k0 : K0) (hn : N4 Q kn 0 1 17 18) (h0 : E0 Q k0 0) (h : nS kn k0 (g 0) (g 1) (g 17) (g 18) w) : iY pg mD (bI (bI (gK 2 lX))) Q g w :=
 lN (kr := no) (l := [(0, fun g w => k0 w)]) h hn mH ⟨h0, trivial⟩
def rN (k0 : K0) (RG Un c7 c8 : ahB) (w : ahA) : Prop :=
 kJ (fun (X : ahB -> K0) (t : ahB) (w : ahA) => nS (fun _ _ _ c8 w => X c8 w) k0 RG Un c7 t w) c8 w
theorem Et (k0 : K0) (h0 : E0 Q k0 0) (h : rN k0 (g 0) (g 1) (g 17) (g 18) w) : iY pg mD (bI (gK 2 lX)) Q g w := by
 refine OW (fun g : Env => g 18) (fun X t w => nS (fun _ _ _ c8 w => X c8 w) k0 (g 0) (g 1) (g 17) t w) h (fun X g1 w1 ha hL => ?_)
 rw [<- qI 0 ha, <- qI 1 ha, <- qI 17 ha] at hL
 exact (DN _ g1 w1 (fun _ _ _ c8 w => X c8 w) k0 (fun _ _ h => h) h0 hL)
def rS (kn : K0) (RG Un c7 c8 : ahB) (w : ahA) : Prop :=
 rN kn RG Un c7 c8 w
def qZ (kn : K4) (R : K1) (RG Un ZU : ahB) (w : ahA) : Prop :=
 eY pg (gO .eql 113 (.tmp 7) (.const (.pointer none)) RG (.pointer none)) w fun b8 w =>
 Gd (kE b8 false) (fun K => K ZU w) w fun c0 w =>
 Gd (kE b8 false) (fun K => eY pg (gO .lss 3 iB iB c0 (ahC 1)) w K) w fun c1 w =>
 eY pg (lD b8 (.bool true) c1) w fun c2 w =>
 Gd (kE c2 false) (fun K => K ZU w) w fun c4 w =>
 Gd (kE c2 false) (fun K => eY pg (gO .gtr 3 iB iB c4 (ahC 8)) w K) w fun c5 w =>
 eY pg (lD c2 (.bool true) c5) w fun c6 w =>
 mC c6
  (R (.tuple #[]) w)
  (kn RG Un ZU (ahC 0) w)
theorem Ev (kn : K4) (R : K1) (hn : N4 Q kn 0 1 17 18) (hr : HR rJ R Q) (h : qZ kn R (g 0) (g 1) (g 2) w) : iY pg mD (gX 2 lX) Q g w :=
 lN (l := []) h hn hr trivial
def rG (kn : K0) (R : K1) (RG Un ZU : ahB) (w : ahA) : Prop :=
 qZ (fun RG Un c7 c8 w => rS kn RG Un c7 c8 w) R RG Un ZU w
theorem D9 (kn : K0) (R : K1) (hn : N0 Q kn) (hr : HR rJ R Q) (h : rG kn R (g 0) (g 1) (g 2) w) : iY pg mD lX Q g w :=
 sW 2 (Ev _ g w (rS kn) R (fun g w h => iC (Oq 0 (Et _ g w kn hn h))) hr h)
def Cd (a0 a1 a2 : ahB) (w : ahA) (R : K1) : Prop :=
 rG (fun  w => R (.tuple #[]) w) R a0 a1 a2 w
theorem EF {a0 a1 a2 : ahB} {w : ahA} {R : K1} (h : Cd a0 a1 a2 w R) : gT pg lV #[a0, a1, a2] w R := by
 refine xB (ann := mD) Tryd.f63 lX [a0, a1, a2] rJ 37 TrydM.mixed Tryd.func63 ?_
 exact (D9 _ _ _ (fun  w => R (.tuple #[]) w) R (fun _ _ h => h) (fun _ _ h => h) h)
def PG : FA := ⟨Mg, fun i => .leaf ([], []) []⟩
def QS : List ResultVar := [.tmp 2]
noncomputable def Oi : Code := jB Tryd.f64
def Nq (R : K1) (A5 : ahB) (w : ahA) : Prop :=
 gT pg M9 #[] w fun b4 w =>
 gT pg Bu #[b4, A5] w fun b7 w =>
 gT pg DM #[b4] w fun b9 w =>
 R b9 w
theorem RC (R : K1) (hr : HR QS R Q) (h : Nq R (g 0) w) : iY pg PG Oi Q g w :=
 lN (kn := no) (l := []) h mH hr trivial
def V5 (a0 : ahB) (w : ahA) (R : K1) : Prop :=
 Nq R a0 w
theorem Ss {a0 : ahB} {w : ahA} {R : K1} (h : V5 a0 w R) : gT pg Mg #[a0] w R := by
 refine xB (ann := PG) Tryd.f64 Oi [a0] QS 10 TrydM.mixed Tryd.func64 ?_
 exact (RC _ _ _ R (fun _ _ h => h) h)
def Bc : FA := ⟨oB, fun i => .leaf ([], []) []⟩
def Cm : List ResultVar := [.tmp 2]
noncomputable def AB : Code := jB Tryd.f65
def uZ (R : K1) (RG : ahB) (w : ahA) : Prop :=
 eY pg (gO .eql 113 (.tmp 3) (.const (.pointer none)) RG (.pointer none)) w fun b4 w =>
 mC b4
  (R (.slice none 0 0) w)
  (eY pg (jD RG) w fun b6 w =>
  eY pg (gM 130 b6 0) w fun b7 w =>
  eY pg (gJ 22 b7) w fun b8 w =>
  gT pg lA #[b8] w fun b9 w =>
  R b9 w)
theorem Gl (R : K1) (hr : HR Cm R Q) (h : uZ R (g 0) w) : iY pg Bc AB Q g w :=
 lN (kn := no) (l := []) h mH hr trivial
def EZ (a0 : ahB) (w : ahA) (R : K1) : Prop :=
 uZ R a0 w
theorem HE {a0 : ahB} {w : ahA} {R : K1} (h : EZ a0 w R) : gT pg oB #[a0] w R := by
 refine xB (ann := Bc) Tryd.f65 AB [a0] Cm 10 TrydM.mixed Tryd.func65 ?_
 exact (Gl _ _ _ R (fun _ _ h => h) h)
def iI : FA := ⟨vT, fun i => match Nat.beq i 10 with | true => .leaf ([9, 20, 23], [(2, 9), (2, 20), (3, 9), (3, 20), (4, 9), (4, 20), (9, 12), (9, 13), (9, 14), (9, 17), (9, 18), (9, 19), (10, 20), (12, 20), (13, 20), (14, 20), (15, 20)]) [(false, []), (false, []), (false, []), (false, []), (false, []), (false, []), (false, []), (false, []), (false, []), (true, [4, 5, 6]), (false, []), (false, []), (false, [2]), (false, [3]), (false, [4]), (false, []), (false, []), (false, [7]), (false, [8]), (false, [9]), (true, [4, 5, 6, 7, 9, 15, 16, 17]), (false, []), (false, []), (true, [])] | false => match Nat.beq i 15 with | true => .leaf ([], []) [(false, []), (false, []), (false, []), (false, []), (false, []), (false, [])] | false => match Nat.beq i 16 with | true => .leaf ([3], [(0, 3), (1, 3), (3, 6), (3, 7), (3, 8), (3, 10), (3, 11), (3, 12), (3, 13), (3, 14), (3, 17), (3, 18), (3, 21), (3, 22)]) [(false, []), (false, []), (false, []), (true, [1, 2]), (false, []), (false, []), (false, [2]), (false, [3]), (false, [4]), (false, []), (false, [6]), (false, [7]), (false, [8]), (false, [9]), (false, [10]), (false, []), (false, []), (false, [13]), (false, [14]), (false, []), (false, []), (false, [17]), (false, [18]), (false, []), (false, [])] | false => match Nat.beq i 17 with | true => .leaf ([1], [(1, 3), (1, 4), (1, 5), (1, 7), (1, 8), (1, 9), (1, 10), (1, 11), (1, 12), (1, 13), (1, 14), (1, 15), (1, 16)]) [(false, []), (true, []), (false, []), (false, [1]), (false, [2]), (false, [3]), (false, []), (false, [5]), (false, [6]), (false, [7]), (false, [8]), (false, [9]), (false, [10]), (false, [11]), (false, [12]), (false, [13]), (false, [14]), (false, []), (false, [])] | false => match Nat.beq i 18 with | true => .leaf ([2], []) [(false, []), (false, []), (true, [])] | false => match Nat.beq i 25 with | true => .leaf ([8], []) [(false, []), (false, []), (false, []), (false, []), (false, []), (false, []), (false, []), (false, []), (true, [])] | false => .leaf ([], []) []⟩
def Ah : List ResultVar := [.cell 4 119]
noncomputable def iF : Code := jB Tryd.f66
def tX (R : K1) (b4 uE : ahB) (w : ahA) : Prop :=
 eY pg (gJ 119 uE) w fun s5 w =>
 eY pg (iG 119 b4 s5) w fun _u w =>
 VR pg 119 b4 w fun r0 => R r0 w
theorem I6 (R : K1) (hr : HR Ah R Q) (h : tX R (g 4) (g 9) w) : iY pg iI (gK 1 (gK 1 (gK 1 (gK 1 (gK 1 (gK 2 iF)))))) Q g w :=
 lN (kn := no) (l := []) h mH hr trivial
def tZ (kn : K4) (k6 : K2) (nX b4 uE q3 : ahB) (w : ahA) : Prop :=
 eY pg (gO .lss 3 iB iB q3 (ahC 8)) w fun q4 w =>
 mC q4
  ((dr w) = (dr w) /\
  eY pg (iK 119 uE q3) (dr w) fun q7 w_ => w_ = (dr w) /\
  eY pg (gJ 25 q7) (dr w) fun q8 w_ => w_ = (dr w) /\
  (dr w) = (dr w) /\
  eY pg (iK 119 nX q3) (dr w) fun s0 w_ => w_ = (dr w) /\
  eY pg (gJ 25 s0) (dr w) fun s1 w_ => w_ = (dr w) /\
  eY pg (gO .add 25 iB iB q8 s1) (dr w) fun s2 w_ => w_ = (dr w) /\
  eY pg (iK 119 uE q3) (dr w) fun s3 w_ => w_ = (dr w) /\
  eY pg (iG 25 s3 s2) (dr w) fun _u8 ZR =>
  eY pg (gO .add 3 iB iB q3 (ahC 1)) ZR fun s4 w =>
  kn nX b4 uE s4 w)
  (k6 b4 uE w)
theorem Jf (kn : K4) (k6 : K2) (hn : N4 Q kn 2 4 9 123) (h6 : E2 Q k6 6 4 9) (h : tZ kn k6 (g 2) (g 4) (g 9) (g 123) w) : iY pg iI (bI (bI (gK 1 (gX 1 (gK 1 (gK 1 (gK 1 (gK 1 (gK 2 iF))))))))) Q g w :=
 lN (kr := no) (l := [(6, fun g w => k6 (g 4) (g 9) w)]) h hn mH ⟨h6, trivial⟩
def Ad (k6 : K2) (nX b4 uE q3 : ahB) (w : ahA) : Prop :=
 kJ (fun (X : ahB -> K0) (t : ahB) (w : ahA) => tZ (fun _ _ _ q3 w => X q3 w) k6 nX b4 uE t w) q3 w
theorem Jm (k6 : K2) (h6 : E2 Q k6 6 4 9) (h : Ad k6 (g 2) (g 4) (g 9) (g 123) w) : iY pg iI (bI (gK 1 (gX 1 (gK 1 (gK 1 (gK 1 (gK 1 (gK 2 iF)))))))) Q g w := by
 refine OW (fun g : Env => g 123) (fun X t w => tZ (fun _ _ _ q3 w => X q3 w) k6 (g 2) (g 4) (g 9) t w) h (fun X g1 w1 ha hL => ?_)
 rw [<- qI 2 ha, <- qI 4 ha, <- qI 9 ha] at hL
 exact (Jf _ g1 w1 (fun _ _ _ q3 w => X q3 w) k6 (fun _ _ h => h) h6 hL)
def Ae (kn : K2) (nX b4 uE q3 : ahB) (w : ahA) : Prop :=
 Ad kn nX b4 uE q3 w
def AD (kn : K4) (nX b4 uE : ahB) (w : ahA) : Prop :=
 kn nX b4 uE (ahC 0) w
theorem JY (kn : K4) (hn : N4 Q kn 2 4 9 123) (h : AD kn (g 2) (g 4) (g 9) w) : iY pg iI (gX 1 (gX 1 (gK 1 (gK 1 (gK 1 (gK 1 (gK 2 iF))))))) Q g w :=
 lN (kr := no) (l := []) h hn mH trivial
def Am (kn : K2) (nX b4 uE : ahB) (w : ahA) : Prop :=
 AD (fun nX b4 uE q3 w => Ae kn nX b4 uE q3 w) nX b4 uE w
def An (R : K1) (nX b4 uE : ahB) (w : ahA) : Prop :=
 Am (fun b4 uE w => tX R b4 uE w) nX b4 uE w
theorem JE (kn : K2) (hn : N2 Q kn 4 9) (h : Am kn (g 2) (g 4) (g 9) w) : iY pg iI (gX 1 (gK 1 (gK 1 (gK 1 (gK 1 (gK 2 iF)))))) Q g w :=
 sW 1 (JY _ g w (Ae kn) (fun g w h => iC (Oq 6 (Jm _ g w kn hn h))) h)
def tR (kn : K5) (k4 : K3) (nX b4 qL uE j1 : ahB) (w : ahA) : Prop :=
 eY pg (gO .lss 3 iB iB j1 (ahC 64)) w fun j2 w =>
 mC j2
  (eY pg (iK 119 uE (ahC 0)) (dr w) fun j4 w_ => w_ = (dr w) /\
  eY pg (gJ 25 j4) (dr w) fun j5 w_ => w_ = (dr w) /\
  eY pg (iK 119 uE (ahC 4)) (dr w) fun j6 w_ => w_ = (dr w) /\
  eY pg (gJ 25 j6) (dr w) fun j7 w_ => w_ = (dr w) /\
  (dr w) = (dr w) /\
  (dr w) = (dr w) /\
  eY pg (iK 119 uE (ahC 7)) (dr (dr w)) fun j8 w_ => w_ = (dr (dr w)) /\
  eY pg (gJ 25 j8) (dr (dr w)) fun j9 w_ => w_ = (dr (dr w)) /\
  (dr (dr w)) = (dr (dr w)) /\
  gT pg AI #[j7, (ahC 6), (ahC 11), (ahC 25)] (dr (dr w)) fun l1 kD =>
  (gN pg (gJ 25 j8) j9 kD /\ gN pg (iK 119 uE (ahC 7)) j8 kD /\ True) /\
  eY pg (gO .add 25 iB iB j9 l1) kD fun l2 w_ => w_ = kD /\
  kD = kD /\
  eY pg (iK 119 uE (ahC 5)) kD fun l4 w_ => w_ = kD /\
  (gN pg (iK 119 uE (ahC 5)) l4 (dr (dr w)) /\ True) /\
  eY pg (gJ 25 l4) kD fun l5 w_ => w_ = kD /\
  (gN pg (gJ 25 l4) l5 (dr (dr w)) /\ True) /\
  eY pg (gO .and 25 iB iB j7 l5) kD fun l6 w_ => w_ = kD /\
  (gN pg (gO .and 25 iB iB j7 l5) l6 (dr (dr w)) /\ True) /\
  kD = kD /\
  eY pg (KO .xor j7) kD fun l8 w_ => w_ = kD /\
  (gN pg (KO .xor j7) l8 (dr (dr w)) /\ True) /\
  eY pg (iK 119 uE (ahC 6)) kD fun l9 w_ => w_ = kD /\
  (gN pg (iK 119 uE (ahC 6)) l9 (dr (dr w)) /\ True) /\
  eY pg (gJ 25 l9) kD fun m0 w_ => w_ = kD /\
  (gN pg (gJ 25 l9) m0 (dr (dr w)) /\ True) /\
  eY pg (gO .and 25 iB iB l8 m0) kD fun m1 w_ => w_ = kD /\
  (gN pg (gO .and 25 iB iB l8 m0) m1 (dr (dr w)) /\ True) /\
  eY pg (gO .xor 25 iB iB l6 m1) kD fun m2 w_ => w_ = kD /\
  (gN pg (gO .xor 25 iB iB l6 m1) m2 (dr (dr w)) /\ True) /\
  eY pg (gO .add 25 iB iB l2 m2) kD fun m3 w_ => w_ = kD /\
  kD = kD /\
  eY pg (iK 134 (.pointer (some ⟨0, 0, none⟩)) j1) kD fun m5 w_ => w_ = kD /\
  (gN pg (iK 134 (.pointer (some ⟨0, 0, none⟩)) j1) m5 (dr (dr w)) /\ True) /\
  eY pg (gJ 25 m5) kD fun m6 w_ => w_ = kD /\
  (gN pg (gJ 25 m5) m6 (dr (dr w)) /\ True) /\
  eY pg (gO .add 25 iB iB m3 m6) kD fun m7 w_ => w_ = kD /\
  kD = kD /\
  eY pg (iK 134 qL j1) kD fun m9 w_ => w_ = kD /\
  (gN pg (iK 134 qL j1) m9 (dr (dr w)) /\ True) /\
  eY pg (gJ 25 m9) kD fun n0 w_ => w_ = kD /\
  (gN pg (gJ 25 m9) n0 (dr (dr w)) /\ True) /\
  eY pg (gO .add 25 iB iB m7 n0) kD fun n1 w_ => w_ = kD /\
  kD = kD /\
  (dr kD) = (dr kD) /\
  gT pg AI #[j5, (ahC 2), (ahC 13), (ahC 22)] (dr kD) fun n3 mO =>
  mO = mO /\
  eY pg (iK 119 uE (ahC 1)) mO fun n5 w_ => w_ = mO /\
  (gN pg (iK 119 uE (ahC 1)) n5 (dr kD) /\ True) /\
  eY pg (gJ 25 n5) mO fun n6 w_ => w_ = mO /\
  (gN pg (gJ 25 n5) n6 (dr kD) /\ True) /\
  eY pg (gO .and 25 iB iB j5 n6) mO fun n7 w_ => w_ = mO /\
  (gN pg (gO .and 25 iB iB j5 n6) n7 (dr kD) /\ True) /\
  mO = mO /\
  eY pg (iK 119 uE (ahC 2)) mO fun n9 w_ => w_ = mO /\
  (gN pg (iK 119 uE (ahC 2)) n9 (dr kD) /\ True) /\
  eY pg (gJ 25 n9) mO fun o0 w_ => w_ = mO /\
  (gN pg (gJ 25 n9) o0 (dr kD) /\ True) /\
  eY pg (gO .and 25 iB iB j5 o0) mO fun o1 w_ => w_ = mO /\
  (gN pg (gO .and 25 iB iB j5 o0) o1 (dr kD) /\ True) /\
  eY pg (gO .xor 25 iB iB n7 o1) mO fun o2 w_ => w_ = mO /\
  (gN pg (gO .xor 25 iB iB n7 o1) o2 (dr kD) /\ True) /\
  eY pg (iK 119 uE (ahC 1)) mO fun o3 w_ => w_ = mO /\
  (gN pg (iK 119 uE (ahC 1)) o3 (dr kD) /\ True) /\
  eY pg (gJ 25 o3) mO fun o4 w_ => w_ = mO /\
  (gN pg (gJ 25 o3) o4 (dr kD) /\ True) /\
  eY pg (iK 119 uE (ahC 2)) mO fun o5 w_ => w_ = mO /\
  (gN pg (iK 119 uE (ahC 2)) o5 (dr kD) /\ True) /\
  eY pg (gJ 25 o5) mO fun o6 w_ => w_ = mO /\
  (gN pg (gJ 25 o5) o6 (dr kD) /\ True) /\
  eY pg (gO .and 25 iB iB o4 o6) mO fun o7 w_ => w_ = mO /\
  (gN pg (gO .and 25 iB iB o4 o6) o7 (dr kD) /\ True) /\
  eY pg (gO .xor 25 iB iB o2 o7) mO fun o8 w_ => w_ = mO /\
  (gN pg (gO .xor 25 iB iB o2 o7) o8 (dr kD) /\ True) /\
  eY pg (gO .add 25 iB iB n3 o8) mO fun o9 w_ => w_ = mO /\
  mO = mO /\
  eY pg (mG 119 uE (some (ahC 1)) none none) (dr mO) fun p0 w_ => w_ = (dr mO) /\
  eY pg (mG 119 uE none (some (ahC 7)) none) (dr mO) fun p1 w_ => w_ = (dr mO) /\
  eY pg (mV .copy #[136, 136] 3 [p0, p1]) (dr mO) fun p2 Z9 =>
  eY pg (iK 119 uE (ahC 4)) Z9 fun p3 w =>
  eY pg (gJ 25 p3) w fun p4 w =>
  eY pg (gO .add 25 iB iB p4 n1) w fun p6 w =>
  eY pg (iK 119 uE (ahC 4)) w fun p7 w =>
  eY pg (iG 25 p7 p6) w fun _u w =>
  eY pg (gO .add 25 iB iB n1 o9) w fun q0 w =>
  eY pg (iK 119 uE (ahC 0)) w fun q1 w =>
  eY pg (iG 25 q1 q0) w fun _u w =>
  eY pg (gO .add 3 iB iB j1 (ahC 1)) w fun q2 w =>
  kn nX b4 qL uE q2 w)
  (k4 nX b4 uE w)
theorem Je (kn : K5) (k4 : K3) (hn : N5 Q kn 2 4 5 9 61) (h4 : E3 Q k4 4 2 4 9) (h : tR kn k4 (g 2) (g 4) (g 5) (g 9) (g 61) w) : iY pg iI (bI (bI (gK 1 (gX 1 (gK 1 (gK 1 (gK 1 (gK 2 iF)))))))) Q g w :=
 lN (kr := no) (l := [(4, fun g w => k4 (g 2) (g 4) (g 9) w)]) h hn mH ⟨h4, trivial⟩
def AN (k4 : K3) (nX b4 qL uE j1 : ahB) (w : ahA) : Prop :=
 kJ (fun (X : ahB -> K0) (t : ahB) (w : ahA) => tR (fun _ _ _ _ j1 w => X j1 w) k4 nX b4 qL uE t w) j1 w
theorem Ji (k4 : K3) (h4 : E3 Q k4 4 2 4 9) (h : AN k4 (g 2) (g 4) (g 5) (g 9) (g 61) w) : iY pg iI (bI (gK 1 (gX 1 (gK 1 (gK 1 (gK 1 (gK 2 iF))))))) Q g w := by
 refine OW (fun g : Env => g 61) (fun X t w => tR (fun _ _ _ _ j1 w => X j1 w) k4 (g 2) (g 4) (g 5) (g 9) t w) h (fun X g1 w1 ha hL => ?_)
 rw [<- qI 2 ha, <- qI 4 ha, <- qI 5 ha, <- qI 9 ha] at hL
 exact (Je _ g1 w1 (fun _ _ _ _ j1 w => X j1 w) k4 (fun _ _ h => h) h4 hL)
def yG (kn : K3) (nX b4 qL uE j1 : ahB) (w : ahA) : Prop :=
 AN kn nX b4 qL uE j1 w
def yJ (kn : K5) (nX b4 qL uE : ahB) (w : ahA) : Prop :=
 kn nX b4 qL uE (ahC 0) w
theorem ID (kn : K5) (hn : N5 Q kn 2 4 5 9 61) (h : yJ kn (g 2) (g 4) (g 5) (g 9) w) : iY pg iI (gX 1 (gX 1 (gK 1 (gK 1 (gK 1 (gK 2 iF)))))) Q g w :=
 lN (kr := no) (l := []) h hn mH trivial
def xR (kn : K3) (nX b4 qL uE : ahB) (w : ahA) : Prop :=
 yJ (fun nX b4 qL uE j1 w => yG kn nX b4 qL uE j1 w) nX b4 qL uE w
def yD (R : K1) (nX b4 qL uE : ahB) (w : ahA) : Prop :=
 xR (fun nX b4 uE w => An R nX b4 uE w) nX b4 qL uE w
theorem IW (kn : K3) (hn : N3 Q kn 2 4 9) (h : xR kn (g 2) (g 4) (g 5) (g 9) w) : iY pg iI (gX 1 (gK 1 (gK 1 (gK 1 (gK 2 iF))))) Q g w :=
 sW 1 (ID _ g w (yG kn) (fun g w h => iC (Oq 4 (Ji _ g w kn hn h))) h)
def yW (kn : K4) (nX b4 qL : ahB) (w : ahA) : Prop :=
 eY pg (gJ 119 nX) w fun j0 w =>
 eY pg (lY 119) w fun uE w =>
 eY pg (iG 119 uE j0) w fun _u w =>
 kn nX b4 qL uE w
theorem Ii (kn : K4) (hn : N4 Q kn 2 4 5 9) (h : yW kn (g 2) (g 4) (g 5) w) : iY pg iI (gX 1 (gK 1 (gK 1 (gK 2 iF)))) Q g w :=
 lN (kr := no) (l := []) h hn mH trivial
def yX (R : K1) (nX b4 qL : ahB) (w : ahA) : Prop :=
 yW (fun nX b4 qL uE w => yD R nX b4 qL uE w) nX b4 qL w
def sP (kn : K4) (k2 : K3) (nX b4 qL b8 : ahB) (w : ahA) : Prop :=
 eY pg (gO .lss 3 iB iB b8 (ahC 64)) w fun e4 w =>
 mC e4
  ((dr w) = (dr w) /\
  (dr w) = (dr w) /\
  eY pg (gO .sub 3 iB iB b8 (ahC 16)) (dr w) fun e9 w_ => w_ = (dr w) /\
  eY pg (iK 134 qL e9) (dr w) fun f0 w_ => w_ = (dr w) /\
  eY pg (gJ 25 f0) (dr w) fun f1 w_ => w_ = (dr w) /\
  (dr w) = (dr w) /\
  eY pg (gO .sub 3 iB iB b8 (ahC 15)) (dr w) fun f3 w_ => w_ = (dr w) /\
  eY pg (iK 134 qL f3) (dr w) fun f4 w_ => w_ = (dr w) /\
  eY pg (gJ 25 f4) (dr w) fun f5 w_ => w_ = (dr w) /\
  gT pg Er #[f5, (ahC 7), (ahC 18), (ahC 3)] (dr w) fun f6 uB =>
  (gN pg (gJ 25 f0) f1 uB /\ gN pg (iK 134 qL e9) f0 uB /\ gN pg (gO .sub 3 iB iB b8 (ahC 16)) e9 uB /\ True) /\
  eY pg (gO .add 25 iB iB f1 f6) uB fun f7 w_ => w_ = uB /\
  uB = uB /\
  eY pg (gO .sub 3 iB iB b8 (ahC 7)) uB fun f9 w_ => w_ = uB /\
  (gN pg (gO .sub 3 iB iB b8 (ahC 7)) f9 (dr w) /\ True) /\
  eY pg (iK 134 qL f9) uB fun i0 w_ => w_ = uB /\
  (gN pg (iK 134 qL f9) i0 (dr w) /\ True) /\
  eY pg (gJ 25 i0) uB fun i1 w_ => w_ = uB /\
  (gN pg (gJ 25 i0) i1 (dr w) /\ True) /\
  eY pg (gO .add 25 iB iB f7 i1) uB fun i2 w_ => w_ = uB /\
  uB = uB /\
  eY pg (gO .sub 3 iB iB b8 (ahC 2)) uB fun i4 w_ => w_ = uB /\
  (gN pg (gO .sub 3 iB iB b8 (ahC 2)) i4 (dr w) /\ True) /\
  eY pg (iK 134 qL i4) uB fun i5 w_ => w_ = uB /\
  (gN pg (iK 134 qL i4) i5 (dr w) /\ True) /\
  eY pg (gJ 25 i5) uB fun i6 w_ => w_ = uB /\
  (gN pg (gJ 25 i5) i6 (dr w) /\ True) /\
  gT pg Er #[i6, (ahC 17), (ahC 19), (ahC 10)] uB fun i7 BM =>
  (gN pg (gO .add 25 iB iB f7 i1) i2 BM /\ gN pg (gJ 25 i0) i1 BM /\ gN pg (iK 134 qL f9) i0 BM /\ gN pg (gO .sub 3 iB iB b8 (ahC 7)) f9 BM /\ gN pg (gO .add 25 iB iB f1 f6) f7 BM /\ gN pg (gJ 25 f0) f1 BM /\ gN pg (iK 134 qL e9) f0 BM /\ gN pg (gO .sub 3 iB iB b8 (ahC 16)) e9 BM /\ True) /\
  eY pg (gO .add 25 iB iB i2 i7) BM fun i8 w_ => w_ = BM /\
  eY pg (iK 134 qL b8) BM fun i9 w_ => w_ = BM /\
  eY pg (iG 25 i9 i8) BM fun _u23 Y6 =>
  eY pg (gO .add 3 iB iB b8 (ahC 1)) Y6 fun e6 w =>
  kn nX b4 qL e6 w)
  (k2 nX b4 qL w)
theorem Iv (kn : K4) (k2 : K3) (hn : N4 Q kn 2 4 5 8) (h2 : E3 Q k2 2 2 4 5) (h : sP kn k2 (g 2) (g 4) (g 5) (g 8) w) : iY pg iI (bI (bI (gK 1 (gX 1 (gK 1 (gK 2 iF)))))) Q g w :=
 lN (kr := no) (l := [(2, fun g w => k2 (g 2) (g 4) (g 5) w)]) h hn mH ⟨h2, trivial⟩
def zD (k2 : K3) (nX b4 qL b8 : ahB) (w : ahA) : Prop :=
 kJ (fun (X : ahB -> K0) (t : ahB) (w : ahA) => sP (fun _ _ _ b8 w => X b8 w) k2 nX b4 qL t w) b8 w
theorem Iu (k2 : K3) (h2 : E3 Q k2 2 2 4 5) (h : zD k2 (g 2) (g 4) (g 5) (g 8) w) : iY pg iI (bI (gK 1 (gX 1 (gK 1 (gK 2 iF))))) Q g w := by
 refine OW (fun g : Env => g 8) (fun X t w => sP (fun _ _ _ b8 w => X b8 w) k2 (g 2) (g 4) (g 5) t w) h (fun X g1 w1 ha hL => ?_)
 rw [<- qI 2 ha, <- qI 4 ha, <- qI 5 ha] at hL
 exact (Iv _ g1 w1 (fun _ _ _ b8 w => X b8 w) k2 (fun _ _ h => h) h2 hL)
def yK (kn : K3) (nX b4 qL b8 : ahB) (w : ahA) : Prop :=
 zD kn nX b4 qL b8 w
def yE (kn : K4) (nX b4 qL : ahB) (w : ahA) : Prop :=
 kn nX b4 qL (ahC 16) w
theorem Ir (kn : K4) (hn : N4 Q kn 2 4 5 8) (h : yE kn (g 2) (g 4) (g 5) w) : iY pg iI (gX 1 (gX 1 (gK 1 (gK 2 iF)))) Q g w :=
 lN (kr := no) (l := []) h hn mH trivial
def yL (kn : K3) (nX b4 qL : ahB) (w : ahA) : Prop :=
 yE (fun nX b4 qL b8 w => yK kn nX b4 qL b8 w) nX b4 qL w
def zJ (R : K1) (nX b4 qL : ahB) (w : ahA) : Prop :=
 yL (fun nX b4 qL w => yX R nX b4 qL w) nX b4 qL w
theorem IM (kn : K3) (hn : N3 Q kn 2 4 5) (h : yL kn (g 2) (g 4) (g 5) w) : iY pg iI (gX 1 (gK 1 (gK 2 iF))) Q g w :=
 sW 1 (Ir _ g w (yK kn) (fun g w h => iC (Oq 2 (Iu _ g w kn hn h))) h)
def rX (kn : K5) (k0 : K3) (nX b4 qL c6 c7 : ahB) (w : ahA) : Prop :=
 eY pg (gO .lss 3 iB iB c7 (ahC 64)) w fun c8 w =>
 mC c8
  (eY pg (VC 120 c6 c7) w fun d0 w =>
  eY pg (gO .quo 3 iB iB c7 (ahC 4)) w fun d2 w =>
  eY pg (gO .quo 3 iB iB c7 (ahC 4)) w fun d4 w =>
  eY pg (iK 134 qL d4) w fun d5 w =>
  eY pg (gJ 25 d5) w fun d6 w =>
  eY pg (gO .shl 25 iB iB d6 (.int .u64 8)) w fun d7 w =>
  eY pg (lL 5 25 d0) w fun d9 w =>
  eY pg (gO .or 25 iB iB d7 d9) w fun e0 w =>
  eY pg (iK 134 qL d2) w fun e1 w =>
  eY pg (iG 25 e1 e0) w fun _u w =>
  eY pg (gO .add 3 iB iB c7 (ahC 1)) w fun e2 w =>
  kn nX b4 qL c6 e2 w)
  (k0 nX b4 qL w)
theorem Ij (kn : K5) (k0 : K3) (hn : N5 Q kn 2 4 5 16 17) (h0 : E3 Q k0 0 2 4 5) (h : rX kn k0 (g 2) (g 4) (g 5) (g 16) (g 17) w) : iY pg iI (bI (bI (gK 1 (gX 1 (gK 2 iF))))) Q g w :=
 lN (kr := no) (l := [(0, fun g w => k0 (g 2) (g 4) (g 5) w)]) h hn mH ⟨h0, trivial⟩
def zI (k0 : K3) (nX b4 qL c6 c7 : ahB) (w : ahA) : Prop :=
 kJ (fun (X : ahB -> K0) (t : ahB) (w : ahA) => rX (fun _ _ _ _ c7 w => X c7 w) k0 nX b4 qL c6 t w) c7 w
theorem IT (k0 : K3) (h0 : E3 Q k0 0 2 4 5) (h : zI k0 (g 2) (g 4) (g 5) (g 16) (g 17) w) : iY pg iI (bI (gK 1 (gX 1 (gK 2 iF)))) Q g w := by
 refine OW (fun g : Env => g 17) (fun X t w => rX (fun _ _ _ _ c7 w => X c7 w) k0 (g 2) (g 4) (g 5) (g 16) t w) h (fun X g1 w1 ha hL => ?_)
 rw [<- qI 2 ha, <- qI 4 ha, <- qI 5 ha, <- qI 16 ha] at hL
 exact (Ij _ g1 w1 (fun _ _ _ _ c7 w => X c7 w) k0 (fun _ _ h => h) h0 hL)
def zC (kn : K3) (nX b4 qL c6 c7 : ahB) (w : ahA) : Prop :=
 zI kn nX b4 qL c6 c7 w
def yI (kn : K5) (nX TR b4 qL : ahB) (w : ahA) : Prop :=
 eY pg (gJ 120 TR) w fun c6 w =>
 kn nX b4 qL c6 (ahC 0) w
theorem IE (kn : K5) (hn : N5 Q kn 2 4 5 16 17) (h : yI kn (g 2) (g 3) (g 4) (g 5) w) : iY pg iI (gX 1 (gX 1 (gK 2 iF))) Q g w :=
 lN (kr := no) (l := []) h hn mH trivial
def yF (kn : K3) (nX TR b4 qL : ahB) (w : ahA) : Prop :=
 yI (fun nX b4 qL c6 c7 w => zC kn nX b4 qL c6 c7 w) nX TR b4 qL w
def xY (R : K1) (nX TR b4 qL : ahB) (w : ahA) : Prop :=
 yF (fun nX b4 qL w => zJ R nX b4 qL w) nX TR b4 qL w
theorem Ib (kn : K3) (hn : N3 Q kn 2 4 5) (h : yF kn (g 2) (g 3) (g 4) (g 5) w) : iY pg iI (gX 1 (gK 2 iF)) Q g w :=
 sW 1 (IE _ g w (zC kn) (fun g w h => iC (Oq 0 (IT _ g w kn hn h))) h)
def xZ (kn : K4) (lS A6 : ahB) (w : ahA) : Prop :=
 eY pg (EL 119 lS) w fun nX w =>
 eY pg (EL 120 A6) w fun TR w =>
 eY pg (lY 119) w fun b4 w =>
 eY pg (lY 134) w fun qL w =>
 kn nX TR b4 qL w
theorem Ie (kn : K4) (hn : N4 Q kn 2 3 4 5) (h : xZ kn (g 0) (g 1) w) : iY pg iI (gX 2 iF) Q g w :=
 lN (kr := no) (l := []) h hn mH trivial
def zM (R : K1) (lS A6 : ahB) (w : ahA) : Prop :=
 xZ (fun nX TR b4 qL w => xY R nX TR b4 qL w) lS A6 w
theorem Ip (R : K1) (hr : HR Ah R Q) (h : zM R (g 0) (g 1) w) : iY pg iI iF Q g w :=
 sW 2 (Ie _ g w (xY R) (fun g w h => iC (sW 1 (Ib _ g w (zJ R) (fun g w h => iC (sW 1 (IM _ g w (yX R) (fun g w h => iC (sW 1 (Ii _ g w (yD R) (fun g w h => iC (sW 1 (IW _ g w (An R) (fun g w h => iC (sW 1 (JE _ g w (tX R) (fun g w h => iC (I6 _ g w R hr h)) h))) h))) h))) h))) h))) h)
def Jd (a0 a1 : ahB) (w : ahA) (R : K1) : Prop :=
 zM R a0 a1 w
theorem KE {a0 a1 : ahB} {w : ahA} {R : K1} (h : Jd a0 a1 w R) : gT pg vT #[a0, a1] w R := by
 refine xB (ann := iI) Tryd.f66 iF [a0, a1] Ah 136 TrydM.mixed Tryd.func66 ?_
 exact (Ip _ _ _ R (fun _ _ h => h) h)
def mF : FA := ⟨mQ, fun i => match Nat.beq i 3 with | true => .leaf ([], []) [(false, []), (false, []), (false, []), (false, []), (false, []), (false, []), (false, [])] | false => .leaf ([], []) []⟩
def nP : List ResultVar := []
noncomputable def lW : Code := jB Tryd.f67
def nT (kn : K4) (k0 : K0) (R : K1) (tU b1 b2 IF : ahB) (w : ahA) : Prop :=
 eY pg (gJ 22 b1) w fun b7 w =>
 eY pg (mV .len #[22] 3 [b7]) w fun b8 w =>
 eY pg (gO .lss 3 iB iB IF b8) w fun b9 w =>
 mC b9
  (eY pg (gJ 3 b2) (dr w) fun c3 w_ => w_ = (dr w) /\
  eY pg (gJ 22 b1) (dr w) fun c4 w_ => w_ = (dr w) /\
  (dr w) = (dr w) /\
  eY pg (mG 22 c4 (some IF) none none) (dr w) fun c6 w_ => w_ = (dr w) /\
  eY pg (mV .len #[22] 3 [c6]) (dr w) fun c7 w_ => w_ = (dr w) /\
  eY pg (mV .min #[3, 3] 3 [c3, c7]) (dr w) fun c8 w_ => w_ = (dr w) /\
  (dr w) = (dr w) /\
  eY pg (gJ 22 b1) (dr w) fun d0 w =>
  eY pg (gO .add 3 iB iB IF c8) w fun d4 w =>
  eY pg (gO .add 3 iB iB IF c8) w fun d7 w =>
  eY pg (mG 22 d0 (some IF) (some d4) (some d7)) w fun d8 w =>
  eY pg (zL tU [d8]) w fun d9 w =>
  eY pg (KO .not d9) w fun e0 w =>
  mC e0
   (R (.tuple #[]) w)
   (eY pg (gJ 3 b2) w fun c1 w =>
   eY pg (gO .add 3 iB iB IF c1) w fun c2 w =>
   kn tU b1 b2 c2 w))
  (k0 w)
theorem Ej (kn : K4) (k0 : K0) (R : K1) (hn : N4 Q kn 0 1 2 4) (h0 : E0 Q k0 0) (hr : HR nP R Q) (h : nT kn k0 R (g 0) (g 1) (g 2) (g 4) w) : iY pg mF (bI (bI (gK 1 lW))) Q g w :=
 lN (l := [(0, fun g w => k0 w)]) h hn hr ⟨h0, trivial⟩
def qW (k0 : K0) (R : K1) (tU b1 b2 IF : ahB) (w : ahA) : Prop :=
 kJ (fun (X : ahB -> K0) (t : ahB) (w : ahA) => nT (fun _ _ _ IF w => X IF w) k0 R tU b1 b2 t w) IF w
theorem Es (k0 : K0) (R : K1) (h0 : E0 Q k0 0) (hr : HR nP R Q) (h : qW k0 R (g 0) (g 1) (g 2) (g 4) w) : iY pg mF (bI (gK 1 lW)) Q g w := by
 refine OW (fun g : Env => g 4) (fun X t w => nT (fun _ _ _ IF w => X IF w) k0 R (g 0) (g 1) (g 2) t w) h (fun X g1 w1 ha hL => ?_)
 rw [<- qI 0 ha, <- qI 1 ha, <- qI 2 ha] at hL
 exact (Ej _ g1 w1 (fun _ _ _ IF w => X IF w) k0 R (fun _ _ h => h) h0 hr hL)
def rQ (kn : K0) (R : K1) (tU b1 b2 IF : ahB) (w : ahA) : Prop :=
 qW kn R tU b1 b2 IF w
def rD (kn : K4) (tU b1 b2 : ahB) (w : ahA) : Prop :=
 kn tU b1 b2 (ahC 0) w
theorem DI (kn : K4) (hn : N4 Q kn 0 1 2 4) (h : rD kn (g 0) (g 1) (g 2) w) : iY pg mF (gX 1 lW) Q g w :=
 lN (kr := no) (l := []) h hn mH trivial
def rO (kn : K0) (R : K1) (tU b1 b2 : ahB) (w : ahA) : Prop :=
 rD (fun tU b1 b2 IF w => rQ kn R tU b1 b2 IF w) tU b1 b2 w
theorem D3 (kn : K0) (R : K1) (hn : N0 Q kn) (hr : HR nP R Q) (h : rO kn R (g 0) (g 1) (g 2) w) : iY pg mF lW Q g w :=
 sW 1 (DI _ g w (rQ kn R) (fun g w h => iC (Oq 0 (Es _ g w kn R hn hr h))) h)
def B7 (a0 a1 a2 : ahB) (w : ahA) (R : K1) : Prop :=
 rO (fun  w => R (.tuple #[]) w) R a0 a1 a2 w
theorem EG {a0 a1 a2 : ahB} {w : ahA} {R : K1} (h : B7 a0 a1 a2 w R) : gT pg mQ #[a0, a1, a2] w R := by
 refine xB (ann := mF) Tryd.f67 lW [a0, a1, a2] nP 31 TrydM.mixed Tryd.func67 ?_
 exact (D3 _ _ _ (fun  w => R (.tuple #[]) w) R (fun _ _ h => h) (fun _ _ h => h) h)
def Aq : FA := ⟨pR, fun i => .leaf ([], []) []⟩
def Bl : List ResultVar := [.tmp 6]
noncomputable def zO : Code := jB Tryd.f68
def tN (R : K1) (OI OO Z8 : ahB) (w : ahA) : Prop :=
 eY pg (jD OI) w fun c0 w =>
 eY pg (gM 126 c0 1) w fun c1 w =>
 eY pg (gJ 29 c1) w fun c2 w =>
 eY pg (gO .neq 29 (.tmp 12) (.const (ahC 0)) c2 (ahC 0)) w fun c3 w =>
 mC c3
  (R (.slice none 0 0) w)
  (eY pg (KO .not Z8) w fun c6 w =>
  mC c6
   (eY pg (jD OI) w fun c8 w =>
   eY pg (gM 126 c8 1) w fun c9 w =>
   eY pg (iG 29 c9 (ahC 1)) w fun _u w =>
   R (.slice none 0 0) w)
   (eY pg (jD OI) w fun d3 w =>
   eY pg (gM 126 d3 0) w fun d4 w =>
   eY pg (gJ 22 d4) w fun d5 w =>
   eY pg (mV .len #[22] 3 [d5]) w fun d6 w =>
   eY pg (gO .gtr 3 iB iB OO d6) w fun d7 w =>
   mC d7
    (eY pg (jD OI) w fun d9 w =>
    eY pg (gM 126 d9 1) w fun e0 w =>
    eY pg (iG 29 e0 (ahC 10)) w fun _u w =>
    R (.slice none 0 0) w)
    (eY pg (jD OI) w fun e2 w =>
    eY pg (gM 126 e2 0) w fun e3 w =>
    eY pg (gJ 22 e3) w fun e4 w =>
    eY pg (mG 22 e4 none (some OO) (some OO)) w fun e7 w =>
    eY pg (jD OI) w fun f0 w =>
    eY pg (gM 126 f0 0) w fun f1 w =>
    eY pg (gJ 22 f1) w fun f2 w =>
    eY pg (mG 22 f2 (some OO) none none) w fun f4 w =>
    eY pg (jD OI) w fun f5 w =>
    eY pg (gM 126 f5 0) w fun f6 w =>
    eY pg (iG 22 f6 f4) w fun _u w =>
    R e7 w)))
theorem FC (R : K1) (hr : HR Bl R Q) (h : tN R (g 0) (g 1) (g 2) w) : iY pg Aq zO Q g w :=
 lN (kn := no) (l := []) h mH hr trivial
def D7 (a0 a1 a2 : ahB) (w : ahA) (R : K1) : Prop :=
 tN R a0 a1 a2 w
theorem Gf {a0 a1 a2 : ahB} {w : ahA} {R : K1} (h : D7 a0 a1 a2 w R) : gT pg pR #[a0, a1, a2] w R := by
 refine xB (ann := Aq) Tryd.f68 zO [a0, a1, a2] Bl 48 TrydM.mixed Tryd.func68 ?_
 exact (FC _ _ _ R (fun _ _ h => h) h)
def Ok : FA := ⟨M9, fun i => .leaf ([], []) []⟩
def PW : List ResultVar := [.tmp 0]
noncomputable def Mo : Code := jB Tryd.f69
def Lj (R : K1)  (w : ahA) : Prop :=
 eY pg (lZ 138 [(0, (.int .u32 4294967295))]) w fun b1 w =>
 eY pg (EL 138 b1) w fun b2 w =>
 R b2 w
theorem Qe (R : K1) (hr : HR PW R Q) (h : Lj R w) : iY pg Ok Mo Q g w :=
 lN (kn := no) (l := []) h mH hr trivial
def UC (w : ahA) (R : K1) : Prop :=
 Lj R w
theorem RD {w : ahA} {R : K1} (h : UC w R) : gT pg M9 #[] w R := by
 refine xB (ann := Ok) Tryd.f69 Mo [] PW 3 TrydM.mixed Tryd.func69 ?_
 exact (Qe _ _ _ R (fun _ _ h => h) h)
def oZ : FA := ⟨Bu, fun i => match Nat.beq i 5 with | true => .leaf ([16], []) [(false, []), (false, []), (false, []), (false, []), (false, []), (false, []), (false, []), (false, []), (false, []), (false, []), (false, []), (false, []), (false, []), (false, []), (false, []), (false, []), (true, [])] | false => match Nat.beq i 6 with | true => .leaf ([16], []) [(false, []), (false, []), (false, []), (false, []), (false, []), (false, []), (false, []), (false, []), (false, []), (false, []), (false, []), (false, []), (false, []), (false, []), (false, []), (false, []), (true, [])] | false => .leaf ([], []) []⟩
def Ak : List ResultVar := []
noncomputable def oA : Code := jB Tryd.f70
def uC (kn : K4) (k0 : K0) (pN b8 b9 c0 : ahB) (w : ahA) : Prop :=
 eY pg (gO .lss 3 iB iB c0 b9) w fun c1 w =>
 mC c1
  (eY pg (iK 22 b8 c0) w fun c2 w =>
  eY pg (gJ 5 c2) w fun c3 w =>
  eY pg (jD pN) w fun c5 w =>
  eY pg (gM 138 c5 0) w fun c6 w =>
  eY pg (gJ 25 c6) w fun c7 w =>
  eY pg (lL 5 25 c3) w fun c9 w =>
  eY pg (gO .xor 25 iB iB c7 c9) w fun d0 w =>
  eY pg (jD pN) w fun d1 w =>
  eY pg (gM 138 d1 0) w fun d2 w =>
  eY pg (iG 25 d2 d0) w fun _u w =>
  (dr w) = (dr w) /\
  (dr w) = (dr w) /\
  eY pg (jD pN) (dr w) fun d5 w_ => w_ = (dr w) /\
  eY pg (gM 138 d5 0) (dr w) fun d6 w_ => w_ = (dr w) /\
  eY pg (gJ 25 d6) (dr w) fun d7 w_ => w_ = (dr w) /\
  eY pg (gO .shr 25 iB iB d7 (.int .u64 4)) (dr w) fun d8 w_ => w_ = (dr w) /\
  (dr w) = (dr w) /\
  eY pg (jD pN) (dr w) fun e0 w_ => w_ = (dr w) /\
  eY pg (gM 138 e0 0) (dr w) fun e1 w_ => w_ = (dr w) /\
  eY pg (gJ 25 e1) (dr w) fun e2 w_ => w_ = (dr w) /\
  eY pg (gO .and 25 iB iB e2 (.int .u32 15)) (dr w) fun e3 w_ => w_ = (dr w) /\
  eY pg (iK 139 (.pointer (some ⟨1, 0, none⟩)) e3) (dr w) fun e4 w_ => w_ = (dr w) /\
  eY pg (gJ 25 e4) (dr w) fun e5 w_ => w_ = (dr w) /\
  eY pg (gO .xor 25 iB iB d8 e5) (dr w) fun e6 w_ => w_ = (dr w) /\
  eY pg (jD pN) (dr w) fun e7 w_ => w_ = (dr w) /\
  eY pg (gM 138 e7 0) (dr w) fun e8 w_ => w_ = (dr w) /\
  eY pg (iG 25 e8 e6) (dr w) fun _u16 nZ =>
  (dr nZ) = (dr nZ) /\
  (dr nZ) = (dr nZ) /\
  eY pg (jD pN) (dr nZ) fun f1 w_ => w_ = (dr nZ) /\
  eY pg (gM 138 f1 0) (dr nZ) fun f2 w_ => w_ = (dr nZ) /\
  eY pg (gJ 25 f2) (dr nZ) fun f3 w_ => w_ = (dr nZ) /\
  eY pg (gO .shr 25 iB iB f3 (.int .u64 4)) (dr nZ) fun f4 w_ => w_ = (dr nZ) /\
  (dr nZ) = (dr nZ) /\
  eY pg (jD pN) (dr nZ) fun f6 w_ => w_ = (dr nZ) /\
  eY pg (gM 138 f6 0) (dr nZ) fun f7 w_ => w_ = (dr nZ) /\
  eY pg (gJ 25 f7) (dr nZ) fun f8 w_ => w_ = (dr nZ) /\
  eY pg (gO .and 25 iB iB f8 (.int .u32 15)) (dr nZ) fun f9 w_ => w_ = (dr nZ) /\
  eY pg (iK 139 (.pointer (some ⟨1, 0, none⟩)) f9) (dr nZ) fun i0 w_ => w_ = (dr nZ) /\
  eY pg (gJ 25 i0) (dr nZ) fun i1 w_ => w_ = (dr nZ) /\
  eY pg (gO .xor 25 iB iB f4 i1) (dr nZ) fun i2 w_ => w_ = (dr nZ) /\
  eY pg (jD pN) (dr nZ) fun i3 w_ => w_ = (dr nZ) /\
  eY pg (gM 138 i3 0) (dr nZ) fun i4 w_ => w_ = (dr nZ) /\
  eY pg (iG 25 i4 i2) (dr nZ) fun _u16 Z2 =>
  eY pg (gO .add 3 iB iB c0 (ahC 1)) Z2 fun i5 w =>
  kn pN b8 b9 i5 w)
  (k0 w)
theorem Ja (kn : K4) (k0 : K0) (hn : N4 Q kn 0 8 9 10) (h0 : E0 Q k0 0) (h : uC kn k0 (g 0) (g 8) (g 9) (g 10) w) : iY pg oZ (bI (bI (gK 2 oA))) Q g w :=
 lN (kr := no) (l := [(0, fun g w => k0 w)]) h hn mH ⟨h0, trivial⟩
def AP (k0 : K0) (pN b8 b9 c0 : ahB) (w : ahA) : Prop :=
 kJ (fun (X : ahB -> K0) (t : ahB) (w : ahA) => uC (fun _ _ _ c0 w => X c0 w) k0 pN b8 b9 t w) c0 w
theorem JF (k0 : K0) (h0 : E0 Q k0 0) (h : AP k0 (g 0) (g 8) (g 9) (g 10) w) : iY pg oZ (bI (gK 2 oA)) Q g w := by
 refine OW (fun g : Env => g 10) (fun X t w => uC (fun _ _ _ c0 w => X c0 w) k0 (g 0) (g 8) (g 9) t w) h (fun X g1 w1 ha hL => ?_)
 rw [<- qI 0 ha, <- qI 8 ha, <- qI 9 ha] at hL
 exact (Ja _ g1 w1 (fun _ _ _ c0 w => X c0 w) k0 (fun _ _ h => h) h0 hL)
def AQ (kn : K0) (pN b8 b9 c0 : ahB) (w : ahA) : Prop :=
 AP kn pN b8 b9 c0 w
def AR (kn : K4) (R : K1) (pN A6 : ahB) (w : ahA) : Prop :=
 eY pg (gO .eql 131 (.tmp 6) (.const (.pointer none)) pN (.pointer none)) w fun b7 w =>
 mC b7
  (R (.tuple #[]) w)
  (eY pg (mV .len #[22] 3 [A6]) w fun b9 w =>
  kn pN A6 b9 (ahC 0) w)
theorem JV (kn : K4) (R : K1) (hn : N4 Q kn 0 8 9 10) (hr : HR Ak R Q) (h : AR kn R (g 0) (g 1) w) : iY pg oZ (gX 2 oA) Q g w :=
 lN (l := []) h hn hr trivial
def Al (kn : K0) (R : K1) (pN A6 : ahB) (w : ahA) : Prop :=
 AR (fun pN b8 b9 c0 w => AQ kn pN b8 b9 c0 w) R pN A6 w
theorem Jt (kn : K0) (R : K1) (hn : N0 Q kn) (hr : HR Ak R Q) (h : Al kn R (g 0) (g 1) w) : iY pg oZ oA Q g w :=
 sW 2 (JV _ g w (AQ kn) R (fun g w h => iC (Oq 0 (JF _ g w kn hn h))) hr h)
def Jn (a0 a1 : ahB) (w : ahA) (R : K1) : Prop :=
 Al (fun  w => R (.tuple #[]) w) R a0 a1 w
theorem Ky {a0 a1 : ahB} {w : ahA} {R : K1} (h : Jn a0 a1 w R) : gT pg Bu #[a0, a1] w R := by
 refine xB (ann := oZ) Tryd.f70 oA [a0, a1] Ak 56 TrydM.mixed Tryd.func70 ?_
 exact (Jt _ _ _ (fun  w => R (.tuple #[]) w) R (fun _ _ h => h) (fun _ _ h => h) h)
def Gu : FA := ⟨DM, fun i => .leaf ([], []) []⟩
def HK : List ResultVar := [.tmp 2]
noncomputable def Fa : Code := jB Tryd.f71
def Cx (R : K1) (pN : ahB) (w : ahA) : Prop :=
 eY pg (gO .eql 131 (.tmp 3) (.const (.pointer none)) pN (.pointer none)) w fun b4 w =>
 mC b4
  (R (.int .u32 0) w)
  (eY pg (jD pN) w fun b6 w =>
  eY pg (gM 138 b6 0) w fun b7 w =>
  eY pg (gJ 25 b7) w fun b8 w =>
  eY pg (KO .xor b8) w fun b9 w =>
  R b9 w)
theorem LK (R : K1) (hr : HR HK R Q) (h : Cx R (g 0) w) : iY pg Gu Fa Q g w :=
 lN (kn := no) (l := []) h mH hr trivial
def Mh (a0 : ahB) (w : ahA) (R : K1) : Prop :=
 Cx R a0 w
theorem MH {a0 : ahB} {w : ahA} {R : K1} (h : Mh a0 w R) : gT pg DM #[a0] w R := by
 refine xB (ann := Gu) Tryd.f71 Fa [a0] HK 10 TrydM.mixed Tryd.func71 ?_
 exact (LK _ _ _ R (fun _ _ h => h) h)
def LS : FA := ⟨Er, fun i => match Nat.beq i 1 with | true => .leaf ([3, 7], [(3, 6), (3, 11), (7, 11)]) [(false, []), (false, []), (false, []), (true, []), (false, []), (false, []), (false, [2]), (true, []), (false, []), (false, []), (false, []), (false, [3, 7]), (false, []), (false, [])] | false => .leaf ([], []) []⟩
def NY : List ResultVar := [.tmp 8]
noncomputable def KL : Code := jB Tryd.f72
def Ju (R : K1) (VP a_1 WW T1 : ahB) (w : ahA) : Prop :=
 (dr w) = (dr w) /\
 (dr w) = (dr w) /\
 eY pg (KO .neg a_1) (dr w) fun c1 w_ => w_ = (dr w) /\
 gT pg jS #[VP, c1] (dr w) fun c2 RJ =>
 RJ = RJ /\
 RJ = RJ /\
 eY pg (KO .neg WW) RJ fun c5 w_ => w_ = RJ /\
 (gN pg (KO .neg WW) c5 (dr w) /\ True) /\
 gT pg jS #[VP, c5] RJ fun c6 Ng =>
 eY pg (gO .xor 25 iB iB c2 c6) Ng fun c7 w_ => w_ = Ng /\
 Ng = Ng /\
 Ng = Ng /\
 eY pg (gO .shr 25 iB iB VP T1) Ng fun d0 w_ => w_ = Ng /\
 (gN pg (gO .shr 25 iB iB VP T1) d0 RJ /\ gN pg (gO .shr 25 iB iB VP T1) d0 (dr w) /\ True) /\
 eY pg (gO .xor 25 iB iB c7 d0) Ng fun d1 w_ => w_ = Ng /\
 Ng = Ng /\
 R d1 Ng
theorem OS (R : K1) (hr : HR NY R Q) (h : Ju R (g 0) (g 1) (g 2) (g 3) w) : iY pg LS KL Q g w :=
 lN (kn := no) (l := []) h mH hr trivial
def Su (a0 a1 a2 a3 : ahB) (w : ahA) (R : K1) : Prop :=
 Ju R a0 a1 a2 a3 w
theorem P9 {a0 a1 a2 a3 : ahB} {w : ahA} {R : K1} (h : Su a0 a1 a2 a3 w R) : gT pg Er #[a0, a1, a2, a3] w R := by
 refine xB (ann := LS) Tryd.f72 KL [a0, a1, a2, a3] NY 22 TrydM.mixed Tryd.func72 ?_
 exact (OS _ _ _ R (fun _ _ h => h) h)
def Jb : FA := ⟨AI, fun i => .leaf ([], []) []⟩
def KG : List ResultVar := [.tmp 8]
noncomputable def HP : Code := jB Tryd.f73
def Fp (R : K1) (VP a_1 WW c_3 : ahB) (w : ahA) : Prop :=
 eY pg (KO .neg a_1) w fun c1 w =>
 gT pg jS #[VP, c1] w fun c2 w =>
 eY pg (KO .neg WW) w fun c5 w =>
 gT pg jS #[VP, c5] w fun c6 w =>
 eY pg (gO .xor 25 iB iB c2 c6) w fun c7 w =>
 eY pg (KO .neg c_3) w fun d0 w =>
 gT pg jS #[VP, d0] w fun d1 w =>
 eY pg (gO .xor 25 iB iB c7 d1) w fun d2 w =>
 R d2 w
theorem M5 (R : K1) (hr : HR KG R Q) (h : Fp R (g 0) (g 1) (g 2) (g 3) w) : iY pg Jb HP Q g w :=
 lN (kn := no) (l := []) h mH hr trivial
def Pt (a0 a1 a2 a3 : ahB) (w : ahA) (R : K1) : Prop :=
 Fp R a0 a1 a2 a3 w
theorem OA {a0 a1 a2 a3 : ahB} {w : ahA} {R : K1} (h : Pt a0 a1 a2 a3 w R) : gT pg AI #[a0, a1, a2, a3] w R := by
 refine xB (ann := Jb) Tryd.f73 HP [a0, a1, a2, a3] KG 23 TrydM.mixed Tryd.func73 ?_
 exact (M5 _ _ _ R (fun _ _ h => h) h)
def vN : FA := ⟨jS, fun i => .leaf ([], []) []⟩
def vV : List ResultVar := [.tmp 4]
noncomputable def tT : Code := jB Tryd.f74
def pQ (R : K1) (VP k_1 : ahB) (w : ahA) : Prop :=
 eY pg (lL 3 128 k_1) w fun b7 w =>
 eY pg (gO .and 128 iB iB b7 (.int .u64 31)) w fun b8 w =>
 eY pg (gO .shl 25 iB iB VP b8) w fun c1 w =>
 eY pg (gO .sub 128 iB iB (.int .u64 32) b8) w fun c4 w =>
 eY pg (gO .shr 25 iB iB VP c4) w fun c5 w =>
 eY pg (gO .or 25 iB iB c1 c5) w fun c6 w =>
 R c6 w
theorem CN (R : K1) (hr : HR vV R Q) (h : pQ R (g 0) (g 1) w) : iY pg vN tT Q g w :=
 lN (kn := no) (l := []) h mH hr trivial
def AS (a0 a1 : ahB) (w : ahA) (R : K1) : Prop :=
 pQ R a0 a1 w
theorem Dd {a0 a1 : ahB} {w : ahA} {R : K1} (h : AS a0 a1 w R) : gT pg jS #[a0, a1] w R := by
 refine xB (ann := vN) Tryd.f74 tT [a0, a1] vV 17 TrydM.mixed Tryd.func74 ?_
 exact (CN _ _ _ R (fun _ _ h => h) h)
end Go.Proofs.YteelnmpbnaohpaaDoor
namespace Go.En
open Go
section
variable {P : Program} {w : ahA} {t : TypeId} {ox oy : Operand} {k : IntKind} {a b : Int}
theorem nF (s : Sem ahB) : (V s).run P w = (s.run P w).andThen fun v w => .ok (.value v) w := by
 unfold V; rw [Sem.run_bind] <;> rfl
theorem aaJ (s : Sem Unit) : (U s).run P w = (s.run P w).andThen fun _ w => .ok .skip w := by
 unfold U; rw [Sem.run_bind] <;> rfl
theorem fO : (gO .add t ox oy (.int k a) (.int k b)).run P w = .ok (.value (.int k (k.wrap (a + b)))) w := by
 simp [gO, Cn, nF, binOp, Op.intArith]
theorem fW : (gO .sub t ox oy (.int k a) (.int k b)).run P w = .ok (.value (.int k (k.wrap (a - b)))) w := by
 simp [gO, Cn, nF, binOp, Op.intArith]
theorem fN : (gO .mul t ox oy (.int k a) (.int k b)).run P w = .ok (.value (.int k (k.wrap (a * b)))) w := by
 simp [gO, Cn, nF, binOp, Op.intArith]
theorem fZ (h : b ≠ 0) : (gO .quo t ox oy (.int k a) (.int k b)).run P w = .ok (.value (.int k (k.wrap (a.tdiv b)))) w := by
 simp [gO, Cn, nF, binOp, Op.intDiv, h]
theorem fX (h : b ≠ 0) : (gO .rem t ox oy (.int k a) (.int k b)).run P w = .ok (.value (.int k (a.tmod b))) w := by
 simp [gO, Cn, nF, binOp, Op.intDiv, h]
def PY (k : IntKind) (a b : Int) : Int := k.wrap (BitVec.ofInt k.bits a &&& BitVec.ofInt k.bits b).toNat
def ZH (k : IntKind) (a b : Int) : Int := k.wrap (BitVec.ofInt k.bits a ||| BitVec.ofInt k.bits b).toNat
def Rt (k : IntKind) (a b : Int) : Int := k.wrap (BitVec.ofInt k.bits a ^^^ BitVec.ofInt k.bits b).toNat
def Ud (k : IntKind) (a b : Int) : Int := k.wrap (BitVec.ofInt k.bits a &&& ~~~BitVec.ofInt k.bits b).toNat
theorem fY : (gO .and t ox oy (.int k a) (.int k b)).run P w = .ok (.value (.int k (PY k a b))) w := by
 simp [gO, Cn, nF, binOp, Op.intBits, PY]
theorem gQ : (gO .or t ox oy (.int k a) (.int k b)).run P w = .ok (.value (.int k (ZH k a b))) w := by
 simp [gO, Cn, nF, binOp, Op.intBits, ZH]
theorem gG : (gO .xor t ox oy (.int k a) (.int k b)).run P w = .ok (.value (.int k (Rt k a b))) w := by
 simp [gO, Cn, nF, binOp, Op.intBits, Rt]
theorem eT : (gO .andNot t ox oy (.int k a) (.int k b)).run P w = .ok (.value (.int k (Ud k a b))) w := by
 simp [gO, Cn, nF, binOp, Op.intBits, Ud]
theorem fT {k' : IntKind} (h : 0 <= b) : (gO .shl t ox oy (.int k a) (.int k' b)).run P w = .ok (.value (.int k (k.wrap (a * 2 ^ (min b.toNat k.bits))))) w := by
 simp [gO, Cn, nF, binOp, Op.shift, Int.not_lt.2 h]
theorem fS {k' : IntKind} (h : 0 <= b) : (gO .shr t ox oy (.int k a) (.int k' b)).run P w = .ok (.value (.int k (a.fdiv (2 ^ (min b.toNat k.bits))))) w := by
 simp [gO, Cn, nF, binOp, Op.shift, Int.not_lt.2 h]
theorem gE : (gO .eql t ox oy (.int k a) (.int k b)).run P w = .ok (.value (.bool (a == b))) w := by
 simp [gO, Cn, nF, binOp, Op.intCmp, eqGuard]
theorem fR : (gO .neq t ox oy (.int k a) (.int k b)).run P w = .ok (.value (.bool (a != b))) w := by
 simp [gO, Cn, nF, binOp, Op.intCmp, eqGuard]
theorem fL : (gO .lss t ox oy (.int k a) (.int k b)).run P w = .ok (.value (.bool (decide (a < b)))) w := by
 simp [gO, Cn, nF, binOp, Op.intCmp]
theorem fV : (gO .leq t ox oy (.int k a) (.int k b)).run P w = .ok (.value (.bool (decide (a <= b)))) w := by
 simp [gO, Cn, nF, binOp, Op.intCmp]
theorem fQ : (gO .gtr t ox oy (.int k a) (.int k b)).run P w = .ok (.value (.bool (decide (b < a)))) w := by
 simp [gO, Cn, nF, binOp, Op.intCmp]
theorem fU : (gO .geq t ox oy (.int k a) (.int k b)).run P w = .ok (.value (.bool (decide (b <= a)))) w := by
 simp [gO, Cn, nF, binOp, Op.intCmp]
theorem gB : (KO .neg (.int k a)).run P w = .ok (.value (.int k (k.wrap (0 - a)))) w := by
 simp [KO, nF, Op.unary, Op.intArith]
theorem gC : (KO .xor (.int k a)).run P w = .ok (.value (.int k (Rt k (if k.signed then -1 else k.max) a))) w := by
 simp [KO, nF, Op.unary, Op.intBits, Rt]
theorem fP (c : Bool) : (KO .not (.bool c)).run P w = .ok (.value (.bool !c)) w := by
 simp [KO, nF, Op.unary]
theorem fC (c : Bool) (x y : ahB) : (lD (.bool c) x y).run P w = .ok (.value (if c then x else y)) w := by
 simp [lD, asBool]
theorem Py {x y : ahB} {r : Bool} (hg : eqGuard .eql t ox oy x y = pure ()) (hb : binOp .eql t x y = (do pure (.bool (<- Op.equal t x y)))) (he : (Op.equal t x y).run P w = .ok r w) :
 (gO .eql t ox oy x y).run P w = .ok (.value (.bool r)) w := by
 unfold gO
 simp only [Cn, nF, hg, hb, pure_bind]
 rw [Sem.run_bind, he] <;> rfl
theorem Sp {x y : ahB} {r : Bool} (hg : eqGuard .neq t ox oy x y = pure ()) (hb : binOp .neq t x y = (do pure (.bool (!(<- Op.equal t x y))))) (he : (Op.equal t x y).run P w = .ok r w) :
 (gO .neq t ox oy x y).run P w = .ok (.value (.bool (!r))) w := by
 unfold gO
 simp only [Cn, nF, hg, hb, pure_bind]
 rw [Sem.run_bind, he] <;> rfl
theorem VL (n : Nat) (c d : Bool) (hu : P.underlying t = some .bool) : (Op.equalIn (n + 1) t (.bool c) (.bool d)).run P w = .ok (c == d) w := by
 simp only [Op.equalIn, underlying]
 simp [hu]
theorem Uy (c d : Bool) (hu : P.underlying t = some .bool) : (Op.equal t (.bool c) (.bool d)).run P w = .ok (c == d) w := VL 9999 c d hu
theorem Zm (c d : Bool) (hu : P.underlying t = some .bool) : (gO .eql t ox oy (.bool c) (.bool d)).run P w = .ok (.value (.bool (c == d))) w :=
 Py rfl rfl (Uy c d hu)
theorem Zr (c d : Bool) (hu : P.underlying t = some .bool) : (gO .neq t ox oy (.bool c) (.bool d)).run P w = .ok (.value (.bool (!(c == d)))) w :=
 Sp rfl rfl (Uy c d hu)
theorem fI {n : Int} (h0 : -9223372036854775808 <= n) (h1 : n <= 9223372036854775807) : IntKind.i64.wrap n = n := by
 unfold IntKind.wrap; simp [IntKind.bits, IntKind.signed]; split <;> omega
theorem fJ {n : Int} (h0 : 0 <= n) (h1 : n <= 18446744073709551615) : IntKind.u64.wrap n = n := by
 unfold IntKind.wrap; simp [IntKind.bits, IntKind.signed]; omega
theorem gH {n : Int} (h0 : -2147483648 <= n) (h1 : n <= 2147483647) : IntKind.i32.wrap n = n := by
 unfold IntKind.wrap; simp [IntKind.bits, IntKind.signed]; split <;> omega
theorem fM {n : Int} (h0 : 0 <= n) (h1 : n <= 4294967295) : IntKind.u32.wrap n = n := by
 unfold IntKind.wrap; simp [IntKind.bits, IntKind.signed]; omega
theorem gD {n : Int} (h0 : 0 <= n) (h1 : n <= 65535) : IntKind.u16.wrap n = n := by
 unfold IntKind.wrap; simp [IntKind.bits, IntKind.signed]; omega
theorem gR {n : Int} (h0 : 0 <= n) (h1 : n <= 255) : IntKind.u8.wrap n = n := by
 unfold IntKind.wrap; simp [IntKind.bits, IntKind.signed]; omega
theorem Xs (x y : ByteArray) (h : ((x.size + y.size : Nat) : Int) <= 9223372036854775807) : (gO .add t ox oy (.string x) (.string y)).run P w = .ok (.value (.string (x ++ y))) w := by
 have : ¬ (((x.size + y.size : Nat) : Int) > IntKind.i64.max) := by
  have e : IntKind.i64.max = 9223372036854775807 := by decide
  rw [e]; omega
 simp only [gO, Cn, nF, binOp, Op.stringOp, this, if_false]
 rfl
theorem ZA (x y : ByteArray) : (gO .eql t ox oy (.string x) (.string y)).run P w = .ok (.value (.bool (x.toList == y.toList))) w := by
 simp [gO, Cn, nF, binOp, Op.stringOp, eqGuard]
theorem Xu (x y : ByteArray) : (gO .neq t ox oy (.string x) (.string y)).run P w = .ok (.value (.bool !(x.toList == y.toList))) w := by
 simp [gO, Cn, nF, binOp, Op.stringOp, eqGuard]
theorem WO (n : Nat) {e : TypeId} (hu : P.underlying t = some (.pointer e)) (x : Option Addr) : (Op.equalIn (n + 1) t (.pointer x) (.pointer none)).run P w = .ok x.isNone w := by
 simp only [Op.equalIn, underlying]
 cases x <;> simp [hu]
theorem VZ {e : TypeId} (hu : P.underlying t = some (.pointer e)) (x : Option Addr) : (Op.equal t (.pointer x) (.pointer none)).run P w = .ok x.isNone w := WO 9999 hu x
theorem X8 (m : Nat) {e : TypeId} (hu : P.underlying t = some (.slice e)) (x : Option Addr) (n c : Nat) : (Op.equalIn (m + 1) t (.slice x n c) (.slice none 0 0)).run P w = .ok x.isNone w := by
 simp only [Op.equalIn, underlying]
 cases x <;> simp [hu]
theorem ZT {e : TypeId} (hu : P.underlying t = some (.slice e)) (x : Option Addr) (n c : Nat) : (Op.equal t (.slice x n c) (.slice none 0 0)).run P w = .ok x.isNone w := X8 9999 hu x n c
theorem Nz {e : TypeId} (hu : P.underlying t = some (.pointer e)) (x : Option Addr) : (gO .eql t ox oy (.pointer x) (.pointer none)).run P w = .ok (.value (.bool x.isNone)) w :=
 Py rfl rfl (VZ hu x)
theorem V8 {e : TypeId} (hu : P.underlying t = some (.pointer e)) (x : Option Addr) : (gO .neq t ox oy (.pointer x) (.pointer none)).run P w = .ok (.value (.bool (!x.isNone))) w :=
 Sp rfl rfl (VZ hu x)
theorem Rf {e : TypeId} (hu : P.underlying t = some (.slice e)) (x : Option Addr) (n c : Nat) : (gO .eql t ox oy (.slice x n c) (.slice none 0 0)).run P w = .ok (.value (.bool x.isNone)) w :=
 Py rfl rfl (ZT hu x n c)
theorem CJ {s : TypeId} {d : TypeDesc} {kd : IntKind} (hs : P.underlying s = some d) (hu : P.underlying t = some (.int kd)) : (lL s t (.int k a)).run P w = .ok (.value (.int kd (kd.wrap a))) w := by
 cases d <;> simp [lL, nF, convert, underlying, hs, hu, Conv.intToInt]
theorem ND {ty : TypeId} {e : TypeId} (hu : P.underlying t = some (.slice e)) (x : Option Addr) (n c : Nat) : (mV .len #[t] ty [.slice x n c]).run P w = .ok (.value (.int .i64 n)) w := by
 simp [mV, builtin, Builtin.len_, underlying, hu, goInt]
theorem Zg {ty : TypeId} (hu : P.underlying t = some .string) (x : ByteArray) : (mV .len #[t] ty [.string x]).run P w = .ok (.value (.int .i64 x.size)) w := by
 simp [mV, builtin, Builtin.len_, underlying, hu, goInt]
theorem gI {ats : Array TypeId} {ty : TypeId} : (mV .min ats ty [.int k a, .int k b]).run P w = .ok (.value (.int k (if b < a then b else a))) w := by
 simp [mV, builtin, Builtin.min_, Builtin.min2]
theorem gA {ats : Array TypeId} {ty : TypeId} : (mV .max ats ty [.int k a, .int k b]).run P w = .ok (.value (.int k (if b > a then b else a))) w := by
 simp [mV, builtin, Builtin.max_, Builtin.max2]
theorem iR (a b : ahB) : (iZ (.tuple #[a, b]) 0).run P w = .ok (.value a) w := Eq.trans rfl rfl
theorem iO (a b : ahB) : (iZ (.tuple #[a, b]) 1).run P w = .ok (.value b) w := Eq.trans rfl rfl
theorem iP (a b c : ahB) : (iZ (.tuple #[a, b, c]) 0).run P w = .ok (.value a) w := Eq.trans rfl rfl
theorem iU (a b c : ahB) : (iZ (.tuple #[a, b, c]) 1).run P w = .ok (.value b) w := Eq.trans rfl rfl
theorem iM (a b c : ahB) : (iZ (.tuple #[a, b, c]) 2).run P w = .ok (.value c) w := Eq.trans rfl rfl
theorem iS (a b c d : ahB) : (iZ (.tuple #[a, b, c, d]) 0).run P w = .ok (.value a) w := Eq.trans rfl rfl
theorem iQ (a b c d : ahB) : (iZ (.tuple #[a, b, c, d]) 1).run P w = .ok (.value b) w := Eq.trans rfl rfl
theorem iT (a b c d : ahB) : (iZ (.tuple #[a, b, c, d]) 2).run P w = .ok (.value c) w := Eq.trans rfl rfl
theorem iN (a b c d : ahB) : (iZ (.tuple #[a, b, c, d]) 3).run P w = .ok (.value d) w := Eq.trans rfl rfl
theorem fK (x : Addr) : (jD (.pointer (some x))).run P w = .ok (.value (.pointer (some x))) w := Eq.trans rfl rfl
theorem kX {fs : Array Field} {f : Field} {i : Nat} {inf : TypeInfo} (hu : P.underlying t = some (.struct fs)) (hf : fs[i]? = some f)
 (hi : P.info? f.type = some inf) (hz : inf.size ≠ 0) (x : Addr) : (gM t (.pointer (some x)) i).run P w = .ok (.value (.pointer (some (x.add f.offset)))) w := by
 simp [gM, nF, Instr.fieldAt, underlying, hu, hf, Instr.sureAddr, fieldPlace, sizeOf, typeInfo, hi, hz]
theorem SM {e : TypeId} {inf : TypeInfo} (hu : P.underlying t = some (.slice e)) (hi : P.info? e = some inf) (x : Addr) (n c : Nat) (h0 : 0 <= a) (h1 : a < n) :
 (iK t (.slice (some x) n c) (.int k a)).run P w = .ok (.value (.pointer (some (x.add (a.toNat * inf.size))))) w := by
 simp [iK, nF, Instr.indexAt, asIntOf, underlying, hu, h0, h1, sizeOf, typeInfo, hi]
theorem WG {e : TypeId} {len : Nat} {inf : TypeInfo} (hu : P.underlying t = some (.array len e)) (hi : P.info? e = some inf) (x : Addr) (h0 : 0 <= a) (h1 : a < len) :
 (iK t (.pointer (some x)) (.int k a)).run P w = .ok (.value (.pointer (some (x.add (a.toNat * inf.size))))) w := by
 simp [iK, nF, Instr.indexAt, asIntOf, underlying, hu, h0, h1, sizeOf, typeInfo, hi, Instr.sureAddr]
end
def jI (w : ahA) (b : Nat) (cs : List ahB) : Prop :=
 ∃ T lo hi, w.heap[b]? = some (.cells cs.toArray T (lo, hi)) /\ (cs.length <= lo ∨ hi = lo)
structure gV (w w' : ahA) (M : Nat -> Prop) : Prop where
 os : w'.os = w.os
 tape : w'.tape = w.tape
 output : w'.output = w.output
 size : w.heap.size <= w'.heap.size
 keep : ∀ b, b < w.heap.size -> ¬ M b -> w'.heap[b]? = w.heap[b]?
def jN : Nat -> Prop := fun _ => False
theorem gV.refl (w : ahA) (M : Nat -> Prop) : gV w w M := ⟨rfl, rfl, rfl, acY _, fun _ _ _ => rfl⟩
theorem gV.mono {w w' : ahA} {M N : Nat -> Prop} (h : gV w w' M) (hm : ∀ b, b < w.heap.size -> M b -> N b) : gV w w' N :=
 ⟨h.os, h.tape, h.output, h.size, fun b hb hn => h.keep b hb fun hM => hn (hm b hb hM)⟩
theorem gV.trans {a b c : ahA} {M N : Nat -> Prop} (h : gV a b M) (k : gV b c N) (hn : ∀ x, x < a.heap.size -> N x -> M x) : gV a c M :=
 ⟨k.os.trans h.os, k.tape.trans h.tape, k.output.trans h.output, aeV h.size k.size,
   fun x hx hM => (k.keep x (afK hx h.size) fun h => hM (hn x hx h)).trans (h.keep x hx hM)⟩
theorem gV.seq {a b c : ahA} {M : Nat -> Prop} (h : gV a b M) (k : gV b c M) : gV a c M := h.trans k fun _ _ h => h
theorem gV.new {a b c : ahA} {M : Nat -> Prop} {x : Nat} (h : gV a b M) (k : gV b c (fun y => y = x)) (hx : a.heap.size <= x) : gV a c M :=
 h.trans k fun y hy e => absurd hy (by subst e; omega)
theorem gV.more {a b c : ahA} {M : Nat -> Prop} (h : gV a b M) (k : gV b c (fun _ => False)) : gV a c M := h.trans k fun _ _ h => h.elim
theorem gV.below {w w' : ahA} (h : gV w w' jN) : Go.RowKit.Below w.heap.size w w' :=
 ⟨h.os, h.tape, h.output, h.size, fun k hk => h.keep k hk fun h => h⟩
theorem gV.dr (w : ahA) (M : Nat -> Prop) : gV w (dr w) M := ⟨rfl, rfl, rfl, acY _, fun _ _ _ => rfl⟩
theorem gV.alloc (w : ahA) (o : Obj) (M : Nat -> Prop) : gV w (w.alloc o) M :=
 ⟨rfl, rfl, rfl, by simp, fun b hb _ => by show (w.heap.push o)[b]? = _; rw [Array.getElem?_push, if_neg (by omega)]⟩
theorem Ov (w : ahA) (a : Addr) (v : ahB) (b : Nat) (h : b ≠ a.block) : (w.setCell a v).heap[b]? = w.heap[b]? := Go.RowKit.Below.heap_setCell w a v b h
theorem gV.setCell (w : ahA) (a : Addr) (v : ahB) {M : Nat -> Prop} (h : a.block < w.heap.size -> M a.block) : gV w (w.setCell a v) M :=
 ⟨rfl, rfl, rfl, by simp, fun b hb hM => Ov w a v b fun e => hM (e ▸ h (e ▸ hb))⟩
theorem jI.lt {w : ahA} {b : Nat} {cs : List ahB} (h : jI w b cs) : b < w.heap.size := by
 obtain ⟨T, lo, hi, h, _⟩ := h
 rcases aeG b w.heap.size with h' | h'
 .exact h'
 .rw [adR h'] at h; cases h
theorem jI.ext {w w' : ahA} {b : Nat} {cs : List ahB} {M : Nat -> Prop} (h : jI w b cs) (hx : gV w w' M) (hM : ¬ M b) : jI w' b cs := by
 have := h.lt
 obtain ⟨T, lo, hi, h, k⟩ := h
 exact ⟨T, lo, hi, by rw [hx.keep b this hM]; exact h, k⟩
theorem jI.cell {w : ahA} {b off : Nat} {cs : List ahB} (h : jI w b cs) : w.cell? ⟨b, off, none⟩ = cs[off]? := by
 obtain ⟨T, lo, hi, h, _⟩ := h
 simp [World.cell?, h]
theorem jI.free {w : ahA} {b off : Nat} {cs : List ahB} {s : Option Nat} (h : jI w b cs) (ho : off < cs.length) : w.frozen? ⟨b, off, s⟩ = false := by
 obtain ⟨T, lo, hi, h, k⟩ := h
 simp only [World.frozen?, h]
 rcases k with k | k <;> (simp; omega)
theorem jI.setCell {w : ahA} {b off : Nat} {cs : List ahB} (h : jI w b cs) (v : ahB) : jI (w.setCell ⟨b, off, none⟩ v) b (cs.set off v) := by
 have hb := h.lt
 obtain ⟨T, lo, hi, h, k⟩ := h
 refine ⟨T, lo, hi, ?_, by simpa using k⟩
 simp only [World.setCell, afD, h]
 simp
theorem jI.alloc (w : ahA) (cs : List ahB) (T : TypeId) : jI (w.alloc (.cells cs.toArray T)) w.heap.size cs :=
 ⟨T, 0, 0, by show (w.heap.push _)[w.heap.size]? = _; simp, .inr rfl⟩
theorem Wo {w w' : ahA} {M : Nat -> Prop} {a : Addr} {v : ahB} (h : w.cell? a = some v) (hx : gV w w' M) (hM : ¬ M a.block) : w'.cell? a = some v := by
 have hb := World.block_lt_of_cell? w a h
 have e := hx.keep _ hb hM
 unfold World.cell? at h ⊢
 rw [e]; exact h
section
variable {P : Program} {w : ahA} {t : TypeId}
def Ru (d : TypeDesc) : Bool := match d with | .struct _ | .array _ _ => true | _ => false
theorem Dh {d : TypeDesc} (hu : P.underlying t = some d) : (isAgg t).run P w = .ok (Ru d) w := by
 cases d <;> simp [isAgg, underlying, hu, Ru]
theorem kQ {i : TypeInfo} (hi : P.info? t = some i) : (sizeOf t).run P w = .ok i.size w := by simp [sizeOf, typeInfo, hi]
theorem LR {b off : Nat} {cs : List ahB} (ho : jI w b cs) : ∀ (n i : Nat) (acc : Array ahB), off + i + n <= cs.length →
 (loadCellsFrom ⟨b, off, none⟩ i n acc).run P w = .ok (acc ++ ((cs.drop (off + i)).take n).toArray) w := by
 intro n
 induction n with
 | zero => intro i acc _; simp [loadCellsFrom]
 | succ n ih =>
   intro i acc h
   have hc : w.cell? ((⟨b, off, none⟩ : Addr).add i) = some cs[off + i] := by
    unfold Addr.add
    split
    .rename_i hi; subst hi; rw [ho.cell]; simp
    .show w.cell? ⟨b, off + i, none⟩ = _; rw [ho.cell]; simp
   simp only [loadCellsFrom, Sem.run_bind, run_load, hc, Result.andThen_ok]
   rw [ih (i + 1) _ (by omega)]
   congr 1
   rw [agG (by omega : off + i < cs.length)]
   simp [afN]
theorem KY {b off n : Nat} {cs : List ahB} (ho : jI w b cs) (h : off + n <= cs.length) :
 (loadCells ⟨b, off, none⟩ n).run P w = .ok ((cs.drop off).take n).toArray w := by
 unfold loadCells
 rw [LR ho n 0 #[] (by omega)]
 simp
theorem HC {d : TypeDesc} {i : TypeInfo} (hu : P.underlying t = some d) (hd : Ru d = true) (hi : P.info? t = some i) {b off : Nat} {cs : List ahB} (ho : jI w b cs) (h : off + i.size <= cs.length) :
 (gJ t (.pointer (some ⟨b, off, none⟩))).run P w = .ok (.value (.agg ((cs.drop off).take i.size).toArray)) w := by
 unfold gJ
 rw [nF]
 simp only [Instr.loadAt, Instr.sureAddr, loadVar, pure_bind, Sem.run_bind, Dh hu, hd, Result.andThen_ok, if_true, kQ hi, KY ho h, Sem.run_pure]
def one (v : ahB) : Bool := match v with | .agg _ | .tuple _ => false | _ => true
theorem TJ {a : Addr} {v x : ahB} (hv : one v = true) (hc : w.cell? a = some x) (hf : w.frozen? a = false) : (store a v).run P w = .ok () (w.setCell a v) := by
 unfold store
 cases v <;> simp [one] at hv <;> simp [Sem.run, hc, hf]
def nA (cs : List ahB) (off : Nat) : List ahB -> List ahB
 | [] => cs
 | v :: vs => nA (cs.set off v) (off + 1) vs
theorem DE {b : Nat} {M : Nat -> Prop} (hM : M b) : ∀ (vs : List ahB) (w : ahA) (off i : Nat) (cs : List ahB), jI w b cs -> off + i + vs.length <= cs.length -> (∀ v ∈ vs, one v = true) →
 ∃ w', (storeCells ⟨b, off, none⟩ vs i).run P w = .ok () w' /\ jI w' b (nA cs (off + i) vs) /\ gV w w' M /\ w'.heap.size = w.heap.size /\ w'.drawn = w.drawn := by
 intro vs
 induction vs with
 | nil => intro w off i cs ho _ _; exact ⟨w, by simp [storeCells], ho, gV.refl _ _, rfl, rfl⟩
 | cons v vs ih =>
   intro w off i cs ho h hv
   simp only [adP] at h
   have ha : (⟨b, off, none⟩ : Addr).add i = ⟨b, off + i, none⟩ := by
    unfold Addr.add; split
    .rename_i hi; subst hi; rfl
    .rfl
   have hlt : off + i < cs.length := by omega
   have hc : w.cell? ⟨b, off + i, none⟩ = some cs[off + i] := by rw [ho.cell]; simp
   have hs := TJ (P := P) (hv v (by simp)) hc (ho.free hlt)
   obtain ⟨w', h1, h2, h3, h4, h5⟩ := ih (w.setCell ⟨b, off + i, none⟩ v) off (i + 1) (cs.set (off + i) v) (ho.setCell v) (by simp; omega) (fun x hx => hv x (adC _ hx))
   refine ⟨w', ?_, h2, (gV.setCell w _ v fun _ => hM).trans h3 (fun _ _ h => h), by rw [h4]; simp, by rw [h5] <;> rfl⟩
   simp only [storeCells, Sem.run_bind, ha, hs, Result.andThen_ok]
   exact h1
theorem BI {i : TypeInfo} (hi : P.info? t = some i) {b off : Nat} {cs : List ahB} (ho : jI w b cs) {v : ahB} (hs : v.cells.size = i.size)
 (hv : ∀ x ∈ v.cells.toList, one x = true) (h : off + i.size <= cs.length) {K : ahB -> ahA -> Prop}
 (hk : ∀ w', jI w' b (nA cs off v.cells.toList) -> gV w w' (fun x => x = b) -> w'.heap.size = w.heap.size -> K undef w') : eY P (iG t (.pointer (some ⟨b, off, none⟩)) v) w K := by
 obtain ⟨w', h1, h2, h3, h4, _⟩ := DE (P := P) (M := fun x => x = b) rfl v.cells.toList w off 0 cs ho (by simp [hs]; omega) hv
 have : (iG t (.pointer (some ⟨b, off, none⟩)) v).run P w = .ok .skip w' := by
  unfold iG
  rw [aaJ]
  simp only [Instr.storeAt, Instr.sureAddr, storeVar, pure_bind, Sem.run_bind, kQ hi, Result.andThen_ok, hs]
  simp [h1]
 unfold eY
 rw [this]
 exact hk w' h2 h3 h4
theorem Q0 {v : ahB} (hv : one v = true) : v.cells = #[v] := by cases v <;> simp [one] at hv <;> rfl
theorem nY {i : TypeInfo} (hi : P.info? t = some i) (h1 : i.size = 1) {b off : Nat} {cs : List ahB} (ho : jI w b cs) {v : ahB} (hv : one v = true) (h : off < cs.length) {K : ahB -> ahA -> Prop}
 (hk : ∀ w', jI w' b (cs.set off v) -> gV w w' (fun x => x = b) -> w'.heap.size = w.heap.size -> K undef w') : eY P (iG t (.pointer (some ⟨b, off, none⟩)) v) w K := by
 have e := Q0 hv
 refine BI hi ho (by rw [e, h1] <;> rfl) (by rw [e]; simpa using hv) (by omega) fun w' a b c => hk w' ?_ b c
 rw [e] at a; exact a
def Px (c : Option ahB) (w : ahA) (Qg : Result Next) : Result Next := match c with | some v => .ok (.value v) w | none => Qg
def Qg (P : Program) (t : TypeId) (x : Addr) (w : ahA) : Result Next := (gJ t (.pointer (some x))).run P w
theorem eP (v : ahB) (w : ahA) (f : Result Next) : Px (some v) w f = .ok (.value v) w := rfl
theorem Kx {d : TypeDesc} (hu : P.underlying t = some d) (hd : Ru d = false) (x : Addr) (w : ahA) :
 (gJ t (.pointer (some x))).run P w = Px (w.cell? x) w (Qg P t x w) := by
 cases h : w.cell? x with
 | none => rfl
 | some v =>
   unfold gJ
   rw [nF]
   simp only [Instr.loadAt, Instr.sureAddr, loadVar, pure_bind, Sem.run_bind, Dh hu, hd, Result.andThen_ok, acK, if_false, run_load, h, Px]
theorem Rg {d : TypeDesc} {i : TypeInfo} (hu : P.underlying t = some d) (hd : Ru d = true) (hi : P.info? t = some i) {b off : Nat} {cs : List ahB} (ho : jI w b cs) (h : off + i.size <= cs.length) {K : ahB -> Prop}
 (hk : K (.agg ((cs.drop off).take i.size).toArray)) : VR P t (.pointer (some ⟨b, off, none⟩)) w K := by
 refine ⟨_, ?_, hk⟩
 simp only [asAddr, loadVar, pure_bind, Sem.run_bind, Dh hu, hd, Result.andThen_ok, if_true, kQ hi, KY ho h, Sem.run_pure]
theorem oM {v : ahB} {K : ahB -> ahA -> Prop} (hk : ∀ w', jI w' w.heap.size v.cells.toList -> gV w w' jN -> w'.heap.size = w.heap.size + 1 -> K (.pointer (some ⟨w.heap.size, 0, none⟩)) w') :
 eY P (EL t v) w K := by
 have : (EL t v).run P w = .ok (.value (.pointer (some ⟨w.heap.size, 0, none⟩))) (w.alloc (.cells v.cells.toList.toArray t)) := by
  unfold EL; rw [nF]
  simp [Instr.box, newVar, newRow]
 unfold eY
 rw [this]
 exact hk _ (jI.alloc _ _ _) (gV.alloc _ _ _) (by simp)
theorem sX {i : TypeInfo} {z : ahB} (hi : P.info? t = some i) (hz : i.zero = some z) {K : ahB -> ahA -> Prop}
 (hk : ∀ w', jI w' w.heap.size z.cells.toList -> gV w w' jN -> w'.heap.size = w.heap.size + 1 -> K (.pointer (some ⟨w.heap.size, 0, none⟩)) w') :
 eY P (lY t) w K := by
 have : (lY t).run P w = .ok (.value (.pointer (some ⟨w.heap.size, 0, none⟩))) (w.alloc (.cells z.cells.toList.toArray t)) := by
  unfold lY; rw [nF]
  simp [Instr.alloc, zeroValue, typeInfo, hi, hz, newVar, newRow]
 unfold eY
 rw [this]
 exact hk _ (jI.alloc _ _ _) (gV.alloc _ _ _) (by simp)
end
theorem sV {P : Program} {w : ahA} {k : IntKind} {a : Int} {y : Nat} {code : BoundsCode} (h0 : 0 <= a) (h1 : a <= y) : (Instr.sliceBound (.int k a) y code).run P w = .ok a.toNat w := by
 simp [Instr.sliceBound, asIntOf, h0, h1]
section
variable {P : Program} {w : ahA} {t e : TypeId} {k k' : IntKind} {lo hi : Int} {i : TypeInfo}
def kA (x : Option Addr) (m l sz : Nat) : Option Addr := if m = l then x else x.map (·.add (l * sz))
theorem TD (hu : P.underlying t = some (.slice e)) (hi' : P.info? e = some i) (x : Option Addr) (n c : Nat) (h0 : 0 <= lo) (h1 : lo <= n) :
 (mG t (.slice x n c) (some (.int k lo)) none none).run P w = .ok (.value (.slice (kA x c lo.toNat i.size) (n - lo.toNat) (c - lo.toNat))) w := by
 simp only [mG, nF, Instr.sliceAt, underlying, hu, Sem.run_bind, run_program, Result.andThen_ok, Sem.run_pure, Instr.slice, Instr.sliceBounds, pure_bind, sV h0 h1, kQ hi', kA]
theorem Rm (hu : P.underlying t = some (.slice e)) (hi' : P.info? e = some i) (x : Option Addr) (n c : Nat) (h0 : 0 <= lo) (h1 : lo <= hi) (h2 : hi <= c) :
 (mG t (.slice x n c) (some (.int k lo)) (some (.int k' hi)) none).run P w = .ok (.value (.slice (kA x c lo.toNat i.size) (hi.toNat - lo.toNat) (c - lo.toNat))) w := by
 have h3 : (0 : Int) <= hi := by omega
 have h4 : lo <= (hi.toNat : Int) := by omega
 simp only [mG, nF, Instr.sliceAt, underlying, hu, Sem.run_bind, run_program, Result.andThen_ok, Sem.run_pure, Instr.slice, Instr.sliceBounds, pure_bind, sV h3 h2, sV h0 h4, kQ hi', kA]
def CG (a : Addr) (m l sz : Nat) : Addr := if m = l then a else a.add (l * sz)
theorem Oa {n : Nat} (hu : P.underlying t = some (.array n e)) (hi' : P.info? e = some i) (x : Addr) (h0 : 0 <= lo) (h1 : lo <= n) :
 (mG t (.pointer (some x)) (some (.int k lo)) none none).run P w = .ok (.value (.slice (some (CG x n lo.toNat i.size)) (n - lo.toNat) (n - lo.toNat))) w := by
 simp only [mG, nF, Instr.sliceAt, Instr.sureAddr, underlying, hu, Sem.run_bind, run_program, Result.andThen_ok, Sem.run_pure, Instr.sliceBounds, pure_bind, sV h0 h1, kQ hi', CG]
theorem R0 {n : Nat} (hu : P.underlying t = some (.array n e)) (hi' : P.info? e = some i) (x : Addr) (h0 : 0 <= hi) (h1 : hi <= n) :
 (mG t (.pointer (some x)) none (some (.int k hi)) none).run P w = .ok (.value (.slice (some (CG x n 0 i.size)) (hi.toNat - 0) (n - 0))) w := by
 simp only [mG, nF, Instr.sliceAt, Instr.sureAddr, underlying, hu, Sem.run_bind, run_program, Result.andThen_ok, Sem.run_pure, Instr.sliceBounds, pure_bind, sV h0 h1, kQ hi', CG]
end
def Sl (w : ahA) (v : ahB) (l : List ahB) : Prop :=
 ∃ a n c, v = .slice a n c /\ n = l.length /\ n <= c /\ (0 < n -> ∃ b off, a = some ⟨b, off, none⟩ /\ ∀ i, i < n -> w.cell? ⟨b, off + i, none⟩ = l[i]?)
def vO (v : ahB) (M : Nat -> Prop) : Prop := match v with | .slice (some a) (_ + 1) _ => M a.block | _ => False
theorem Sl.ext {w w' : ahA} {v : ahB} {l : List ahB} {M : Nat -> Prop} (h : Sl w v l) (hx : gV w w' M) (hM : ¬ vO v M) : Sl w' v l := by
 obtain ⟨a, n, c, rfl, hn, hc, h⟩ := h
 refine ⟨a, n, c, rfl, hn, hc, fun h0 => ?_⟩
 obtain ⟨b, off, rfl, h2⟩ := h h0
 refine ⟨b, off, rfl, fun i hi => ?_⟩
 have h1 := h2 i hi
 obtain ⟨v, hv⟩ : ∃ v, l[i]? = some v := ⟨l[i], by simp⟩
 rw [hv] at h1 ⊢
 refine Wo h1 hx ?_
 obtain ⟨m, rfl⟩ : ∃ m, n = m + 1 := ⟨n - 1, by omega⟩
 exact hM
theorem Sl.old {w : ahA} {v : ahB} {l : List ahB} (h : Sl w v l) : ¬ vO v (fun b => w.heap.size <= b) := by
 obtain ⟨a, n, c, rfl, hn, hc, h⟩ := h
 unfold vO
 split
 .rename_i x m _ e
  obtain ⟨rfl, rfl, rfl⟩ : a = some x /\ n = m + 1 /\ c = _ := by simpa using e
  obtain ⟨b, off, e, h2⟩ := h (by omega)
  have e := aeM e; subst e
  have h1 := h2 0 (by omega)
  obtain ⟨v, hv⟩ : ∃ v, l[0]? = some v := ⟨l[0], by simp⟩
  rw [hv] at h1
  have := World.block_lt_of_cell? _ _ h1
  simp at this ⊢; omega
 .simp
def pG (x : UInt8) : ahB := .int .u8 x.toNat
abbrev Bs (w : ahA) (v : ahB) (l : List UInt8) : Prop := Sl w v (l.map pG)
theorem Bv (b o n : Nat) : (⟨b, o, none⟩ : Addr).add n = ⟨b, o + n, none⟩ := by
 unfold Addr.add; split
 .rename_i h; subst h; rfl
 .rfl
section
variable {P : Program} {w : ahA} {t e : TypeId} {k : IntKind} {a : Int}
theorem Nm {inf : TypeInfo} {sz : Nat} (hz : inf.size = sz) (hu : P.underlying t = some (.slice e)) (hi : P.info? e = some inf) (b o n c : Nat) (h0 : 0 <= a) (h1 : a < n) :
 (iK t (.slice (some ⟨b, o, none⟩) n c) (.int k a)).run P w = .ok (.value (.pointer (some ⟨b, o + a.toNat * sz, none⟩))) w := by
 rw [SM hu hi _ n c h0 h1, Bv, hz]
theorem Nn {inf : TypeInfo} (hz : inf.size = 1) (hu : P.underlying t = some (.slice e)) (hi : P.info? e = some inf) (b o n c : Nat) (h0 : 0 <= a) (h1 : a < n) :
 (iK t (.slice (some ⟨b, o, none⟩) n c) (.int k a)).run P w = .ok (.value (.pointer (some ⟨b, o + a.toNat, none⟩))) w := by
 rw [SM hu hi _ n c h0 h1, Bv, hz, afE]
theorem J4 {inf : TypeInfo} {len : Nat} (hz : inf.size = 1) (hu : P.underlying t = some (.array len e)) (hi : P.info? e = some inf) (b o : Nat) (h0 : 0 <= a) (h1 : a < (len : Int)) :
 (iK t (.pointer (some ⟨b, o, none⟩)) (.int k a)).run P w = .ok (.value (.pointer (some ⟨b, o + a.toNat, none⟩))) w := by
 rw [WG hu hi _ h0 h1, Bv, hz, afE]
end
section
variable {P : Program} {w : ahA} {s d e : TypeId}
theorem Xo (hs : P.underlying s = some (.slice e)) (hd : P.underlying d = some .string) (he : P.underlying e = some (.int .u8)) {l : List UInt8} {v : ahB} (h : Bs w v l) :
 (lL s d v).run P w = .ok (.value (.string ⟨l.toArray⟩)) w := by
 obtain ⟨a, n, c, rfl, hn, hc, h⟩ := h
 simp only [acR] at hn
 unfold lL
 rw [nF]
 have key : (convert s d (.slice a n c)).run P w = .ok (.string ⟨l.toArray⟩) w := by
  cases a with
  | none =>
    have hl : l = [] := by
     cases l with
     | nil => rfl
     | cons x l => obtain ⟨b, off, e, _⟩ := h (by rw [hn]; simp); cases e
    subst hl
    rw [run_convert_bytes_string w s d e none n c hs he hd]
    rfl
  | some x =>
    subst hn
    refine run_convert_bytes_back w s d e x c l hs he hd fun j hj => ?_
    obtain ⟨b, off, hx, h2⟩ := h (by omega)
    have hx := aeM hx
    subst hx
    rw [Bv, h2 j hj]
    simp [pG, hj]
 rw [key] <;> rfl
end
theorem Fq (l : List UInt8) : ∀ x ∈ l.map pG, one x = true := by
 intro x hx
 obtain ⟨c, _, rfl⟩ := aeE.1 hx
 rfl
theorem VM {b o m l sz : Nat} (h : l ≠ m) : CG ⟨b, o, none⟩ m l sz = ⟨b, o + l * sz, none⟩ := by
 unfold CG; rw [if_neg (fun e => h e.symm), Bv]
theorem LH {b o m l : Nat} (h : l ≠ m) : CG ⟨b, o, none⟩ m l 1 = ⟨b, o + l, none⟩ := by rw [VM h, afE]
theorem Sl.drop {w : ahA} {b o n c : Nat} {l : List ahB} (h : Sl w (.slice (some ⟨b, o, none⟩) n c) l) {k : Nat} (hk : k <= n) :
 Sl w (.slice (kA (some ⟨b, o, none⟩) c k 1) (n - k) (c - k)) (l.drop k) := by
 obtain ⟨x, m, c', e, hm, hc, hh⟩ := h
 cases e
 refine ⟨_, _, _, rfl, by rw [adB]; omega, by omega, fun h0 => ?_⟩
 obtain ⟨b', o', e, h2⟩ := hh (by omega)
 cases e
 have hne : ¬ c = k := by omega
 refine ⟨b, o + k, by unfold kA; rw [if_neg hne, aeA, Bv, afE], fun i hi => ?_⟩
 rw [afN, h2 (k + i) (by omega), afQ]
theorem Sl.take {w : ahA} {b o n c : Nat} {l : List ahB} (h : Sl w (.slice (some ⟨b, o, none⟩) n c) l) {k : Nat} (hk : k <= n) :
 Sl w (.slice (kA (some ⟨b, o, none⟩) c 0 1) (k - 0) (c - 0)) (l.take k) := by
 obtain ⟨x, m, c', e, hm, hc, hh⟩ := h
 cases e
 refine ⟨_, _, _, rfl, by rw [adE]; omega, by omega, fun h0 => ?_⟩
 obtain ⟨b', o', e, h2⟩ := hh (by omega)
 cases e
 have hne : ¬ c = 0 := by omega
 refine ⟨b, o, by unfold kA; rw [if_neg hne, aeA, Bv] <;> rfl, fun i hi => ?_⟩
 rw [h2 i (by omega), aeW (by omega)]
theorem VG {b o n c k : Nat} {M : Nat -> Prop} (h : ¬ vO (.slice (some ⟨b, o, none⟩) n c) M) (hn : 0 < n) (m : Nat) : ¬ vO (.slice (kA (some ⟨b, o, none⟩) c k 1) m (c - k)) M := by
 have hb : ¬ M b := by
  obtain ⟨n', rfl⟩ : ∃ n', n = n' + 1 := ⟨n - 1, by omega⟩
  exact h
 unfold vO kA
 split
 .rename_i x q _ e
  simp only [Value.slice.injEq] at e
  obtain ⟨e, _, _⟩ := e
  split at e
  .cases e; exact hb
  .rw [aeA, Bv] at e; cases e; exact hb
 .simp
theorem jI.bs {w : ahA} {b off c : Nat} {cs : List ahB} {l : List UInt8} (h : jI w b cs) (hc : l.length <= c) (hl : ∀ i (hi : i < l.length), cs[off + i]? = some (pG l[i])) : Bs w (.slice (some ⟨b, off, none⟩) l.length c) l :=
 ⟨_, _, _, rfl, by simp, hc, fun _ => ⟨b, off, rfl, fun i hi => by rw [h.cell, hl i hi]; simp [hi]⟩⟩
section
variable {P : Program} {w : ahA} {t e : TypeId} {k : IntKind} {a : Int}
theorem Zz {len : Nat} {d : TypeDesc} {i : TypeInfo} (hu : P.underlying t = some (.array len e)) (hd : P.underlying e = some d) (ha : Ru d = false) (hi : P.info? e = some i) (h1 : i.size = 1)
 (cs : Array ahB) (h0 : 0 <= a) (hl : a < (len : Int)) {v : ahB} (hv : cs[a.toNat]? = some v) : (VC t (.agg cs) (.int k a)).run P w = .ok (.value v) w := by
 unfold VC
 rw [nF]
 simp only [Instr.index, asIntOf, pure_bind, underlying, hu, Sem.run_bind, run_program, Result.andThen_ok, Sem.run_pure, h0, hl, and_self, if_true, kQ hi, h1, afE, part, Dh hd, ha, acK, if_false, hv]
def ZQ (P : Program) (t : TypeId) (cs : Array ahB) (k : IntKind) (a : Int) (w : ahA) : Result Next := (VC t (.agg cs) (.int k a)).run P w
theorem Zt {len : Nat} {d : TypeDesc} {i : TypeInfo} (hu : P.underlying t = some (.array len e)) (hd : P.underlying e = some d) (ha : Ru d = false) (hi : P.info? e = some i) (h1 : i.size = 1)
 (cs : Array ahB) (h0 : 0 <= a) (hl : a < (len : Int)) : (VC t (.agg cs) (.int k a)).run P w = Px cs[a.toNat]? w (ZQ P t cs k a w) := by
 cases hv : cs[a.toNat]? with
 | none => rfl
 | some v => exact Zz hu hd ha hi h1 cs h0 hl hv
theorem Me {b off : Nat} {l : List ahB} (h : ∀ i, i < l.length -> w.cell? ⟨b, off + i, none⟩ = l[i]?) (n : Nat) (hn : n <= l.length) :
 (loadCells ⟨b, off, none⟩ n).run P w = .ok (l.take n).toArray w := by
 have key : ∀ (m i : Nat) (acc : Array ahB), i + m <= l.length -> (loadCellsFrom ⟨b, off, none⟩ i m acc).run P w = .ok (acc ++ ((l.drop i).take m).toArray) w := by
  intro m
  induction m with
  | zero => intro i acc _; simp [loadCellsFrom]
  | succ m ih =>
    intro i acc hm
    have hc := h i (by omega)
    rw [acS (by omega)] at hc
    simp only [loadCellsFrom, Sem.run_bind, run_load, Bv, hc, Result.andThen_ok]
    rw [ih (i + 1) _ (by omega), agG (by omega : i < l.length), List.take_succ_cons]
    simp
 unfold loadCells
 rw [key n 0 #[] (by omega)]
 simp
theorem P7 {sz n : Nat} {v : ahB} {l : List ahB} (h1 : sz = 1) (h : Sl w v l) (hn : n <= l.length) : (Builtin.firstCells sz n v).run P w = .ok (l.take n).toArray w := by
 subst h1
 obtain ⟨x, m, c, rfl, hm, hc, hh⟩ := h
 cases x with
 | none =>
   have : l = [] := by
    cases l with
    | nil => rfl
    | cons y l => obtain ⟨b, off, e, _⟩ := hh (by rw [hm]; simp); cases e
   subst this
   simp [Builtin.firstCells]
 | some x =>
   simp only [Builtin.firstCells, afE]
   by_cases h0 : 0 < m
   .obtain ⟨b, off, e, h2⟩ := hh h0
    have e := aeM e; subst e
    exact Me (fun i hi => h2 i (by omega)) n hn
   .have h00 : n = 0 := by omega
    subst h00
    simp [loadCells, loadCellsFrom]
theorem Zx {v : ahB} {l : List ahB} (h : Sl w v l) : (Builtin.lenOf v).run P w = .ok l.length w := by
 obtain ⟨x, m, c, rfl, hm, hc, hh⟩ := h
 simp [Builtin.lenOf, hm]
theorem R2 {ty t2 : TypeId} {i : TypeInfo} (hu : P.underlying t = some (.slice e)) (hi : P.info? e = some i) (h1 : i.size = 1) {b off dl c : Nat} {cs : List ahB} (ho : jI w b cs) (hl : off + dl <= cs.length)
 {v : ahB} {l : List ahB} (h : Sl w v l) (hv : ∀ x ∈ l, one x = true) {K : ahB -> ahA -> Prop}
 (hk : ∀ w', jI w' b (nA cs off (l.take (min l.length dl))) -> gV w w' (fun x => x = b) -> w'.heap.size = w.heap.size -> K (.int .i64 (min l.length dl : Nat)) w') :
 eY P (mV .copy #[t, t2] ty [.slice (some ⟨b, off, none⟩) dl c, v]) w K := by
 have hlen : (l.take (min l.length dl)).length = min l.length dl := by rw [adE]; omega
 obtain ⟨w', s1, s2, s3, s4, _⟩ := DE (P := P) (M := fun x => x = b) rfl (l.take (min l.length dl)) w off 0 cs ho (by rw [hlen]; omega) (fun x hx => hv x (agU hx))
 have : (mV .copy #[t, t2] ty [.slice (some ⟨b, off, none⟩) dl c, v]).run P w = .ok (.value (.int .i64 (min l.length dl : Nat))) w' := by
  unfold mV builtin
  simp only [Builtin.copy_, aeT, acI, acJ]
  simp only [underlying, Sem.run_bind, run_program, Result.andThen_ok, hu, Sem.run_pure, Zx h, kQ hi, h1]
  have := P7 (P := P) (n := min l.length dl) rfl h (Nat.min_le_left _ _)
  rw [show (Nat.min l.length dl) = min l.length dl from rfl, this]
  simp only [Result.andThen_ok, s1, goInt]
 unfold eY
 rw [this]
 exact hk w' (by simpa using s2) s3 s4
theorem SW {i : TypeInfo} {z : ahB} (hu : P.underlying t = some (.slice e)) (hi : P.info? e = some i) (h1 : i.size = 1) (hz : i.zero = some z) (hz1 : one z = true) {n : Int} (h0 : 0 <= n) (hn : i.bytes * n <= 2 ^ 48) (hn2 : n <= 9223372036854775807)
 {K : ahB -> ahA -> Prop}
 (hk : ∀ w', jI w' w.heap.size (List.replicate n.toNat z) -> gV w w' jN -> w'.heap.size = w.heap.size + 1 -> K (.slice (some ⟨w.heap.size, 0, none⟩) n.toNat n.toNat) w') :
 eY P (vK t (.int k n) (.int k n)) w K := by
 have hw : IntKind.i64.wrap n = n := fI (by omega) hn2
 have hcells : z.cells = #[z] := Q0 hz1
 have harr : (Array.range n.toNat).map (fun j => (#[z] : Array ahB)[j % (#[z] : Array ahB).size]!) = (List.replicate n.toNat z).toArray := by
  apply Array.ext
  .simp
  .intro j h1 h2; simp [Nat.mod_one]
 have hz' : (zeroValue e).run P w = .ok z w := by simp [zeroValue, typeInfo, hi, hz]
 have : (vK t (.int k n) (.int k n)).run P w = .ok (.value (.slice (some ⟨w.heap.size, 0, none⟩) n.toNat n.toNat)) (w.alloc (.cells (List.replicate n.toNat z).toArray e)) := by
  unfold vK
  rw [nF]
  have t1 : (decide (n < 0) || decide ((i.bytes : Int) * n > 2 ^ 48) || decide (n < 0) || decide (n > n)) = false := by
   simp only [afW, decide_eq_false_iff_not]; omega
  by_cases hn0 : n.toNat = 0
  .simp only [Instr.makeSlice, underlying, typeInfo, asInt, asIntOf, pure_bind, Sem.run_bind, run_program, Result.andThen_ok, hu, hi, Sem.run_pure, hw, t1, acK, if_false, run_askRoom, kQ hi, h1, afE, hn0, if_true, newRow, run_newObj]
   have : (Array.range 0).map (fun x => (#[] : Array ahB)[x % (#[] : Array ahB).size]!) = (List.replicate 0 z).toArray := by simp
   rw [this]
   rfl
  .simp only [Instr.makeSlice, underlying, typeInfo, asInt, asIntOf, pure_bind, Sem.run_bind, run_program, Result.andThen_ok, hu, hi, Sem.run_pure, hw, t1, acK, if_false, run_askRoom, kQ hi, h1, afE, hn0, hz', hcells, newRow, run_newObj, harr]
   rfl
 unfold eY
 rw [this]
 exact hk _ (jI.alloc _ _ _) (gV.alloc _ _ _) (by simp)
end
def Cl (w : ahA) (sz : Nat) (v : ahB) (n : Nat) (l : List ahB) : Prop :=
 ∃ a c, v = .slice a n c /\ l.length = n * sz /\ (0 < n -> ∃ b off, a = some ⟨b, off, none⟩ /\ ∀ i, i < l.length -> w.cell? ⟨b, off + i, none⟩ = l[i]?)
def Ac (w : ahA) (base sz : Nat) (v : ahB) (n : Nat) (l : List ahB) : Prop :=
 l.length = n * sz /\ ((v = .slice none 0 0 /\ n = 0) ∨
   ∃ b c rest, v = .slice (some ⟨b, 0, none⟩) n c /\ base <= b /\ jI w b (l ++ rest) /\ (l ++ rest).length = c * sz /\ n <= c)
def Jv (w : ahA) (S : Nat -> Prop) (sz : Nat) (v : ahB) (n : Nat) (l : List ahB) : Prop :=
 l.length = n * sz /\ ((v = .slice none 0 0 /\ n = 0) ∨
   ∃ b c rest, v = .slice (some ⟨b, 0, none⟩) n c /\ S b /\ jI w b (l ++ rest) /\ (l ++ rest).length = c * sz /\ n <= c)
theorem Sl.cl {w : ahA} {v : ahB} {l : List ahB} (h : Sl w v l) : Cl w 1 v l.length l := by
 obtain ⟨a, n, c, rfl, rfl, hc, h⟩ := h
 exact ⟨a, c, rfl, by omega, fun h0 => h h0⟩
theorem jI.cl {w : ahA} {b sz n c off : Nat} {cs l : List ahB} (h : jI w b cs) (hl : l.length = n * sz) (hcs : ∀ i, i < l.length -> cs[off + i]? = l[i]?) : Cl w sz (.slice (some ⟨b, off, none⟩) n c) n l :=
 ⟨_, _, rfl, hl, fun _ => ⟨b, off, rfl, fun i hi => by rw [h.cell, hcs i hi]⟩⟩
theorem Ac.nil (w : ahA) (base sz : Nat) : Ac w base sz (.slice none 0 0) 0 [] := ⟨by simp, .inl ⟨rfl, rfl⟩⟩
theorem Ac.ext {w w' : ahA} {base sz n : Nat} {v : ahB} {l : List ahB} {M : Nat -> Prop} (h : Ac w base sz v n l) (hx : gV w w' M) (hM : ∀ b, base <= b -> ¬ M b) : Ac w' base sz v n l := by
 refine ⟨h.1, ?_⟩
 rcases h.2 with h2 | ⟨b, c, rest, h1, h2, h3, h4, h5⟩
 .exact .inl h2
 .exact .inr ⟨b, c, rest, h1, h2, h3.ext hx (hM b h2), h4, h5⟩
theorem Ac.cl {w : ahA} {base sz n : Nat} {v : ahB} {l : List ahB} (h : Ac w base sz v n l) : Cl w sz v n l := by
 rcases h.2 with ⟨rfl, rfl⟩ | ⟨b, c, rest, rfl, h2, h3, h4, h5⟩
 .exact ⟨_, _, rfl, h.1, fun h => by omega⟩
 .refine ⟨_, _, rfl, h.1, fun _ => ⟨b, 0, rfl, fun i hi => ?_⟩⟩
  rw [h3.cell, acQ, adU hi]
theorem Ac.sl {w : ahA} {base n : Nat} {v : ahB} {l : List ahB} (h : Ac w base 1 v n l) : Sl w v l := by
 have hl := h.1
 rcases h.2 with ⟨rfl, rfl⟩ | ⟨b, c, rest, rfl, h2, h3, h4, h5⟩
 .exact ⟨_, _, _, rfl, by omega, by omega, fun h => by omega⟩
 .refine ⟨_, _, _, rfl, by omega, h5, fun _ => ⟨b, 0, rfl, fun i hi => ?_⟩⟩
  rw [h3.cell, acQ, adU (by omega)]
section
variable {P : Program} {w : ahA} {t e : TypeId}
theorem ME {b off : Nat} {l : List ahB} (h : ∀ i, i < l.length -> w.cell? ⟨b, off + i, none⟩ = l[i]?) : (loadCells ⟨b, off, none⟩ l.length).run P w = .ok l.toArray w := by
 have := Me (P := P) h l.length (acY _)
 rwa [List.take_length] at this
theorem BS {sz n : Nat} {v : ahB} {l : List ahB} (h : Cl w sz v n l) : (Builtin.firstCells sz n v).run P w = .ok l.toArray w := by
 obtain ⟨x, c, rfl, hl, hh⟩ := h
 cases x with
 | none =>
   have : n = 0 := by
    rcases Nat.eq_zero_or_pos n with h | h
    .exact h
    .obtain ⟨b, off, e, _⟩ := hh h; cases e
   subst this
   have : l = [] := adK.1 (by omega)
   subst this
   simp [Builtin.firstCells]
 | some x =>
   simp only [Builtin.firstCells]
   rw [<- hl]
   by_cases h0 : 0 < n
   .obtain ⟨b, off, e, h2⟩ := hh h0
    have e := aeM e; subst e
    exact ME h2
   .have : n = 0 := by omega
    subst this
    have : l = [] := adK.1 (by omega)
    subst this
    simp [loadCells, loadCellsFrom]
theorem Ge (zs : Array ahB) (n : Nat) : (Builtin.zeroCells zs n).size = n * zs.size := by simp [Builtin.zeroCells]
theorem oQ (vs : List ahB) : ∀ (acH rest : List ahB), vs.length <= rest.length -> nA (acH ++ rest) acH.length vs = acH ++ vs ++ rest.drop vs.length := by
 induction vs with
 | nil => intro acH rest _; simp [nA]
 | cons v vs ih =>
   intro acH rest h
   cases rest with
   | nil => simp at h
   | cons r rest =>
     have := ih (acH ++ [v]) rest (by simpa using h)
     simp only [nA, acT, adP, aeN, adM, afY, adJ] at this ⊢
     rw [List.drop_succ_cons, <- this, aeU _ _ (acY _), agV, adA, acQ]
theorem Sr {S : Nat -> Prop} {sz n m : Nat} {i : TypeInfo} {z : ahB} {ty t2 e2 : TypeId} (hu : P.underlying t = some (.slice e)) (hu2 : P.underlying t2 = some (.slice e2)) (hi : P.info? e = some i) (hsz : i.size = sz) (hz : i.zero = some z) (hzs : z.cells.size = sz)
 {v x : ahB} {l news : List ahB} (h : Jv w S sz v n l) (hx : Cl w sz x m news) (hone : ∀ y ∈ news, one y = true) (hb : ∀ b, w.heap.size <= b -> S b)
 (hn : n + m <= 9223372036854775807) (hbytes : (n + m) * i.bytes <= 140737488355328) (_hpos : i.bytes ≠ 0)
 {K : ahB -> ahA -> Prop} (hk : ∀ v' w', Jv w' S sz v' (n + m) (l ++ news) -> gV w w' S -> Cl w' sz v n l -> K v' w') : eY P (mV .append #[t, t2] ty [v, x]) w K := by
 have hlx : (Builtin.lenOf x).run P w = .ok m w := by
  obtain ⟨a, c, rfl, _⟩ := hx; simp [Builtin.lenOf]
 have hnl := hx.choose_spec.choose_spec.2.1
 have hfx := BS (P := P) hx
 have hmax : IntKind.i64.max = 9223372036854775807 := by decide
 have hnot : ¬ (((n + m : Nat) : Int) > IntKind.i64.max /\ (False ∨ i.bytes = 0)) := by rw [hmax]; omega
 have hz' : ∀ w, (zeroValue e).run P w = .ok z w := fun w => by simp [zeroValue, typeInfo, hi, hz]
 have hlen := h.1
 rcases h.2 with ⟨rfl, rfl⟩ | ⟨b, c, rest, rfl, h2, h3, h4, h5⟩
 .
  have hl0 : l = [] := adK.1 (by omega)
  subst hl0
  by_cases hm : m = 0
  .subst hm
   have hn0 : news = [] := adK.1 (by omega)
   subst hn0
   have : (mV .append #[t, t2] ty [.slice none 0 0, x]).run P w = .ok (.value (.slice none 0 0)) w := by
    unfold mV builtin
    simp only [Builtin.append_, aeT, acI, acJ]
    simp only [underlying, Sem.run_bind, run_program, Result.andThen_ok, hu, hu2, Sem.run_pure, kQ hi, hsz, acK, if_false, hlx, acY, Nat.add_zero, if_true, acO, hfx]
   unfold eY
   rw [this]
   exact hk _ _ ⟨by simp, .inl ⟨rfl, by omega⟩⟩ (gV.refl _ _) ⟨none, 0, rfl, hlen, fun h => absurd h (by omega)⟩
  .have hfit := growslice_fits (need := 0 + m) (old := 0) (bytes := i.bytes) (by omega) (by omega)
   have hfit' : ¬ (Builtin.nextslicecap (0 + m) 0 * i.bytes > 2 ^ 48) := by omega
   have hle : ¬ (0 + m <= 0) := by omega
   have hq : (Question.appendCap (0 + m) 0 e).forced = false := rfl
   obtain ⟨r, hr⟩ : ∃ r, (Question.appendCap (0 + m) 0 e).cut (w.tape w.drawn (.appendCap (0 + m) 0 e)) = m + r :=
    ⟨(w.tape w.drawn (.appendCap (0 + m) 0 e)) % (2 ^ 63 - (0 + m)), by simp only [Question.cut]; omega⟩
   have : (mV .append #[t, t2] ty [.slice none 0 0, x]).run P w = .ok (.value (.slice (some ⟨w.heap.size, 0, none⟩) (0 + m) (m + r))) ((dr w).alloc (.cells (news ++ (Builtin.zeroCells z.cells (m + r - (0 + m))).toList).toArray e)) := by
    have hfx' := BS (P := P) (w := dr w) hx
    unfold mV builtin
    simp only [Builtin.append_, aeT, acI, acJ]
    simp only [underlying, typeInfo, Sem.run_bind, run_program, Result.andThen_ok, hu, hu2, hi, Sem.run_pure, kQ hi, hsz, acK, if_false, hlx, hle, acO, if_true, hnot, hfit', run_choose, hq, hr, run_askRoom]
    change ((Sem.run P _ (dr w)).andThen _).andThen _ = _
    simp only [Sem.run_bind, hfx', run_firstCells_none, Result.andThen_ok, hz', Sem.run_pure, newRow, run_newObj]
    have e1 : (#[] ++ news.toArray ++ Builtin.zeroCells z.cells (m + r - (0 + m)) : Array ahB) = (news ++ (Builtin.zeroCells z.cells (m + r - (0 + m))).toList).toArray := by
     apply Array.ext'; simp
    rw [e1]
    rfl
   unfold eY
   rw [this]
   refine hk _ _ ⟨by simp only [adJ]; rw [hnl, acQ], .inr ⟨w.heap.size, m + r, (Builtin.zeroCells z.cells (m + r - (0 + m))).toList, by rw [acQ], hb _ (acY _), jI.alloc (dr w) _ _, ?_, by omega⟩⟩ ((gV.dr w _).seq (gV.alloc _ _ _)) ⟨none, 0, rfl, hlen, fun h => absurd h (by omega)⟩
   simp only [adJ, acT, Array.length_toList, Ge, hzs, hnl]
   rw [show m + r - (0 + m) = r from by omega, agL]
 .by_cases hc : n + m <= c
  .
   have hroom : news.length <= rest.length := by
    rw [acT, hlen] at h4
    have : (n + m) * sz <= c * sz := Nat.mul_le_mul_right _ hc
    rw [agL] at this; omega
   obtain ⟨w', s1, s2, s3, s4, _⟩ := DE (P := P) (M := S) h2 news w (n * sz) 0 (l ++ rest) h3 (by rw [acT, hlen]; omega) hone
   have : (mV .append #[t, t2] ty [.slice (some ⟨b, 0, none⟩) n c, x]).run P w = .ok (.value (.slice (some ⟨b, 0, none⟩) (n + m) c)) w' := by
    unfold mV builtin
    simp only [Builtin.append_, aeT, acI, acJ]
    simp only [underlying, Sem.run_bind, run_program, Result.andThen_ok, hu, hu2, Sem.run_pure, kQ hi, hsz, acK, if_false, hlx, hc, if_true, acO, hfx, Bv, acQ, s1]
   unfold eY
   rw [this]
   rw [Nat.add_zero, <- hlen, oQ _ _ _ hroom] at s2
   refine hk _ _ ⟨by rw [acT, hlen, hnl, agL], .inr ⟨b, c, rest.drop news.length, rfl, h2, s2, ?_, hc⟩⟩ s3 ⟨_, _, rfl, hlen, fun _ => ⟨b, 0, rfl, fun i hi => by
    rw [s2.cell, acQ, adM, adU hi]⟩⟩
   rw [<- h4]; simp; omega
  .
   have hfit := growslice_fits (need := n + m) (old := c) (bytes := i.bytes) (by omega) hbytes
   have hfit' : ¬ (Builtin.nextslicecap (n + m) c * i.bytes > 2 ^ 48) := by omega
   have hq : (Question.appendCap (n + m) c e).forced = false := rfl
   obtain ⟨r, hr⟩ : ∃ r, (Question.appendCap (n + m) c e).cut (w.tape w.drawn (.appendCap (n + m) c e)) = n + m + r :=
    ⟨(w.tape w.drawn (.appendCap (n + m) c e)) % (2 ^ 63 - (n + m)), by simp only [Question.cut]⟩
   have hold : Cl (dr w) sz (.slice (some ⟨b, 0, none⟩) n c) n l := ⟨_, _, rfl, hlen, fun _ => ⟨b, 0, rfl, fun i hi => by
    show w.cell? _ = _
    rw [h3.cell, acQ, adU hi]⟩⟩
   have : (mV .append #[t, t2] ty [.slice (some ⟨b, 0, none⟩) n c, x]).run P w = .ok (.value (.slice (some ⟨w.heap.size, 0, none⟩) (n + m) (n + m + r))) ((dr w).alloc (.cells (l ++ news ++ (Builtin.zeroCells z.cells (n + m + r - (n + m))).toList).toArray e)) := by
    have hfx' := BS (P := P) (w := dr w) hx
    have hfo := BS (P := P) hold
    unfold mV builtin
    simp only [Builtin.append_, aeT, acI, acJ]
    simp only [underlying, typeInfo, Sem.run_bind, run_program, Result.andThen_ok, hu, hu2, hi, Sem.run_pure, kQ hi, hsz, acK, if_false, hlx, hc, acO, if_true, hnot, hfit', run_choose, hq, hr, run_askRoom]
    change ((Sem.run P _ (dr w)).andThen _).andThen _ = _
    simp only [Sem.run_bind, hfx', hfo, Result.andThen_ok, hz', Sem.run_pure, newRow, run_newObj]
    have e1 : (l.toArray ++ news.toArray ++ Builtin.zeroCells z.cells (n + m + r - (n + m)) : Array ahB) = (l ++ news ++ (Builtin.zeroCells z.cells (n + m + r - (n + m))).toList).toArray := by
     apply Array.ext'; simp
    rw [e1]
    rfl
   unfold eY
   rw [this]
   refine hk _ _ ⟨by rw [acT, hlen, hnl, agL], .inr ⟨w.heap.size, n + m + r, _, rfl, hb _ (acY _), jI.alloc (dr w) _ _, ?_, by omega⟩⟩ ((gV.dr w _).seq (gV.alloc _ _ _)) ⟨_, _, rfl, hlen, fun _ => ⟨b, 0, rfl, fun i hi => by
    have o9 := h3.ext ((gV.dr w jN).seq (gV.alloc (dr w) (.cells (l ++ news ++ (Builtin.zeroCells z.cells (n + m + r - (n + m))).toList).toArray e) jN)) (fun h => h)
    rw [o9.cell, acQ, adU hi]⟩⟩
   simp only [acT, Array.length_toList, Ge, hzs, hnl, hlen]
   rw [show n + m + r - (n + m) = r from by omega, agL, agL]
theorem Fk {S : Nat -> Prop} {sz n m : Nat} {i : TypeInfo} {z : ahB} {ty t2 e2 : TypeId} (hu : P.underlying t = some (.slice e)) (hu2 : P.underlying t2 = some (.slice e2)) (hi : P.info? e = some i) (hsz : i.size = sz) (hz : i.zero = some z) (hzs : z.cells.size = sz)
 {v x : ahB} {l news : List ahB} (h : Jv w S sz v n l) (hx : Cl w sz x m news) (hone : ∀ y ∈ news, one y = true) (hb : ∀ b, w.heap.size <= b -> S b)
 (hn : n + m <= 9223372036854775807) (hbytes : (n + m) * i.bytes <= 140737488355328) (_hpos : i.bytes ≠ 0)
 {K : ahB -> ahA -> Prop} (hk : ∀ v' w', Jv w' S sz v' (n + m) (l ++ news) -> gV w w' S -> K v' w') : eY P (mV .append #[t, t2] ty [v, x]) w K :=
 Sr hu hu2 hi hsz hz hzs h hx hone hb hn hbytes _hpos fun v' w' a b _ => hk v' w' a b
theorem LJ {base sz n m : Nat} {i : TypeInfo} {z : ahB} {ty t2 e2 : TypeId} (hu : P.underlying t = some (.slice e)) (hu2 : P.underlying t2 = some (.slice e2)) (hi : P.info? e = some i) (hsz : i.size = sz) (hz : i.zero = some z) (hzs : z.cells.size = sz)
 {v x : ahB} {l news : List ahB} (h : Ac w base sz v n l) (hx : Cl w sz x m news) (hone : ∀ y ∈ news, one y = true) (hb : base <= w.heap.size)
 (hn : n + m <= 9223372036854775807) (hbytes : (n + m) * i.bytes <= 140737488355328) (_hpos : i.bytes ≠ 0)
 {K : ahB -> ahA -> Prop} (hk : ∀ v' w', Ac w' base sz v' (n + m) (l ++ news) -> gV w w' (fun y => base <= y) -> K v' w') : eY P (mV .append #[t, t2] ty [v, x]) w K :=
 Fk (S := fun y => base <= y) hu hu2 hi hsz hz hzs h hx hone (fun _ h => aeV hb h) hn hbytes _hpos hk
end
section
variable {P : Program} {w : ahA} {t e : TypeId}
theorem Dw {i : TypeInfo} {z : ahB} {n : Nat} {ps : List (Nat × ahB)} {cells : Array ahB} (hu : P.underlying t = some (.slice e)) (hi : P.info? e = some i) (hz : i.zero = some z)
 (h1 : ¬ n * i.size > 2 ^ 24) (h0 : ¬ n * i.size = 0) (hf : Instr.fill (fun j => some (j * i.size, i.size)) ((Array.range (n * i.size)).map (z.cells[· % z.cells.size]!)) ps = some cells)
 {K : ahB -> ahA -> Prop} (hk : ∀ w', jI w' w.heap.size cells.toList -> gV w w' jN -> w'.heap.size = w.heap.size + 1 -> K (.slice (some ⟨w.heap.size, 0, none⟩) n n) w') :
 eY P (iL t n ps) w K := by
 have hz' : (zeroValue e).run P w = .ok z w := by simp [zeroValue, typeInfo, hi, hz]
 have : (iL t n ps).run P w = .ok (.value (.slice (some ⟨w.heap.size, 0, none⟩) n n)) (w.alloc (.cells cells.toList.toArray e)) := by
  unfold iL; rw [nF]
  simp only [Instr.buildSlice, underlying, pure_bind, Sem.run_bind, run_program, Result.andThen_ok, hu, Sem.run_pure, kQ hi, h1, h0, if_false, hz', hf, newRow, run_newObj]
  rfl
 unfold eY
 rw [this]
 exact hk _ (jI.alloc _ _ _) (gV.alloc _ _ _) (by simp)
theorem jI.mark {b : Nat} {cs : List ahB} (h : jI w b cs) : jI (w.freeze ⟨b, cs.length, none⟩ 1) b cs := by
 have hb := h.lt
 obtain ⟨T, lo, hi, h, k⟩ := h
 by_cases hlh : (lo == hi) = true
 .refine ⟨T, cs.length, cs.length + 1, ?_, .inl (acY _)⟩
  show (w.heap.modify b _)[b]? = _
  rw [afD, if_pos rfl, h]
  have hlh : lo = hi := by simpa using hlh
  simp [hlh]
 .refine ⟨T, min lo cs.length, max hi (cs.length + 1), ?_, .inl ?_⟩
  .show (w.heap.modify b _)[b]? = _
   rw [afD, if_pos rfl, h]
   have hlh : ¬ lo = hi := by simpa using hlh
   simp [hlh]
  .rcases k with k | k
   .omega
   .exfalso; apply hlh; rw [k]; simp
theorem gV.mark (w : ahA) (a : Addr) : gV w (w.freeze a 1) (fun y => y = a.block) :=
 ⟨rfl, rfl, rfl, by show _ <= (w.heap.modify _ _).size; simp, fun b hb hn => by
  show (w.heap.modify a.block _)[b]? = _
  rw [afD]
  rw [if_neg (fun h => hn h.symm)]⟩
theorem XN (hu : P.underlying t = some (.slice e)) (he : P.underlying e = some (.int .u8)) {b off n c : Nat} {cs : List ahB} (ho : jI w b cs)
 {K : ahB -> ahA -> Prop} (hk : ∀ w', jI w' b cs -> gV w w' (fun y => y = b) -> w'.heap.size = w.heap.size -> K (.slice (some ⟨b, off, none⟩) n c) w') :
 eY P (lL t t (.slice (some ⟨b, off, none⟩) n c)) w K := by
 obtain ⟨T, hs⟩ : ∃ T, w.shape? b = some (T, cs.length) := by
  obtain ⟨T, lo, hi, h, _⟩ := ho
  exact ⟨T, by unfold World.shape?; rw [h]; simp⟩
 have : (lL t t (.slice (some ⟨b, off, none⟩) n c)).run P w = .ok (.value (.slice (some ⟨b, off, none⟩) n c)) (w.freeze ⟨b, cs.length, none⟩ 1) := by
  unfold lL; rw [nF]
  simp [convert, underlying, hu, he, markStringish, shape, freeze, Sem.run, hs]
 unfold eY
 rw [this]
 exact hk _ ho.mark (gV.mark w _) (by show (w.heap.modify _ _).size = _; simp)
end
section
variable {P : Program} {w : ahA} {t e : TypeId}
theorem Sc {d : TypeDesc} (he : P.underlying e = some d) (hd : Ru d = false) {cs : Array ahB} {k : Nat} {v : ahB} (h : cs[k]? = some v) : (part e cs k).run P w = .ok v w := by
 unfold part
 simp only [Sem.run_bind, Dh he, hd, Result.andThen_ok, acK, if_false, h, Sem.run_pure]
theorem XW {a b : UInt8} : (((a.toNat : Int)) == (b.toNat : Int)) = decide (a = b) := by
 rw [Bool.eq_iff_iff]
 simp only [<- UInt8.toNat_inj, beq_iff_eq, decide_eq_true_eq]
 omega
theorem TO {i : TypeInfo} (m n : Nat) (hu : P.underlying t = some (.array n e)) (he : P.underlying e = some (.int .u8)) (hi : P.info? e = some i) (h1 : i.size = 1) (l l' : List UInt8) (hl : l.length = n) (hl' : l'.length = n) :
 (Op.equalIn (m + 2) t (.agg (l.map pG).toArray) (.agg (l'.map pG).toArray)).run P w = .ok (decide (l = l')) w := by
 unfold Op.equalIn
 simp only [underlying, Sem.run_bind, run_program, Result.andThen_ok, hu, Sem.run_pure, kQ hi, Std.Legacy.Range.forIn_eq_forIn_range', Std.Legacy.Range.size, Nat.sub_zero, Nat.add_one_sub_one, Nat.div_one, h1, afE]
 have key : ∀ (c k : Nat), k + c = n -> l.take k = l'.take k →
     ∃ r, (forIn (List.range' k c) (none, ()) fun (i : Nat) (_ : Option Bool × Unit) => (do
           let a <- part e (List.map pG l).toArray i
           let b <- part e (List.map pG l').toArray i
           let c <- Op.equalIn (m + 1) e a b
           if (!c) = true then pure (ForInStep.done (some false, ())) else pure (ForInStep.yield (none, ())) : Sem (ForInStep (Option Bool × Unit)))).run P w = .ok (r, ()) w /\ r.getD true = decide (l = l') := by
  intro c
  induction c with
  | zero =>
    intro k hk ht
    refine ⟨none, by simp, ?_⟩
    have : l = l' := by
     rw [acX (by omega), acX (by omega)] at ht; exact ht
    simp [this]
  | succ c ih =>
    intro k hk ht
    have g : ∀ (q : List UInt8) (h : k < q.length), (q.map pG).toArray[k]? = some (pG q[k]) := fun q h => by simp [h]
    have hv : (Op.equalIn (m + 1) e (pG (l[k]'(by omega))) (pG (l'[k]'(by omega)))).run P w = .ok (decide (l[k]'(by omega) = l'[k]'(by omega))) w := by
     unfold Op.equalIn pG
     simp only [underlying, Sem.run_bind, run_program, Result.andThen_ok, he, Sem.run_pure, if_true, XW]
    rw [List.range'_succ]
    simp only [List.forIn_cons, Sem.run_bind, Sc he rfl (g l (by omega)), Sc he rfl (g l' (by omega)), Result.andThen_ok, hv]
    by_cases hx : l[k]'(by omega) = l'[k]'(by omega)
    .simp only [hx, decide_true, acP, acK, if_false, Sem.run_pure, Result.andThen_ok]
     refine ih (k + 1) (by omega) ?_
     rw [agI, agI, ht, acS (by omega), acS (by omega), hx]
    .simp only [hx, decide_false, acO, if_true, Sem.run_pure, Result.andThen_ok]
     refine ⟨some false, rfl, ?_⟩
     have : l ≠ l' := fun h => hx (by subst h; rfl)
     simp [this]
 obtain ⟨r, h1, h2⟩ := key n 0 (by omega) (by simp)
 rw [h1, <- h2]
 cases r <;> simp
structure PF {κ : Type} [DecidableEq κ] (P : Program) (t : TypeId) (enc : κ -> ahB) : Prop where
 eq : ∀ a b (w : ahA), (Op.equal t (enc a) (enc b)).run P w = .ok (decide (a = b)) w
 now : ∃ d, P.underlying t = some d /\ ∀ a b, Instr.sameNow d (enc a) (enc b) = none ∨ Instr.sameNow d (enc a) (enc b) = some (decide (a = b))
 chk : ∀ (e : Bool) a (w : ahA), (Instr.checkKey e 10000 t (enc a)).run P w = .ok () w
 stay : ∀ a, Instr.sameBits 10000 (enc a) (enc a) = true
def H2 {κ : Type} [DecidableEq κ] (k : κ) : List (κ × ahB) -> Option ahB
 | [] => none
 | p :: r => if k = p.1 then some p.2 else H2 k r
def TB {κ : Type} [DecidableEq κ] (k : κ) (v : ahB) : List (κ × ahB) -> List (κ × ahB)
 | [] => [(k, v)]
 | p :: r => if k = p.1 then (k, v) :: r else p :: TB k v r
theorem XS {κ : Type} [DecidableEq κ] {k : κ} {v : ahB} {l : List (κ × ahB)} {p : κ × ahB} (h : p ∈ TB k v l) : p = (k, v) ∨ p ∈ l := by
 induction l with
 | nil => simp [TB] at h; exact .inl h
 | cons q r ih =>
   simp only [TB] at h
   split at h
   .rcases adX.1 h with h | h
    .exact .inl h
    .exact .inr (adC _ h)
   .rcases adX.1 h with h | h
    .exact .inr (h ▸ aeO)
    .rcases ih h with h | h
     .exact .inl h
     .exact .inr (adC _ h)
def Grown (es : Array MapEntry) (clock : Nat) : Prop := (es.toList.map (·.born)).Pairwise (· < ·) /\ ∀ e ∈ es.toList, e.born < clock
def Mp {κ : Type} (w : ahA) (m : Nat) (enc : κ -> ahB) (l : List (κ × ahB)) : Prop :=
 ∃ es clock, w.heap[m]? = some (.map es clock) /\ es.toList.map (fun e => (e.key, e.val)) = l.map (fun p => (enc p.1, p.2)) /\ Grown es clock /\ (l.map (·.1)).Nodup
theorem Tr {es : Array MapEntry} {c : Nat} (h : Grown es c) (k v : ahB) : Grown (es.push ⟨k, v, c⟩) (c + 1) := by
 obtain ⟨h1, h2⟩ := h
 refine ⟨?_, ?_⟩
 .rw [Array.toList_push, aeI, List.pairwise_append]
  refine ⟨h1, by simp, fun a ha b hb => ?_⟩
  simp at hb
  subst hb
  obtain ⟨e, he, rfl⟩ := aeE.1 ha
  exact h2 e he
 .intro e he
  rw [Array.toList_push] at he
  rcases adV.1 he with he | he
  .have := h2 e he; omega
  .simp at he; subst he; exact Nat.lt_succ_self c
theorem TQ {es es' : Array MapEntry} {c : Nat} (h : Grown es c) (he : es'.toList.map (·.born) = es.toList.map (·.born)) : Grown es' c := by
 refine ⟨by rw [he]; exact h.1, fun e h' => ?_⟩
 have : e.born ∈ es'.toList.map (·.born) := aeE.2 ⟨e, h', rfl⟩
 rw [he] at this
 obtain ⟨x, hx, hxe⟩ := aeE.1 this
 rw [<- hxe]; exact h.2 x hx
theorem SP {κ : Type} [DecidableEq κ] {k : κ} {v : ahB} : ∀ {l : List (κ × ahB)}, (l.map (·.1)).Nodup -> ((TB k v l).map (·.1)).Nodup
 | [], _ => by simp [TB]
 | p :: r, h => by
   simp only [TB]
   have h' := h
   rw [acZ, afG] at h
   split
   .rename_i e
    rw [acZ, afG]
    exact ⟨fun hm => h.1 (e ▸ hm), h.2⟩
   .rename_i e
    rw [acZ, afG]
    refine ⟨fun hm => ?_, SP h.2⟩
    obtain ⟨q, hq, hqe⟩ := aeE.1 hm
    rcases XS hq with h1 | h1
    .rw [h1] at hqe; exact e hqe
    .exact h.1 (aeE.2 ⟨q, h1, hqe⟩)
theorem Mp.lt {κ : Type} {m : Nat} {enc : κ -> ahB} {l : List (κ × ahB)} (h : Mp w m enc l) : m < w.heap.size := by
 obtain ⟨es, c, h, _⟩ := h
 rcases aeG m w.heap.size with h' | h'
 .exact h'
 .rw [adR h'] at h; cases h
theorem Mp.ext {κ : Type} {w w' : ahA} {m : Nat} {enc : κ -> ahB} {l : List (κ × ahB)} {M : Nat -> Prop} (h : Mp w m enc l) (hx : gV w w' M) (hM : ¬ M m) : Mp w' m enc l := by
 have := h.lt
 obtain ⟨es, c, h, k⟩ := h
 exact ⟨es, c, by rw [hx.keep m this hM]; exact h, k⟩
theorem Mp.dr {κ : Type} {w : ahA} {m : Nat} {enc : κ -> ahB} {l : List (κ × ahB)} (h : Mp w m enc l) : Mp (dr w) m enc l := h
def F6 {κ : Type} [DecidableEq κ] (k : κ) : List (κ × ahB) -> Nat -> Option (Nat × ahB)
 | [], _ => none
 | p :: r, i => if k = p.1 then some (i, p.2) else F6 k r (i + 1)
theorem Pa {κ : Type} [DecidableEq κ] (k : κ) : ∀ (l : List (κ × ahB)) (i : Nat), (F6 k l i).map (·.2) = H2 k l := by
 intro l
 induction l with
 | nil => intro i; rfl
 | cons p r ih => intro i; simp only [F6, H2]; split <;> simp [ih]
variable {κ : Type} [DecidableEq κ] {enc : κ -> ahB}
theorem yP {r : Nat} {es : Array MapEntry} {c : Nat} (hb : w.heap[r]? = some (.map es c)) : (getObj r).run P w = .ok (.map es c) w := by simp [getObj, Sem.run, hb]
theorem Ha {r : Nat} {es : Array MapEntry} {c : Nat} (o : Obj) (hb : w.heap[r]? = some (.map es c)) : (setObj r o).run P w = .ok () { w with heap := w.heap.setIfInBounds r o } := by simp [setObj, Sem.run, hb]
theorem O7 (K : PF P t enc) (k : κ) : ∀ (es : List MapEntry) (l : List (κ × ahB)) (i : Nat), es.map (fun e => (e.key, e.val)) = l.map (fun p => (enc p.1, p.2)) →
 (Instr.findAsking t (enc k) es i).run P w = .ok (F6 k l i) w := by
 intro es
 induction es with
 | nil => intro l i h; cases l with
   | nil => rfl
   | cons p r => simp at h
 | cons x es ih =>
   intro l i h
   cases l with
   | nil => simp at h
   | cons p r =>
     simp only [acZ, agW, agA] at h
     obtain ⟨⟨h1, h2⟩, h3⟩ := h
     simp only [Instr.findAsking, Sem.run_bind, h1, K.eq, Result.andThen_ok, F6]
     by_cases hx : k = p.1
     .simp [hx, h2]
     .simp only [hx, decide_false, acK, if_false]
      exact ih r (i + 1) h3
theorem Q5 {d : TypeDesc} (hn : ∀ a b, Instr.sameNow d (enc a) (enc b) = none ∨ Instr.sameNow d (enc a) (enc b) = some (decide (a = b))) (k : κ) : ∀ (es : List MapEntry) (l : List (κ × ahB)) (i : Nat) (r : Option (Nat × ahB)), es.map (fun e => (e.key, e.val)) = l.map (fun p => (enc p.1, p.2)) →
 Instr.findNow d (enc k) es i = some r -> r = F6 k l i := by
 intro es
 induction es with
 | nil => intro l i r h hr; cases l with
   | nil => simp [Instr.findNow] at hr; exact hr.symm
   | cons p r => simp at h
 | cons x es ih =>
   intro l i r h hr
   cases l with
   | nil => simp at h
   | cons p q =>
     simp only [acZ, agW, agA] at h
     obtain ⟨⟨h1, h2⟩, h3⟩ := h
     simp only [Instr.findNow, h1] at hr
     rcases hn k p.1 with hh | hh
     .rw [hh] at hr; cases hr
     .rw [hh] at hr
      simp only [F6]
      by_cases hx : k = p.1
      .simp only [hx, decide_true, adT] at hr
       rw [if_pos hx, <- hr, h2]
      .simp only [hx, decide_false] at hr
       rw [if_neg hx]
       exact ih q (i + 1) r h3 hr
theorem EY (K : PF P t enc) (k : κ) (es : List MapEntry) (l : List (κ × ahB)) (h : es.map (fun e => (e.key, e.val)) = l.map (fun p => (enc p.1, p.2))) :
 (Instr.findKey t (enc k) es).run P w = .ok (F6 k l 0) w := by
 obtain ⟨d, hd, hn⟩ := K.now
 unfold Instr.findKey
 simp only [underlying, Sem.run_bind, run_program, Result.andThen_ok, hd, Sem.run_pure]
 cases hr : Instr.findNow d (enc k) es 0 with
 | none => exact O7 K k es l 0 h
 | some r => rw [Q5 hn k es l 0 r h hr] <;> rfl
theorem Zy {kt et : TypeId} {i : TypeInfo} {z : ahB} (hu : P.underlying t = some (.map kt et)) (hi : P.info? et = some i) (hz : i.zero = some z) (K : PF P kt enc) {m : Nat} {l : List (κ × ahB)} (hm : Mp w m enc l) (k : κ) :
 (Ay t (.map (some m)) (enc k) true).run P w = .ok (.value (.tuple #[(H2 k l).getD z, .bool (H2 k l).isSome])) w := by
 obtain ⟨es, c, hb, he, _⟩ := hm
 unfold Ay; rw [nF]
 unfold Instr.lookup
 simp only [underlying, Sem.run_bind, run_program, Result.andThen_ok, hu, Sem.run_pure, yP hb, K.chk, EY K k es.toList l he, <- Pa k l 0]
 cases F6 k l 0 with
 | none => simp [zeroValue, typeInfo, hi, hz]
 | some p => simp
omit [DecidableEq κ] in
theorem Vq {K : ahB -> ahA -> Prop} (enc : κ -> ahB) (hk : ∀ w', Mp w' w.heap.size enc ([] : List (κ × ahB)) -> gV w w' jN -> w'.heap.size = w.heap.size + 1 -> K (.map (some w.heap.size)) w') : eY P (No t none) w K := by
 have : (No t none).run P w = .ok (.value (.map (some w.heap.size))) (w.alloc (.map #[] 0)) := by
  unfold No; rw [nF]
  simp [Instr.makeMap]
 unfold eY
 rw [this]
 exact hk _ ⟨#[], 0, by show (w.heap.push _)[w.heap.size]? = _; simp, rfl, ⟨by simp, by simp⟩, by simp⟩ (gV.alloc _ _ _) (by simp)
theorem UK {kt et : TypeId} (hu : P.underlying t = some (.map kt et)) (Ke : PF P kt enc) {m : Nat} {l : List (κ × ahB)} (hm : Mp w m enc l) (k : κ) (v : ahB) {K : ahB -> ahA -> Prop}
 (hk : ∀ w', Mp w' m enc (TB k v l) -> gV w w' (fun y => y = m) -> w'.heap.size = w.heap.size -> K undef w') : eY P (Li t (.map (some m)) (enc k) v) w K := by
 have hlt := hm.lt
 obtain ⟨es, c, hb, he, hgr, hnd⟩ := hm
 have hext : ∀ o, gV w { w with heap := w.heap.setIfInBounds m o } (fun y => y = m) := fun o =>
  ⟨rfl, rfl, rfl, by simp, fun b hb hn => by
   show (w.heap.setIfInBounds m o)[b]? = _
   rw [adG (fun e => hn e.symm)]⟩
 have key : ∃ es' c', (Li t (.map (some m)) (enc k) v).run P w = .ok .skip { w with heap := w.heap.setIfInBounds m (.map es' c') } /\ es'.toList.map (fun e => (e.key, e.val)) = ((TB k v l).map fun p => (enc p.1, p.2)) /\ Grown es' c' := by
  have gen : ∀ (es : List MapEntry) (l : List (κ × ahB)) (i : Nat), es.map (fun e => (e.key, e.val)) = l.map (fun p => (enc p.1, p.2)) →
      (F6 k l i = none -> ∀ b, (es ++ [(⟨enc k, v, b⟩ : MapEntry)]).map (fun e => (e.key, e.val)) = (TB k v l).map fun p => (enc p.1, p.2)) /\
      (∀ j x, F6 k l i = some (j, x) -> i <= j /\ ∃ old, es[j - i]? = some old /\ old.key = enc k /\ (es.set (j - i) ({ old with key := enc k, val := v } : MapEntry)).map (fun e => (e.key, e.val)) = (TB k v l).map fun p => (enc p.1, p.2)) := by
   intro es
   induction es with
   | nil =>
     intro l i h
     cases l with
     | nil => exact ⟨fun _ b => rfl, fun j x h => by simp [F6] at h⟩
     | cons p r => simp at h
   | cons x es ih =>
     intro l i h
     cases l with
     | nil => simp at h
     | cons p r =>
       simp only [acZ, agW, agA] at h
       obtain ⟨⟨h1, h2⟩, h3⟩ := h
       simp only [F6, TB]
       by_cases hx : k = p.1
       .rw [if_pos hx, if_pos hx]
        refine ⟨fun h => by (cases h), fun j y h => ?_⟩
        cases h
        refine ⟨acY _, x, by simp, by rw [h1, hx], ?_⟩
        simp [h3]
       .rw [if_neg hx, if_neg hx]
        obtain ⟨a, b⟩ := ih r (i + 1) h3
        refine ⟨fun h q => ?_, fun j y h => ?_⟩
        .simp only [afY, acZ, a h q, h1, h2]
        .obtain ⟨hj, old, o1, o2, o3⟩ := b j y h
         refine ⟨by omega, old, ?_, o2, ?_⟩
         .rw [show j - i = (j - (i + 1)) + 1 from by omega, acJ]; exact o1
         .rw [show j - i = (j - (i + 1)) + 1 from by omega, adN]
          simp only [acZ, o3, h1, h2]
  obtain ⟨g1, g2⟩ := gen es.toList l 0 he
  unfold Li
  rw [aaJ]
  unfold Instr.mapUpdate
  simp only [underlying, Sem.run_bind, run_program, Result.andThen_ok, hu, Sem.run_pure, yP hb, Ke.chk, EY Ke k es.toList l he]
  cases hi : F6 k l 0 with
  | none =>
    refine ⟨es.push ⟨enc k, v, c⟩, c + 1, ?_, by simpa using g1 hi c, Tr hgr _ _⟩
    simp only [Ha _ hb, Result.andThen_ok]
  | some q =>
    obtain ⟨j, x⟩ := q
    obtain ⟨_, old, o1, o2, o3⟩ := g2 j x hi
    rw [Nat.sub_zero] at o1 o3
    have o1' : es[j]? = some old := by simpa using o1
    refine ⟨es.modify j fun e => { e with key := enc k, val := v }, c, ?_, ?_, TQ hgr ?_⟩
    .simp only [o1', aeA, adH, o2, Instr.keyThatStays, Ke.stay, if_true, Sem.run_pure, Result.andThen_ok, Ha _ hb, Sem.run_bind]
    .have hj : j < es.toList.length := by
      rcases aeG j es.toList.length with h | h
      .exact h
      .rw [adZ h] at o1; cases o1
     rw [<- o3]
     congr 1
     apply afS
     intro y
     rw [afL, afD, List.getElem?_set]
     by_cases hy : j = y
     .subst hy
      have hj' : j < es.size := by simpa using hj
      have e1 : es[j] = old := by rw [adD hj'] at o1'; exact aeM o1'
      simp [hj', e1]
     .simp [hy]
    .apply afS
     intro y
     rw [adQ, adQ, afL, afL, afD]
     split
     .rename_i h; subst h
      cases es[j]? <;> rfl
     .rfl
 obtain ⟨es', c', h1, h2, h3⟩ := key
 unfold eY
 rw [h1]
 refine hk _ ⟨es', c', by show (w.heap.setIfInBounds m _)[m]? = _; rw [adF hlt], h2, h3, SP hnd⟩ (hext _) (by simp)
theorem J8 (hu : P.underlying t = some .string) : PF P t (fun s : ByteArray => Value.string s) := by
 have hb : ∀ a b : ByteArray, (a == b) = decide (a = b) := fun a b => by
  have h1 : (a == b) = (a.data == b.data) := rfl
  rw [h1, Bool.eq_iff_iff, beq_iff_eq, decide_eq_true_eq]
  exact ⟨fun h => by cases a; cases b; simp only at h; rw [h], fun h => h ▸ rfl⟩
 refine ⟨fun a b w => ?_, ⟨_, hu, fun a b => .inr (by simp [Instr.sameNow, hb])⟩, fun c a w => ?_, fun a => ?_⟩
 .unfold Op.equal Op.maxDepth Op.equalIn
  simp only [underlying, Sem.run_bind, run_program, Result.andThen_ok, hu, Sem.run_pure, hb]
 .unfold Instr.checkKey
  simp only [underlying, Sem.run_bind, run_program, Result.andThen_ok, hu, Sem.run_pure]
 .simp [Instr.sameBits, hb]
theorem T8 {d : TypeDesc} {i : TypeInfo} (hu : P.underlying t = some d) (hd : Ru d = true) (hi : P.info? t = some i) {b off : Nat} {l : List ahB} (hl : i.size = l.length) (h : ∀ j, j < l.length -> w.cell? ⟨b, off + j, none⟩ = l[j]?) :
 (gJ t (.pointer (some ⟨b, off, none⟩))).run P w = .ok (.value (.agg l.toArray)) w := by
 unfold gJ
 rw [nF]
 simp only [Instr.loadAt, Instr.sureAddr, loadVar, pure_bind, Sem.run_bind, Dh hu, hd, Result.andThen_ok, if_true, kQ hi, hl, ME h, Sem.run_pure]
end
theorem kR {w : ahA} {b : Nat} {cs : List ahB} (h : jI w b cs) : jI (dr w) b cs := h.ext (gV.dr w jN) (fun h => h)
theorem Sl.dr {w : ahA} {v : ahB} {l : List ahB} (h : Sl w v l) : Sl (dr w) v l := h
theorem Sl.open {w : ahA} {v : ahB} {l : List UInt8} (h : Bs w v l) (h0 : 0 < l.length) : ∃ b off c, v = .slice (some ⟨b, off, none⟩) l.length c /\ l.length <= c /\ ∀ i, (h : i < l.length) -> w.cell? ⟨b, off + i, none⟩ = some (pG l[i]) := by
 obtain ⟨a, n, c, rfl, hn, hc, h⟩ := h
 simp only [acR] at hn
 subst hn
 obtain ⟨b, off, rfl, hh⟩ := h h0
 exact ⟨b, off, c, rfl, hc, fun i hi => by rw [hh i hi]; simp [hi]⟩
theorem Sl.len {w : ahA} {v : ahB} {l : List ahB} (h : Sl w v l) : ∃ a c, v = .slice a l.length c /\ l.length <= c := by
 obtain ⟨a, n, c, rfl, rfl, hc, _⟩ := h
 exact ⟨a, c, rfl, hc⟩
theorem jG (v : ahB) : ¬ vO v jN := by unfold vO jN; split <;> simp
theorem TY {b o m l : Nat} (h : l ≠ m) : kA (some ⟨b, o, none⟩) m l 1 = some ⟨b, o + l, none⟩ := by
 unfold kA; rw [if_neg (fun e => h e.symm)]; simp [Bv]
theorem vG {v : ahB} {M N : Nat -> Prop} (h : vO v M) (hm : ∀ b, M b -> N b) : vO v N := by
 unfold vO at *
 split at h
 .exact hm _ h
 .exact h
theorem Ac.len {w : ahA} {b sz n : Nat} {v : ahB} {l : List ahB} (h : Ac w b sz v n l) : ∃ a c, v = .slice a n c := by
 rcases h.2 with ⟨rfl, rfl⟩ | ⟨x, c, r, rfl, _⟩
 .exact ⟨_, _, rfl⟩
 .exact ⟨_, _, rfl⟩
theorem Sl.nil (w : ahA) : Sl w (.slice none 0 0) [] := ⟨none, 0, 0, rfl, rfl, acY _, fun h => absurd h (by simp)⟩
theorem jI.whole {w : ahA} {b c : Nat} {l : List UInt8} (h : jI w b (l.map pG)) (hc : l.length <= c) : Bs w (.slice (some ⟨b, 0, none⟩) l.length c) l :=
 h.bs hc fun i hi => by rw [acQ]; simp [hi]
theorem Sl.drop' {w : ahA} {a : Option Addr} {n c : Nat} {l : List ahB} (h : Sl w (.slice a n c) l) {k : Nat} (hk : k <= n) : Sl w (.slice (kA a c k 1) (n - k) (c - k)) (l.drop k) := by
 have h' := h
 obtain ⟨a', n', c', e, hn, hc, hh⟩ := h'
 cases e
 by_cases h0 : n = 0
 .exact ⟨_, _, _, rfl, by rw [adB]; omega, by omega, fun h => by omega⟩
 .obtain ⟨b, off, rfl, _⟩ := hh (by omega)
  exact h.drop hk
theorem Sl.mid {w : ahA} {a : Option Addr} {n c : Nat} {l : List ahB} (h : Sl w (.slice a n c) l) {i j : Nat} (hij : i <= j) (hj : j <= n) : Sl w (.slice (kA a c i 1) (j - i) (c - i)) ((l.drop i).take (j - i)) := by
 have h' := h
 obtain ⟨a', n', c', e, hn, hc, hh⟩ := h'
 cases e
 by_cases h0 : j - i = 0
 .rw [h0]
  exact ⟨_, _, _, rfl, by simp, by omega, fun h => by omega⟩
 .obtain ⟨b, off, rfl, _⟩ := hh (by omega)
  have hd := h.drop (k := i) (by omega)
  obtain ⟨a', n', c', e, hn', hc', hh'⟩ := hd
  obtain ⟨b', off', e', h2⟩ := hh' (by have := (Value.slice.inj e).2.1; omega)
  injection e with e1 e2 e3
  subst e3
  refine ⟨_, _, _, rfl, by rw [adE, adB]; omega, by omega, fun _ => ⟨b', off', by rw [e1]; exact e', fun x hx => ?_⟩⟩
  rw [h2 x (by omega), aeW hx]
theorem Sl.openV {w : ahA} {v : ahB} {l : List ahB} (h : Sl w v l) (h0 : 0 < l.length) : ∃ b off c, v = .slice (some ⟨b, off, none⟩) l.length c /\ l.length <= c /\ ∀ i, (h : i < l.length) -> w.cell? ⟨b, off + i, none⟩ = some l[i] := by
 obtain ⟨a, n, c, rfl, hn, hc, h⟩ := h
 subst hn
 obtain ⟨b, off, rfl, hh⟩ := h h0
 exact ⟨b, off, c, rfl, hc, fun i hi => by rw [hh i hi]; simp [hi]⟩
theorem T3 {P : Program} {w : ahA} {t e : TypeId} {k k' : IntKind} {hi mx : Int} {i : TypeInfo} (hu : P.underlying t = some (.slice e)) (hi' : P.info? e = some i) (x : Option Addr) (n c : Nat) (h0 : 0 <= hi) (h1 : hi <= mx) (h2 : mx <= c) :
 (mG t (.slice x n c) none (some (.int k hi)) (some (.int k' mx))).run P w = .ok (.value (.slice (kA x mx.toNat 0 i.size) (hi.toNat - 0) (mx.toNat - 0))) w := by
 have h3 : (0 : Int) <= mx := by omega
 have h4 : hi <= (mx.toNat : Int) := by omega
 simp only [mG, nF, Instr.sliceAt, underlying, hu, Sem.run_bind, run_program, Result.andThen_ok, Sem.run_pure, Instr.slice, Instr.sliceBounds, pure_bind, sV h3 h2, sV h0 h4, kQ hi', kA]
section
variable {P : Program} {w : ahA} {t e : TypeId}
variable {κ : Type} [DecidableEq κ] {enc : κ -> ahB}
theorem XQ {kt et : TypeId} {i : TypeInfo} {z : ahB} (hu : P.underlying t = some (.map kt et)) (hi : P.info? et = some i) (hz : i.zero = some z) (K : PF P kt enc) {m : Nat} {l : List (κ × ahB)} (hm : Mp w m enc l) (k : κ) :
 (Ay t (.map (some m)) (enc k) false).run P w = .ok (.value ((H2 k l).getD z)) w := by
 obtain ⟨es, c, hb, he, _⟩ := hm
 unfold Ay; rw [nF]
 unfold Instr.lookup
 simp only [underlying, Sem.run_bind, run_program, Result.andThen_ok, hu, Sem.run_pure, yP hb, K.chk, EY K k es.toList l he, <- Pa k l 0]
 cases F6 k l 0 with
 | none => simp [zeroValue, typeInfo, hi, hz]
 | some p => simp
def del {κ : Type} [DecidableEq κ] (k : κ) : List (κ × ahB) -> List (κ × ahB)
 | [] => []
 | p :: r => if k = p.1 then r else p :: del k r
theorem Uf {k : κ} : ∀ l : List (κ × ahB), (del k l).Sublist l
 | [] => .slnil
 | p :: r => by
   simp only [del]
   split
   .exact List.sublist_cons_self _ _
   .exact (Uf r).cons_cons p
theorem SF {k : κ} : ∀ {es : List MapEntry} {l : List (κ × ahB)} {i : Nat}, es.map (fun e => (e.key, e.val)) = l.map (fun p => (enc p.1, p.2)) →
 (F6 k l i = none -> del k l = l) /\ (∀ j x, F6 k l i = some (j, x) -> i <= j /\ (es.eraseIdx (j - i)).map (fun e => (e.key, e.val)) = (del k l).map (fun p => (enc p.1, p.2)))
 | es, [], i, h => ⟨fun _ => rfl, fun j x h => by simp [F6] at h⟩
 | [], p :: r, i, h => by simp at h
 | x :: es, p :: r, i, h => by
   rw [acZ, acZ, agW] at h
   obtain ⟨h1, h2⟩ := h
   simp only [F6, del]
   by_cases hk : k = p.1
   .rw [if_pos hk, if_pos hk]
    refine ⟨fun h => by (cases h), fun j y h => ?_⟩
    cases h
    exact ⟨acY _, by simp [h2]⟩
   .rw [if_neg hk, if_neg hk]
    obtain ⟨a, b⟩ := SF (k := k) (i := i + 1) h2
    refine ⟨fun h => by rw [a h], fun j y h => ?_⟩
    obtain ⟨c, d⟩ := b j y h
    refine ⟨by omega, ?_⟩
    rw [show j - i = (j - (i + 1)) + 1 from by omega, aeQ, acZ, acZ, d, h1]
theorem TP {kt et kt2 ty : TypeId} (hu : P.underlying t = some (.map kt et)) (Ke : PF P kt enc) {m : Nat} {l : List (κ × ahB)} (hm : Mp w m enc l) (k : κ) {K : ahB -> ahA -> Prop}
 (hk : ∀ w', Mp w' m enc (del k l) -> gV w w' (fun y => y = m) -> w'.heap.size = w.heap.size -> K (.tuple #[]) w') : eY P (mV .delete #[t, kt2] ty [.map (some m), enc k]) w K := by
 have hlt := hm.lt
 obtain ⟨es, c, hb, he, hgr, hnd⟩ := hm
 have hext : ∀ o, gV w { w with heap := w.heap.setIfInBounds m o } (fun y => y = m) := fun o =>
  ⟨rfl, rfl, rfl, by simp, fun b hb hn => by
   show (w.heap.setIfInBounds m o)[b]? = _
   rw [adG (fun e => hn e.symm)]⟩
 have key : ∃ es', (mV .delete #[t, kt2] ty [.map (some m), enc k]).run P w = .ok (.value (.tuple #[])) { w with heap := w.heap.setIfInBounds m (.map es' c) } /\ es'.toList.map (fun e => (e.key, e.val)) = ((del k l).map fun p => (enc p.1, p.2)) /\ Grown es' c := by
  obtain ⟨g1, g2⟩ := SF (k := k) (i := 0) he
  unfold mV builtin
  simp only [Builtin.delete_, aeT, acI, acJ]
  simp only [underlying, Sem.run_bind, run_program, Result.andThen_ok, hu, Sem.run_pure, yP hb, Ke.chk, EY Ke k es.toList l he]
  cases hi : F6 k l 0 with
  | none =>
    refine ⟨es, ?_, by rw [g1 hi]; exact he, hgr⟩
    simp only [Ha _ hb, Result.andThen_ok, Sem.run_pure, Sem.run_bind]
  | some q =>
    obtain ⟨j, x⟩ := q
    obtain ⟨_, g3⟩ := g2 j x hi
    rw [Nat.sub_zero] at g3
    have htl : (es.eraseIdxIfInBounds j).toList = es.toList.eraseIdx j := by
     simp
    refine ⟨es.eraseIdxIfInBounds j, ?_, by rw [htl]; exact g3, ?_, ?_⟩
    .simp only [Ha _ hb, Result.andThen_ok, Sem.run_pure, Sem.run_bind]
    .rw [htl]; exact hgr.1.sublist ((List.eraseIdx_sublist _ _).map _)
    .intro e he'
     rw [htl] at he'
     exact hgr.2 e ((List.eraseIdx_sublist _ _).subset he')
 obtain ⟨es', h1, h2, h3⟩ := key
 unfold eY
 rw [h1]
 exact hk _ ⟨es', c, by show (w.heap.setIfInBounds m _)[m]? = _; rw [adF hlt], h2, h3, hnd.sublist ((Uf l).map _)⟩ (hext _) (by simp)
theorem HS : ∀ {l : List MapEntry} {i : Nat} (hi : i < l.length), (l.map (·.born)).Pairwise (· ≠ ·) -> (l.filter fun e => decide (e.born ≠ (l[i]).born)) = l.eraseIdx i
 | [], i, hi, _ => by simp at hi
 | x :: l, 0, hi, h => by
   rw [acZ, List.pairwise_cons] at h
   rw [List.getElem_cons_zero, List.filter_cons_of_neg (by simp), List.eraseIdx_cons_zero, List.filter_eq_self]
   intro a ha
   have := h.1 a.born (aeE.2 ⟨a, ha, rfl⟩)
   simpa using fun e => this e.symm
 | x :: l, i + 1, hi, h => by
   rw [acZ, List.pairwise_cons] at h
   have hi' : i < l.length := by simpa using hi
   have := h.1 (l[i]).born (aeE.2 ⟨l[i], aeX hi', rfl⟩)
   rw [List.getElem_cons_succ, List.filter_cons_of_pos (by simpa using this), aeQ, HS hi' h.2]
theorem Fm {α β : Type} (f : α -> β) : ∀ (l : List α) (i : Nat), (l.eraseIdx i).map f = (l.map f).eraseIdx i
 | [], i => by simp
 | x :: l, 0 => by simp
 | x :: l, i + 1 => by rw [aeQ, acZ, acZ, aeQ, Fm f l i]
def YR {κ : Type} (w : ahA) (it m : Nat) (enc : κ -> ahB) (rest : List (κ × ahB)) : Prop :=
 ∃ es clock seen, w.heap[m]? = some (.map es clock) /\ w.heap[it]? = some (.mapIter (some m) clock seen clock) /\ Grown es clock /\
   (es.toList.filter fun e => !seen.contains e.born).map (fun e => (e.key, e.val)) = rest.map fun p => (enc p.1, p.2)
theorem YR.ext {κ : Type} {w w' : ahA} {it m : Nat} {enc : κ -> ahB} {rest : List (κ × ahB)} {M : Nat -> Prop} (h : YR w it m enc rest) (hx : gV w w' M) (hm : ¬ M m) (hi : ¬ M it) : YR w' it m enc rest := by
 obtain ⟨es, c, seen, h1, h2, h3⟩ := h
 have lt : ∀ {b : Nat} {o : Obj}, w.heap[b]? = some o -> b < w.heap.size := fun {b o} h => by
  rcases aeG b w.heap.size with h' | h'
  .exact h'
  .rw [adR h'] at h; cases h
 exact ⟨es, c, seen, by rw [hx.keep m (lt h1) hm]; exact h1, by rw [hx.keep it (lt h2) hi]; exact h2, h3⟩
theorem QY : ∀ {l : List MapEntry} {e : MapEntry}, (l.map (·.born)).Pairwise (· < ·) -> e ∈ l -> l.find? (fun x => x.born == e.born) = some e
 | [], e, _, h => by simp at h
 | x :: l, e, hp, h => by
   rw [acZ, List.pairwise_cons] at hp
   rw [List.find?_cons]
   rcases adX.1 h with rfl | h
   .simp
   .have := hp.1 e.born (aeE.2 ⟨e, h, rfl⟩)
    have hb : (x.born == e.born) = false := by simp; omega
    rw [hb]
    exact QY hp.2 h
def ZK {κ : Type} (w : ahA) (it m : Nat) (enc : κ -> ahB) (p : κ × ahB) : Prop :=
 ∃ es clock c0 seen e, w.heap[m]? = some (.map es clock) /\ w.heap[it]? = some (.mapIter (some m) c0 seen clock) /\ seen.back? = some e.born /\ es.find? (fun x => x.born == e.born) = some e /\ e.key = enc p.1 /\ e.val = p.2
omit [DecidableEq κ] in
theorem ZK.ext {w w' : ahA} {it m : Nat} {p : κ × ahB} {M : Nat -> Prop} (h : ZK w it m enc p) (hx : gV w w' M) (hm : ¬ M m) (hi : ¬ M it) : ZK w' it m enc p := by
 obtain ⟨es, c, c0, seen, e, h1, h2, h3⟩ := h
 have lt : ∀ {b : Nat} {o : Obj}, w.heap[b]? = some o -> b < w.heap.size := fun {b o} h => by
  rcases aeG b w.heap.size with h' | h'
  .exact h'
  .rw [adR h'] at h; cases h
 exact ⟨es, c, c0, seen, e, by rw [hx.keep m (lt h1) hm]; exact h1, by rw [hx.keep it (lt h2) hi]; exact h2, h3⟩
omit [DecidableEq κ] in
theorem Yv {it m : Nat} {p : κ × ahB} (h : ZK w it m enc p) : (TS (.pointer (some ⟨it, 0, none⟩))).run P w = .ok (.value (.tuple #[enc p.1, p.2])) w := by
 obtain ⟨es, c, c0, seen, e, h1, h2, h3, h4, h5, h6⟩ := h
 have hgi : (getObj it).run P w = .ok (.mapIter (some m) c0 seen c) w := by simp [getObj, Sem.run, h2]
 unfold TS; rw [nF]
 simp only [Instr.entry, Sem.run_bind, hgi, Result.andThen_ok, h3, yP h1, bne_self_eq_false, acK, if_false, h4, Sem.run_pure, h5, h6]
omit [DecidableEq κ] in
theorem UR {kt et : TypeId} (hu : P.underlying t = some (.map kt et)) {m : Nat} {l : List (κ × ahB)} (hm : Mp w m enc l) {K : ahB -> ahA -> Prop}
 (hk : ∀ w', YR w' w.heap.size m enc l -> gV w w' jN -> w'.heap.size = w.heap.size + 1 -> K (.pointer (some ⟨w.heap.size, 0, none⟩)) w') : eY P (PC t (.map (some m))) w K := by
 have hlt := hm.lt
 obtain ⟨es, c, hb, he, hgr, hnd⟩ := hm
 have : (PC t (.map (some m))).run P w = .ok (.value (.pointer (some ⟨w.heap.size, 0, none⟩))) (w.alloc (.mapIter (some m) c #[] c)) := by
  unfold PC; rw [nF]
  simp only [Instr.range, underlying, Sem.run_bind, run_program, Result.andThen_ok, hu, Sem.run_pure, yP hb, run_newObj]
  rfl
 unfold eY
 rw [this]
 refine hk _ ⟨es, c, #[], ?_, ?_, hgr, ?_⟩ (gV.alloc _ _ _) (by simp)
 .show (w.heap.push _)[m]? = _
  rw [Array.getElem?_push, if_neg (by omega)]; exact hb
 .show (w.heap.push _)[w.heap.size]? = _
  simp
 .rw [<- he]
  congr 1
  rw [List.filter_eq_self]
  intro a _
  simp
omit [DecidableEq κ] in
theorem Wj {it m : Nat} {ty : TypeId} {rest : List (κ × ahB)} (h : YR w it m enc rest) (hne : it ≠ m) {K : ahB -> ahA -> Prop}
 (h0 : rest = [] -> K (.tuple #[.bool false]) w)
 (hk : ∀ w' (j : Nat) (hj : j < rest.length), YR w' it m enc (rest.eraseIdx j) -> ZK w' it m enc rest[j] -> gV w w' (fun y => y = it) -> w'.heap.size = w.heap.size -> K (.tuple #[.bool true, enc rest[j].1, rest[j].2]) w') :
 eY P (Ux (.pointer (some ⟨it, 0, none⟩)) false ty) w K := by
 obtain ⟨es, c, seen, hm, hi, hgr, hr⟩ := h
 have hlt : it < w.heap.size := by
  rcases aeG it w.heap.size with h' | h'
  .exact h'
  .rw [adR h'] at hi; cases hi
 have hgi : (getObj it).run P w = .ok (.mapIter (some m) c seen c) w := by simp [getObj, Sem.run, hi]
 have hnot : (!seen.isEmpty && !es.isEmpty && es.all fun e => decide (e.born ≥ c)) = false := by
  cases hes : es.toList with
  | nil =>
    have : es = #[] := by rw [<- Array.toArray_toList (xs := es), hes]
    subst this; simp
  | cons x r =>
    have hx : x ∈ es.toList := by rw [hes]; simp
    have := hgr.2 x hx
    have : (es.all fun e => decide (e.born ≥ c)) = false := by
     rw [Array.all_eq_false']
     exact ⟨x, by simpa using hx, by simp; omega⟩
    rw [this]; simp
 have hold : ((es.filter fun e => !seen.contains e.born).filter fun e => decide (e.born < c)) = es.filter fun e => !seen.contains e.born := by
  rw [Array.filter_eq_self]
  intro a ha
  have := hgr.2 a (by simpa using (Array.mem_filter.1 ha).1)
  simpa using this
 have hnew : ((es.filter fun e => !seen.contains e.born).filter fun e => decide (e.born ≥ c)) = #[] := by
  rw [Array.filter_eq_empty_iff]
  intro a ha
  have := hgr.2 a (by simpa using (Array.mem_filter.1 ha).1)
  simp; omega
 have hll : (es.filter fun e => !seen.contains e.born).toList = es.toList.filter fun e => !seen.contains e.born := by simp
 generalize hL : (es.filter fun e => !seen.contains e.born) = L at *
 have hlen : L.size = rest.length := by
  have := congrArg List.length hr
  rw [acR, acR, <- hll] at this
  simpa using this
 have hrun : (Ux (.pointer (some ⟨it, 0, none⟩)) false ty).run P w = ((choose (.mapNext ((if L.isEmpty then #[none] else #[]) ++ (L ++ #[]).map some).size)).run P w).andThen fun i w =>
     ((match ((if L.isEmpty then #[none] else #[]) ++ (L ++ #[]).map some)[i]? with
       | some (some e) => do
         setObj it (.mapIter (some m) c (seen.push e.born) c)
         pure (.tuple #[.bool true, e.key, e.val])
       | some none => pure (.tuple #[.bool false])
       | none => stuck "Next: no such candidate" : Sem ahB).run P w).andThen fun v w => .ok (.value v) w := by
  unfold Ux; rw [nF]
  simp only [Instr.next, Sem.run_bind, hgi, Result.andThen_ok, yP hm, hnot, acK, if_false, hL, hold, hnew]
  cases (choose (.mapNext ((if L.isEmpty then #[none] else #[]) ++ (L ++ #[]).map some).size)).run P w with
  | ok a w' => rfl
  | _ => rfl
 unfold eY
 rw [hrun]
 by_cases hz : L.size = 0
 .have hLe : L = #[] := Array.eq_empty_of_size_eq_zero hz
  subst hLe
  have hre : rest = [] := adK.1 (by omega)
  have hf : (Question.mapNext 1).forced = true := rfl
  simp only [Array.isEmpty_empty, if_true, Array.append_empty, Array.map_empty, afI, aeB, run_choose, hf]
  exact h0 hre
 .have hLe : L.isEmpty = false := by
   simp [Array.isEmpty]; intro h; subst h; simp at hz
  have hsz : ((if L.isEmpty then #[none] else #[]) ++ (L ++ #[]).map some).size = L.size := by rw [hLe]; simp
  have hat : ∀ i (h : i < L.size), ((if L.isEmpty then #[none] else #[]) ++ (L ++ #[]).map some)[i]? = some (some L[i]) := by
   intro i h; rw [hLe]; simp [h]
  obtain ⟨i, w', hi', hw', hch⟩ : ∃ i w', i < L.size /\ (w' = w ∨ w' = dr w) /\ (choose (.mapNext ((if L.isEmpty then #[none] else #[]) ++ (L ++ #[]).map some).size)).run P w = .ok i w' := by
   rw [hsz, run_choose]
   by_cases hf : (Question.mapNext L.size).forced = true
   .rw [if_pos hf]
    exact ⟨0, w, by omega, .inl rfl, rfl⟩
   .rw [if_neg hf]
    exact ⟨_, dr w, afX _ (by omega), .inr rfl, rfl⟩
  rw [hch]
  have hi2 : w'.heap[it]? = some (.mapIter (some m) c seen c) := by rcases hw' with rfl | rfl <;> exact hi
  have hm2 : w'.heap[m]? = some (.map es c) := by rcases hw' with rfl | rfl <;> exact hm
  have hx0 : gV w w' (fun y => y = it) := by
   rcases hw' with rfl | rfl
   .exact gV.refl _ _
   .exact gV.dr _ _
  have hset : (setObj it (.mapIter (some m) c (seen.push (L[i]).born) c)).run P w' = .ok () { w' with heap := w'.heap.setIfInBounds it (.mapIter (some m) c (seen.push (L[i]).born) c) } := by simp [setObj, Sem.run, hi2]
  simp only [Result.andThen_ok, hat i hi', Sem.run_bind, hset, Sem.run_pure]
  have hri : i < rest.length := by omega
  have hkv : ((L[i]).key, (L[i]).val) = (enc rest[i].1, rest[i].2) := by
   have := congrArg (fun (x : List (ahB × ahB)) => x[i]?) hr
   simp only [<- hll, adQ] at this
   rw [afL, adD hi', acS hri] at this
   simpa using this
  obtain ⟨hk1, hk2⟩ := Prod.mk.inj hkv
  have hkk : (Value.tuple #[.bool true, L[i].key, L[i].val]) = .tuple #[.bool true, enc rest[i].1, rest[i].2] := by rw [hk1, hk2]
  rw [hkk]
  have hsize : ({ w' with heap := w'.heap.setIfInBounds it (.mapIter (some m) c (seen.push (L[i]).born) c) } : ahA).heap.size = w.heap.size := by
   rcases hw' with rfl | rfl
   .simp
   .simp; rfl
  have hwlt : it < w'.heap.size := by rcases hw' with rfl | rfl <;> exact hlt
  have hwm : ({ w' with heap := w'.heap.setIfInBounds it (.mapIter (some m) c (seen.push (L[i]).born) c) } : ahA).heap[m]? = some (.map es c) := by
   show (w'.heap.setIfInBounds it _)[m]? = _
   rw [adG hne]; exact hm2
  have hwi : ({ w' with heap := w'.heap.setIfInBounds it (.mapIter (some m) c (seen.push (L[i]).born) c) } : ahA).heap[it]? = some (.mapIter (some m) c (seen.push (L[i]).born) c) := by
   show (w'.heap.setIfInBounds it _)[it]? = _
   rw [adF hwlt]
  have hmemL : L[i] ∈ es.toList := by
   have hm0 : L[i] ∈ es.filter fun e => !seen.contains e.born := by rw [hL]; exact Array.getElem_mem hi'
   simpa using (Array.mem_filter.1 hm0).1
  have hcur : ZK ({ w' with heap := w'.heap.setIfInBounds it (.mapIter (some m) c (seen.push (L[i]).born) c) } : ahA) it m enc rest[i] :=
   ⟨es, c, c, _, L[i], hwm, hwi, by simp, by rw [<- Array.find?_toList]; exact QY hgr.1 hmemL, hk1, hk2⟩
  refine hk _ i hri ⟨es, c, seen.push (L[i]).born, ?_, ?_, hgr, ?_⟩ hcur (hx0.seq ⟨rfl, rfl, rfl, by simp, fun b hb hn => by
   show (w'.heap.setIfInBounds it _)[b]? = _
   rw [adG (fun e => hn e.symm)]⟩) hsize
  .show (w'.heap.setIfInBounds it _)[m]? = _
   rw [adG hne]; exact hm2
  .show (w'.heap.setIfInBounds it _)[it]? = _
   rw [adF hwlt]
  .
   have hfil : (es.toList.filter fun e => !(seen.push (L[i]).born).contains e.born) = (es.toList.filter fun e => !seen.contains e.born).filter fun e => decide (e.born ≠ (L[i]).born) := by
    rw [List.filter_filter]
    congr 1
    funext e
    simp only [Array.contains_push]
    by_cases h : e.born = (L[i]).born
    .simp [h]
    .have h' : ¬ (L[i]).born = e.born := fun x => h x.symm
     simp [h, h']
   have hLi : L[i] = L.toList[i]'(by simpa using hi') := by simp
   rw [hfil, <- hll, hLi, HS, Fm, hll, hr, <- Fm]
   rw [hll]
   exact (hgr.1.imp (fun h => afT h)).sublist ((List.filter_sublist).map _)
end
end Go.En
namespace Go.Proofs.YteelnmpbnaohpaaDoor
open Go Go.En
set_option maxRecDepth 4000
theorem eA {ty : TypeId} (x : Option Addr) (n c : Nat) (w : ahA) : (mV .len #[22] ty [.slice x n c]).run pg w = .ok (.value (.int .i64 n)) w := ND Tryd.underlying22 x n c
theorem dV {k : IntKind} (a : Int) (w : ahA) : (lL 5 3 (.int k a)).run pg w = .ok (.value (.int .i64 (IntKind.i64.wrap a))) w := CJ Tryd.underlying5 Tryd.underlying3
theorem R6 : (pg).info? 28 = some Tryd.t28 := by kernel_rfl
theorem sK {w : ahA} {K : ahB -> ahA -> Prop} (hk : ∀ w', jI w' w.heap.size [(.int .u64 0), (.int .u32 0), (.slice none 0 0)] -> gV w w' jN -> w'.heap.size = w.heap.size + 1 -> K (.pointer (some ⟨w.heap.size, 0, none⟩)) w') : eY pg (lY 28) w K := sX (i := Tryd.t28) R6 rfl hk
theorem qQ {b off : Nat} {cs : List ahB} {w : ahA} {xs : Array ahB} {K : ahB -> ahA -> Prop} (ho : jI w b cs) (hs : xs.size = 3) (hv : ∀ x ∈ xs.toList, one x = true) (h : off + 3 <= cs.length) (hk : ∀ w', jI w' b (nA cs off xs.toList) -> gV w w' (fun x => x = b) -> w'.heap.size = w.heap.size -> K undef w') : eY pg (iG 28 (.pointer (some ⟨b, off, none⟩)) (.agg xs)) w K := BI (v := .agg xs) R6 ho hs hv h hk
theorem qR {b off : Nat} {cs : List ahB} {w : ahA} (ho : jI w b cs) (h : off + 3 <= cs.length) : (gJ 28 (.pointer (some ⟨b, off, none⟩))).run pg w = .ok (.value (.agg ((cs.drop off).take 3).toArray)) w := HC Tryd.underlying28 rfl R6 ho h
theorem YP : (pg).info? 26 = some Tryd.t26 := by kernel_rfl
theorem aB (b o : Nat) (w : ahA) : (gM 28 (.pointer (some ⟨b, o, none⟩)) 2).run pg w = .ok (.value (.pointer (some ⟨b, o + 2, none⟩))) w := kX (i := 2) Tryd.underlying28 rfl YP (by decide) _
theorem dM (x : Addr) (w : ahA) : (gJ 26 (.pointer (some x))).run pg w = Px (w.cell? x) w (Qg pg 26 x w) := Kx Tryd.underlying26 rfl x w
theorem dO {ty : TypeId} (x : Option Addr) (n c : Nat) (w : ahA) : (mV .len #[26] ty [.slice x n c]).run pg w = .ok (.value (.int .i64 n)) w := ND Tryd.underlying26 x n c
theorem Jl : (pg).info? 5 = some Tryd.t5 := by kernel_rfl
theorem cB {k k' : IntKind} {lo hi : Int} (a : Option Addr) (n c : Nat) (w : ahA) (h0 : 0 <= lo) (h1 : lo <= hi) (h2 : hi <= c) : (mG 22 (.slice a n c) (some (.int k lo)) (some (.int k' hi)) none).run pg w = .ok (.value (.slice (kA a c (lo.toNat) 1) (hi.toNat - lo.toNat) (c - lo.toNat))) w := Rm Tryd.underlying22 Jl _ n c h0 h1 h2
theorem rU {l : List UInt8} {v : ahB} {w : ahA} (h : Bs w v l) : (lL 22 9 v).run pg w = .ok (.value (.string ⟨l.toArray⟩)) w := Xo Tryd.underlying22 Tryd.underlying9 Tryd.underlying5 h
theorem Tz : (pg).info? 4 = some Tryd.t4 := by kernel_rfl
theorem Lt {k : IntKind} {n : Int} {w : ahA} {K : ahB -> ahA -> Prop} (h0 : 0 <= n) (hn : 1 * n <= 2 ^ 48) (hk : ∀ w', jI w' w.heap.size (List.replicate n.toNat (.bool false)) -> gV w w' jN -> w'.heap.size = w.heap.size + 1 -> K (.slice (some ⟨w.heap.size, 0, none⟩) n.toNat n.toNat) w') : eY pg (vK 45 (.int k n) (.int k n)) w K := SW (i := Tryd.t4) Tryd.underlying45 Tz rfl rfl rfl h0 hn (by omega) hk
theorem eB {k : IntKind} {a : Int} (b o n c : Nat) (w : ahA) (h0 : 0 <= a) (h1 : a < n) : (iK 22 (.slice (some ⟨b, o, none⟩) n c) (.int k a)).run pg w = .ok (.value (.pointer (some ⟨b, o + a.toNat, none⟩))) w := Nn rfl Tryd.underlying22 Jl b o n c h0 h1
theorem eS (x : Addr) (w : ahA) : (gJ 5 (.pointer (some x))).run pg w = Px (w.cell? x) w (Qg pg 5 x w) := Kx Tryd.underlying5 rfl x w
theorem eE {k : IntKind} {a : Int} (b o n c : Nat) (w : ahA) (h0 : 0 <= a) (h1 : a < n) : (iK 45 (.slice (some ⟨b, o, none⟩) n c) (.int k a)).run pg w = .ok (.value (.pointer (some ⟨b, o + a.toNat, none⟩))) w := Nn rfl Tryd.underlying45 Tz b o n c h0 h1
theorem Dc {b off : Nat} {cs : List ahB} {w : ahA} {v : ahB} {K : ahB -> ahA -> Prop} (ho : jI w b cs) (hv : one v = true) (h : off < cs.length) (hk : ∀ w', jI w' b (cs.set off v) -> gV w w' (fun x => x = b) -> w'.heap.size = w.heap.size -> K undef w') : eY pg (iG 4 (.pointer (some ⟨b, off, none⟩)) v) w K := nY Tz rfl ho hv h hk
theorem dK {k : IntKind} (a : Int) (w : ahA) : (lL 44 3 (.int k a)).run pg w = .ok (.value (.int .i64 (IntKind.i64.wrap a))) w := CJ Tryd.underlying44 Tryd.underlying3
theorem WH {b off : Nat} {cs : List ahB} {w : ahA} {v : ahB} {K : ahB -> ahA -> Prop} (ho : jI w b cs) (hv : one v = true) (h : off < cs.length) (hk : ∀ w', jI w' b (cs.set off v) -> gV w w' (fun x => x = b) -> w'.heap.size = w.heap.size -> K undef w') : eY pg (iG 5 (.pointer (some ⟨b, off, none⟩)) v) w K := nY Jl rfl ho hv h hk
theorem eF {ty : TypeId} (x : Option Addr) (n c : Nat) (w : ahA) : (mV .len #[45] ty [.slice x n c]).run pg w = .ok (.value (.int .i64 n)) w := ND Tryd.underlying45 x n c
theorem fA (x : Addr) (w : ahA) : (gJ 4 (.pointer (some x))).run pg w = Px (w.cell? x) w (Qg pg 4 x w) := Kx Tryd.underlying4 rfl x w
theorem Mn : (pg).info? 49 = some Tryd.t49 := by kernel_rfl
theorem dJ {k : IntKind} {a : Int} (b o n c : Nat) (w : ahA) (h0 : 0 <= a) (h1 : a < n) : (iK 26 (.slice (some ⟨b, o, none⟩) n c) (.int k a)).run pg w = .ok (.value (.pointer (some ⟨b, o + a.toNat * 32, none⟩))) w := Nm rfl Tryd.underlying26 Mn b o n c h0 h1
theorem SE {b off : Nat} {l : List ahB} {w : ahA} (hl : l.length = 32) (h : ∀ j, j < l.length -> w.cell? ⟨b, off + j, none⟩ = l[j]?) : (gJ 49 (.pointer (some ⟨b, off, none⟩))).run pg w = .ok (.value (.agg l.toArray)) w := T8 Tryd.underlying49 rfl Mn hl.symm h
theorem R7 {b off : Nat} {cs : List ahB} {w : ahA} (ho : jI w b cs) (h : off + 32 <= cs.length) : (gJ 49 (.pointer (some ⟨b, off, none⟩))).run pg w = .ok (.value (.agg ((cs.drop off).take 32).toArray)) w := HC Tryd.underlying49 rfl Mn ho h
theorem eJ {ox oy : Operand} (c d : Bool) (w : ahA) : (gO .neq 4 ox oy (.bool c) (.bool d)).run pg w = .ok (.value (.bool (!(c == d)))) w := Zr c d Tryd.underlying4
theorem bP {ox oy : Operand} (x : Option Addr) (w : ahA) : (gO .eql 35 ox oy (.pointer x) (.pointer none)).run pg w = .ok (.value (.bool x.isNone)) w := Nz Tryd.underlying35 x
theorem EN {n : Nat} {ps : List (Nat × ahB)} {cells : Array ahB} {w : ahA} (h1 : ¬ n * 1 > 2 ^ 24) (h0 : ¬ n * 1 = 0) (hf : Go.Instr.fill (fun j => some (j * 1, 1)) ((Array.range (n * 1)).map ((Tryd.t5.zero.get!).cells[· % (Tryd.t5.zero.get!).cells.size]!)) ps = some cells) {K : ahB -> ahA -> Prop} (hk : ∀ w', jI w' w.heap.size cells.toList -> gV w w' jN -> w'.heap.size = w.heap.size + 1 -> K (.slice (some ⟨w.heap.size, 0, none⟩) n n) w') : eY pg (iL 22 n ps) w K := Dw (i := Tryd.t5) Tryd.underlying22 Jl rfl h1 h0 hf hk
theorem Rx {b off n c : Nat} {cs : List ahB} {w : ahA} (ho : jI w b cs) {K : ahB -> ahA -> Prop} (hk : ∀ w', jI w' b cs -> gV w w' (fun y => y = b) -> w'.heap.size = w.heap.size -> K (.slice (some ⟨b, off, none⟩) n c) w') : eY pg (lL 22 22 (.slice (some ⟨b, off, none⟩) n c)) w K := XN Tryd.underlying22 Tryd.underlying5 ho hk
theorem Kl {b off : Nat} {cs : List ahB} {w : ahA} (ho : jI w b cs) (h : off + 3 <= cs.length) {K : ahB -> Prop} (hk : K (.agg ((cs.drop off).take 3).toArray)) : VR pg 28 (.pointer (some ⟨b, off, none⟩)) w K := Rg Tryd.underlying28 rfl R6 ho h hk
theorem dS {k : IntKind} (a : Int) (w : ahA) : (lL 3 24 (.int k a)).run pg w = .ok (.value (.int .u64 (IntKind.u64.wrap a))) w := CJ Tryd.underlying3 Tryd.underlying24
theorem bE  (w : ahA) : (lZ 28 []).run pg w = .ok (.value (.agg #[(.int .u64 0), (.int .u32 0), (.slice none 0 0)])) w := by kernel_rfl
theorem dN {k : IntKind} (a : Int) (w : ahA) : (lL 3 25 (.int k a)).run pg w = .ok (.value (.int .u32 (IntKind.u32.wrap a))) w := CJ Tryd.underlying3 Tryd.underlying25
theorem aL (n0 : Int) (n1 : Int) (w : ahA) : (lZ 28 [(0, (.int .u64 n0)), (1, (.int .u32 n1))]).run pg w = .ok (.value (.agg #[(.int .u64 n0), (.int .u32 n1), (.slice none 0 0)])) w := by kernel_rfl
theorem QV : (pg).info? 24 = some Tryd.t24 := by kernel_rfl
theorem aH (b o : Nat) (w : ahA) : (gM 28 (.pointer (some ⟨b, o, none⟩)) 0).run pg w = .ok (.value (.pointer (some ⟨b, o, none⟩))) w := kX (i := 0) Tryd.underlying28 rfl QV (by decide) _
theorem eL (x : Addr) (w : ahA) : (gJ 24 (.pointer (some x))).run pg w = Px (w.cell? x) w (Qg pg 24 x w) := Kx Tryd.underlying24 rfl x w
theorem Qk {n : Nat} {ps : List (Nat × ahB)} {cells : Array ahB} {w : ahA} (h1 : ¬ n * 32 > 2 ^ 24) (h0 : ¬ n * 32 = 0) (hf : Go.Instr.fill (fun j => some (j * 32, 32)) ((Array.range (n * 32)).map ((Tryd.t49.zero.get!).cells[· % (Tryd.t49.zero.get!).cells.size]!)) ps = some cells) {K : ahB -> ahA -> Prop} (hk : ∀ w', jI w' w.heap.size cells.toList -> gV w w' jN -> w'.heap.size = w.heap.size + 1 -> K (.slice (some ⟨w.heap.size, 0, none⟩) n n) w') : eY pg (iL 26 n ps) w K := Dw (i := Tryd.t49) Tryd.underlying26 Mn rfl h1 h0 hf hk
theorem xK {base n m : Nat} {ty : TypeId} {w : ahA} {v x : ahB} {l news : List ahB} (h : Ac w base 32 v n l) (hx : Cl w 32 x m news) (hone : ∀ y ∈ news, one y = true) (hb : base <= w.heap.size) (hbytes : (n + m) * 32 <= 140737488355328) {K : ahB -> ahA -> Prop} (hk : ∀ v' w', Ac w' base 32 v' (n + m) (l ++ news) -> gV w w' (fun y => base <= y) -> K v' w') : eY pg (mV .append #[26, 26] ty [v, x]) w K := LJ (i := Tryd.t49) Tryd.underlying26 Tryd.underlying26 Mn rfl rfl rfl h hx hone hb (by omega) hbytes (by decide) hk
theorem KR {b off : Nat} {cs : List ahB} {w : ahA} {v : ahB} {K : ahB -> ahA -> Prop} (ho : jI w b cs) (hv : one v = true) (h : off < cs.length) (hk : ∀ w', jI w' b (cs.set off v) -> gV w w' (fun x => x = b) -> w'.heap.size = w.heap.size -> K undef w') : eY pg (iG 26 (.pointer (some ⟨b, off, none⟩)) v) w K := nY YP rfl ho hv h hk
theorem KP {w : ahA} {K : ahB -> ahA -> Prop} (hk : ∀ w', Mp w' w.heap.size (fun s : ByteArray => Value.string s) ([] : List (ByteArray × ahB)) -> gV w w' jN -> w'.heap.size = w.heap.size + 1 -> K (.map (some w.heap.size)) w') : eY pg (No 61 none) w K := Vq _ hk
theorem aX (n0 : Int) (m1 : Option Nat) (m2 : Option Nat) (n3 : Int) (w : ahA) : (lZ 64 [(0, (.int .i64 n0)), (1, (.map m1)), (2, (.map m2)), (4, (.int .i64 n3))]).run pg w = .ok (.value (.agg #[(.int .i64 n0), (.map m1), (.map m2), (.slice none 0 0), (.int .i64 n3), (.bool false)])) w := by kernel_rfl
theorem cI {ox oy : Operand} (x : Option Addr) (w : ahA) : (gO .eql 32 ox oy (.pointer x) (.pointer none)).run pg w = .ok (.value (.bool x.isNone)) w := Nz Tryd.underlying32 x
theorem eM {ty : TypeId} (x : ByteArray) (w : ahA) : (mV .len #[9] ty [.string x]).run pg w = .ok (.value (.int .i64 x.size)) w := Zg Tryd.underlying9 x
theorem Mr : (pg).info? 25 = some Tryd.t25 := by kernel_rfl
theorem aE (b o : Nat) (w : ahA) : (gM 28 (.pointer (some ⟨b, o, none⟩)) 1).run pg w = .ok (.value (.pointer (some ⟨b, o + 1, none⟩))) w := kX (i := 1) Tryd.underlying28 rfl Mr (by decide) _
theorem eN (x : Addr) (w : ahA) : (gJ 25 (.pointer (some x))).run pg w = Px (w.cell? x) w (Qg pg 25 x w) := Kx Tryd.underlying25 rfl x w
theorem dE {k : IntKind} (a : Int) (w : ahA) : (lL 25 3 (.int k a)).run pg w = .ok (.value (.int .i64 (IntKind.i64.wrap a))) w := CJ Tryd.underlying25 Tryd.underlying3
theorem aR (p0 : Option Addr) (s1 : ByteArray) (aaC Z3 aaO : ahB) (w : ahA) : (lZ 67 [(0, (.pointer p0)), (1, (.string s1)), (2, (.agg #[aaC, Z3, aaO]))]).run pg w = .ok (.value (.agg #[(.pointer p0), (.string s1), aaC, Z3, aaO, (.int .u64 0), (.slice none 0 0), (.int .i64 0), (.bool false), (.int .i64 0)])) w := by kernel_rfl
theorem YU : (pg).info? 45 = some Tryd.t45 := by kernel_rfl
theorem bF (b o : Nat) (w : ahA) : (gM 67 (.pointer (some ⟨b, o, none⟩)) 4).run pg w = .ok (.value (.pointer (some ⟨b, o + 6, none⟩))) w := kX (i := 4) Tryd.underlying67 rfl YU (by decide) _
theorem Le {b off : Nat} {cs : List ahB} {w : ahA} {v : ahB} {K : ahB -> ahA -> Prop} (ho : jI w b cs) (hv : one v = true) (h : off < cs.length) (hk : ∀ w', jI w' b (cs.set off v) -> gV w w' (fun x => x = b) -> w'.heap.size = w.heap.size -> K undef w') : eY pg (iG 45 (.pointer (some ⟨b, off, none⟩)) v) w K := nY YU rfl ho hv h hk
theorem eD (x : Addr) (w : ahA) : (gJ 45 (.pointer (some x))).run pg w = Px (w.cell? x) w (Qg pg 45 x w) := Kx Tryd.underlying45 rfl x w
theorem bB (b o : Nat) (w : ahA) : (gM 67 (.pointer (some ⟨b, o, none⟩)) 6).run pg w = .ok (.value (.pointer (some ⟨b, o + 8, none⟩))) w := kX (i := 6) Tryd.underlying67 rfl Tz (by decide) _
theorem bC {ty : TypeId} (x : Option Addr) (n c : Nat) (w : ahA) : (mV .len #[72] ty [.slice x n c]).run pg w = .ok (.value (.int .i64 n)) w := ND Tryd.underlying72 x n c
theorem OV : (pg).info? 77 = some Tryd.t77 := by kernel_rfl
theorem bJ {k : IntKind} {a : Int} (b o n c : Nat) (w : ahA) (h0 : 0 <= a) (h1 : a < n) : (iK 72 (.slice (some ⟨b, o, none⟩) n c) (.int k a)).run pg w = .ok (.value (.pointer (some ⟨b, o + a.toNat * 2, none⟩))) w := Nm rfl Tryd.underlying72 OV b o n c h0 h1
theorem LV {b off : Nat} {l : List ahB} {w : ahA} (hl : l.length = 2) (h : ∀ j, j < l.length -> w.cell? ⟨b, off + j, none⟩ = l[j]?) : (gJ 77 (.pointer (some ⟨b, off, none⟩))).run pg w = .ok (.value (.agg l.toArray)) w := T8 Tryd.underlying77 rfl OV hl.symm h
theorem tS {b off : Nat} {cs : List ahB} {w : ahA} (ho : jI w b cs) (h : off + 2 <= cs.length) : (gJ 77 (.pointer (some ⟨b, off, none⟩))).run pg w = .ok (.value (.agg ((cs.drop off).take 2).toArray)) w := HC Tryd.underlying77 rfl OV ho h
theorem BG {w : ahA} {K : ahB -> ahA -> Prop} (hk : ∀ w', jI w' w.heap.size [(.int .u8 0), (.int .u64 0)] -> gV w w' jN -> w'.heap.size = w.heap.size + 1 -> K (.pointer (some ⟨w.heap.size, 0, none⟩)) w') : eY pg (lY 77) w K := sX (i := Tryd.t77) OV rfl hk
theorem AM {b off : Nat} {cs : List ahB} {w : ahA} {xs : Array ahB} {K : ahB -> ahA -> Prop} (ho : jI w b cs) (hs : xs.size = 2) (hv : ∀ x ∈ xs.toList, one x = true) (h : off + 2 <= cs.length) (hk : ∀ w', jI w' b (nA cs off xs.toList) -> gV w w' (fun x => x = b) -> w'.heap.size = w.heap.size -> K undef w') : eY pg (iG 77 (.pointer (some ⟨b, off, none⟩)) (.agg xs)) w K := BI (v := .agg xs) OV ho hs hv h hk
theorem aO (b o : Nat) (w : ahA) : (gM 77 (.pointer (some ⟨b, o, none⟩)) 0).run pg w = .ok (.value (.pointer (some ⟨b, o, none⟩))) w := kX (i := 0) Tryd.underlying77 rfl Jl (by decide) _
theorem aI (b o : Nat) (w : ahA) : (gM 77 (.pointer (some ⟨b, o, none⟩)) 1).run pg w = .ok (.value (.pointer (some ⟨b, o + 1, none⟩))) w := kX (i := 1) Tryd.underlying77 rfl QV (by decide) _
theorem cF (x : Addr) (w : ahA) : (gJ 35 (.pointer (some x))).run pg w = Px (w.cell? x) w (Qg pg 35 x w) := Kx Tryd.underlying35 rfl x w
theorem fH (x : Addr) (w : ahA) : (gJ 3 (.pointer (some x))).run pg w = Px (w.cell? x) w (Qg pg 3 x w) := Kx Tryd.underlying3 rfl x w
theorem dY (x : Addr) (w : ahA) : (gJ 22 (.pointer (some x))).run pg w = Px (w.cell? x) w (Qg pg 22 x w) := Kx Tryd.underlying22 rfl x w
theorem cJ (b o : Nat) (w : ahA) : (gM 67 (.pointer (some ⟨b, o, none⟩)) 2).run pg w = .ok (.value (.pointer (some ⟨b, o + 2, none⟩))) w := kX (i := 2) Tryd.underlying67 rfl R6 (by decide) _
theorem QL {w : ahA} {K : ahB -> ahA -> Prop} (hk : ∀ w', jI w' w.heap.size [(.int .u64 0)] -> gV w w' jN -> w'.heap.size = w.heap.size + 1 -> K (.pointer (some ⟨w.heap.size, 0, none⟩)) w') : eY pg (lY 24) w K := sX (i := Tryd.t24) QV rfl hk
theorem J5 {b off : Nat} {cs : List ahB} {w : ahA} {v : ahB} {K : ahB -> ahA -> Prop} (ho : jI w b cs) (hv : one v = true) (h : off < cs.length) (hk : ∀ w', jI w' b (cs.set off v) -> gV w w' (fun x => x = b) -> w'.heap.size = w.heap.size -> K undef w') : eY pg (iG 24 (.pointer (some ⟨b, off, none⟩)) v) w K := nY QV rfl ho hv h hk
theorem aaG : (pg).info? 32 = some Tryd.t32 := by kernel_rfl
theorem cC (b o : Nat) (w : ahA) : (gM 67 (.pointer (some ⟨b, o, none⟩)) 0).run pg w = .ok (.value (.pointer (some ⟨b, o, none⟩))) w := kX (i := 0) Tryd.underlying67 rfl aaG (by decide) _
theorem dA (x : Addr) (w : ahA) : (gJ 32 (.pointer (some x))).run pg w = Px (w.cell? x) w (Qg pg 32 x w) := Kx Tryd.underlying32 rfl x w
theorem YH : (pg).info? 39 = some Tryd.t39 := by kernel_rfl
theorem Ao {n : Nat} {ps : List (Nat × ahB)} {cells : Array ahB} {w : ahA} (h1 : ¬ n * 1 > 2 ^ 24) (h0 : ¬ n * 1 = 0) (hf : Go.Instr.fill (fun j => some (j * 1, 1)) ((Array.range (n * 1)).map ((Tryd.t39.zero.get!).cells[· % (Tryd.t39.zero.get!).cells.size]!)) ps = some cells) {K : ahB -> ahA -> Prop} (hk : ∀ w', jI w' w.heap.size cells.toList -> gV w w' jN -> w'.heap.size = w.heap.size + 1 -> K (.slice (some ⟨w.heap.size, 0, none⟩) n n) w') : eY pg (iL 98 n ps) w K := Dw (i := Tryd.t39) Tryd.underlying98 YH rfl h1 h0 hf hk
theorem WJ : (pg).info? 29 = some Tryd.t29 := by kernel_rfl
theorem cH (b o : Nat) (w : ahA) : (gM 67 (.pointer (some ⟨b, o, none⟩)) 7).run pg w = .ok (.value (.pointer (some ⟨b, o + 9, none⟩))) w := kX (i := 7) Tryd.underlying67 rfl WJ (by decide) _
theorem Df {b off : Nat} {cs : List ahB} {w : ahA} {v : ahB} {K : ahB -> ahA -> Prop} (ho : jI w b cs) (hv : one v = true) (h : off < cs.length) (hk : ∀ w', jI w' b (cs.set off v) -> gV w w' (fun x => x = b) -> w'.heap.size = w.heap.size -> K undef w') : eY pg (iG 29 (.pointer (some ⟨b, off, none⟩)) v) w K := nY WJ rfl ho hv h hk
theorem dT (x : Addr) (w : ahA) : (gJ 29 (.pointer (some x))).run pg w = Px (w.cell? x) w (Qg pg 29 x w) := Kx Tryd.underlying29 rfl x w
theorem Y7 : (pg).info? 9 = some Tryd.t9 := by kernel_rfl
theorem bD (b o : Nat) (w : ahA) : (gM 67 (.pointer (some ⟨b, o, none⟩)) 1).run pg w = .ok (.value (.pointer (some ⟨b, o + 1, none⟩))) w := kX (i := 1) Tryd.underlying67 rfl Y7 (by decide) _
theorem eK (x : Addr) (w : ahA) : (gJ 9 (.pointer (some x))).run pg w = Px (w.cell? x) w (Qg pg 9 x w) := Kx Tryd.underlying9 rfl x w
theorem WQ : (pg).info? 61 = some Tryd.t61 := by kernel_rfl
theorem bT (b o : Nat) (w : ahA) : (gM 64 (.pointer (some ⟨b, o, none⟩)) 2).run pg w = .ok (.value (.pointer (some ⟨b, o + 2, none⟩))) w := kX (i := 2) Tryd.underlying64 rfl WQ (by decide) _
theorem dF (x : Addr) (w : ahA) : (gJ 61 (.pointer (some x))).run pg w = Px (w.cell? x) w (Qg pg 61 x w) := Kx Tryd.underlying61 rfl x w
theorem Q1 : (pg).info? 22 = some Tryd.t22 := by kernel_rfl
theorem BT {w : ahA} {m : Nat} {l : List (ByteArray × ahB)} (hm : Mp w m (fun s : ByteArray => Value.string s) l) (k : ByteArray) : (Ay 61 (.map (some m)) ((fun s : ByteArray => Value.string s) k) true).run pg w = .ok (.value (.tuple #[(H2 k l).getD (.slice none 0 0), .bool (H2 k l).isSome])) w := Zy Tryd.underlying61 Q1 rfl (J8 Tryd.underlying9) hm k
theorem Pd {w : ahA} {m : Nat} {l : List (ByteArray × ahB)} (hm : Mp w m (fun s : ByteArray => Value.string s) l) (k : ByteArray) : (Ay 61 (.map (some m)) ((fun s : ByteArray => Value.string s) k) false).run pg w = .ok (.value ((H2 k l).getD (.slice none 0 0))) w := XQ Tryd.underlying61 Q1 rfl (J8 Tryd.underlying9) hm k
theorem bR {ox oy : Operand} (x : Option Addr) (w : ahA) : (gO .neq 35 ox oy (.pointer x) (.pointer none)).run pg w = .ok (.value (.bool (!x.isNone))) w := V8 Tryd.underlying35 x
theorem aT (b o : Nat) (w : ahA) : (gM 67 (.pointer (some ⟨b, o, none⟩)) 3).run pg w = .ok (.value (.pointer (some ⟨b, o + 5, none⟩))) w := kX (i := 3) Tryd.underlying67 rfl QV (by decide) _
theorem RU : (pg).info? 3 = some Tryd.t3 := by kernel_rfl
theorem bV (b o : Nat) (w : ahA) : (gM 64 (.pointer (some ⟨b, o, none⟩)) 0).run pg w = .ok (.value (.pointer (some ⟨b, o, none⟩))) w := kX (i := 0) Tryd.underlying64 rfl RU (by decide) _
theorem aC (n0 : Int) (s1 : ByteArray) (n2 : Int) (a3 : Option Addr) (l3 c3 : Nat) (w : ahA) : (lZ 88 [(0, (.int .i64 n0)), (1, (.string s1)), (3, (.int .i64 n2)), (4, (.slice a3 l3 c3))]).run pg w = .ok (.value (.agg #[(.int .i64 n0), (.string s1), (.string ⟨#[]⟩), (.int .i64 n2), (.slice a3 l3 c3)])) w := by kernel_rfl
theorem JK {b off : Nat} {cs : List ahB} {w : ahA} (ho : jI w b cs) (h : off + 32 <= cs.length) {K : ahB -> Prop} (hk : K (.agg ((cs.drop off).take 32).toArray)) : VR pg 49 (.pointer (some ⟨b, off, none⟩)) w K := Rg Tryd.underlying49 rfl Mn ho h hk
theorem GU {w : ahA} {K : ahB -> ahA -> Prop} (hk : ∀ w', jI w' w.heap.size [(.int .u8 0), (.int .u8 0), (.int .u8 0), (.int .u8 0), (.int .u8 0), (.int .u8 0), (.int .u8 0), (.int .u8 0), (.int .u8 0), (.int .u8 0), (.int .u8 0), (.int .u8 0), (.int .u8 0), (.int .u8 0), (.int .u8 0), (.int .u8 0), (.int .u8 0), (.int .u8 0), (.int .u8 0), (.int .u8 0), (.int .u8 0), (.int .u8 0), (.int .u8 0), (.int .u8 0), (.int .u8 0), (.int .u8 0), (.int .u8 0), (.int .u8 0), (.int .u8 0), (.int .u8 0), (.int .u8 0), (.int .u8 0)] -> gV w w' jN -> w'.heap.size = w.heap.size + 1 -> K (.pointer (some ⟨w.heap.size, 0, none⟩)) w') : eY pg (lY 49) w K := sX (i := Tryd.t49) Mn rfl hk
theorem Cq {base n m : Nat} {ty : TypeId} {w : ahA} {v x : ahB} {l news : List ahB} (h : Ac w base 1 v n l) (hx : Cl w 1 x m news) (hone : ∀ y ∈ news, one y = true) (hb : base <= w.heap.size) (hbytes : (n + m) * 1 <= 140737488355328) {K : ahB -> ahA -> Prop} (hk : ∀ v' w', Ac w' base 1 v' (n + m) (l ++ news) -> gV w w' (fun y => base <= y) -> K v' w') : eY pg (mV .append #[22, 22] ty [v, x]) w K := LJ (i := Tryd.t5) Tryd.underlying22 Tryd.underlying22 Jl rfl rfl rfl h hx hone hb (by omega) hbytes (by decide) hk
theorem JH {b off : Nat} {cs : List ahB} {w : ahA} {xs : Array ahB} {K : ahB -> ahA -> Prop} (ho : jI w b cs) (hs : xs.size = 32) (hv : ∀ x ∈ xs.toList, one x = true) (h : off + 32 <= cs.length) (hk : ∀ w', jI w' b (nA cs off xs.toList) -> gV w w' (fun x => x = b) -> w'.heap.size = w.heap.size -> K undef w') : eY pg (iG 49 (.pointer (some ⟨b, off, none⟩)) (.agg xs)) w K := BI (v := .agg xs) Mn ho hs hv h hk
theorem bY (b o : Nat) (w : ahA) : (gM 64 (.pointer (some ⟨b, o, none⟩)) 1).run pg w = .ok (.value (.pointer (some ⟨b, o + 1, none⟩))) w := kX (i := 1) Tryd.underlying64 rfl WQ (by decide) _
theorem KK {b off : Nat} {cs : List ahB} {w : ahA} {v : ahB} {K : ahB -> ahA -> Prop} (ho : jI w b cs) (hv : one v = true) (h : off < cs.length) (hk : ∀ w', jI w' b (cs.set off v) -> gV w w' (fun x => x = b) -> w'.heap.size = w.heap.size -> K undef w') : eY pg (iG 61 (.pointer (some ⟨b, off, none⟩)) v) w K := nY WQ rfl ho hv h hk
theorem YL : (pg).info? 62 = some Tryd.t62 := by kernel_rfl
theorem bQ (b o : Nat) (w : ahA) : (gM 64 (.pointer (some ⟨b, o, none⟩)) 3).run pg w = .ok (.value (.pointer (some ⟨b, o + 3, none⟩))) w := kX (i := 3) Tryd.underlying64 rfl YL (by decide) _
theorem uH {b off : Nat} {cs : List ahB} {w : ahA} {v : ahB} {K : ahB -> ahA -> Prop} (ho : jI w b cs) (hv : one v = true) (h : off < cs.length) (hk : ∀ w', jI w' b (cs.set off v) -> gV w w' (fun x => x = b) -> w'.heap.size = w.heap.size -> K undef w') : eY pg (iG 62 (.pointer (some ⟨b, off, none⟩)) v) w K := nY YL rfl ho hv h hk
theorem cA {ox oy : Operand} (x : Option Addr) (w : ahA) : (gO .neq 32 ox oy (.pointer x) (.pointer none)).run pg w = .ok (.value (.bool (!x.isNone))) w := V8 Tryd.underlying32 x
theorem bX (b o : Nat) (w : ahA) : (gM 64 (.pointer (some ⟨b, o, none⟩)) 4).run pg w = .ok (.value (.pointer (some ⟨b, o + 4, none⟩))) w := kX (i := 4) Tryd.underlying64 rfl RU (by decide) _
theorem HD {b off : Nat} {cs : List ahB} {w : ahA} {v : ahB} {K : ahB -> ahA -> Prop} (ho : jI w b cs) (hv : one v = true) (h : off < cs.length) (hk : ∀ w', jI w' b (cs.set off v) -> gV w w' (fun x => x = b) -> w'.heap.size = w.heap.size -> K undef w') : eY pg (iG 3 (.pointer (some ⟨b, off, none⟩)) v) w K := nY RU rfl ho hv h hk
theorem aY (x : Addr) (w : ahA) : (gJ 62 (.pointer (some x))).run pg w = Px (w.cell? x) w (Qg pg 62 x w) := Kx Tryd.underlying62 rfl x w
theorem aU {ty : TypeId} (x : Option Addr) (n c : Nat) (w : ahA) : (mV .len #[62] ty [.slice x n c]).run pg w = .ok (.value (.int .i64 n)) w := ND Tryd.underlying62 x n c
theorem QR : (pg).info? 88 = some Tryd.t88 := by kernel_rfl
theorem bA {k : IntKind} {a : Int} (b o n c : Nat) (w : ahA) (h0 : 0 <= a) (h1 : a < n) : (iK 62 (.slice (some ⟨b, o, none⟩) n c) (.int k a)).run pg w = .ok (.value (.pointer (some ⟨b, o + a.toNat * 5, none⟩))) w := Nm rfl Tryd.underlying62 QR b o n c h0 h1
theorem pE {b off : Nat} {cs : List ahB} {w : ahA} (ho : jI w b cs) (h : off + 5 <= cs.length) : (gJ 88 (.pointer (some ⟨b, off, none⟩))).run pg w = .ok (.value (.agg ((cs.drop off).take 5).toArray)) w := HC Tryd.underlying88 rfl QR ho h
theorem MO {w : ahA} {K : ahB -> ahA -> Prop} (hk : ∀ w', jI w' w.heap.size [(.int .i64 0), (.string ⟨#[]⟩), (.string ⟨#[]⟩), (.int .i64 0), (.slice none 0 0)] -> gV w w' jN -> w'.heap.size = w.heap.size + 1 -> K (.pointer (some ⟨w.heap.size, 0, none⟩)) w') : eY pg (lY 88) w K := sX (i := Tryd.t88) QR rfl hk
theorem Lr {b off : Nat} {cs : List ahB} {w : ahA} {xs : Array ahB} {K : ahB -> ahA -> Prop} (ho : jI w b cs) (hs : xs.size = 5) (hv : ∀ x ∈ xs.toList, one x = true) (h : off + 5 <= cs.length) (hk : ∀ w', jI w' b (nA cs off xs.toList) -> gV w w' (fun x => x = b) -> w'.heap.size = w.heap.size -> K undef w') : eY pg (iG 88 (.pointer (some ⟨b, off, none⟩)) (.agg xs)) w K := BI (v := .agg xs) QR ho hs hv h hk
theorem bU (b o : Nat) (w : ahA) : (gM 64 (.pointer (some ⟨b, o, none⟩)) 5).run pg w = .ok (.value (.pointer (some ⟨b, o + 5, none⟩))) w := kX (i := 5) Tryd.underlying64 rfl Tz (by decide) _
theorem dL {k : IntKind} (a : Int) (w : ahA) : (lL 24 3 (.int k a)).run pg w = .ok (.value (.int .i64 (IntKind.i64.wrap a))) w := CJ Tryd.underlying24 Tryd.underlying3
theorem cP {ox oy : Operand} (x : Option Addr) (n c : Nat) (w : ahA) : (gO .eql 26 ox oy (.slice x n c) (.slice none 0 0)).run pg w = .ok (.value (.bool x.isNone)) w := Rf Tryd.underlying26 x n c
theorem bO (b o : Nat) (w : ahA) : (gM 67 (.pointer (some ⟨b, o, none⟩)) 5).run pg w = .ok (.value (.pointer (some ⟨b, o + 7, none⟩))) w := kX (i := 5) Tryd.underlying67 rfl RU (by decide) _
theorem aV (n0 : Int) (n1 : Int) (w : ahA) : (lZ 77 [(0, (.int .u8 n0)), (1, (.int .u64 n1))]).run pg w = .ok (.value (.agg #[(.int .u8 n0), (.int .u64 n1)])) w := by kernel_rfl
theorem NV {k : IntKind} {n : Int} {w : ahA} {K : ahB -> ahA -> Prop} (h0 : 0 <= n) (hn : 1 * n <= 2 ^ 48) (hk : ∀ w', jI w' w.heap.size (List.replicate n.toNat (.int .u8 0)) -> gV w w' jN -> w'.heap.size = w.heap.size + 1 -> K (.slice (some ⟨w.heap.size, 0, none⟩) n.toNat n.toNat) w') : eY pg (vK 22 (.int k n) (.int k n)) w K := SW (i := Tryd.t5) Tryd.underlying22 Jl rfl rfl rfl h0 hn (by omega) hk
theorem aJ {ty : TypeId} (x : Option Addr) (n c : Nat) (w : ahA) : (mV .len #[98] ty [.slice x n c]).run pg w = .ok (.value (.int .i64 n)) w := ND Tryd.underlying98 x n c
theorem aM {k : IntKind} {a : Int} (b o n c : Nat) (w : ahA) (h0 : 0 <= a) (h1 : a < n) : (iK 98 (.slice (some ⟨b, o, none⟩) n c) (.int k a)).run pg w = .ok (.value (.pointer (some ⟨b, o + a.toNat, none⟩))) w := Nn rfl Tryd.underlying98 YH b o n c h0 h1
theorem bG (x : Addr) (w : ahA) : (gJ 39 (.pointer (some x))).run pg w = Px (w.cell? x) w (Qg pg 39 x w) := Kx Tryd.underlying39 rfl x w
theorem aF (n0 : Int) (s1 : ByteArray) (s2 : ByteArray) (w : ahA) : (lZ 88 [(0, (.int .i64 n0)), (1, (.string s1)), (2, (.string s2))]).run pg w = .ok (.value (.agg #[(.int .i64 n0), (.string s1), (.string s2), (.int .i64 0), (.slice none 0 0)])) w := by kernel_rfl
theorem dC {ox oy : Operand} (x : Option Addr) (n c : Nat) (w : ahA) : (gO .eql 22 ox oy (.slice x n c) (.slice none 0 0)).run pg w = .ok (.value (.bool x.isNone)) w := Rf Tryd.underlying22 x n c
theorem Qn {w : ahA} {m : Nat} {l : List (ByteArray × ahB)} (hm : Mp w m (fun s : ByteArray => Value.string s) l) {K : ahB -> ahA -> Prop} (hk : ∀ w', YR w' w.heap.size m (fun s : ByteArray => Value.string s) l -> gV w w' jN -> w'.heap.size = w.heap.size + 1 -> K (.pointer (some ⟨w.heap.size, 0, none⟩)) w') : eY pg (PC 61 (.map (some m))) w K := UR Tryd.underlying61 hm hk
theorem Js {n : Nat} {ps : List (Nat × ahB)} {cells : Array ahB} {w : ahA} (h1 : ¬ n * 5 > 2 ^ 24) (h0 : ¬ n * 5 = 0) (hf : Go.Instr.fill (fun j => some (j * 5, 5)) ((Array.range (n * 5)).map ((Tryd.t88.zero.get!).cells[· % (Tryd.t88.zero.get!).cells.size]!)) ps = some cells) {K : ahB -> ahA -> Prop} (hk : ∀ w', jI w' w.heap.size cells.toList -> gV w w' jN -> w'.heap.size = w.heap.size + 1 -> K (.slice (some ⟨w.heap.size, 0, none⟩) n n) w') : eY pg (iL 62 n ps) w K := Dw (i := Tryd.t88) Tryd.underlying62 QR rfl h1 h0 hf hk
theorem dW {ox oy : Operand} (x : Option Addr) (n c : Nat) (w : ahA) : (gO .eql 45 ox oy (.slice x n c) (.slice none 0 0)).run pg w = .ok (.value (.bool x.isNone)) w := Rf Tryd.underlying45 x n c
theorem Lq {base n m : Nat} {ty : TypeId} {w : ahA} {v x : ahB} {l news : List ahB} (h : Ac w base 1 v n l) (hx : Cl w 1 x m news) (hone : ∀ y ∈ news, one y = true) (hb : base <= w.heap.size) (hbytes : (n + m) * 1 <= 140737488355328) {K : ahB -> ahA -> Prop} (hk : ∀ v' w', Ac w' base 1 v' (n + m) (l ++ news) -> gV w w' (fun y => base <= y) -> K v' w') : eY pg (mV .append #[45, 45] ty [v, x]) w K := LJ (i := Tryd.t4) Tryd.underlying45 Tryd.underlying45 Tz rfl rfl rfl h hx hone hb (by omega) hbytes (by decide) hk
theorem aK (b o : Nat) (w : ahA) : (gM 88 (.pointer (some ⟨b, o, none⟩)) 1).run pg w = .ok (.value (.pointer (some ⟨b, o + 1, none⟩))) w := kX (i := 1) Tryd.underlying88 rfl Y7 (by decide) _
theorem aN (b o : Nat) (w : ahA) : (gM 88 (.pointer (some ⟨b, o, none⟩)) 0).run pg w = .ok (.value (.pointer (some ⟨b, o, none⟩))) w := kX (i := 0) Tryd.underlying88 rfl RU (by decide) _
theorem aZ (b o : Nat) (w : ahA) : (gM 88 (.pointer (some ⟨b, o, none⟩)) 3).run pg w = .ok (.value (.pointer (some ⟨b, o + 3, none⟩))) w := kX (i := 3) Tryd.underlying88 rfl RU (by decide) _
theorem aG (b o : Nat) (w : ahA) : (gM 88 (.pointer (some ⟨b, o, none⟩)) 4).run pg w = .ok (.value (.pointer (some ⟨b, o + 4, none⟩))) w := kX (i := 4) Tryd.underlying88 rfl Q1 (by decide) _
theorem Fh {ty : TypeId} {w : ahA} {b off dl c : Nat} {cs : List ahB} (ho : jI w b cs) (hl : off + dl <= cs.length) {v : ahB} {l : List ahB} (h : Sl w v l) (hv : ∀ x ∈ l, one x = true) {K : ahB -> ahA -> Prop} (hk : ∀ w', jI w' b (nA cs off (l.take (min l.length dl))) -> gV w w' (fun x => x = b) -> w'.heap.size = w.heap.size -> K (.int .i64 (min l.length dl : Nat)) w') : eY pg (mV .copy #[22, 22] ty [.slice (some ⟨b, off, none⟩) dl c, v]) w K := R2 Tryd.underlying22 Jl rfl ho hl h hv hk
theorem cY {k : IntKind} {lo : Int} (a : Option Addr) (n c : Nat) (w : ahA) (h0 : 0 <= lo) (h1 : lo <= n) : (mG 22 (.slice a n c) (some (.int k lo)) none none).run pg w = .ok (.value (.slice (kA a c (lo.toNat) 1) (n - lo.toNat) (c - lo.toNat))) w := TD Tryd.underlying22 Jl _ n c h0 h1
theorem KF {w : ahA} {m : Nat} {l : List (ByteArray × ahB)} (hm : Mp w m (fun s : ByteArray => Value.string s) l) (k : ByteArray) (v : ahB) {K : ahB -> ahA -> Prop} (hk : ∀ w', Mp w' m (fun s : ByteArray => Value.string s) (TB k v l) -> gV w w' (fun y => y = m) -> w'.heap.size = w.heap.size -> K undef w') : eY pg (Li 61 (.map (some m)) ((fun s : ByteArray => Value.string s) k) v) w K := UK Tryd.underlying61 (J8 Tryd.underlying9) hm k v hk
theorem Lb {ty : TypeId} {w : ahA} {m : Nat} {l : List (ByteArray × ahB)} (hm : Mp w m (fun s : ByteArray => Value.string s) l) (k : ByteArray) {K : ahB -> ahA -> Prop} (hk : ∀ w', Mp w' m (fun s : ByteArray => Value.string s) (del k l) -> gV w w' (fun y => y = m) -> w'.heap.size = w.heap.size -> K (.tuple #[]) w') : eY pg (mV .delete #[61, 9] ty [.map (some m), .string k]) w K := TP Tryd.underlying61 (J8 Tryd.underlying9) hm k hk
theorem aD (b o : Nat) (w : ahA) : (gM 88 (.pointer (some ⟨b, o, none⟩)) 2).run pg w = .ok (.value (.pointer (some ⟨b, o + 2, none⟩))) w := kX (i := 2) Tryd.underlying88 rfl Y7 (by decide) _
theorem YD : (pg).info? 72 = some Tryd.t72 := by kernel_rfl
theorem Kt {w : ahA} {K : ahB -> ahA -> Prop} (hk : ∀ w', jI w' w.heap.size [(.slice none 0 0)] -> gV w w' jN -> w'.heap.size = w.heap.size + 1 -> K (.pointer (some ⟨w.heap.size, 0, none⟩)) w') : eY pg (lY 72) w K := sX (i := Tryd.t72) YD rfl hk
theorem Zs {w : ahA} {K : ahB -> ahA -> Prop} (hk : ∀ w', jI w' w.heap.size [(.int .i64 0)] -> gV w w' jN -> w'.heap.size = w.heap.size + 1 -> K (.pointer (some ⟨w.heap.size, 0, none⟩)) w') : eY pg (lY 3) w K := sX (i := Tryd.t3) RU rfl hk
theorem cL {k : IntKind} (a : Int) (w : ahA) : (lL 24 5 (.int k a)).run pg w = .ok (.value (.int .u8 (IntKind.u8.wrap a))) w := CJ Tryd.underlying24 Tryd.underlying5
theorem bW  (w : ahA) : (lZ 77 []).run pg w = .ok (.value (.agg #[(.int .u8 0), (.int .u64 0)])) w := by kernel_rfl
theorem bH (x : Addr) (w : ahA) : (gJ 72 (.pointer (some x))).run pg w = Px (w.cell? x) w (Qg pg 72 x w) := Kx Tryd.underlying72 rfl x w
theorem Ku {n : Nat} {ps : List (Nat × ahB)} {cells : Array ahB} {w : ahA} (h1 : ¬ n * 2 > 2 ^ 24) (h0 : ¬ n * 2 = 0) (hf : Go.Instr.fill (fun j => some (j * 2, 2)) ((Array.range (n * 2)).map ((Tryd.t77.zero.get!).cells[· % (Tryd.t77.zero.get!).cells.size]!)) ps = some cells) {K : ahB -> ahA -> Prop} (hk : ∀ w', jI w' w.heap.size cells.toList -> gV w w' jN -> w'.heap.size = w.heap.size + 1 -> K (.slice (some ⟨w.heap.size, 0, none⟩) n n) w') : eY pg (iL 72 n ps) w K := Dw (i := Tryd.t77) Tryd.underlying72 OV rfl h1 h0 hf hk
theorem Kz {b off : Nat} {cs : List ahB} {w : ahA} {v : ahB} {K : ahB -> ahA -> Prop} (ho : jI w b cs) (hv : one v = true) (h : off < cs.length) (hk : ∀ w', jI w' b (cs.set off v) -> gV w w' (fun x => x = b) -> w'.heap.size = w.heap.size -> K undef w') : eY pg (iG 72 (.pointer (some ⟨b, off, none⟩)) v) w K := nY YD rfl ho hv h hk
theorem aP (n0 : Int) (s1 : ByteArray) (w : ahA) : (lZ 88 [(0, (.int .i64 n0)), (1, (.string s1))]).run pg w = .ok (.value (.agg #[(.int .i64 n0), (.string s1), (.string ⟨#[]⟩), (.int .i64 0), (.slice none 0 0)])) w := by kernel_rfl
theorem cM {k : IntKind} (a : Int) (w : ahA) : (lL 5 24 (.int k a)).run pg w = .ok (.value (.int .u64 (IntKind.u64.wrap a))) w := CJ Tryd.underlying5 Tryd.underlying24
theorem bZ {k : IntKind} (a : Int) (w : ahA) : (lL 25 24 (.int k a)).run pg w = .ok (.value (.int .u64 (IntKind.u64.wrap a))) w := CJ Tryd.underlying25 Tryd.underlying24
theorem aA (n0 : Int) (n1 : Int) (n2 : Int) (n3 : Int) (n4 : Int) (n5 : Int) (n6 : Int) (n7 : Int) (w : ahA) : (lZ 119 [(0, (.int .u32 n0)), (1, (.int .u32 n1)), (2, (.int .u32 n2)), (3, (.int .u32 n3)), (4, (.int .u32 n4)), (5, (.int .u32 n5)), (6, (.int .u32 n6)), (7, (.int .u32 n7))]).run pg w = .ok (.value (.agg #[(.int .u32 n0), (.int .u32 n1), (.int .u32 n2), (.int .u32 n3), (.int .u32 n4), (.int .u32 n5), (.int .u32 n6), (.int .u32 n7)])) w := by kernel_rfl
theorem dD (Z4 aaI aaP aaF ZP ZM ZW Z6 : ahB) (w : ahA) : (lZ 122 [(0, (.agg #[Z4, aaI, aaP, aaF, ZP, ZM, ZW, Z6]))]).run pg w = .ok (.value (.agg #[Z4, aaI, aaP, aaF, ZP, ZM, ZW, Z6, (.int .u8 0), (.int .u8 0), (.int .u8 0), (.int .u8 0), (.int .u8 0), (.int .u8 0), (.int .u8 0), (.int .u8 0), (.int .u8 0), (.int .u8 0), (.int .u8 0), (.int .u8 0), (.int .u8 0), (.int .u8 0), (.int .u8 0), (.int .u8 0), (.int .u8 0), (.int .u8 0), (.int .u8 0), (.int .u8 0), (.int .u8 0), (.int .u8 0), (.int .u8 0), (.int .u8 0), (.int .u8 0), (.int .u8 0), (.int .u8 0), (.int .u8 0), (.int .u8 0), (.int .u8 0), (.int .u8 0), (.int .u8 0), (.int .u8 0), (.int .u8 0), (.int .u8 0), (.int .u8 0), (.int .u8 0), (.int .u8 0), (.int .u8 0), (.int .u8 0), (.int .u8 0), (.int .u8 0), (.int .u8 0), (.int .u8 0), (.int .u8 0), (.int .u8 0), (.int .u8 0), (.int .u8 0), (.int .u8 0), (.int .u8 0), (.int .u8 0), (.int .u8 0), (.int .u8 0), (.int .u8 0), (.int .u8 0), (.int .u8 0), (.int .u8 0), (.int .u8 0), (.int .u8 0), (.int .u8 0), (.int .u8 0), (.int .u8 0), (.int .u8 0), (.int .u8 0), (.int .i64 0), (.int .u64 0)])) w := by kernel_rfl
theorem cO {ox oy : Operand} (x : Option Addr) (w : ahA) : (gO .eql 100 ox oy (.pointer x) (.pointer none)).run pg w = .ok (.value (.bool x.isNone)) w := Nz Tryd.underlying100 x
theorem cU (b o : Nat) (w : ahA) : (gM 122 (.pointer (some ⟨b, o, none⟩)) 3).run pg w = .ok (.value (.pointer (some ⟨b, o + 73, none⟩))) w := kX (i := 3) Tryd.underlying122 rfl QV (by decide) _
theorem Wh : (pg).info? 120 = some Tryd.t120 := by kernel_rfl
theorem cG (b o : Nat) (w : ahA) : (gM 122 (.pointer (some ⟨b, o, none⟩)) 1).run pg w = .ok (.value (.pointer (some ⟨b, o + 8, none⟩))) w := kX (i := 1) Tryd.underlying122 rfl Wh (by decide) _
theorem dI (b o : Nat) (w : ahA) : (gM 122 (.pointer (some ⟨b, o, none⟩)) 2).run pg w = .ok (.value (.pointer (some ⟨b, o + 72, none⟩))) w := kX (i := 2) Tryd.underlying122 rfl RU (by decide) _
theorem cD {k : IntKind} {lo : Int} (b o : Nat) (w : ahA) (h0 : 0 <= lo) (h1 : lo <= 64) : (mG 120 (.pointer (some ⟨b, o, none⟩)) (some (.int k lo)) none none).run pg w = .ok (.value (.slice (some (CG ⟨b, o, none⟩ 64 (lo.toNat) 1)) (64 - lo.toNat) (64 - lo.toNat))) w := Oa Tryd.underlying120 Jl _ h0 (by simpa using h1)
theorem PI : (pg).info? 119 = some Tryd.t119 := by kernel_rfl
theorem dG (b o : Nat) (w : ahA) : (gM 122 (.pointer (some ⟨b, o, none⟩)) 0).run pg w = .ok (.value (.pointer (some ⟨b, o, none⟩))) w := kX (i := 0) Tryd.underlying122 rfl PI (by decide) _
theorem Fv {b off : Nat} {cs : List ahB} {w : ahA} (ho : jI w b cs) (h : off + 8 <= cs.length) : (gJ 119 (.pointer (some ⟨b, off, none⟩))).run pg w = .ok (.value (.agg ((cs.drop off).take 8).toArray)) w := HC Tryd.underlying119 rfl PI ho h
theorem JX {b off : Nat} {cs : List ahB} {w : ahA} (ho : jI w b cs) (h : off + 64 <= cs.length) : (gJ 120 (.pointer (some ⟨b, off, none⟩))).run pg w = .ok (.value (.agg ((cs.drop off).take 64).toArray)) w := HC Tryd.underlying120 rfl Wh ho h
theorem FL {b off : Nat} {cs : List ahB} {w : ahA} {xs : Array ahB} {K : ahB -> ahA -> Prop} (ho : jI w b cs) (hs : xs.size = 8) (hv : ∀ x ∈ xs.toList, one x = true) (h : off + 8 <= cs.length) (hk : ∀ w', jI w' b (nA cs off xs.toList) -> gV w w' (fun x => x = b) -> w'.heap.size = w.heap.size -> K undef w') : eY pg (iG 119 (.pointer (some ⟨b, off, none⟩)) (.agg xs)) w K := BI (v := .agg xs) PI ho hs hv h hk
theorem TN : (pg).info? 122 = some Tryd.t122 := by kernel_rfl
theorem Ry {b off : Nat} {cs : List ahB} {w : ahA} (ho : jI w b cs) (h : off + 74 <= cs.length) : (gJ 122 (.pointer (some ⟨b, off, none⟩))).run pg w = .ok (.value (.agg ((cs.drop off).take 74).toArray)) w := HC Tryd.underlying122 rfl TN ho h
theorem RT {w : ahA} {K : ahB -> ahA -> Prop} (hk : ∀ w', jI w' w.heap.size [(.int .u32 0), (.int .u32 0), (.int .u32 0), (.int .u32 0), (.int .u32 0), (.int .u32 0), (.int .u32 0), (.int .u32 0), (.int .u8 0), (.int .u8 0), (.int .u8 0), (.int .u8 0), (.int .u8 0), (.int .u8 0), (.int .u8 0), (.int .u8 0), (.int .u8 0), (.int .u8 0), (.int .u8 0), (.int .u8 0), (.int .u8 0), (.int .u8 0), (.int .u8 0), (.int .u8 0), (.int .u8 0), (.int .u8 0), (.int .u8 0), (.int .u8 0), (.int .u8 0), (.int .u8 0), (.int .u8 0), (.int .u8 0), (.int .u8 0), (.int .u8 0), (.int .u8 0), (.int .u8 0), (.int .u8 0), (.int .u8 0), (.int .u8 0), (.int .u8 0), (.int .u8 0), (.int .u8 0), (.int .u8 0), (.int .u8 0), (.int .u8 0), (.int .u8 0), (.int .u8 0), (.int .u8 0), (.int .u8 0), (.int .u8 0), (.int .u8 0), (.int .u8 0), (.int .u8 0), (.int .u8 0), (.int .u8 0), (.int .u8 0), (.int .u8 0), (.int .u8 0), (.int .u8 0), (.int .u8 0), (.int .u8 0), (.int .u8 0), (.int .u8 0), (.int .u8 0), (.int .u8 0), (.int .u8 0), (.int .u8 0), (.int .u8 0), (.int .u8 0), (.int .u8 0), (.int .u8 0), (.int .u8 0), (.int .i64 0), (.int .u64 0)] -> gV w w' jN -> w'.heap.size = w.heap.size + 1 -> K (.pointer (some ⟨w.heap.size, 0, none⟩)) w') : eY pg (lY 122) w K := sX (i := Tryd.t122) TN rfl hk
theorem Rc {b off : Nat} {cs : List ahB} {w : ahA} {xs : Array ahB} {K : ahB -> ahA -> Prop} (ho : jI w b cs) (hs : xs.size = 74) (hv : ∀ x ∈ xs.toList, one x = true) (h : off + 74 <= cs.length) (hk : ∀ w', jI w' b (nA cs off xs.toList) -> gV w w' (fun x => x = b) -> w'.heap.size = w.heap.size -> K undef w') : eY pg (iG 122 (.pointer (some ⟨b, off, none⟩)) (.agg xs)) w K := BI (v := .agg xs) TN ho hs hv h hk
theorem dU {k : IntKind} {a : Int} (b o : Nat) (w : ahA) (h0 : 0 <= a) (h1 : a < 8) : (iK 119 (.pointer (some ⟨b, o, none⟩)) (.int k a)).run pg w = .ok (.value (.pointer (some ⟨b, o + a.toNat, none⟩))) w := J4 rfl Tryd.underlying119 Mr b o h0 (by simpa using h1)
theorem cQ {k : IntKind} (a : Int) (w : ahA) : (lL 25 5 (.int k a)).run pg w = .ok (.value (.int .u8 (IntKind.u8.wrap a))) w := CJ Tryd.underlying25 Tryd.underlying5
theorem eC {k : IntKind} {a : Int} (b o : Nat) (w : ahA) (h0 : 0 <= a) (h1 : a < 32) : (iK 49 (.pointer (some ⟨b, o, none⟩)) (.int k a)).run pg w = .ok (.value (.pointer (some ⟨b, o + a.toNat, none⟩))) w := J4 rfl Tryd.underlying49 Jl b o h0 (by simpa using h1)
theorem eI {ox oy : Operand} (c d : Bool) (w : ahA) : (gO .eql 4 ox oy (.bool c) (.bool d)).run pg w = .ok (.value (.bool (c == d))) w := Zm c d Tryd.underlying4
theorem bN (a0 : Option Addr) (l0 c0 : Nat) (w : ahA) : (lZ 126 [(0, (.slice a0 l0 c0))]).run pg w = .ok (.value (.agg #[(.slice a0 l0 c0), (.int .i64 0)])) w := by kernel_rfl
theorem aS {ox oy : Operand} (x : Option Addr) (w : ahA) : (gO .eql 109 ox oy (.pointer x) (.pointer none)).run pg w = .ok (.value (.bool x.isNone)) w := Nz Tryd.underlying109 x
theorem dZ {k : IntKind} (a : Int) (w : ahA) : (lL 3 128 (.int k a)).run pg w = .ok (.value (.int .u64 (IntKind.u64.wrap a))) w := CJ Tryd.underlying3 Tryd.underlying128
theorem bS  (w : ahA) : (lZ 130 []).run pg w = .ok (.value (.agg #[(.slice none 0 0)])) w := by kernel_rfl
theorem aQ {ox oy : Operand} (x : Option Addr) (w : ahA) : (gO .eql 113 ox oy (.pointer x) (.pointer none)).run pg w = .ok (.value (.bool x.isNone)) w := Nz Tryd.underlying113 x
theorem bL (b o : Nat) (w : ahA) : (gM 130 (.pointer (some ⟨b, o, none⟩)) 0).run pg w = .ok (.value (.pointer (some ⟨b, o, none⟩))) w := kX (i := 0) Tryd.underlying130 rfl Q1 (by decide) _
theorem NL {b off : Nat} {cs : List ahB} {w : ahA} {v : ahB} {K : ahB -> ahA -> Prop} (ho : jI w b cs) (hv : one v = true) (h : off < cs.length) (hk : ∀ w', jI w' b (cs.set off v) -> gV w w' (fun x => x = b) -> w'.heap.size = w.heap.size -> K undef w') : eY pg (iG 22 (.pointer (some ⟨b, off, none⟩)) v) w K := nY Q1 rfl ho hv h hk
theorem Qh {b off : Nat} {cs : List ahB} {w : ahA} (ho : jI w b cs) (h : off + 8 <= cs.length) {K : ahB -> Prop} (hk : K (.agg ((cs.drop off).take 8).toArray)) : VR pg 119 (.pointer (some ⟨b, off, none⟩)) w K := Rg Tryd.underlying119 rfl PI ho h hk
theorem MK {w : ahA} {K : ahB -> ahA -> Prop} (hk : ∀ w', jI w' w.heap.size [(.int .u32 0), (.int .u32 0), (.int .u32 0), (.int .u32 0), (.int .u32 0), (.int .u32 0), (.int .u32 0), (.int .u32 0)] -> gV w w' jN -> w'.heap.size = w.heap.size + 1 -> K (.pointer (some ⟨w.heap.size, 0, none⟩)) w') : eY pg (lY 119) w K := sX (i := Tryd.t119) PI rfl hk
theorem Zk : (pg).info? 134 = some Tryd.t134 := by kernel_rfl
theorem O5 {w : ahA} {K : ahB -> ahA -> Prop} (hk : ∀ w', jI w' w.heap.size [(.int .u32 0), (.int .u32 0), (.int .u32 0), (.int .u32 0), (.int .u32 0), (.int .u32 0), (.int .u32 0), (.int .u32 0), (.int .u32 0), (.int .u32 0), (.int .u32 0), (.int .u32 0), (.int .u32 0), (.int .u32 0), (.int .u32 0), (.int .u32 0), (.int .u32 0), (.int .u32 0), (.int .u32 0), (.int .u32 0), (.int .u32 0), (.int .u32 0), (.int .u32 0), (.int .u32 0), (.int .u32 0), (.int .u32 0), (.int .u32 0), (.int .u32 0), (.int .u32 0), (.int .u32 0), (.int .u32 0), (.int .u32 0), (.int .u32 0), (.int .u32 0), (.int .u32 0), (.int .u32 0), (.int .u32 0), (.int .u32 0), (.int .u32 0), (.int .u32 0), (.int .u32 0), (.int .u32 0), (.int .u32 0), (.int .u32 0), (.int .u32 0), (.int .u32 0), (.int .u32 0), (.int .u32 0), (.int .u32 0), (.int .u32 0), (.int .u32 0), (.int .u32 0), (.int .u32 0), (.int .u32 0), (.int .u32 0), (.int .u32 0), (.int .u32 0), (.int .u32 0), (.int .u32 0), (.int .u32 0), (.int .u32 0), (.int .u32 0), (.int .u32 0), (.int .u32 0)] -> gV w w' jN -> w'.heap.size = w.heap.size + 1 -> K (.pointer (some ⟨w.heap.size, 0, none⟩)) w') : eY pg (lY 134) w K := sX (i := Tryd.t134) Zk rfl hk
theorem dH {k : IntKind} {a : Int} (cs : Array ahB) (w : ahA) (h0 : 0 <= a) (h1 : a < 64) : (VC 120 (.agg cs) (.int k a)).run pg w = Px cs[a.toNat]? w (ZQ pg 120 cs k a w) := Zt Tryd.underlying120 Tryd.underlying5 rfl Jl rfl cs h0 (by simpa using h1)
theorem cZ {k : IntKind} {a : Int} (b o : Nat) (w : ahA) (h0 : 0 <= a) (h1 : a < 64) : (iK 134 (.pointer (some ⟨b, o, none⟩)) (.int k a)).run pg w = .ok (.value (.pointer (some ⟨b, o + a.toNat, none⟩))) w := J4 rfl Tryd.underlying134 Mr b o h0 (by simpa using h1)
theorem cV {k : IntKind} (a : Int) (w : ahA) : (lL 5 25 (.int k a)).run pg w = .ok (.value (.int .u32 (IntKind.u32.wrap a))) w := CJ Tryd.underlying5 Tryd.underlying25
theorem zQ {b off : Nat} {cs : List ahB} {w : ahA} {v : ahB} {K : ahB -> ahA -> Prop} (ho : jI w b cs) (hv : one v = true) (h : off < cs.length) (hk : ∀ w', jI w' b (cs.set off v) -> gV w w' (fun x => x = b) -> w'.heap.size = w.heap.size -> K undef w') : eY pg (iG 25 (.pointer (some ⟨b, off, none⟩)) v) w K := nY Mr rfl ho hv h hk
theorem cN {k : IntKind} {lo : Int} (b o : Nat) (w : ahA) (h0 : 0 <= lo) (h1 : lo <= 8) : (mG 119 (.pointer (some ⟨b, o, none⟩)) (some (.int k lo)) none none).run pg w = .ok (.value (.slice (some (CG ⟨b, o, none⟩ 8 (lo.toNat) 1)) (8 - lo.toNat) (8 - lo.toNat))) w := Oa Tryd.underlying119 Mr _ h0 (by simpa using h1)
theorem cS {k : IntKind} {hi : Int} (b o : Nat) (w : ahA) (h0 : 0 <= hi) (h1 : hi <= 8) : (mG 119 (.pointer (some ⟨b, o, none⟩)) none (some (.int k hi)) none).run pg w = .ok (.value (.slice (some (CG ⟨b, o, none⟩ 8 (0) 1)) (hi.toNat - 0) (8 - 0))) w := R0 Tryd.underlying119 Mr _ h0 (by simpa using h1)
theorem Q9 {ty : TypeId} {w : ahA} {b off dl c : Nat} {cs : List ahB} (ho : jI w b cs) (hl : off + dl <= cs.length) {v : ahB} {l : List ahB} (h : Sl w v l) (hv : ∀ x ∈ l, one x = true) {K : ahB -> ahA -> Prop} (hk : ∀ w', jI w' b (nA cs off (l.take (min l.length dl))) -> gV w w' (fun x => x = b) -> w'.heap.size = w.heap.size -> K (.int .i64 (min l.length dl : Nat)) w') : eY pg (mV .copy #[136, 136] ty [.slice (some ⟨b, off, none⟩) dl c, v]) w K := R2 Tryd.underlying136 Mr rfl ho hl h hv hk
theorem bK (b o : Nat) (w : ahA) : (gM 126 (.pointer (some ⟨b, o, none⟩)) 1).run pg w = .ok (.value (.pointer (some ⟨b, o + 1, none⟩))) w := kX (i := 1) Tryd.underlying126 rfl WJ (by decide) _
theorem bM (b o : Nat) (w : ahA) : (gM 126 (.pointer (some ⟨b, o, none⟩)) 0).run pg w = .ok (.value (.pointer (some ⟨b, o, none⟩))) w := kX (i := 0) Tryd.underlying126 rfl Q1 (by decide) _
theorem cX {k k' : IntKind} {hi mx : Int} (a : Option Addr) (n c : Nat) (w : ahA) (h0 : 0 <= hi) (h1 : hi <= mx) (h2 : mx <= c) : (mG 22 (.slice a n c) none (some (.int k hi)) (some (.int k' mx))).run pg w = .ok (.value (.slice (kA a mx.toNat 0 1) (hi.toNat - 0) (mx.toNat - 0))) w := T3 Tryd.underlying22 Jl a n c h0 h1 h2
theorem dR (n0 : Int) (w : ahA) : (lZ 138 [(0, (.int .u32 n0))]).run pg w = .ok (.value (.agg #[(.int .u32 n0)])) w := by kernel_rfl
theorem cR {ox oy : Operand} (x : Option Addr) (w : ahA) : (gO .eql 131 ox oy (.pointer x) (.pointer none)).run pg w = .ok (.value (.bool x.isNone)) w := Nz Tryd.underlying131 x
theorem dQ (b o : Nat) (w : ahA) : (gM 138 (.pointer (some ⟨b, o, none⟩)) 0).run pg w = .ok (.value (.pointer (some ⟨b, o, none⟩))) w := kX (i := 0) Tryd.underlying138 rfl Mr (by decide) _
theorem dB {k : IntKind} {a : Int} (b o : Nat) (w : ahA) (h0 : 0 <= a) (h1 : a < 16) : (iK 139 (.pointer (some ⟨b, o, none⟩)) (.int k a)).run pg w = .ok (.value (.pointer (some ⟨b, o + a.toNat, none⟩))) w := J4 rfl Tryd.underlying139 Mr b o h0 (by simpa using h1)
end Go.Proofs.YteelnmpbnaohpaaDoor
namespace Go.Pu
def Lc (p : Int) : Int := if p < 0 then 1 else p
def fits : Int -> List Int -> Bool
 | left, [] => left == 0
 | left, p :: r => if p < -1 ∨ left < Lc p then false else fits (left - Lc p) r
def SS (ps : List Int) : Int := (ps.map Lc).sum
def YB (log : Int) (ps : List Int) : Bool := decide (5 <= log /\ log <= 15 /\ 1 <= ps.length /\ ps.length <= 256 /\ ps.getLast? ≠ some 0)
def ZY (log : Int) (ps : List Int) : Bool := YB log ps && fits (2 ^ log.toNat) ps
theorem QG (p : Int) (ps : List Int) : SS (p :: ps) = Lc p + SS ps := by simp [SS]
theorem PZ {p : Int} (h : -1 <= p) : 0 <= Lc p := by unfold Lc; split <;> omega
theorem SC {ps : List Int} (h : ∀ p ∈ ps, -1 <= p) : 0 <= SS ps := by
 induction ps with
 | nil => simp [SS]
 | cons p r ih =>
   rw [QG]
   have := PZ (h p (by simp))
   have := ih fun q hq => h q (adC _ hq)
   omega
theorem RZ : ∀ {ps : List Int} {left : Int}, fits left ps = true ↔ (∀ p ∈ ps, -1 <= p) /\ SS ps = left
 | [], left => by simp [fits, SS]; constructor <;> intro h <;> omega
 | p :: r, left => by
   rw [fits, QG]
   by_cases h : p < -1 ∨ left < Lc p
   .rw [if_pos h]
    constructor
    .intro h; cases h
    .rintro ⟨h1, h2⟩
     have hp := h1 p (by simp)
     have := SC (ps := r) fun q hq => h1 q (adC _ hq)
     omega
   .rw [if_neg h, RZ]
    constructor
    .rintro ⟨h1, h2⟩
     exact ⟨fun q hq => by rcases adX.1 hq with rfl | hq; · omega
                           .exact h1 q hq, by omega⟩
    .rintro ⟨h1, h2⟩
     exact ⟨fun q hq => h1 q (adC _ hq), by omega⟩
structure May (log : Nat) (ps : List Int) : Prop where
 log5 : 5 <= log
 log15 : log <= 15
 len1 : 1 <= ps.length
 len256 : ps.length <= 256
 last : ps.getLast? ≠ some 0
 low : ∀ p ∈ ps, -1 <= p
 sum : SS ps = 2 ^ log
theorem May.b {log : Nat} {ps : List Int} (h : May log ps) : ZY log ps = true := by
 unfold ZY YB
 simp only [acV, decide_eq_true_eq]
 have h1 := h.log5
 have h2 := h.log15
 refine ⟨⟨by omega, by omega, h.len1, h.len256, h.last⟩, ?_⟩
 rw [RZ, acM]
 exact ⟨h.low, h.sum⟩
def pos (n j : Nat) : Nat := (j * (n / 2 + n / 8 + 3)) % n
end Go.Pu
namespace Go.Pu
open Go Go.En
def aaN (c : UInt8) : List Bool := (List.range 8).map c.toNat.testBit
def YV : List UInt8 -> List Bool
 | [] => []
 | c :: l => aaN c ++ YV l
theorem Y4 {x i : Nat} (h : x < 2 ^ i) (b : Nat) : x ||| (b * 2 ^ i) = x + 2 ^ i * b := by
 rw [Nat.or_comm, Nat.mul_comm b, <- Nat.two_pow_add_eq_or_of_lt h b, Nat.add_comm]
theorem XU {a b : Nat} (ha : a < 2 ^ 64) (hb : b < 2 ^ 64) : ZH .u64 (a : Int) (b : Int) = ((a ||| b : Nat) : Int) := by
 have h := Nat.or_lt_two_pow ha hb
 unfold ZH
 have e : IntKind.u64.bits = 64 := rfl
 rw [e, BitVec.ofInt_natCast, BitVec.ofInt_natCast, BitVec.toNat_or, BitVec.toNat_ofNat, BitVec.toNat_ofNat, aeY ha, aeY hb]
 exact fJ (by omega) (by have : ((a ||| b : Nat) : Int) < ((2 ^ 64 : Nat) : Int) := by exact_mod_cast h
                         omega)
end Go.Pu
namespace Go.Pu
open Go.En
abbrev uF : Nat := 4294967296
theorem Uj {a b : Nat} (ha : a < uF) (hb : b < uF) : ZH .u32 (a : Int) (b : Int) = ((a ||| b : Nat) : Int) := by
 have h := Nat.or_lt_two_pow (n := 32) ha hb
 unfold ZH
 have e : IntKind.u32.bits = 32 := rfl
 rw [e, BitVec.ofInt_natCast, BitVec.ofInt_natCast, BitVec.toNat_or, BitVec.toNat_ofNat, BitVec.toNat_ofNat, aeY ha, aeY hb]
 exact fM (by omega) (by have : ((a ||| b : Nat) : Int) < ((2 ^ 32 : Nat) : Int) := by exact_mod_cast h
                         omega)
theorem uG {a b : Nat} (ha : a < uF) (hb : b < uF) : Rt .u32 (a : Int) (b : Int) = ((a ^^^ b : Nat) : Int) := by
 have h := Nat.xor_lt_two_pow (n := 32) ha hb
 unfold Rt
 have e : IntKind.u32.bits = 32 := rfl
 rw [e, BitVec.ofInt_natCast, BitVec.ofInt_natCast, BitVec.toNat_xor, BitVec.toNat_ofNat, BitVec.toNat_ofNat, aeY ha, aeY hb]
 exact fM (by omega) (by have : ((a ^^^ b : Nat) : Int) < ((2 ^ 32 : Nat) : Int) := by exact_mod_cast h
                         omega)
theorem GC {a b : Nat} (ha : a < uF) (hb : b < uF) : PY .u32 (a : Int) (b : Int) = ((a &&& b : Nat) : Int) := by
 have h := Nat.and_lt_two_pow (n := 32) a hb
 unfold PY
 have e : IntKind.u32.bits = 32 := rfl
 rw [e, BitVec.ofInt_natCast, BitVec.ofInt_natCast, BitVec.toNat_and, BitVec.toNat_ofNat, BitVec.toNat_ofNat, aeY ha, aeY hb]
 exact fM (by omega) (by have : ((a &&& b : Nat) : Int) < ((2 ^ 32 : Nat) : Int) := by exact_mod_cast h
                         omega)
theorem Sb (a : Nat) : IntKind.u32.wrap (a : Int) = ((a % uF : Nat) : Int) := by
 show (a : Int) % 4294967296 = ((a % 4294967296 : Nat) : Int)
 omega
theorem Pp (a b : Nat) : IntKind.u32.wrap ((a : Int) + (b : Int)) = (((a + b) % uF : Nat) : Int) := by
 rw [<- Sb]; congr 1
theorem SQ (a k : Nat) : IntKind.u32.wrap ((a : Int) * 2 ^ k) = ((a * 2 ^ k % uF : Nat) : Int) := by
 have e : ((a : Int) * 2 ^ k) = ((a * 2 ^ k : Nat) : Int) := by simp
 rw [e, Sb]
theorem O1 (a k : Nat) : (a : Int).fdiv (2 ^ k) = ((a / 2 ^ k : Nat) : Int) := by
 rw [Int.fdiv_eq_ediv_of_nonneg _ (by exact Int.le_of_lt (Int.pow_pos (by decide)))]
 simp
theorem JW {a b : Nat} (ha : a < uF) (hb : b < uF) : a ^^^ b < uF := Nat.xor_lt_two_pow (n := 32) ha hb
theorem YS {a b : Nat} (ha : a < uF) (hb : b < uF) : a ||| b < uF := Nat.or_lt_two_pow (n := 32) ha hb
theorem LB (a : Nat) {b : Nat} (hb : b < uF) : a &&& b < uF := Nat.and_lt_two_pow (n := 32) a hb
theorem Ff (a : Nat) : a % uF < uF := afX _ (by decide)
theorem PK {a : Nat} (h : a < uF) (k : Nat) : a / 2 ^ k < uF := Nat.lt_of_le_of_lt (Nat.div_le_self _ _) h
def RV (x k : Nat) : Nat := (x * 2 ^ (32 - k) % uF) ||| (x / 2 ^ k)
theorem C8 {x k : Nat} (h : x < uF) : RV x k < uF := YS (Ff _) (PK h k)
def Qu (x a b c : Nat) : Nat := RV x a ^^^ RV x b ^^^ RV x c
def Uc (x a b d : Nat) : Nat := RV x a ^^^ RV x b ^^^ (x / 2 ^ d)
def TX (b : List UInt8) : Nat -> List Nat
 | 0 => List.replicate 64 0
 | i + 1 => (TX b i).set (i / 4) (((TX b i).getD (i / 4) 0 * 2 ^ 8 % uF) ||| (b.getD i 0).toNat)
def UY (l : List Nat) : Nat -> List Nat
 | 0 => l
 | j + 1 => (UY l j).set (16 + j) (((((UY l j).getD j 0 + Uc ((UY l j).getD (j + 1) 0) 7 18 3) % uF + (UY l j).getD (j + 9) 0) % uF + Uc ((UY l j).getD (j + 14) 0) 17 19 10) % uF)
def kN : List Nat := [1116352408, 1899447441, 3049323471, 3921009573, 961987163, 1508970993, 2453635748, 2870763221, 3624381080, 310598401, 607225278, 1426881987, 1925078388, 2162078206, 2614888103, 3248222580, 3835390401, 4022224774, 264347078, 604807628, 770255983, 1249150122, 1555081692, 1996064986, 2554220882, 2821834349, 2952996808, 3210313671, 3336571891, 3584528711, 113926993, 338241895, 666307205, 773529912, 1294757372, 1396182291, 1695183700, 1986661051, 2177026350, 2456956037, 2730485921, 2820302411, 3259730800, 3345764771, 3516065817, 3600352804, 4094571909, 275423344, 430227734, 506948616, 659060556, 883997877, 958139571, 1322822218, 1537002063, 1747873779, 1955562222, 2024104815, 2227730452, 2361852424, 2428436474, 2756734187, 3204031479, 3329325298]
def Zw (v : List Nat) (k w : Nat) : Nat :=
 ((((v.getD 7 0 + Qu (v.getD 4 0) 6 11 25) % uF + ((v.getD 4 0 &&& v.getD 5 0) ^^^ ((4294967295 ^^^ v.getD 4 0) &&& v.getD 6 0))) % uF + k) % uF + w) % uF
def ZX (v : List Nat) : Nat := (Qu (v.getD 0 0) 2 13 22 + ((v.getD 0 0 &&& v.getD 1 0) ^^^ (v.getD 0 0 &&& v.getD 2 0) ^^^ (v.getD 1 0 &&& v.getD 2 0))) % uF
def RQ (v : List Nat) (k w : Nat) : List Nat :=
 [(Zw v k w + ZX v) % uF, v.getD 0 0, v.getD 1 0, v.getD 2 0, (v.getD 3 0 + Zw v k w) % uF, v.getD 4 0, v.getD 5 0, v.getD 6 0]
def xQ (W : List Nat) (s : List Nat) : Nat -> List Nat
 | 0 => s
 | t + 1 => RQ (xQ W s t) (kN.getD t 0) (W.getD t 0)
def B0 (v s : List Nat) (i : Nat) : List Nat := v.mapIdx fun j x => if j < i then (x + s.getD j 0) % uF else x
def La (s : List Nat) (b : List UInt8) : List Nat := B0 (xQ (UY (TX b 64) 48) s 64) s 8
def Dg (l : List Nat) : Prop := ∀ x ∈ l, x < uF
theorem Dg.getD {l : List Nat} (h : Dg l) (i : Nat) : l.getD i 0 < uF := by
 rw [acU]
 cases e : l[i]? with
 | none => decide
 | some x => exact h x (agT e)
theorem Dg.set {l : List Nat} (h : Dg l) {i x : Nat} (hx : x < uF) : Dg (l.set i x) := fun y hy => by
 rcases List.mem_or_eq_of_mem_set hy with h1 | h1
 .exact h y h1
 .rw [h1]; exact hx
theorem UJ (b : List UInt8) : ∀ i, (TX b i).length = 64
 | 0 => by simp [TX]
 | i + 1 => by rw [TX, afH, UJ b i]
theorem TH (b : List UInt8) : ∀ i, Dg (TX b i)
 | 0 => fun x hx => by
   rw [TX] at hx
   rw [(List.mem_replicate.1 hx).2]; decide
 | i + 1 => by
   have h2 := (b.getD i 0).toNat_lt
   exact (TH b i).set (YS (Ff _) (by have : uF = 4294967296 := rfl
                                     omega))
theorem UB (l : List Nat) : ∀ j, (UY l j).length = l.length
 | 0 => rfl
 | j + 1 => by rw [UY, afH, UB l j]
theorem Xx {l : List Nat} (h : Dg l) : ∀ j, Dg (UY l j)
 | 0 => h
 | j + 1 => (Xx h j).set (Ff _)
theorem UN (v : List Nat) (k w : Nat) : (RQ v k w).length = 8 := rfl
theorem V3 {v : List Nat} (h : Dg v) (k w : Nat) : Dg (RQ v k w) := fun x hx => by
 unfold RQ at hx
 simp only [adX, List.not_mem_nil, or_false] at hx
 rcases hx with rfl | rfl | rfl | rfl | rfl | rfl | rfl | rfl
 .exact Ff _
 .exact h.getD 0
 .exact h.getD 1
 .exact h.getD 2
 .exact Ff _
 .exact h.getD 4
 .exact h.getD 5
 .exact h.getD 6
theorem Od {W s : List Nat} (h : s.length = 8) : ∀ t, (xQ W s t).length = 8
 | 0 => h
 | t + 1 => UN _ _ _
theorem Lm {W s : List Nat} (h : Dg s) : ∀ t, Dg (xQ W s t)
 | 0 => h
 | t + 1 => V3 (Lm h t) _ _
theorem Nx (v s : List Nat) (i : Nat) : (B0 v s i).length = v.length := by simp [B0]
theorem TI (v s : List Nat) : B0 v s 0 = v := by
 apply agO
 .simp [B0]
 .intro i h1 h2; simp [B0]
theorem Vj {v s : List Nat} {i : Nat} (h : i < v.length) : (B0 v s i).getD i 0 = v.getD i 0 := by
 rw [acU, acU, acS (by rw [Nx]; exact h), acS h]
 simp [B0]
theorem U2 {v s : List Nat} {i : Nat} (h : i < v.length) : (B0 v s i).set i ((v.getD i 0 + s.getD i 0) % uF) = B0 v s (i + 1) := by
 have hv : v.getD i 0 = v[i] := by rw [acU, acS h] <;> rfl
 rw [hv]
 apply agO
 .simp [B0]
 .intro j h1 h2
  rw [List.getElem_set]
  simp only [B0, List.getElem_mapIdx]
  by_cases hij : i = j
  .subst hij; simp
  .simp only [hij, if_false]
   by_cases hj : j < i
   .rw [if_pos hj, if_pos (by omega)]
   .rw [if_neg hj, if_neg (by omega)]
theorem WU {v s : List Nat} (hv : Dg v) (i : Nat) : Dg (B0 v s i) := fun x hx => by
 unfold B0 at hx
 obtain ⟨j, hj, rfl⟩ := List.mem_mapIdx.1 hx
 split
 .exact Ff _
 .exact hv _ (aeX hj)
theorem QT {s : List Nat} (b : List UInt8) (h : s.length = 8) : (La s b).length = 8 := by unfold La; rw [Nx, Od h]
theorem Xk {s : List Nat} (b : List UInt8) (h : Dg s) : Dg (La s b) := WU (Lm h _) _
def WA : List Nat := [1779033703, 3144134277, 1013904242, 2773480762, 1359893119, 2600822924, 528734635, 1541459225]
def JI : Nat -> List UInt8 -> List Nat
 | 0, _ => WA
 | k + 1, L => La (JI k L) ((L.drop (64 * k)).take 64)
theorem Cb : ∀ k L, (JI k L).length = 8
 | 0, _ => rfl
 | k + 1, L => QT _ (Cb k L)
theorem Rv : ∀ k L, Dg (JI k L)
 | 0, _ => by
   show Dg WA
   unfold Dg WA; decide
 | k + 1, L => Xk _ (Rv k L)
theorem NP : ∀ k (L M : List UInt8), 64 * k <= L.length -> JI k (L ++ M) = JI k L
 | 0, _, _, _ => rfl
 | k + 1, L, M, h => by
   rw [JI, JI, NP k L M (by omega)]
   congr 1
   rw [adS (by omega), adL (by rw [adB]; omega)]
def XJ (x : Nat) (k : Nat) : List UInt8 := (List.range k).map fun i => UInt8.ofNat (x / 2 ^ (56 - 8 * i) % 256)
theorem T7 (x k : Nat) : (XJ x k).length = k := by simp [XJ]
theorem V4 (x k : Nat) : XJ x (k + 1) = XJ x k ++ [UInt8.ofNat (x / 2 ^ (56 - 8 * k) % 256)] := by simp [XJ, agX]
def Vb (L : List UInt8) : List UInt8 := L ++ [128] ++ List.replicate ((119 - L.length % 64) % 64) 0 ++ XJ (8 * L.length) 8
def Qa (s : List Nat) (k : Nat) : List UInt8 := (List.range k).map fun i => UInt8.ofNat (s.getD (i / 4) 0 / 2 ^ (24 - i % 4 * 8) % 256)
theorem Vp (s : List Nat) (k : Nat) : Qa s (k + 1) = Qa s k ++ [UInt8.ofNat (s.getD (k / 4) 0 / 2 ^ (24 - k % 4 * 8) % 256)] := by simp [Qa, agX]
theorem LY (s : List Nat) (k : Nat) : (Qa s k).length = k := by simp [Qa]
def Sv (L : List UInt8) : List UInt8 := Qa (JI ((Vb L).length / 64) (Vb L)) 32
theorem Aw (L : List UInt8) : (Sv L).length = 32 := LY _ _
def gU (l : List UInt8) : List UInt8 := Sv (0 :: l)
def hN : List Nat := [0, 274646895, 549293790, 820201905, 1098587580, 1361435347, 1640403810, 1905808397, 2197175160, 2460548119, 2722870694, 2987750089, 3280807620, 3553878443, 3811616794, 4084100981]
theorem YI : Dg hN := by unfold Dg hN; decide
def Qy (x : Nat) : Nat := x / 2 ^ 4 ^^^ hN.getD (x &&& 15) 0
def X3 (x : Nat) (c : UInt8) : Nat := Qy (Qy (x ^^^ c.toNat))
theorem PN {x : Nat} (h : x < uF) : Qy x < uF := JW (PK h _) (YI.getD _)
theorem J9 (c : UInt8) : c.toNat < uF := by
 have := c.toNat_lt
 have : uF = 4294967296 := rfl
 omega
theorem XV {x : Nat} (h : x < uF) (c : UInt8) : X3 x c < uF := PN (PN (JW h (J9 c)))
def O0 (x : Nat) (l : List UInt8) : Nat := l.foldl X3 x
theorem Rp {x : Nat} (h : x < uF) (l : List UInt8) : O0 x l < uF := by
 unfold O0
 induction l generalizing x with
 | nil => exact h
 | cons c l ih => exact ih (XV h c)
theorem Vm (x : Nat) (l : List UInt8) (c : UInt8) : O0 x (l ++ [c]) = X3 (O0 x l) c := by unfold O0; rw [List.foldl_append] <;> rfl
def iA (l : List UInt8) : Nat := 4294967295 ^^^ O0 4294967295 l
theorem Yy (l : List UInt8) : iA l < uF := JW (by decide) (Rp (by decide) l)
end Go.Pu
namespace Go.Proofs.YteelnmpbnaohpaaDoor
open Go Go.En Go.Pu
set_option maxRecDepth 4000
structure qK (w : ahA) : Prop where
 sh : ∀ i, i < 64 -> w.cell? ⟨0, i, none⟩ = some (.int .u32 (kN.getD i 0 : Nat))
 cr : ∀ i, i < 16 -> w.cell? ⟨1, i, none⟩ = some (.int .u32 (hN.getD i 0 : Nat))
theorem Br {w w' : ahA} {g i : Nat} {v : ahB} {M : Nat -> Prop} (hc : w.cell? ⟨g, i, none⟩ = some v) (x : gV w w' M) (hM : ¬ M g) : w'.cell? ⟨g, i, none⟩ = some v := by
 have hg : g < w.heap.size := by
  rcases aeG g w.heap.size with h | h
  .exact h
  .unfold World.cell? at hc
   rw [adR h] at hc
   cases hc
 rw [<- hc]
 unfold World.cell?
 rw [x.keep g hg hM]
theorem qK.extM {w w' : ahA} {M : Nat -> Prop} (h : qK w) (x : gV w w' M) (h1 : ¬ M 0) (h2 : ¬ M 1) : qK w' :=
 ⟨fun i hi => Br (h.sh i hi) x h1, fun i hi => Br (h.cr i hi) x h2⟩
theorem qK.ext {w w' : ahA} (h : qK w) (x : gV w w' jN) : qK w' := h.extM x (fun h => h) (fun h => h)
theorem qK.lt {w : ahA} (h : qK w) : 0 < w.heap.size /\ 1 < w.heap.size := by
 have q : ∀ {g : Nat} {v : ahB}, w.cell? ⟨g, 0, none⟩ = some v -> g < w.heap.size := fun {g v} hc => by
  rcases aeG g w.heap.size with h | h
  .exact h
  .unfold World.cell? at hc
   rw [adR h] at hc
   cases hc
 exact ⟨q (h.sh 0 (by omega)), q (h.cr 0 (by omega))⟩
theorem Zo : ∀ k : Fin 31, PY .u64 (IntKind.u64.wrap (-((k.val + 1 : Nat) : Int))) 31 = ((31 - k.val : Nat) : Int) := by decide
theorem Zb : ∀ k : Fin 31, IntKind.u64.wrap (32 - ((31 - k.val : Nat) : Int)) = ((k.val + 1 : Nat) : Int) := by decide
theorem Pq {x k : Nat} (hx : x < uF) (h1 : 1 <= k) (h2 : k <= 31) (w : ahA) :
 gT pg jS #[.int .u32 (x : Nat), .int .i64 (-(k : Int))] w (fun r w' => r = .int .u32 (RV x k : Nat) /\ w' = w) := by
 refine Dd ?_
 have e1 := Zo ⟨k - 1, by omega⟩
 have e2 := Zb ⟨k - 1, by omega⟩
 simp only [show k - 1 + 1 = k from by omega, show 31 - (k - 1) = 32 - k from by omega] at e1 e2
 have m1 : min (32 - k) IntKind.u32.bits = 32 - k := adW (by have : IntKind.u32.bits = 32 := rfl
                                                             omega)
 have m2 : min k IntKind.u32.bits = k := adW (by have : IntKind.u32.bits = 32 := rfl
                                                 omega)
 have e3 := SQ x (32 - k)
 have e4 := O1 x k
 have e5 := Uj (a := x * 2 ^ (32 - k) % uF) (b := x / 2 ^ k) (Ff _) (PK hx k)
 unfold AS pQ RV
 simp (disch := omega) only [eY, gN, dX, stepR_skip, fO, fW, fN, fZ, fX, fY, gQ, gG, eT, fT, fS, gE, fR, fL, fV, fQ, fU, gB, gC, fP, fC, gI, gA, fK, iR, iO, iP, iU, iM, iS, iQ, iT, iN, eP, Result.ok.injEq, Next.value.injEq, true_and, and_true, fI, fJ, gH, fM, gD, gR, acM, fE, fF, fG, fD, eZ, eU, fB, eX, eQ, eH, if_true, if_false, acK, acQ, acL, acN, acP, acO, acJ, acI, eA, dV, aB, dM, dO, cB, eB, eS, eE, dK, eF, fA, dJ, eJ, bP, dS, bE, dN, aL, aH, eL, aX, cI, eM, aE, eN, dE, aR, bF, eD, bB, bC, bJ, aO, aI, cF, fH, dY, cJ, cC, dA, cH, dT, bD, eK, bT, dF, bR, aT, bV, aC, bY, bQ, cA, bX, aY, aU, bA, bU, dL, cP, bO, aV, aJ, aM, bG, aF, dC, dW, aK, aN, aZ, aG, cY, aD, cL, bW, bH, aP, cM, bZ, aA, dD, cO, cU, cG, dI, cD, dG, dU, cQ, eC, eI, bN, aS, dZ, bS, aQ, bL, dH, cZ, cV, cN, cS, bK, bM, cX, dR, cR, dQ, dB, e1, e2, m1, m2, e3, e4, e5]
theorem Sx {x a b c : Nat} (hx : x < uF) (ha : 1 <= a /\ a <= 31) (hb : 1 <= b /\ b <= 31) (hc : 1 <= c /\ c <= 31) (w : ahA) :
 gT pg AI #[.int .u32 (x : Nat), .int .i64 (a : Nat), .int .i64 (b : Nat), .int .i64 (c : Nat)] w (fun r w' => r = .int .u32 (Qu x a b c : Nat) /\ w' = w) := by
 refine OA ?_
 unfold Pt Fp Qu
 have n1 : ∀ k : Nat, k <= 31 -> IntKind.i64.wrap (0 - (k : Int)) = -(k : Int) := fun k hk => by rw [Int.zero_sub]; exact fI (by omega) (by omega)
 simp (disch := omega) only [eY, gN, dX, stepR_skip, fO, fW, fN, fZ, fX, fY, gQ, gG, eT, fT, fS, gE, fR, fL, fV, fQ, fU, gB, gC, fP, fC, gI, gA, fK, iR, iO, iP, iU, iM, iS, iQ, iT, iN, eP, Result.ok.injEq, Next.value.injEq, true_and, and_true, fI, fJ, gH, fM, gD, gR, acM, fE, fF, fG, fD, eZ, eU, fB, eX, eQ, eH, if_true, if_false, acK, acQ, acL, acN, acP, acO, acJ, acI, eA, dV, aB, dM, dO, cB, eB, eS, eE, dK, eF, fA, dJ, eJ, bP, dS, bE, dN, aL, aH, eL, aX, cI, eM, aE, eN, dE, aR, bF, eD, bB, bC, bJ, aO, aI, cF, fH, dY, cJ, cC, dA, cH, dT, bD, eK, bT, dF, bR, aT, bV, aC, bY, bQ, cA, bX, aY, aU, bA, bU, dL, cP, bO, aV, aJ, aM, bG, aF, dC, dW, aK, aN, aZ, aG, cY, aD, cL, bW, bH, aP, cM, bZ, aA, dD, cO, cU, cG, dI, cD, dG, dU, cQ, eC, eI, bN, aS, dZ, bS, aQ, bL, dH, cZ, cV, cN, cS, bK, bM, cX, dR, cR, dQ, dB, n1 a ha.2, n1 b hb.2, n1 c hc.2]
 refine (Pq hx ha.1 ha.2 w).mono ?_
 rintro r w1 ⟨rfl, hw⟩
 rw [hw]; clear hw w1
 refine (Pq hx hb.1 hb.2 w).mono ?_
 rintro r w1 ⟨rfl, hw⟩
 rw [hw]; clear hw w1
 have e1 := uG (C8 (k := a) hx) (C8 (k := b) hx)
 simp (disch := omega) only [eY, gN, dX, stepR_skip, fO, fW, fN, fZ, fX, fY, gQ, gG, eT, fT, fS, gE, fR, fL, fV, fQ, fU, gB, gC, fP, fC, gI, gA, fK, iR, iO, iP, iU, iM, iS, iQ, iT, iN, eP, Result.ok.injEq, Next.value.injEq, true_and, and_true, fI, fJ, gH, fM, gD, gR, acM, fE, fF, fG, fD, eZ, eU, fB, eX, eQ, eH, if_true, if_false, acK, acQ, acL, acN, acP, acO, acJ, acI, eA, dV, aB, dM, dO, cB, eB, eS, eE, dK, eF, fA, dJ, eJ, bP, dS, bE, dN, aL, aH, eL, aX, cI, eM, aE, eN, dE, aR, bF, eD, bB, bC, bJ, aO, aI, cF, fH, dY, cJ, cC, dA, cH, dT, bD, eK, bT, dF, bR, aT, bV, aC, bY, bQ, cA, bX, aY, aU, bA, bU, dL, cP, bO, aV, aJ, aM, bG, aF, dC, dW, aK, aN, aZ, aG, cY, aD, cL, bW, bH, aP, cM, bZ, aA, dD, cO, cU, cG, dI, cD, dG, dU, cQ, eC, eI, bN, aS, dZ, bS, aQ, bL, dH, cZ, cV, cN, cS, bK, bM, cX, dR, cR, dQ, dB, n1 c hc.2, e1]
 refine (Pq hx hc.1 hc.2 w).mono ?_
 rintro r w1 ⟨rfl, hw⟩
 rw [hw]; clear hw w1
 have e2 := uG (JW (C8 (k := a) hx) (C8 (k := b) hx)) (C8 (k := c) hx)
 simp (disch := omega) only [eY, gN, dX, stepR_skip, fO, fW, fN, fZ, fX, fY, gQ, gG, eT, fT, fS, gE, fR, fL, fV, fQ, fU, gB, gC, fP, fC, gI, gA, fK, iR, iO, iP, iU, iM, iS, iQ, iT, iN, eP, Result.ok.injEq, Next.value.injEq, true_and, and_true, fI, fJ, gH, fM, gD, gR, acM, fE, fF, fG, fD, eZ, eU, fB, eX, eQ, eH, if_true, if_false, acK, acQ, acL, acN, acP, acO, acJ, acI, eA, dV, aB, dM, dO, cB, eB, eS, eE, dK, eF, fA, dJ, eJ, bP, dS, bE, dN, aL, aH, eL, aX, cI, eM, aE, eN, dE, aR, bF, eD, bB, bC, bJ, aO, aI, cF, fH, dY, cJ, cC, dA, cH, dT, bD, eK, bT, dF, bR, aT, bV, aC, bY, bQ, cA, bX, aY, aU, bA, bU, dL, cP, bO, aV, aJ, aM, bG, aF, dC, dW, aK, aN, aZ, aG, cY, aD, cL, bW, bH, aP, cM, bZ, aA, dD, cO, cU, cG, dI, cD, dG, dU, cQ, eC, eI, bN, aS, dZ, bS, aQ, bL, dH, cZ, cV, cN, cS, bK, bM, cX, dR, cR, dQ, dB, e2]
theorem Qq {x a b d : Nat} (hx : x < uF) (ha : 1 <= a /\ a <= 31) (hb : 1 <= b /\ b <= 31) (hd : d <= 31) (w : ahA) :
 gT pg Er #[.int .u32 (x : Nat), .int .i64 (a : Nat), .int .i64 (b : Nat), .int .i64 (d : Nat)] w (fun r w' => r = .int .u32 (Uc x a b d : Nat) /\ gV w w' jN) := by
 refine P9 ?_
 unfold Su Ju Uc
 have n1 : ∀ k : Nat, k <= 31 -> IntKind.i64.wrap (0 - (k : Int)) = -(k : Int) := fun k hk => by rw [Int.zero_sub]; exact fI (by omega) (by omega)
 have m2 : min d IntKind.u32.bits = d := adW (by have : IntKind.u32.bits = 32 := rfl
                                                 omega)
 have e4 := O1 x d
 simp (disch := omega) only [eY, gN, dX, stepR_skip, fO, fW, fN, fZ, fX, fY, gQ, gG, eT, fT, fS, gE, fR, fL, fV, fQ, fU, gB, gC, fP, fC, gI, gA, fK, iR, iO, iP, iU, iM, iS, iQ, iT, iN, eP, Result.ok.injEq, Next.value.injEq, true_and, and_true, fI, fJ, gH, fM, gD, gR, acM, fE, fF, fG, fD, eZ, eU, fB, eX, eQ, eH, if_true, if_false, acK, acQ, acL, acN, acP, acO, acJ, acI, eA, dV, aB, dM, dO, cB, eB, eS, eE, dK, eF, fA, dJ, eJ, bP, dS, bE, dN, aL, aH, eL, aX, cI, eM, aE, eN, dE, aR, bF, eD, bB, bC, bJ, aO, aI, cF, fH, dY, cJ, cC, dA, cH, dT, bD, eK, bT, dF, bR, aT, bV, aC, bY, bQ, cA, bX, aY, aU, bA, bU, dL, cP, bO, aV, aJ, aM, bG, aF, dC, dW, aK, aN, aZ, aG, cY, aD, cL, bW, bH, aP, cM, bZ, aA, dD, cO, cU, cG, dI, cD, dG, dU, cQ, eC, eI, bN, aS, dZ, bS, aQ, bL, dH, cZ, cV, cN, cS, bK, bM, cX, dR, cR, dQ, dB, n1 a ha.2, n1 b hb.2, m2, e4]
 refine (Pq hx ha.1 ha.2 _).mono ?_
 rintro r w1 ⟨rfl, hw⟩
 rw [hw]; clear hw w1
 refine (Pq hx hb.1 hb.2 _).mono ?_
 rintro r w1 ⟨rfl, hw⟩
 rw [hw]; clear hw w1
 have e1 := uG (C8 (k := a) hx) (C8 (k := b) hx)
 have e2 := uG (JW (C8 (k := a) hx) (C8 (k := b) hx)) (PK hx d)
 simp (disch := omega) only [eY, gN, dX, stepR_skip, fO, fW, fN, fZ, fX, fY, gQ, gG, eT, fT, fS, gE, fR, fL, fV, fQ, fU, gB, gC, fP, fC, gI, gA, fK, iR, iO, iP, iU, iM, iS, iQ, iT, iN, eP, Result.ok.injEq, Next.value.injEq, true_and, and_true, fI, fJ, gH, fM, gD, gR, acM, fE, fF, fG, fD, eZ, eU, fB, eX, eQ, eH, if_true, if_false, acK, acQ, acL, acN, acP, acO, acJ, acI, eA, dV, aB, dM, dO, cB, eB, eS, eE, dK, eF, fA, dJ, eJ, bP, dS, bE, dN, aL, aH, eL, aX, cI, eM, aE, eN, dE, aR, bF, eD, bB, bC, bJ, aO, aI, cF, fH, dY, cJ, cC, dA, cH, dT, bD, eK, bT, dF, bR, aT, bV, aC, bY, bQ, cA, bX, aY, aU, bA, bU, dL, cP, bO, aV, aJ, aM, bG, aF, dC, dW, aK, aN, aZ, aG, cY, aD, cL, bW, bH, aP, cM, bZ, aA, dD, cO, cU, cG, dI, cD, dG, dU, cQ, eC, eI, bN, aS, dZ, bS, aQ, bL, dH, cZ, cV, cN, cS, bK, bM, cX, dR, cR, dQ, dB, n1 b hb.2, m2, e4, e1, e2]
 exact gV.dr _ _
theorem Yo {l : List UInt8} {v : ahB} {w : ahA} (hg : qK w) (hv : Bs w v l) (hl : l.length <= 1000000000) :
 gT pg Mg #[v] w (fun r w' => r = .int .u32 (iA l : Nat) /\ gV w w' jN) := by
 refine Ss ?_
 obtain ⟨RR, hRR⟩ : ∃ RR : ahB -> ahA -> Prop, RR = fun r w' => r = .int .u32 (iA l : Nat) /\ gV w w' jN := ⟨_, rfl⟩
 rw [<- hRR]
 obtain ⟨hg0, hg1⟩ := hg.lt
 unfold V5 Nq
 refine RD ?_
 unfold UC Lj
 simp (disch := omega) only [eY, gN, dX, stepR_skip, fO, fW, fN, fZ, fX, fY, gQ, gG, eT, fT, fS, gE, fR, fL, fV, fQ, fU, gB, gC, fP, fC, gI, gA, fK, iR, iO, iP, iU, iM, iS, iQ, iT, iN, eP, Result.ok.injEq, Next.value.injEq, true_and, and_true, fI, fJ, gH, fM, gD, gR, acM, fE, fF, fG, fD, eZ, eU, fB, eX, eQ, eH, if_true, if_false, acK, acQ, acL, acN, acP, acO, acJ, acI, eA, dV, aB, dM, dO, cB, eB, eS, eE, dK, eF, fA, dJ, eJ, bP, dS, bE, dN, aL, aH, eL, aX, cI, eM, aE, eN, dE, aR, bF, eD, bB, bC, bJ, aO, aI, cF, fH, dY, cJ, cC, dA, cH, dT, bD, eK, bT, dF, bR, aT, bV, aC, bY, bQ, cA, bX, aY, aU, bA, bU, dL, cP, bO, aV, aJ, aM, bG, aF, dC, dW, aK, aN, aZ, aG, cY, aD, cL, bW, bH, aP, cM, bZ, aA, dD, cO, cU, cG, dI, cD, dG, dU, cQ, eC, eI, bN, aS, dZ, bS, aQ, bL, dH, cZ, cV, cN, cS, bK, bM, cX, dR, cR, dQ, dB]
 refine oM fun w1 o1 x1 s1 => ?_
 obtain ⟨p, hp⟩ : ∃ p, p = w.heap.size := ⟨_, rfl⟩
 rw [<- hp] at o1 ⊢
 have o1 : jI w1 p [.int .u32 (O0 4294967295 (l.take 0) : Nat)] := o1
 refine Ky ?_
 unfold Jn Al AR
 obtain ⟨va, vc, rfl, _⟩ := hv.len
 rw [acR] at hv
 simp (disch := omega) only [eY, gN, dX, stepR_skip, fO, fW, fN, fZ, fX, fY, gQ, gG, eT, fT, fS, gE, fR, fL, fV, fQ, fU, gB, gC, fP, fC, gI, gA, fK, iR, iO, iP, iU, iM, iS, iQ, iT, iN, eP, Result.ok.injEq, Next.value.injEq, true_and, and_true, fI, fJ, gH, fM, gD, gR, acM, fE, fF, fG, fD, eZ, eU, fB, eX, eQ, eH, if_true, if_false, acK, acQ, acL, acN, acP, acO, acJ, acI, eA, dV, aB, dM, dO, cB, eB, eS, eE, dK, eF, fA, dJ, eJ, bP, dS, bE, dN, aL, aH, eL, aX, cI, eM, aE, eN, dE, aR, bF, eD, bB, bC, bJ, aO, aI, cF, fH, dY, cJ, cC, dA, cH, dT, bD, eK, bT, dF, bR, aT, bV, aC, bY, bQ, cA, bX, aY, aU, bA, bU, dL, cP, bO, aV, aJ, aM, bG, aF, dC, dW, aK, aN, aZ, aG, cY, aD, cL, bW, bH, aP, cM, bZ, aA, dD, cO, cU, cG, dI, cD, dG, dU, cQ, eC, eI, bN, aS, dZ, bS, aQ, bL, dH, cZ, cV, cN, cS, bK, bM, cX, dR, cR, dQ, dB, acR]
 unfold AQ AP
 refine kJ.rule (fun m (t : ahB) w' => ∃ i : Nat, m = l.length - i /\ i <= l.length /\ t = .int .i64 (i : Nat) /\ jI w' p [.int .u32 (O0 4294967295 (l.take i) : Nat)] /\ gV w1 w' (fun y => y = p)) l.length ⟨0, rfl, by omega, rfl, o1, gV.refl _ _⟩ ?_
 clear o1
 rintro m t w2 ⟨i, rfl, hi, rfl, o2, x2⟩
 unfold uC
 have x02 : gV w w2 jN := x1.trans x2 fun y hy h => by omega
 by_cases hlt : i < l.length
 .have d1 : decide ((i : Int) < (l.length : Int)) = true := by simp; omega
  have hv2 := hv.ext x02 (jG _)
  obtain ⟨b, off, c', hv', hc', hcell⟩ := hv2.openV (by rw [acR]; omega)
  have g1 := hcell i (by rw [acR]; exact hlt)
  rw [acR] at hv'
  cases hv'
  rw [agP] at g1
  obtain ⟨c, hc⟩ : ∃ c, c = l[i]'hlt := ⟨_, rfl⟩
  rw [<- hc] at g1
  simp only [pG] at g1
  have htk : l.take (i + 1) = l.take i ++ [c] := by rw [agI, acS hlt, <- hc] <;> rfl
  have hx := Rp (x := 4294967295) (by decide) (l.take i)
  obtain ⟨x, hxx⟩ : ∃ x, x = O0 4294967295 (l.take i) := ⟨_, rfl⟩
  rw [<- hxx] at hx o2
  have c1 := o2.cell (off := 0)
  simp only [acI] at c1
  have hcb : c.toNat < 256 := c.toNat_lt
  have e0 : IntKind.u32.wrap ((c.toNat : Nat) : Int) = ((c.toNat : Nat) : Int) := fM (by omega) (by omega)
  have e1 := uG hx (J9 c)
  have hy : x ^^^ c.toNat < uF := JW hx (J9 c)
  simp (disch := omega) only [eY, gN, dX, stepR_skip, fO, fW, fN, fZ, fX, fY, gQ, gG, eT, fT, fS, gE, fR, fL, fV, fQ, fU, gB, gC, fP, fC, gI, gA, fK, iR, iO, iP, iU, iM, iS, iQ, iT, iN, eP, Result.ok.injEq, Next.value.injEq, true_and, and_true, fI, fJ, gH, fM, gD, gR, acM, fE, fF, fG, fD, eZ, eU, fB, eX, eQ, eH, if_true, if_false, acK, acQ, acL, acN, acP, acO, acJ, acI, eA, dV, aB, dM, dO, cB, eB, eS, eE, dK, eF, fA, dJ, eJ, bP, dS, bE, dN, aL, aH, eL, aX, cI, eM, aE, eN, dE, aR, bF, eD, bB, bC, bJ, aO, aI, cF, fH, dY, cJ, cC, dA, cH, dT, bD, eK, bT, dF, bR, aT, bV, aC, bY, bQ, cA, bX, aY, aU, bA, bU, dL, cP, bO, aV, aJ, aM, bG, aF, dC, dW, aK, aN, aZ, aG, cY, aD, cL, bW, bH, aP, cM, bZ, aA, dD, cO, cU, cG, dI, cD, dG, dU, cQ, eC, eI, bN, aS, dZ, bS, aQ, bL, dH, cZ, cV, cN, cS, bK, bM, cX, dR, cR, dQ, dB, d1, g1, c1, e0, e1]
  refine zQ o2 rfl (by simp) fun w3 o3 x3 s3 => ?_
  simp only [adA] at o3
  obtain ⟨y, hyy⟩ : ∃ y, y = x ^^^ c.toNat := ⟨_, rfl⟩
  rw [<- hyy] at hy o3
  have b32 : IntKind.u32.bits = 32 := rfl
  have m4 : min (4 : Int).toNat IntKind.u32.bits = 4 := rfl
  have half : ∀ {y : Nat} {w' : ahA}, y < uF -> jI w' p [.int .u32 (y : Nat)] -> gV w w' jN →
      w'.cell? ⟨1, y &&& 15, none⟩ = some (.int .u32 (hN.getD (y &&& 15) 0 : Nat)) /\ w'.cell? ⟨p, 0, none⟩ = some (.int .u32 (y : Nat)) /\ PY .u32 (y : Int) 15 = ((y &&& 15 : Nat) : Int) /\ y &&& 15 < 16 /\ (y : Int).fdiv (2 ^ 4) = ((y / 2 ^ 4 : Nat) : Int) /\ Rt .u32 ((y / 2 ^ 4 : Nat) : Int) ((hN.getD (y &&& 15) 0 : Nat) : Int) = ((Qy y : Nat) : Int) := fun {y w'} hy o x => by
   have h16 : y &&& 15 < 16 := Nat.and_lt_two_pow (n := 4) y (by decide)
   have c := o.cell (off := 0)
   simp only [acI] at c
   exact ⟨(hg.ext x).cr _ h16, c, GC (b := 15) hy (by decide), h16, O1 y 4, uG (PK hy 4) (YI.getD _)⟩
  have x03 : gV w w3 jN := x02.trans x3 fun y hy h => by omega
  have od := kR o3
  obtain ⟨a1, a2, a3, a4, a5, a6⟩ := half hy od (x03.seq (gV.dr _ _))
  obtain ⟨b1, b2, -, -, -, -⟩ := half hy o3 x03
  obtain ⟨yy, hyd⟩ : ∃ yy, yy = y &&& 15 := ⟨_, rfl⟩
  rw [<- hyd] at a1 a3 a4 a6 b1
  simp (disch := omega) only [eY, gN, dX, stepR_skip, fO, fW, fN, fZ, fX, fY, gQ, gG, eT, fT, fS, gE, fR, fL, fV, fQ, fU, gB, gC, fP, fC, gI, gA, fK, iR, iO, iP, iU, iM, iS, iQ, iT, iN, eP, Result.ok.injEq, Next.value.injEq, true_and, and_true, fI, fJ, gH, fM, gD, gR, acM, fE, fF, fG, fD, eZ, eU, fB, eX, eQ, eH, if_true, if_false, acK, acQ, acL, acN, acP, acO, acJ, acI, eA, dV, aB, dM, dO, cB, eB, eS, eE, dK, eF, fA, dJ, eJ, bP, dS, bE, dN, aL, aH, eL, aX, cI, eM, aE, eN, dE, aR, bF, eD, bB, bC, bJ, aO, aI, cF, fH, dY, cJ, cC, dA, cH, dT, bD, eK, bT, dF, bR, aT, bV, aC, bY, bQ, cA, bX, aY, aU, bA, bU, dL, cP, bO, aV, aJ, aM, bG, aF, dC, dW, aK, aN, aZ, aG, cY, aD, cL, bW, bH, aP, cM, bZ, aA, dD, cO, cU, cG, dI, cD, dG, dU, cQ, eC, eI, bN, aS, dZ, bS, aQ, bL, dH, cZ, cV, cN, cS, bK, bM, cX, dR, cR, dQ, dB, a1, a2, a3, a5, a6, b1, b2, m4]
  refine zQ od rfl (by simp) fun w4 o4 x4 s4 => ?_
  simp only [adA] at o4
  obtain ⟨z, hz⟩ : ∃ z, z = Qy y := ⟨_, rfl⟩
  have hz32 : z < uF := hz ▸ PN hy
  rw [<- hz] at o4
  have x04 : gV w w4 jN := (x03.seq (gV.dr _ _)).trans x4 fun y hy h => by omega
  have oe := kR o4
  obtain ⟨a1, a2, a3, a4, a5, a6⟩ := half hz32 oe (x04.seq (gV.dr _ _))
  obtain ⟨yy, hyd⟩ : ∃ yy, yy = z &&& 15 := ⟨_, rfl⟩
  rw [<- hyd] at a1 a3 a4 a6
  simp (disch := omega) only [eY, gN, dX, stepR_skip, fO, fW, fN, fZ, fX, fY, gQ, gG, eT, fT, fS, gE, fR, fL, fV, fQ, fU, gB, gC, fP, fC, gI, gA, fK, iR, iO, iP, iU, iM, iS, iQ, iT, iN, eP, Result.ok.injEq, Next.value.injEq, true_and, and_true, fI, fJ, gH, fM, gD, gR, acM, fE, fF, fG, fD, eZ, eU, fB, eX, eQ, eH, if_true, if_false, acK, acQ, acL, acN, acP, acO, acJ, acI, eA, dV, aB, dM, dO, cB, eB, eS, eE, dK, eF, fA, dJ, eJ, bP, dS, bE, dN, aL, aH, eL, aX, cI, eM, aE, eN, dE, aR, bF, eD, bB, bC, bJ, aO, aI, cF, fH, dY, cJ, cC, dA, cH, dT, bD, eK, bT, dF, bR, aT, bV, aC, bY, bQ, cA, bX, aY, aU, bA, bU, dL, cP, bO, aV, aJ, aM, bG, aF, dC, dW, aK, aN, aZ, aG, cY, aD, cL, bW, bH, aP, cM, bZ, aA, dD, cO, cU, cG, dI, cD, dG, dU, cQ, eC, eI, bN, aS, dZ, bS, aQ, bL, dH, cZ, cV, cN, cS, bK, bM, cX, dR, cR, dQ, dB, a1, a2, a3, a5, a6, m4]
  refine zQ oe rfl (by simp) fun w5 o5 x5 s5 => ?_
  simp only [adA] at o5
  refine ⟨l.length - (i + 1), by omega, i + 1, rfl, by omega, rfl, ?_, ((((x2.seq x3).seq (gV.dr _ _)).seq x4).seq (gV.dr _ _)).seq x5⟩
  have e : O0 4294967295 (l.take (i + 1)) = Qy z := by rw [htk, Vm, <- hxx, X3, <- hyy, <- hz]
  rw [e]
  exact o5
 have d1 : decide ((i : Int) < (l.length : Int)) = false := by simp; omega
 obtain rfl : i = l.length := by omega
 rw [acX (acY _)] at o2
 simp (disch := omega) only [eY, gN, dX, stepR_skip, fO, fW, fN, fZ, fX, fY, gQ, gG, eT, fT, fS, gE, fR, fL, fV, fQ, fU, gB, gC, fP, fC, gI, gA, fK, iR, iO, iP, iU, iM, iS, iQ, iT, iN, eP, Result.ok.injEq, Next.value.injEq, true_and, and_true, fI, fJ, gH, fM, gD, gR, acM, fE, fF, fG, fD, eZ, eU, fB, eX, eQ, eH, if_true, if_false, acK, acQ, acL, acN, acP, acO, acJ, acI, eA, dV, aB, dM, dO, cB, eB, eS, eE, dK, eF, fA, dJ, eJ, bP, dS, bE, dN, aL, aH, eL, aX, cI, eM, aE, eN, dE, aR, bF, eD, bB, bC, bJ, aO, aI, cF, fH, dY, cJ, cC, dA, cH, dT, bD, eK, bT, dF, bR, aT, bV, aC, bY, bQ, cA, bX, aY, aU, bA, bU, dL, cP, bO, aV, aJ, aM, bG, aF, dC, dW, aK, aN, aZ, aG, cY, aD, cL, bW, bH, aP, cM, bZ, aA, dD, cO, cU, cG, dI, cD, dG, dU, cQ, eC, eI, bN, aS, dZ, bS, aQ, bL, dH, cZ, cV, cN, cS, bK, bM, cX, dR, cR, dQ, dB, d1]
 refine MH ?_
 unfold Mh Cx
 have c1 := o2.cell (off := 0)
 simp only [acI] at c1
 have hx := Rp (x := 4294967295) (by decide) l
 have g1 : IntKind.u32.signed = false := rfl
 have g2 : IntKind.u32.max = 4294967295 := rfl
 have e2 : Rt .u32 (4294967295 : Int) ((O0 4294967295 l : Nat) : Int) = ((iA l : Nat) : Int) := uG (a := 4294967295) (by decide) hx
 simp (disch := omega) only [eY, gN, dX, stepR_skip, fO, fW, fN, fZ, fX, fY, gQ, gG, eT, fT, fS, gE, fR, fL, fV, fQ, fU, gB, gC, fP, fC, gI, gA, fK, iR, iO, iP, iU, iM, iS, iQ, iT, iN, eP, Result.ok.injEq, Next.value.injEq, true_and, and_true, fI, fJ, gH, fM, gD, gR, acM, fE, fF, fG, fD, eZ, eU, fB, eX, eQ, eH, if_true, if_false, acK, acQ, acL, acN, acP, acO, acJ, acI, eA, dV, aB, dM, dO, cB, eB, eS, eE, dK, eF, fA, dJ, eJ, bP, dS, bE, dN, aL, aH, eL, aX, cI, eM, aE, eN, dE, aR, bF, eD, bB, bC, bJ, aO, aI, cF, fH, dY, cJ, cC, dA, cH, dT, bD, eK, bT, dF, bR, aT, bV, aC, bY, bQ, cA, bX, aY, aU, bA, bU, dL, cP, bO, aV, aJ, aM, bG, aF, dC, dW, aK, aN, aZ, aG, cY, aD, cL, bW, bH, aP, cM, bZ, aA, dD, cO, cU, cG, dI, cD, dG, dU, cQ, eC, eI, bN, aS, dZ, bS, aQ, bL, dH, cZ, cV, cN, cS, bK, bM, cX, dR, cR, dQ, dB, c1, g1, g2, e2]
 rw [hRR]
 exact ⟨rfl, x02⟩
end Go.Proofs.YteelnmpbnaohpaaDoor

/- Parts of the proof of WeightsReads: merged and given short names by a program of ours. -/
import Derived.Laws.IdiomStrings
import Derived.Test.YtoepfjgekpdddaaZA
namespace Go.Proofs.Ytoepfjgekpdddaa
open Go Go.En
set_option linter.unusedVariables false
set_option maxRecDepth 20000
attribute [local irreducible] Go.En.aQ
variable (Q : Exit → eL → World → Prop) (g : eL) (w : World)
def Lt : FA := ⟨D1, fun i => match Nat.beq i 3 with | true => .leaf ([7, 11], [(10, 11)]) [(false, []), (false, []), (false, []), (false, []), (false, []), (false, []), (false, []), (true, []), (false, []), (false, []), (false, []), (true, [0]), (false, [])] | false => match Nat.beq i 4 with | true => .leaf ([10], [(1, 10), (2, 10), (4, 10), (5, 10), (6, 10), (8, 10), (9, 10)]) [(false, []), (false, []), (false, []), (false, []), (false, []), (false, []), (false, []), (false, []), (false, []), (false, []), (true, [0, 1, 3, 4, 5, 7, 8]), (false, [])] | false => .leaf ([], []) []⟩
def Hh : List ResultVar := [.cell 6 91, .tmp 7]
noncomputable def Jp : Code := fB Try.f48
def Gq (R : K1) (t0 DL D2 : Value) (w : World) : Prop :=
  aD pg (Ej 96 t0) w fun t3 w =>
  aD pg (Ej 91 D2) w fun b_5 w =>
  aD pg (hT 91) w fun t6 w =>
  aD pg (aN .lss 3 (.tmp 9) (.const (.int .i64 0)) DL (.int .i64 0)) w fun t10 w =>
  Gd (dW t10 false) (fun K => K DL w) w fun t12 w =>
  Gd (dW t10 false) (fun K => aD pg (bA 96 t3 1) w K) w fun t13 w =>
  Gd (dW t10 false) (fun K => aD pg (aW 94 t13) w K) w fun t14 w =>
  Gd (dW t10 false) (fun K => aD pg (iJ .len #[94] 3 [t14]) w K) w fun t15 w =>
  Gd (dW t10 false) (fun K => aD pg (aN .geq 3 (.tmp 12) (.tmp 15) t12 t15) w K) w fun t16 w =>
  aD pg (fJ t10 (.bool true) t16) w fun t17 w =>
  hH t17
    (aD pg (aW 91 b_5) w fun t18 w =>
    aD pg (cB 91 t6 t18) w fun _u w =>
    F1 pg 91 t6 w fun r0 => R (.tuple #[r0, (.int .i64 0)]) w)
    (aD pg (aW 91 b_5) (dr w) fun t20 w_ => w_ = (dr w) ∧
    aD pg (bA 96 t3 1) (dr w) fun t21 w_ => w_ = (dr w) ∧
    aD pg (aW 94 t21) (dr w) fun t22 w_ => w_ = (dr w) ∧
    (dr w) = (dr w) ∧
    aD pg (cD 94 t22 DL) (dr w) fun t24 w_ => w_ = (dr w) ∧
    aD pg (bA 103 t24 1) (dr w) fun t25 w_ => w_ = (dr w) ∧
    aD pg (aW 3 t25) (dr w) fun t26 w_ => w_ = (dr w) ∧
    cC pg Ay #[t20, t26] (dr w) fun t27 Zo =>
    Zo = Zo ∧
    aD pg (dV t27 0) Zo fun t28 w_ => w_ = Zo ∧
    aD pg (dV t27 1) Zo fun t29 w_ => w_ = Zo ∧
    aD pg (cB 91 b_5 t28) Zo fun _u11 rD =>
    (gZ pg (dV t27 1) t29 rD ∧ True) ∧
    rD = rD ∧
    aD pg (aW 91 b_5) (dr rD) fun t30 w_ => w_ = (dr rD) ∧
    aD pg (bA 96 t3 1) (dr rD) fun t31 w_ => w_ = (dr rD) ∧
    aD pg (aW 94 t31) (dr rD) fun t32 w_ => w_ = (dr rD) ∧
    (dr rD) = (dr rD) ∧
    aD pg (cD 94 t32 DL) (dr rD) fun t34 w_ => w_ = (dr rD) ∧
    aD pg (bA 103 t34 2) (dr rD) fun t35 w_ => w_ = (dr rD) ∧
    aD pg (aW 3 t35) (dr rD) fun t36 w_ => w_ = (dr rD) ∧
    (dr rD) = (dr rD) ∧
    aD pg (jH 44 3 t29) (dr rD) fun t38 w_ => w_ = (dr rD) ∧
    aD pg (aN .add 3 (.tmp 36) (.tmp 38) t36 t38) (dr rD) fun t39 w_ => w_ = (dr rD) ∧
    aD pg (cB 91 t6 t30) (dr rD) fun _u10 Ks =>
    (gZ pg (aN .add 3 (.tmp 36) (.tmp 38) t36 t38) t39 Ks ∧ gZ pg (jH 44 3 t29) t38 Ks ∧ gZ pg (aW 3 t35) t36 Ks ∧ gZ pg (bA 103 t34 2) t35 Ks ∧ gZ pg (cD 94 t32 DL) t34 Ks ∧ gZ pg (aW 94 t31) t32 Ks ∧ gZ pg (bA 96 t3 1) t31 Ks ∧ True) ∧
    Ks = Ks ∧
    F1 pg 91 t6 Ks fun r0 => R (.tuple #[r0, t39]) Ks)
theorem SI (R : K1) (hr : HR Hh R Q) (h : Gq R (g 0) (g 1) (g 2) w) : aQ pg Lt Jp Q g w :=
  aI (kn := no) (l := []) (by kernel_rfl) h fG hr trivial
def VR (a0 a1 a2 : Value) (w : World) (R : K1) : Prop :=
  Gq R a0 a1 a2 w
theorem U6 {a0 a1 a2 : Value} {w : World} {R : K1} (h : VR a0 a1 a2 w R) : cC pg D1 #[a0, a1, a2] w R := by
  refine bQ (ann := Lt) (fn := Try.f48) (c := Jp) (args := [a0, a1, a2]) (rs := Hh) (N := 40) TryM.mixed (by kernel_rfl) Try.func48 (by kernel_rfl) (by kernel_rfl) (by kernel_rfl) (of_decide_eq_true (by kernel_rfl)) (by kernel_rfl) ?_
  exact (SI (jT pg Hh R) (gE [a0, a1, a2]) w R (fun _ _ h => h) h)
def DF : FA := ⟨rL, fun i => .leaf ([], []) []⟩
def yA : List ResultVar := [.tmp 2]
noncomputable def CK : Code := fB Try.f49
def xF (R : K1) (gL : Value) (w : World) : Prop :=
  cC pg jY #[gL] w fun t4 w =>
  aD pg (fV 132 [(0, t4)]) w fun t5 w =>
  aD pg (Ej 132 t5) w fun t6 w =>
  R t6 w
theorem J0 (R : K1) (hr : HR yA R Q) (h : xF R (g 0) w) : aQ pg DF CK Q g w :=
  aI (kn := no) (l := []) (by kernel_rfl) h fG hr trivial
def Jf (a0 : Value) (w : World) (R : K1) : Prop :=
  xF R a0 w
theorem Lm {a0 : Value} {w : World} {R : K1} (h : Jf a0 w R) : cC pg rL #[a0] w R := by
  refine bQ (ann := DF) (fn := Try.f49) (c := CK) (args := [a0]) (rs := yA) (N := 7) TryM.mixed (by kernel_rfl) Try.func49 (by kernel_rfl) (by kernel_rfl) (by kernel_rfl) (of_decide_eq_true (by kernel_rfl)) (by kernel_rfl) ?_
  exact (J0 (jT pg yA R) (gE [a0]) w R (fun _ _ h => h) h)
def Bn : FA := ⟨iX, fun i => match Nat.beq i 3 with | true => .leaf ([], []) [(false, []), (false, []), (false, []), (false, []), (false, []), (false, []), (false, []), (false, []), (false, []), (false, []), (false, []), (false, []), (false, []), (false, [])] | false => match Nat.beq i 5 with | true => .leaf ([9], []) [(false, []), (false, []), (false, []), (false, []), (false, []), (false, []), (false, []), (false, []), (false, []), (true, []), (false, [])] | false => .leaf ([], []) []⟩
def sC : List ResultVar := [.tmp 4, .tmp 5]
noncomputable def zY : Code := fB Try.f50
def sU (R : K1) (FT kQ : Value) (w : World) : Prop :=
  aD pg (aN .eql 105 (.tmp 8) (.const (.pointer none)) FT (.pointer none)) w fun t9 w =>
  Gd (dW t9 false) (fun K => K kQ w) w fun t11 w =>
  Gd (dW t9 false) (fun K => aD pg (aN .lss 3 (.tmp 11) (.const (.int .i64 0)) t11 (.int .i64 0)) w K) w fun t12 w =>
  aD pg (fJ t9 (.bool true) t12) w fun t13 w =>
  Gd (dW t13 false) (fun K => K kQ w) w fun t15 w =>
  Gd (dW t13 false) (fun K => aD pg (aN .gtr 3 (.tmp 15) (.const (.int .i64 32)) t15 (.int .i64 32)) w K) w fun t16 w =>
  aD pg (fJ t13 (.bool true) t16) w fun t17 w =>
  hH t17
    (R (.tuple #[(.int .u64 0), (.int .i64 1)]) w)
    ((dr w) = (dr w) ∧
    aD pg (Ix FT) (dr w) fun t20 w_ => w_ = (dr w) ∧
    aD pg (bA 132 t20 0) (dr w) fun t21 w_ => w_ = (dr w) ∧
    aD pg (aW 22 t21) (dr w) fun t22 w_ => w_ = (dr w) ∧
    aD pg (iJ .len #[22] 3 [t22]) (dr w) fun t23 w_ => w_ = (dr w) ∧
    aD pg (aN .mul 3 (.const (.int .i64 8)) (.tmp 23) (.int .i64 8) t23) (dr w) fun t24 w_ => w_ = (dr w) ∧
    (dr w) = (dr w) ∧
    aD pg (Ix FT) (dr w) fun t26 w_ => w_ = (dr w) ∧
    aD pg (bA 132 t26 1) (dr w) fun t27 w_ => w_ = (dr w) ∧
    aD pg (aW 3 t27) (dr w) fun t28 w_ => w_ = (dr w) ∧
    aD pg (aN .sub 3 (.tmp 24) (.tmp 28) t24 t28) (dr w) fun t29 w_ => w_ = (dr w) ∧
    (dr w) = (dr w) ∧
    aD pg (aN .lss 3 (.tmp 29) (.tmp 30) t29 kQ) (dr w) fun t31 w_ => w_ = (dr w) ∧
    (dr w) = (dr w) ∧
    hH t31
      (R (.tuple #[(.int .u64 0), (.int .i64 10)]) (dr w))
      ((dr (dr w)) = (dr (dr w)) ∧
      aD pg (Ix FT) (dr (dr w)) fun t33 w_ => w_ = (dr (dr w)) ∧
      aD pg (bA 132 t33 0) (dr (dr w)) fun t34 w_ => w_ = (dr (dr w)) ∧
      aD pg (aW 22 t34) (dr (dr w)) fun t35 w_ => w_ = (dr (dr w)) ∧
      (dr (dr w)) = (dr (dr w)) ∧
      aD pg (Ix FT) (dr (dr w)) fun t37 w_ => w_ = (dr (dr w)) ∧
      aD pg (bA 132 t37 1) (dr (dr w)) fun t38 w_ => w_ = (dr (dr w)) ∧
      aD pg (aW 3 t38) (dr (dr w)) fun t39 w_ => w_ = (dr (dr w)) ∧
      (dr (dr w)) = (dr (dr w)) ∧
      cC pg CH #[t35, t39, kQ] (dr (dr w)) fun t41 ahW =>
      ahW = ahW ∧
      aD pg (Ix FT) ahW fun t43 w =>
      aD pg (bA 132 t43 1) w fun t44 w =>
      aD pg (aW 3 t44) w fun t45 w =>
      aD pg (aN .add 3 (.tmp 45) (.tmp 46) t45 kQ) w fun t47 w =>
      aD pg (Ix FT) w fun t48 w =>
      aD pg (bA 132 t48 1) w fun t49 w =>
      aD pg (cB 3 t49 t47) w fun _u w =>
      R (.tuple #[t41, (.int .i64 0)]) w))
theorem HM (R : K1) (hr : HR sC R Q) (h : sU R (g 0) (g 1) w) : aQ pg Bn zY Q g w :=
  aI (kn := no) (l := []) (by kernel_rfl) h fG hr trivial
def F8 (a0 a1 : Value) (w : World) (R : K1) : Prop :=
  sU R a0 a1 w
theorem It {a0 a1 : Value} {w : World} {R : K1} (h : F8 a0 a1 w R) : cC pg iX #[a0, a1] w R := by
  refine bQ (ann := Bn) (fn := Try.f50) (c := zY) (args := [a0, a1]) (rs := sC) (N := 51) TryM.mixed (by kernel_rfl) Try.func50 (by kernel_rfl) (by kernel_rfl) (by kernel_rfl) (of_decide_eq_true (by kernel_rfl)) (by kernel_rfl) ?_
  exact (HM (jT pg sC R) (gE [a0, a1]) w R (fun _ _ h => h) h)
def HU : FA := ⟨AT, fun i => .leaf ([], []) []⟩
def C4 : List ResultVar := [.tmp 4, .tmp 5]
noncomputable def Gj : Code := fB Try.f51
def Dv (R : K1) (FT Vu : Value) (w : World) : Prop :=
  aD pg (aN .add 3 (.tmp 11) (.const (.int .i64 1)) Vu (.int .i64 1)) w fun t12 w =>
  aD pg (jH 3 49 t12) w fun t13 w =>
  cC pg kC #[t13] w fun t14 w =>
  aD pg (aN .sub 3 (.tmp 17) (.const (.int .i64 1)) t14 (.int .i64 1)) w fun t18 w =>
  cC pg iX #[FT, t18] w fun t19 w =>
  aD pg (dV t19 0) w fun t20 w =>
  aD pg (dV t19 1) w fun t21 w =>
  aD pg (aN .neq 24 (.tmp 22) (.const (.int .i64 0)) t21 (.int .i64 0)) w fun t23 w =>
  hH t23
    (R (.tuple #[(.int .i64 0), t21]) w)
    (aD pg (aN .shl 3 (.const (.int .i64 1)) (.tmp 25) (.int .i64 1) t14) w fun t26 w =>
    aD pg (aN .sub 3 (.tmp 26) (.const (.int .i64 2)) t26 (.int .i64 2)) w fun t27 w =>
    aD pg (aN .sub 3 (.tmp 27) (.tmp 28) t27 Vu) w fun t29 w =>
    aD pg (jH 44 3 t20) w fun t31 w =>
    aD pg (aN .lss 3 (.tmp 31) (.tmp 32) t31 t29) w fun t33 w =>
    hH t33
      (aD pg (jH 44 3 t20) w fun t35 w =>
      R (.tuple #[t35, (.int .i64 0)]) w)
      (cC pg iX #[FT, (.int .i64 1)] w fun t38 w =>
      aD pg (dV t38 0) w fun t39 w =>
      aD pg (dV t38 1) w fun t40 w =>
      aD pg (aN .neq 24 (.tmp 42) (.const (.int .i64 0)) t40 (.int .i64 0)) w fun t43 w =>
      hH t43
        (R (.tuple #[(.int .i64 0), t40]) w)
        (aD pg (aN .eql 44 (.tmp 46) (.const (.int .u64 0)) t39 (.int .u64 0)) w fun t47 w =>
        hH t47
          (aD pg (jH 44 3 t20) w fun t49 w =>
          R (.tuple #[t49, (.int .i64 0)]) w)
          (aD pg (jH 44 3 t20) w fun t51 w =>
          aD pg (aN .sub 3 (.tmp 52) (.const (.int .i64 1)) t14 (.int .i64 1)) w fun t53 w =>
          aD pg (aN .shl 3 (.const (.int .i64 1)) (.tmp 53) (.int .i64 1) t53) w fun t54 w =>
          aD pg (aN .add 3 (.tmp 51) (.tmp 54) t51 t54) w fun t55 w =>
          aD pg (aN .sub 3 (.tmp 55) (.tmp 56) t55 t29) w fun t57 w =>
          R (.tuple #[t57, (.int .i64 0)]) w))))
theorem NX (R : K1) (hr : HR C4 R Q) (h : Dv R (g 0) (g 1) w) : aQ pg HU Gj Q g w :=
  aI (kn := no) (l := []) (by kernel_rfl) h fG hr trivial
def PY (a0 a1 : Value) (w : World) (R : K1) : Prop :=
  Dv R a0 a1 w
theorem Pm {a0 a1 : Value} {w : World} {R : K1} (h : PY a0 a1 w R) : cC pg AT #[a0, a1] w R := by
  refine bQ (ann := HU) (fn := Try.f51) (c := Gj) (args := [a0, a1]) (rs := C4) (N := 58) TryM.mixed (by kernel_rfl) Try.func51 (by kernel_rfl) (by kernel_rfl) (by kernel_rfl) (of_decide_eq_true (by kernel_rfl)) (by kernel_rfl) ?_
  exact (NX (jT pg C4 R) (gE [a0, a1]) w R (fun _ _ h => h) h)
def HD : FA := ⟨oH, fun i => .leaf ([], []) []⟩
def Dl : List ResultVar := [.tmp 2]
noncomputable def Gb : Code := fB Try.f52
def vI (R : K1) (p_0 : Value) (w : World) : Prop :=
  aD pg (aN .lss 3 (.tmp 3) (.const (.int .i64 0)) p_0 (.int .i64 0)) w fun t4 w =>
  hH t4
    (R (.int .i64 1) w)
    (R p_0 w)
theorem NT (R : K1) (hr : HR Dl R Q) (h : vI R (g 0) w) : aQ pg HD Gb Q g w :=
  aI (kn := no) (l := []) (by kernel_rfl) h fG hr trivial
def Ib (a0 : Value) (w : World) (R : K1) : Prop :=
  vI R a0 w
theorem QJ {a0 : Value} {w : World} {R : K1} (h : Ib a0 w R) : cC pg oH #[a0] w R := by
  refine bQ (ann := HD) (fn := Try.f52) (c := Gb) (args := [a0]) (rs := Dl) (N := 6) TryM.mixed (by kernel_rfl) Try.func52 (by kernel_rfl) (by kernel_rfl) (by kernel_rfl) (of_decide_eq_true (by kernel_rfl)) (by kernel_rfl) ?_
  exact (NT (jT pg Dl R) (gE [a0]) w R (fun _ _ h => h) h)
def dS : FA := ⟨tC, fun i => .leaf ([], []) []⟩
def hC : List ResultVar := [.tmp 2, .tmp 3]
noncomputable def dI : Code := fB Try.f53
def rK (R : K1) (rT : Value) (w : World) : Prop :=
  R (.tuple #[rT, (.int .i64 0)]) w
theorem KI (R : K1) (hr : HR hC R Q) (h : rK R (g 4) w) : aQ pg dS (aA 1 (aA 2 (bI (aA 1 dI)))) Q g w :=
  aI (kn := no) (l := []) (by kernel_rfl) h fG hr trivial
def qW (kn : K2) (k0 : K1) (R : K1) (FT rT : Value) (w : World) : Prop :=
  cC pg iX #[FT, (.int .i64 2)] w fun t9 w =>
  aD pg (dV t9 0) w fun t10 w =>
  aD pg (dV t9 1) w fun t11 w =>
  aD pg (aN .neq 24 (.tmp 12) (.const (.int .i64 0)) t11 (.int .i64 0)) w fun t13 w =>
  hH t13
    (R (.tuple #[(.int .i64 0), t11]) w)
    (aD pg (jH 44 3 t10) w fun t17 w =>
    aD pg (aN .add 3 (.tmp 15) (.tmp 17) rT t17) w fun t18 w =>
    aD pg (aN .lss 44 (.tmp 19) (.const (.int .u64 3)) t10 (.int .u64 3)) w fun t20 w =>
    hH t20
      (k0 t18 w)
      (kn FT t18 w))
theorem Lx (kn : K2) (k0 : K1) (R : K1) (hn : ∀ g w, kn (g 0) (g 4) w → Q .normal g w) (h0 : ∀ g w, k0 (g 4) w → Q (.exit 0) g w) (hr : HR hC R Q) (h : qW kn k0 R (g 0) (g 4) w) : aQ pg dS (bI (bI (aC 1 (aA 2 (bI (aA 1 dI)))))) Q g w :=
  aI (l := [(0, fun g w => k0 (g 4) w)]) (by kernel_rfl) h hn hr ⟨h0, trivial⟩
def AQ (k0 : K1) (R : K1) (FT rT : Value) (w : World) : Prop :=
  cV (fun (X : Value → K0) (t : Value) (w : World) => qW (fun _ rT w => X rT w) k0 R FT t w) rT w
theorem Lp (k0 : K1) (R : K1) (h0 : ∀ g w, k0 (g 4) w → Q (.exit 0) g w) (hr : HR hC R Q) (h : AQ k0 R (g 0) (g 4) w) : aQ pg dS (bI (aC 1 (aA 2 (bI (aA 1 dI))))) Q g w := by
  refine cR (T := Value) (fun g : eL => g 4) (fun X t w => qW (fun _ rT w => X rT w) k0 R (g 0) t w) _ (by kernel_rfl) h (fun X g1 w1 ha hL => ?_)
  rw [← aO (s := 0) ha (by kernel_rfl)] at hL
  exact (Lx (aX (fun g2 w2 => X ((fun g : eL => g 4) g2) w2) Q) g1 w1 (fun _ rT w => X rT w) k0 R (fun _ _ h => h) h0 hr hL)
def Aw (kn : K1) (R : K1) (FT rT : Value) (w : World) : Prop :=
  AQ kn R FT rT w
theorem Ku (kn : K1) (R : K1) (hn : ∀ g w, kn (g 4) w → Q .normal g w) (hr : HR hC R Q) (h : Aw kn R (g 0) (g 4) w) : aQ pg dS (aC 1 (aA 2 (bI (aA 1 dI)))) Q g w :=
  cU 0 _ g w (by kernel_rfl) (Lp (rP 0 Q) g w kn R hn hr h)
def rC (R : K1) (FT rT : Value) (w : World) : Prop :=
  Aw (fun rT w => rK R rT w) R FT rT w
theorem Kv (R : K1) (hr : HR hC R Q) (h : rC R (g 0) (g 4) w) : aQ pg dS (aA 2 (bI (aA 1 dI))) Q g w :=
  aL 1 _ g w (by kernel_rfl) (Ku (aX (fun g w => aQ pg dS (aA 1 (aA 2 (bI (aA 1 dI)))) Q g w) Q) g w (fun rT w => rK R rT w) R (fun g w h => aS (K := fun g w => aQ pg dS (aA 1 (aA 2 (bI (aA 1 dI)))) Q g w) (KI Q g w R hr h)) hr h)
def yX (kn : K2) (FT : Value) (w : World) : Prop :=
  kn FT (.int .i64 0) w
theorem Km (kn : K2) (hn : ∀ g w, kn (g 0) (g 4) w → Q .normal g w) (h : yX kn (g 0) w) : aQ pg dS (aC 2 (bI (aA 1 dI))) Q g w :=
  aI (kr := no) (l := []) (by kernel_rfl) h hn fG trivial
def Aj (R : K1) (FT : Value) (w : World) : Prop :=
  yX (fun FT rT w => rC R FT rT w) FT w
theorem Lr (R : K1) (hr : HR hC R Q) (h : Aj R (g 0) w) : aQ pg dS (bI (aA 1 dI)) Q g w :=
  aL 2 _ g w (by kernel_rfl) (Km (aX (fun g w => aQ pg dS (aA 2 (bI (aA 1 dI))) Q g w) Q) g w (fun FT rT w => rC R FT rT w) (fun g w h => aS (K := fun g w => aQ pg dS (aA 2 (bI (aA 1 dI))) Q g w) (Kv Q g w R hr h)) h)
def rH (R : K1) (FT : Value) (w : World) : Prop :=
  Aj R FT w
theorem Kg (R : K1) (hr : HR hC R Q) (h : rH R (g 0) w) : aQ pg dS (aA 1 dI) Q g w :=
  XP _ g w (by kernel_rfl) (Lr Q g w R hr h)
def A5 (kn : K1) (FT : Value) (w : World) : Prop :=
  kn FT w
theorem KP (kn : K1) (hn : ∀ g w, kn (g 0) w → Q .normal g w) (h : A5 kn (g 0) w) : aQ pg dS (aC 1 dI) Q g w :=
  aI (kr := no) (l := []) (by kernel_rfl) h hn fG trivial
def yB (R : K1) (FT : Value) (w : World) : Prop :=
  A5 (fun FT w => rH R FT w) FT w
theorem JQ (R : K1) (hr : HR hC R Q) (h : yB R (g 0) w) : aQ pg dS dI Q g w :=
  aL 1 _ g w (by kernel_rfl) (KP (aX (fun g w => aQ pg dS (aA 1 dI) Q g w) Q) g w (fun FT w => rH R FT w) (fun g w h => aS (K := fun g w => aQ pg dS (aA 1 dI) Q g w) (Kg Q g w R hr h)) h)
def LB (a0 : Value) (w : World) (R : K1) : Prop :=
  yB R a0 w
theorem MA {a0 : Value} {w : World} {R : K1} (h : LB a0 w R) : cC pg tC #[a0] w R := by
  refine bQ (ann := dS) (fn := Try.f53) (c := dI) (args := [a0]) (rs := hC) (N := 22) TryM.mixed (by kernel_rfl) Try.func53 (by kernel_rfl) (by kernel_rfl) (by kernel_rfl) (of_decide_eq_true (by kernel_rfl)) (by kernel_rfl) ?_
  exact (JQ (jT pg hC R) (gE [a0]) w R (fun _ _ h => h) h)
def Bj : FA := ⟨nN, fun i => .leaf ([], []) []⟩
def sL : List ResultVar := [.tmp 2]
noncomputable def zJ : Code := fB Try.f54
def sM (R : K1) (FT : Value) (w : World) : Prop :=
  aD pg (aN .eql 105 (.tmp 3) (.const (.pointer none)) FT (.pointer none)) w fun t4 w =>
  hH t4
    (R (.int .i64 0) w)
    (aD pg (Ix FT) w fun t6 w =>
    aD pg (bA 132 t6 1) w fun t7 w =>
    aD pg (aW 3 t7) w fun t8 w =>
    aD pg (aN .add 3 (.tmp 8) (.const (.int .i64 7)) t8 (.int .i64 7)) w fun t9 w =>
    aD pg (aN .quo 3 (.tmp 9) (.const (.int .i64 8)) t9 (.int .i64 8)) w fun t10 w =>
    R t10 w)
theorem HS (R : K1) (hr : HR sL R Q) (h : sM R (g 0) w) : aQ pg Bj zJ Q g w :=
  aI (kn := no) (l := []) (by kernel_rfl) h fG hr trivial
def FZ (a0 : Value) (w : World) (R : K1) : Prop :=
  sM R a0 w
theorem Ik {a0 : Value} {w : World} {R : K1} (h : FZ a0 w R) : cC pg nN #[a0] w R := by
  refine bQ (ann := Bj) (fn := Try.f54) (c := zJ) (args := [a0]) (rs := sL) (N := 11) TryM.mixed (by kernel_rfl) Try.func54 (by kernel_rfl) (by kernel_rfl) (by kernel_rfl) (of_decide_eq_true (by kernel_rfl)) (by kernel_rfl) ?_
  exact (HS (jT pg sL R) (gE [a0]) w R (fun _ _ h => h) h)
def El : FA := ⟨tK, fun i => .leaf ([], []) []⟩
def A3 : List ResultVar := [.tmp 2]
noncomputable def DG : Code := fB Try.f55
def zI (R : K1) (hY : Value) (w : World) : Prop :=
  aD pg (Oc 9 (.string ⟨#[0, 1, 2, 2, 3, 3, 3, 3, 4, 4, 4, 4, 4, 4, 4, 4, 5, 5, 5, 5, 5, 5, 5, 5, 5, 5, 5, 5, 5, 5, 5, 5, 6, 6, 6, 6, 6, 6, 6, 6, 6, 6, 6, 6, 6, 6, 6, 6, 6, 6, 6, 6, 6, 6, 6, 6, 6, 6, 6, 6, 6, 6, 6, 6, 7, 7, 7, 7, 7, 7, 7, 7, 7, 7, 7, 7, 7, 7, 7, 7, 7, 7, 7, 7, 7, 7, 7, 7, 7, 7, 7, 7, 7, 7, 7, 7, 7, 7, 7, 7, 7, 7, 7, 7, 7, 7, 7, 7, 7, 7, 7, 7, 7, 7, 7, 7, 7, 7, 7, 7, 7, 7, 7, 7, 7, 7, 7, 7, 8, 8, 8, 8, 8, 8, 8, 8, 8, 8, 8, 8, 8, 8, 8, 8, 8, 8, 8, 8, 8, 8, 8, 8, 8, 8, 8, 8, 8, 8, 8, 8, 8, 8, 8, 8, 8, 8, 8, 8, 8, 8, 8, 8, 8, 8, 8, 8, 8, 8, 8, 8, 8, 8, 8, 8, 8, 8, 8, 8, 8, 8, 8, 8, 8, 8, 8, 8, 8, 8, 8, 8, 8, 8, 8, 8, 8, 8, 8, 8, 8, 8, 8, 8, 8, 8, 8, 8, 8, 8, 8, 8, 8, 8, 8, 8, 8, 8, 8, 8, 8, 8, 8, 8, 8, 8, 8, 8, 8, 8, 8, 8, 8, 8, 8, 8, 8, 8, 8, 8, 8, 8, 8, 8, 8, 8, 8, 8]⟩) hY) w fun t4 w =>
  aD pg (jH 5 3 t4) w fun t5 w =>
  R t5 w
theorem Kq (R : K1) (hr : HR A3 R Q) (h : zI R (g 0) w) : aQ pg El DG Q g w :=
  aI (kn := no) (l := []) (by kernel_rfl) h fG hr trivial
def KN (a0 : Value) (w : World) (R : K1) : Prop :=
  zI R a0 w
theorem MD {a0 : Value} {w : World} {R : K1} (h : KN a0 w R) : cC pg tK #[a0] w R := by
  refine bQ (ann := El) (fn := Try.f55) (c := DG) (args := [a0]) (rs := A3) (N := 6) TryM.mixed (by kernel_rfl) Try.func55 (by kernel_rfl) (by kernel_rfl) (by kernel_rfl) (of_decide_eq_true (by kernel_rfl)) (by kernel_rfl) ?_
  exact (Kq (jT pg A3 R) (gE [a0]) w R (fun _ _ h => h) h)
def HG : FA := ⟨zP, fun i => .leaf ([], []) []⟩
def C7 : List ResultVar := [.tmp 4]
noncomputable def Gc : Code := fB Try.f56
def Dj (R : K1) (VP FL : Value) (w : World) : Prop :=
  aD pg (Ej 69 VP) w fun c_2 w =>
  aD pg (aW 69 c_2) w fun t6 w =>
  cC pg Ec #[t6] w fun t7 w =>
  aD pg (sUn .not t7) w fun t8 w =>
  hH t8
    (R (.int .i64 1) w)
    (aD pg (bA 69 c_2 0) w fun t10 w =>
    aD pg (aW 3 t10) w fun t11 w =>
    aD pg (aN .gtr 3 (.tmp 11) (.tmp 12) t11 FL) w fun t13 w =>
    hH t13
      (R (.int .i64 12) w)
      (R (.int .i64 0) w))
theorem NB (R : K1) (hr : HR C7 R Q) (h : Dj R (g 0) (g 1) w) : aQ pg HG Gc Q g w :=
  aI (kn := no) (l := []) (by kernel_rfl) h fG hr trivial
def O2 (a0 a1 : Value) (w : World) (R : K1) : Prop :=
  Dj R a0 a1 w
theorem O8 {a0 a1 : Value} {w : World} {R : K1} (h : O2 a0 a1 w R) : cC pg zP #[a0, a1] w R := by
  refine bQ (ann := HG) (fn := Try.f56) (c := Gc) (args := [a0, a1]) (rs := C7) (N := 14) TryM.mixed (by kernel_rfl) Try.func56 (by kernel_rfl) (by kernel_rfl) (by kernel_rfl) (of_decide_eq_true (by kernel_rfl)) (by kernel_rfl) ?_
  exact (NB (jT pg C7 R) (gE [a0, a1]) w R (fun _ _ h => h) h)
def aV : FA := ⟨yS, fun i => .leaf ([], []) []⟩
def nD : List ResultVar := [.tmp 2]
noncomputable def aU : Code := fB Try.f57
def Cj (R : K1) (cF : Value) (w : World) : Prop :=
  R cF w
theorem R2 (R : K1) (hr : HR nD R Q) (h : Cj R (g 4) w) : aQ pg aV (aA 1 (aA 1 (aA 1 (aA 4 aU)))) Q g w :=
  aI (kn := no) (l := []) (by kernel_rfl) h fG hr trivial
def B0 (kn : K7) (hZ cF bM fF t37 t38 t39 : Value) (w : World) : Prop :=
  aD pg (aN .add 3 (.tmp 39) (.const (.int .i64 1)) t39 (.int .i64 1)) w fun t68 w =>
  kn hZ cF bM fF t37 t38 t68 w
theorem Sw (kn : K7) (hn : ∀ g w, kn (g 3) (g 4) (g 5) (g 8) (g 37) (g 38) (g 39) w → Q .normal g w) (h : B0 kn (g 3) (g 4) (g 5) (g 8) (g 37) (g 38) (g 39) w) : aQ pg aV (aA 1 (aA 2 (bI (bI (aA 1 (aC 1 (aA 1 (aA 1 (aA 4 aU))))))))) Q g w :=
  aI (kr := no) (l := []) (by kernel_rfl) h hn fG trivial
def Ck (kn : UK) (hZ cF bM fF pI t37 t38 t39 t45 t46 : Value) (w : World) : Prop :=
  aD pg (aN .add 3 (.tmp 46) (.const (.int .i64 1)) t46 (.int .i64 1)) w fun t67 w =>
  kn hZ cF bM fF pI t37 t38 t39 t45 t67 w
theorem Sn (kn : UK) (hn : ∀ g w, kn (g 3) (g 4) (g 5) (g 8) (g 9) (g 37) (g 38) (g 39) (g 45) (g 46) w → Q .normal g w) (h : Ck kn (g 3) (g 4) (g 5) (g 8) (g 9) (g 37) (g 38) (g 39) (g 45) (g 46) w) : aQ pg aV (aA 1 (aA 2 (bI (bI (aA 2 (bI (aA 1 (bI (aC 1 (aA 2 (bI (bI (aA 1 (aC 1 (aA 1 (aA 1 (aA 4 aU))))))))))))))))) Q g w :=
  aI (kr := no) (l := []) (by kernel_rfl) h hn fG trivial
def B2 (kn : UK) (k5 : UK) (hZ cF bM fF pI t37 t38 t39 t45 t46 : Value) (w : World) : Prop :=
  aD pg (aN .shr 3 (.tmp 55) (.const (.int .u64 1)) hZ (.int .u64 1)) w fun t56 w =>
  aD pg (aN .add 3 (.tmp 54) (.tmp 56) fF t56) w fun t57 w =>
  aD pg (aN .shr 3 (.tmp 58) (.const (.int .u64 3)) hZ (.int .u64 3)) w fun t59 w =>
  aD pg (aN .add 3 (.tmp 57) (.tmp 59) t57 t59) w fun t60 w =>
  aD pg (aN .add 3 (.tmp 60) (.const (.int .i64 3)) t60 (.int .i64 3)) w fun t61 w =>
  aD pg (aN .rem 3 (.tmp 61) (.tmp 62) t61 hZ) w fun t63 w =>
  aD pg (aN .lss 3 (.tmp 64) (.tmp 65) t63 bM) w fun t66 w =>
  hH t66
    (k5 hZ cF bM t63 pI t37 t38 t39 t45 t46 w)
    (kn hZ cF bM t63 pI t37 t38 t39 t45 t46 w)
theorem TE (kn : UK) (k5 : UK) (hn : ∀ g w, kn (g 3) (g 4) (g 5) (g 8) (g 9) (g 37) (g 38) (g 39) (g 45) (g 46) w → Q .normal g w) (h5 : ∀ g w, k5 (g 3) (g 4) (g 5) (g 8) (g 9) (g 37) (g 38) (g 39) (g 45) (g 46) w → Q (.exit 5) g w) (h : B2 kn k5 (g 3) (g 4) (g 5) (g 8) (g 9) (g 37) (g 38) (g 39) (g 45) (g 46) w) : aQ pg aV (bI (bI (aA 1 (bI (aC 1 (aA 2 (bI (bI (aA 2 (bI (aA 1 (bI (aC 1 (aA 2 (bI (bI (aA 1 (aC 1 (aA 1 (aA 1 (aA 4 aU))))))))))))))))))))) Q g w :=
  aI (kr := no) (l := [(5, fun g w => k5 (g 3) (g 4) (g 5) (g 8) (g 9) (g 37) (g 38) (g 39) (g 45) (g 46) w)]) (by kernel_rfl) h hn fG ⟨h5, trivial⟩
def BY (k5 : UK) (hZ cF bM fF pI t37 t38 t39 t45 t46 : Value) (w : World) : Prop :=
  cV (fun (X : Value → K0) (t : Value) (w : World) => B2 (fun _ _ _ fF _ _ _ _ _ _ w => X fF w) k5 hZ cF bM t pI t37 t38 t39 t45 t46 w) fF w
theorem S1 (k5 : UK) (h5 : ∀ g w, k5 (g 3) (g 4) (g 5) (g 8) (g 9) (g 37) (g 38) (g 39) (g 45) (g 46) w → Q (.exit 5) g w) (h : BY k5 (g 3) (g 4) (g 5) (g 8) (g 9) (g 37) (g 38) (g 39) (g 45) (g 46) w) : aQ pg aV (bI (aA 1 (bI (aC 1 (aA 2 (bI (bI (aA 2 (bI (aA 1 (bI (aC 1 (aA 2 (bI (bI (aA 1 (aC 1 (aA 1 (aA 1 (aA 4 aU)))))))))))))))))))) Q g w := by
  refine cR (T := Value) (fun g : eL => g 8) (fun X t w => B2 (fun _ _ _ fF _ _ _ _ _ _ w => X fF w) k5 (g 3) (g 4) (g 5) t (g 9) (g 37) (g 38) (g 39) (g 45) (g 46) w) _ (by kernel_rfl) h (fun X g1 w1 ha hL => ?_)
  rw [← aO (s := 3) ha (by kernel_rfl)] at hL
  rw [← aO (s := 4) ha (by kernel_rfl)] at hL
  rw [← aO (s := 5) ha (by kernel_rfl)] at hL
  rw [← aO (s := 9) ha (by kernel_rfl)] at hL
  rw [← aO (s := 37) ha (by kernel_rfl)] at hL
  rw [← aO (s := 38) ha (by kernel_rfl)] at hL
  rw [← aO (s := 39) ha (by kernel_rfl)] at hL
  rw [← aO (s := 45) ha (by kernel_rfl)] at hL
  rw [← aO (s := 46) ha (by kernel_rfl)] at hL
  exact (TE (aX (fun g2 w2 => X ((fun g : eL => g 8) g2) w2) Q) g1 w1 (fun _ _ _ fF _ _ _ _ _ _ w => X fF w) k5 (fun _ _ h => h) h5 hL)
def Cy (k5 : UK) (hZ cF bM fF pI t37 t38 t39 t45 t46 : Value) (w : World) : Prop :=
  BY k5 hZ cF bM fF pI t37 t38 t39 t45 t46 w
theorem Sc (k5 : UK) (h5 : ∀ g w, k5 (g 3) (g 4) (g 5) (g 8) (g 9) (g 37) (g 38) (g 39) (g 45) (g 46) w → Q (.exit 5) g w) (h : Cy k5 (g 3) (g 4) (g 5) (g 8) (g 9) (g 37) (g 38) (g 39) (g 45) (g 46) w) : aQ pg aV (aA 1 (bI (aC 1 (aA 2 (bI (bI (aA 2 (bI (aA 1 (bI (aC 1 (aA 2 (bI (bI (aA 1 (aC 1 (aA 1 (aA 1 (aA 4 aU))))))))))))))))))) Q g w :=
  cU 6 _ g w (by kernel_rfl) (S1 (rP 6 Q) g w k5 h5 h)
def GU (kn : UK) (hZ cF bM fF pI t37 t38 t39 t45 t46 : Value) (w : World) : Prop :=
  aD pg (jH 3 5 pI) w fun t51 w =>
  aD pg (cD 75 cF fF) w fun t52 w =>
  aD pg (bA 84 t52 0) w fun t53 w =>
  aD pg (cB 5 t53 t51) w fun _u w =>
  kn hZ cF bM fF pI t37 t38 t39 t45 t46 w
theorem TA (kn : UK) (hn : ∀ g w, kn (g 3) (g 4) (g 5) (g 8) (g 9) (g 37) (g 38) (g 39) (g 45) (g 46) w → Q .normal g w) (h : GU kn (g 3) (g 4) (g 5) (g 8) (g 9) (g 37) (g 38) (g 39) (g 45) (g 46) w) : aQ pg aV (aC 1 (bI (aC 1 (aA 2 (bI (bI (aA 2 (bI (aA 1 (bI (aC 1 (aA 2 (bI (bI (aA 1 (aC 1 (aA 1 (aA 1 (aA 4 aU))))))))))))))))))) Q g w :=
  aI (kr := no) (l := []) (by kernel_rfl) h hn fG trivial
def GZ (k5 : UK) (hZ cF bM fF pI t37 t38 t39 t45 t46 : Value) (w : World) : Prop :=
  GU (fun hZ cF bM fF pI t37 t38 t39 t45 t46 w => Cy k5 hZ cF bM fF pI t37 t38 t39 t45 t46 w) hZ cF bM fF pI t37 t38 t39 t45 t46 w
theorem Sj (k5 : UK) (h5 : ∀ g w, k5 (g 3) (g 4) (g 5) (g 8) (g 9) (g 37) (g 38) (g 39) (g 45) (g 46) w → Q (.exit 5) g w) (h : GZ k5 (g 3) (g 4) (g 5) (g 8) (g 9) (g 37) (g 38) (g 39) (g 45) (g 46) w) : aQ pg aV (bI (aC 1 (aA 2 (bI (bI (aA 2 (bI (aA 1 (bI (aC 1 (aA 2 (bI (bI (aA 1 (aC 1 (aA 1 (aA 1 (aA 4 aU)))))))))))))))))) Q g w :=
  aL 1 _ g w (by kernel_rfl) (TA (aX (fun g w => aQ pg aV (aA 1 (bI (aC 1 (aA 2 (bI (bI (aA 2 (bI (aA 1 (bI (aC 1 (aA 2 (bI (bI (aA 1 (aC 1 (aA 1 (aA 1 (aA 4 aU))))))))))))))))))) Q g w) Q) g w (fun hZ cF bM fF pI t37 t38 t39 t45 t46 w => Cy k5 hZ cF bM fF pI t37 t38 t39 t45 t46 w) (fun g w h => aS (K := fun g w => aQ pg aV (aA 1 (bI (aC 1 (aA 2 (bI (bI (aA 2 (bI (aA 1 (bI (aC 1 (aA 2 (bI (bI (aA 1 (aC 1 (aA 1 (aA 1 (aA 4 aU))))))))))))))))))) Q g w) (Sc Q g w k5 h5 h)) h)
def Hp (kn : UK) (hZ cF bM fF pI t37 t38 t39 t45 t46 : Value) (w : World) : Prop :=
  GZ kn hZ cF bM fF pI t37 t38 t39 t45 t46 w
theorem SQ (kn : UK) (hn : ∀ g w, kn (g 3) (g 4) (g 5) (g 8) (g 9) (g 37) (g 38) (g 39) (g 45) (g 46) w → Q .normal g w) (h : Hp kn (g 3) (g 4) (g 5) (g 8) (g 9) (g 37) (g 38) (g 39) (g 45) (g 46) w) : aQ pg aV (aC 1 (aA 2 (bI (bI (aA 2 (bI (aA 1 (bI (aC 1 (aA 2 (bI (bI (aA 1 (aC 1 (aA 1 (aA 1 (aA 4 aU))))))))))))))))) Q g w :=
  cU 5 _ g w (by kernel_rfl) (Sj (rP 5 Q) g w kn hn h)
def Ak (kn : UK) (hZ cF bM fF pI t37 t38 t39 t45 t46 : Value) (w : World) : Prop :=
  Hp (fun hZ cF bM fF pI t37 t38 t39 t45 t46 w => Ck kn hZ cF bM fF pI t37 t38 t39 t45 t46 w) hZ cF bM fF pI t37 t38 t39 t45 t46 w
theorem PE (kn : UK) (hn : ∀ g w, kn (g 3) (g 4) (g 5) (g 8) (g 9) (g 37) (g 38) (g 39) (g 45) (g 46) w → Q .normal g w) (h : Ak kn (g 3) (g 4) (g 5) (g 8) (g 9) (g 37) (g 38) (g 39) (g 45) (g 46) w) : aQ pg aV (aA 2 (bI (bI (aA 2 (bI (aA 1 (bI (aC 1 (aA 2 (bI (bI (aA 1 (aC 1 (aA 1 (aA 1 (aA 4 aU)))))))))))))))) Q g w :=
  aL 1 _ g w (by kernel_rfl) (SQ (aX (fun g w => aQ pg aV (aA 1 (aA 2 (bI (bI (aA 2 (bI (aA 1 (bI (aC 1 (aA 2 (bI (bI (aA 1 (aC 1 (aA 1 (aA 1 (aA 4 aU))))))))))))))))) Q g w) Q) g w (fun hZ cF bM fF pI t37 t38 t39 t45 t46 w => Ck kn hZ cF bM fF pI t37 t38 t39 t45 t46 w) (fun g w h => aS (K := fun g w => aQ pg aV (aA 1 (aA 2 (bI (bI (aA 2 (bI (aA 1 (bI (aC 1 (aA 2 (bI (bI (aA 1 (aC 1 (aA 1 (aA 1 (aA 4 aU))))))))))))))))) Q g w) (Sn Q g w kn hn h)) h)
def yW (kn : UK) (k4 : K7) (hZ cF bM fF pI t37 t38 t39 t45 t46 : Value) (w : World) : Prop :=
  aD pg (aN .lss 3 (.tmp 46) (.tmp 45) t46 t45) w fun t47 w =>
  hH t47
    (kn hZ cF bM fF pI t37 t38 t39 t45 t46 w)
    (k4 hZ cF bM fF t37 t38 t39 w)
theorem PS (kn : UK) (k4 : K7) (hn : ∀ g w, kn (g 3) (g 4) (g 5) (g 8) (g 9) (g 37) (g 38) (g 39) (g 45) (g 46) w → Q .normal g w) (h4 : ∀ g w, k4 (g 3) (g 4) (g 5) (g 8) (g 37) (g 38) (g 39) w → Q (.exit 4) g w) (h : yW kn k4 (g 3) (g 4) (g 5) (g 8) (g 9) (g 37) (g 38) (g 39) (g 45) (g 46) w) : aQ pg aV (aC 2 (bI (bI (aA 2 (bI (aA 1 (bI (aC 1 (aA 2 (bI (bI (aA 1 (aC 1 (aA 1 (aA 1 (aA 4 aU)))))))))))))))) Q g w :=
  aI (kr := no) (l := [(4, fun g w => k4 (g 3) (g 4) (g 5) (g 8) (g 37) (g 38) (g 39) w)]) (by kernel_rfl) h hn fG ⟨h4, trivial⟩
def sJ (kn : UK) (k4 : K7) (hZ cF bM fF pI t37 t38 t39 t45 t46 : Value) (w : World) : Prop :=
  yW (fun hZ cF bM fF pI t37 t38 t39 t45 t46 w => Ak kn hZ cF bM fF pI t37 t38 t39 t45 t46 w) k4 hZ cF bM fF pI t37 t38 t39 t45 t46 w
theorem RH (kn : UK) (k4 : K7) (hn : ∀ g w, kn (g 3) (g 4) (g 5) (g 8) (g 9) (g 37) (g 38) (g 39) (g 45) (g 46) w → Q .normal g w) (h4 : ∀ g w, k4 (g 3) (g 4) (g 5) (g 8) (g 37) (g 38) (g 39) w → Q (.exit 4) g w) (h : sJ kn k4 (g 3) (g 4) (g 5) (g 8) (g 9) (g 37) (g 38) (g 39) (g 45) (g 46) w) : aQ pg aV (bI (bI (aA 2 (bI (aA 1 (bI (aC 1 (aA 2 (bI (bI (aA 1 (aC 1 (aA 1 (aA 1 (aA 4 aU))))))))))))))) Q g w :=
  aL 2 _ g w (by kernel_rfl) (PS (aX (fun g w => aQ pg aV (aA 2 (bI (bI (aA 2 (bI (aA 1 (bI (aC 1 (aA 2 (bI (bI (aA 1 (aC 1 (aA 1 (aA 1 (aA 4 aU)))))))))))))))) Q g w) Q) g w (fun hZ cF bM fF pI t37 t38 t39 t45 t46 w => Ak kn hZ cF bM fF pI t37 t38 t39 t45 t46 w) k4 (fun g w h => aS (K := fun g w => aQ pg aV (aA 2 (bI (bI (aA 2 (bI (aA 1 (bI (aC 1 (aA 2 (bI (bI (aA 1 (aC 1 (aA 1 (aA 1 (aA 4 aU)))))))))))))))) Q g w) (PE Q g w kn hn h)) h4 h)
def Fm (k4 : K7) (hZ cF bM fF pI t37 t38 t39 t45 t46 : Value) (w : World) : Prop :=
  cV (fun (X : (Value × Value) → K0) (t : Value × Value) (w : World) => sJ (fun _ _ _ fF _ _ _ _ _ t46 w => X (fF, t46) w) k4 hZ cF bM t.1 pI t37 t38 t39 t45 t.2 w) (fF, t46) w
theorem PD (k4 : K7) (h4 : ∀ g w, k4 (g 3) (g 4) (g 5) (g 8) (g 37) (g 38) (g 39) w → Q (.exit 4) g w) (h : Fm k4 (g 3) (g 4) (g 5) (g 8) (g 9) (g 37) (g 38) (g 39) (g 45) (g 46) w) : aQ pg aV (bI (aA 2 (bI (aA 1 (bI (aC 1 (aA 2 (bI (bI (aA 1 (aC 1 (aA 1 (aA 1 (aA 4 aU)))))))))))))) Q g w := by
  refine cR (T := Value × Value) (fun g : eL => (g 8, g 46)) (fun X t w => sJ (fun _ _ _ fF _ _ _ _ _ t46 w => X (fF, t46) w) k4 (g 3) (g 4) (g 5) t.1 (g 9) (g 37) (g 38) (g 39) (g 45) t.2 w) _ (by kernel_rfl) h (fun X g1 w1 ha hL => ?_)
  rw [← aO (s := 3) ha (by kernel_rfl)] at hL
  rw [← aO (s := 4) ha (by kernel_rfl)] at hL
  rw [← aO (s := 5) ha (by kernel_rfl)] at hL
  rw [← aO (s := 9) ha (by kernel_rfl)] at hL
  rw [← aO (s := 37) ha (by kernel_rfl)] at hL
  rw [← aO (s := 38) ha (by kernel_rfl)] at hL
  rw [← aO (s := 39) ha (by kernel_rfl)] at hL
  rw [← aO (s := 45) ha (by kernel_rfl)] at hL
  exact (RH (aX (fun g2 w2 => X ((fun g : eL => (g 8, g 46)) g2) w2) Q) g1 w1 (fun _ _ _ fF _ _ _ _ _ t46 w => X (fF, t46) w) k4 (fun _ _ h => h) h4 hL)
def AL (kn : K7) (hZ cF bM fF pI t37 t38 t39 t45 t46 : Value) (w : World) : Prop :=
  Fm kn hZ cF bM fF pI t37 t38 t39 t45 t46 w
theorem QE (kn : K7) (hn : ∀ g w, kn (g 3) (g 4) (g 5) (g 8) (g 37) (g 38) (g 39) w → Q .normal g w) (h : AL kn (g 3) (g 4) (g 5) (g 8) (g 9) (g 37) (g 38) (g 39) (g 45) (g 46) w) : aQ pg aV (aA 2 (bI (aA 1 (bI (aC 1 (aA 2 (bI (bI (aA 1 (aC 1 (aA 1 (aA 1 (aA 4 aU))))))))))))) Q g w :=
  cU 4 _ g w (by kernel_rfl) (PD (rP 4 Q) g w kn hn h)
def Fs (kn : UK) (hZ cF bM fF pI Xy t37 t38 t39 : Value) (w : World) : Prop :=
  aD pg (iJ .max #[3, 3] 3 [Xy, (.int .i64 0)]) w fun t45 w =>
  kn hZ cF bM fF pI t37 t38 t39 t45 (.int .i64 0) w
theorem Rd (kn : UK) (hn : ∀ g w, kn (g 3) (g 4) (g 5) (g 8) (g 9) (g 37) (g 38) (g 39) (g 45) (g 46) w → Q .normal g w) (h : Fs kn (g 3) (g 4) (g 5) (g 8) (g 9) (g 10) (g 37) (g 38) (g 39) w) : aQ pg aV (aC 2 (bI (aA 1 (bI (aC 1 (aA 2 (bI (bI (aA 1 (aC 1 (aA 1 (aA 1 (aA 4 aU))))))))))))) Q g w :=
  aI (kr := no) (l := []) (by kernel_rfl) h hn fG trivial
def Ey (kn : K7) (hZ cF bM fF pI Xy t37 t38 t39 : Value) (w : World) : Prop :=
  Fs (fun hZ cF bM fF pI t37 t38 t39 t45 t46 w => AL kn hZ cF bM fF pI t37 t38 t39 t45 t46 w) hZ cF bM fF pI Xy t37 t38 t39 w
theorem Pc (kn : K7) (hn : ∀ g w, kn (g 3) (g 4) (g 5) (g 8) (g 37) (g 38) (g 39) w → Q .normal g w) (h : Ey kn (g 3) (g 4) (g 5) (g 8) (g 9) (g 10) (g 37) (g 38) (g 39) w) : aQ pg aV (bI (aA 1 (bI (aC 1 (aA 2 (bI (bI (aA 1 (aC 1 (aA 1 (aA 1 (aA 4 aU)))))))))))) Q g w :=
  aL 2 _ g w (by kernel_rfl) (Rd (aX (fun g w => aQ pg aV (aA 2 (bI (aA 1 (bI (aC 1 (aA 2 (bI (bI (aA 1 (aC 1 (aA 1 (aA 1 (aA 4 aU))))))))))))) Q g w) Q) g w (fun hZ cF bM fF pI t37 t38 t39 t45 t46 w => AL kn hZ cF bM fF pI t37 t38 t39 t45 t46 w) (fun g w h => aS (K := fun g w => aQ pg aV (aA 2 (bI (aA 1 (bI (aC 1 (aA 2 (bI (bI (aA 1 (aC 1 (aA 1 (aA 1 (aA 4 aU))))))))))))) Q g w) (QE Q g w kn hn h)) h)
def zO (kn : K7) (hZ cF bM fF pI Xy t37 t38 t39 : Value) (w : World) : Prop :=
  Ey kn hZ cF bM fF pI Xy t37 t38 t39 w
theorem Rk (kn : K7) (hn : ∀ g w, kn (g 3) (g 4) (g 5) (g 8) (g 37) (g 38) (g 39) w → Q .normal g w) (h : zO kn (g 3) (g 4) (g 5) (g 8) (g 9) (g 10) (g 37) (g 38) (g 39) w) : aQ pg aV (aA 1 (bI (aC 1 (aA 2 (bI (bI (aA 1 (aC 1 (aA 1 (aA 1 (aA 4 aU))))))))))) Q g w :=
  XP _ g w (by kernel_rfl) (Pc Q g w kn hn h)
def E5 (kn : K9) (hZ cF bM fF t37 t38 t39 : Value) (w : World) : Prop :=
  aD pg (cD 62 t37 t39) w fun t42 w =>
  aD pg (aW 3 t42) w fun t43 w =>
  kn hZ cF bM fF t39 t43 t37 t38 t39 w
theorem Rq (kn : K9) (hn : ∀ g w, kn (g 3) (g 4) (g 5) (g 8) (g 9) (g 10) (g 37) (g 38) (g 39) w → Q .normal g w) (h : E5 kn (g 3) (g 4) (g 5) (g 8) (g 37) (g 38) (g 39) w) : aQ pg aV (aC 1 (bI (aC 1 (aA 2 (bI (bI (aA 1 (aC 1 (aA 1 (aA 1 (aA 4 aU))))))))))) Q g w :=
  aI (kr := no) (l := []) (by kernel_rfl) h hn fG trivial
def EE (kn : K7) (hZ cF bM fF t37 t38 t39 : Value) (w : World) : Prop :=
  E5 (fun hZ cF bM fF pI Xy t37 t38 t39 w => zO kn hZ cF bM fF pI Xy t37 t38 t39 w) hZ cF bM fF t37 t38 t39 w
theorem RK (kn : K7) (hn : ∀ g w, kn (g 3) (g 4) (g 5) (g 8) (g 37) (g 38) (g 39) w → Q .normal g w) (h : EE kn (g 3) (g 4) (g 5) (g 8) (g 37) (g 38) (g 39) w) : aQ pg aV (bI (aC 1 (aA 2 (bI (bI (aA 1 (aC 1 (aA 1 (aA 1 (aA 4 aU)))))))))) Q g w :=
  aL 1 _ g w (by kernel_rfl) (Rq (aX (fun g w => aQ pg aV (aA 1 (bI (aC 1 (aA 2 (bI (bI (aA 1 (aC 1 (aA 1 (aA 1 (aA 4 aU))))))))))) Q g w) Q) g w (fun hZ cF bM fF pI Xy t37 t38 t39 w => zO kn hZ cF bM fF pI Xy t37 t38 t39 w) (fun g w h => aS (K := fun g w => aQ pg aV (aA 1 (bI (aC 1 (aA 2 (bI (bI (aA 1 (aC 1 (aA 1 (aA 1 (aA 4 aU))))))))))) Q g w) (Rk Q g w kn hn h)) h)
def Fw (kn : K7) (hZ cF bM fF t37 t38 t39 : Value) (w : World) : Prop :=
  EE kn hZ cF bM fF t37 t38 t39 w
theorem Qy (kn : K7) (hn : ∀ g w, kn (g 3) (g 4) (g 5) (g 8) (g 37) (g 38) (g 39) w → Q .normal g w) (h : Fw kn (g 3) (g 4) (g 5) (g 8) (g 37) (g 38) (g 39) w) : aQ pg aV (aC 1 (aA 2 (bI (bI (aA 1 (aC 1 (aA 1 (aA 1 (aA 4 aU))))))))) Q g w :=
  cU 3 _ g w (by kernel_rfl) (RK (rP 3 Q) g w kn hn h)
def yM (kn : K7) (hZ cF bM fF t37 t38 t39 : Value) (w : World) : Prop :=
  Fw (fun hZ cF bM fF t37 t38 t39 w => B0 kn hZ cF bM fF t37 t38 t39 w) hZ cF bM fF t37 t38 t39 w
theorem Pq (kn : K7) (hn : ∀ g w, kn (g 3) (g 4) (g 5) (g 8) (g 37) (g 38) (g 39) w → Q .normal g w) (h : yM kn (g 3) (g 4) (g 5) (g 8) (g 37) (g 38) (g 39) w) : aQ pg aV (aA 2 (bI (bI (aA 1 (aC 1 (aA 1 (aA 1 (aA 4 aU)))))))) Q g w :=
  aL 1 _ g w (by kernel_rfl) (Qy (aX (fun g w => aQ pg aV (aA 1 (aA 2 (bI (bI (aA 1 (aC 1 (aA 1 (aA 1 (aA 4 aU))))))))) Q g w) Q) g w (fun hZ cF bM fF t37 t38 t39 w => B0 kn hZ cF bM fF t37 t38 t39 w) (fun g w h => aS (K := fun g w => aQ pg aV (aA 1 (aA 2 (bI (bI (aA 1 (aC 1 (aA 1 (aA 1 (aA 4 aU))))))))) Q g w) (Sw Q g w kn hn h)) h)
def Av (kn : K7) (k2 : K1) (hZ cF bM fF t37 t38 t39 : Value) (w : World) : Prop :=
  aD pg (aN .lss 3 (.tmp 39) (.tmp 38) t39 t38) w fun t40 w =>
  hH t40
    (kn hZ cF bM fF t37 t38 t39 w)
    (k2 cF w)
theorem PT (kn : K7) (k2 : K1) (hn : ∀ g w, kn (g 3) (g 4) (g 5) (g 8) (g 37) (g 38) (g 39) w → Q .normal g w) (h2 : ∀ g w, k2 (g 4) w → Q (.exit 2) g w) (h : Av kn k2 (g 3) (g 4) (g 5) (g 8) (g 37) (g 38) (g 39) w) : aQ pg aV (aC 2 (bI (bI (aA 1 (aC 1 (aA 1 (aA 1 (aA 4 aU)))))))) Q g w :=
  aI (kr := no) (l := [(2, fun g w => k2 (g 4) w)]) (by kernel_rfl) h hn fG ⟨h2, trivial⟩
def sZ (kn : K7) (k2 : K1) (hZ cF bM fF t37 t38 t39 : Value) (w : World) : Prop :=
  Av (fun hZ cF bM fF t37 t38 t39 w => yM kn hZ cF bM fF t37 t38 t39 w) k2 hZ cF bM fF t37 t38 t39 w
theorem Rp (kn : K7) (k2 : K1) (hn : ∀ g w, kn (g 3) (g 4) (g 5) (g 8) (g 37) (g 38) (g 39) w → Q .normal g w) (h2 : ∀ g w, k2 (g 4) w → Q (.exit 2) g w) (h : sZ kn k2 (g 3) (g 4) (g 5) (g 8) (g 37) (g 38) (g 39) w) : aQ pg aV (bI (bI (aA 1 (aC 1 (aA 1 (aA 1 (aA 4 aU))))))) Q g w :=
  aL 2 _ g w (by kernel_rfl) (PT (aX (fun g w => aQ pg aV (aA 2 (bI (bI (aA 1 (aC 1 (aA 1 (aA 1 (aA 4 aU)))))))) Q g w) Q) g w (fun hZ cF bM fF t37 t38 t39 w => yM kn hZ cF bM fF t37 t38 t39 w) k2 (fun g w h => aS (K := fun g w => aQ pg aV (aA 2 (bI (bI (aA 1 (aC 1 (aA 1 (aA 1 (aA 4 aU)))))))) Q g w) (Pq Q g w kn hn h)) h2 h)
def FQ (k2 : K1) (hZ cF bM fF t37 t38 t39 : Value) (w : World) : Prop :=
  cV (fun (X : (Value × Value) → K0) (t : Value × Value) (w : World) => sZ (fun _ _ _ fF _ _ t39 w => X (fF, t39) w) k2 hZ cF bM t.1 t37 t38 t.2 w) (fF, t39) w
theorem QG (k2 : K1) (h2 : ∀ g w, k2 (g 4) w → Q (.exit 2) g w) (h : FQ k2 (g 3) (g 4) (g 5) (g 8) (g 37) (g 38) (g 39) w) : aQ pg aV (bI (aA 1 (aC 1 (aA 1 (aA 1 (aA 4 aU)))))) Q g w := by
  refine cR (T := Value × Value) (fun g : eL => (g 8, g 39)) (fun X t w => sZ (fun _ _ _ fF _ _ t39 w => X (fF, t39) w) k2 (g 3) (g 4) (g 5) t.1 (g 37) (g 38) t.2 w) _ (by kernel_rfl) h (fun X g1 w1 ha hL => ?_)
  rw [← aO (s := 3) ha (by kernel_rfl)] at hL
  rw [← aO (s := 4) ha (by kernel_rfl)] at hL
  rw [← aO (s := 5) ha (by kernel_rfl)] at hL
  rw [← aO (s := 37) ha (by kernel_rfl)] at hL
  rw [← aO (s := 38) ha (by kernel_rfl)] at hL
  exact (Rp (aX (fun g2 w2 => X ((fun g : eL => (g 8, g 39)) g2) w2) Q) g1 w1 (fun _ _ _ fF _ _ t39 w => X (fF, t39) w) k2 (fun _ _ h => h) h2 hL)
def AH (kn : K1) (hZ cF bM fF t37 t38 t39 : Value) (w : World) : Prop :=
  FQ kn hZ cF bM fF t37 t38 t39 w
theorem O4 (kn : K1) (hn : ∀ g w, kn (g 4) w → Q .normal g w) (h : AH kn (g 3) (g 4) (g 5) (g 8) (g 37) (g 38) (g 39) w) : aQ pg aV (aA 1 (aC 1 (aA 1 (aA 1 (aA 4 aU))))) Q g w :=
  cU 2 _ g w (by kernel_rfl) (QG (rP 2 Q) g w kn hn h)
def E1 (kn : K7) (bT hZ cF bM fF : Value) (w : World) : Prop :=
  aD pg (bA 69 bT 1) w fun t36 w =>
  aD pg (aW 62 t36) w fun t37 w =>
  aD pg (iJ .len #[62] 3 [t37]) w fun t38 w =>
  kn hZ cF bM fF t37 t38 (.int .i64 0) w
theorem OT (kn : K7) (hn : ∀ g w, kn (g 3) (g 4) (g 5) (g 8) (g 37) (g 38) (g 39) w → Q .normal g w) (h : E1 kn (g 1) (g 3) (g 4) (g 5) (g 8) w) : aQ pg aV (aC 1 (aC 1 (aA 1 (aA 1 (aA 4 aU))))) Q g w :=
  aI (kr := no) (l := []) (by kernel_rfl) h hn fG trivial
def Fk (kn : K1) (bT hZ cF bM fF : Value) (w : World) : Prop :=
  E1 (fun hZ cF bM fF t37 t38 t39 w => AH kn hZ cF bM fF t37 t38 t39 w) bT hZ cF bM fF w
theorem RL (kn : K1) (hn : ∀ g w, kn (g 4) w → Q .normal g w) (h : Fk kn (g 1) (g 3) (g 4) (g 5) (g 8) w) : aQ pg aV (aC 1 (aA 1 (aA 1 (aA 4 aU)))) Q g w :=
  aL 1 _ g w (by kernel_rfl) (OT (aX (fun g w => aQ pg aV (aA 1 (aC 1 (aA 1 (aA 1 (aA 4 aU))))) Q g w) Q) g w (fun hZ cF bM fF t37 t38 t39 w => AH kn hZ cF bM fF t37 t38 t39 w) (fun g w h => aS (K := fun g w => aQ pg aV (aA 1 (aC 1 (aA 1 (aA 1 (aA 4 aU))))) Q g w) (O4 Q g w kn hn h)) h)
def A6 (R : K1) (bT hZ cF bM fF : Value) (w : World) : Prop :=
  Fk (fun cF w => Cj R cF w) bT hZ cF bM fF w
theorem Pz (R : K1) (hr : HR nD R Q) (h : A6 R (g 1) (g 3) (g 4) (g 5) (g 8) w) : aQ pg aV (aA 1 (aA 1 (aA 4 aU))) Q g w :=
  aL 1 _ g w (by kernel_rfl) (RL (aX (fun g w => aQ pg aV (aA 1 (aA 1 (aA 1 (aA 4 aU)))) Q g w) Q) g w (fun cF w => Cj R cF w) (fun g w h => aS (K := fun g w => aQ pg aV (aA 1 (aA 1 (aA 1 (aA 4 aU)))) Q g w) (R2 Q g w R hr h)) h)
def ET (kn : K5) (bT hZ cF bM : Value) (w : World) : Prop :=
  kn bT hZ cF bM (.int .i64 0) w
theorem Qn (kn : K5) (hn : ∀ g w, kn (g 1) (g 3) (g 4) (g 5) (g 8) w → Q .normal g w) (h : ET kn (g 1) (g 3) (g 4) (g 5) w) : aQ pg aV (aC 1 (aA 1 (aA 4 aU))) Q g w :=
  aI (kr := no) (l := []) (by kernel_rfl) h hn fG trivial
def AC (R : K1) (bT hZ cF bM : Value) (w : World) : Prop :=
  ET (fun bT hZ cF bM fF w => A6 R bT hZ cF bM fF w) bT hZ cF bM w
theorem Ru (R : K1) (hr : HR nD R Q) (h : AC R (g 1) (g 3) (g 4) (g 5) w) : aQ pg aV (aA 1 (aA 4 aU)) Q g w :=
  aL 1 _ g w (by kernel_rfl) (Qn (aX (fun g w => aQ pg aV (aA 1 (aA 1 (aA 4 aU))) Q g w) Q) g w (fun bT hZ cF bM fF w => A6 R bT hZ cF bM fF w) (fun g w h => aS (K := fun g w => aQ pg aV (aA 1 (aA 1 (aA 4 aU))) Q g w) (Pz Q g w R hr h)) h)
def AR (kn : K7) (bT hZ cF bM t18 t19 t20 : Value) (w : World) : Prop :=
  aD pg (aN .add 3 (.tmp 20) (.const (.int .i64 1)) t20 (.int .i64 1)) w fun t35 w =>
  kn bT hZ cF bM t18 t19 t35 w
theorem Px (kn : K7) (hn : ∀ g w, kn (g 1) (g 3) (g 4) (g 5) (g 18) (g 19) (g 20) w → Q .normal g w) (h : AR kn (g 1) (g 3) (g 4) (g 5) (g 18) (g 19) (g 20) w) : aQ pg aV (aA 3 (bI (bI (aA 1 (aC 1 (aA 4 aU)))))) Q g w :=
  aI (kr := no) (l := []) (by kernel_rfl) h hn fG trivial
def zN (kn : K7) (k0 : K4) (bT hZ cF bM t18 t19 t20 : Value) (w : World) : Prop :=
  aD pg (aN .lss 3 (.tmp 20) (.tmp 19) t20 t19) w fun t21 w =>
  hH t21
    (aD pg (cD 62 t18 t20) w fun t23 w =>
    aD pg (aW 3 t23) w fun t24 w =>
    aD pg (aN .eql 3 (.tmp 25) (.const (.int .i64 (-1))) t24 (.int .i64 (-1))) w fun t26 w =>
    hH t26
      (aD pg (aN .sub 3 (.tmp 27) (.const (.int .i64 1)) bM (.int .i64 1)) w fun t28 w =>
      aD pg (jH 3 5 t20) w fun t32 w =>
      aD pg (cD 75 cF t28) w fun t33 w =>
      aD pg (bA 84 t33 0) w fun t34 w =>
      aD pg (cB 5 t34 t32) w fun _u w =>
      kn bT hZ cF t28 t18 t19 t20 w)
      (kn bT hZ cF bM t18 t19 t20 w))
    (k0 bT hZ cF bM w)
theorem Rb (kn : K7) (k0 : K4) (hn : ∀ g w, kn (g 1) (g 3) (g 4) (g 5) (g 18) (g 19) (g 20) w → Q .normal g w) (h0 : ∀ g w, k0 (g 1) (g 3) (g 4) (g 5) w → Q (.exit 0) g w) (h : zN kn k0 (g 1) (g 3) (g 4) (g 5) (g 18) (g 19) (g 20) w) : aQ pg aV (aC 3 (bI (bI (aA 1 (aC 1 (aA 4 aU)))))) Q g w :=
  aI (kr := no) (l := [(0, fun g w => k0 (g 1) (g 3) (g 4) (g 5) w)]) (by kernel_rfl) h hn fG ⟨h0, trivial⟩
def sI (kn : K7) (k0 : K4) (bT hZ cF bM t18 t19 t20 : Value) (w : World) : Prop :=
  zN (fun bT hZ cF bM t18 t19 t20 w => AR kn bT hZ cF bM t18 t19 t20 w) k0 bT hZ cF bM t18 t19 t20 w
theorem Pf (kn : K7) (k0 : K4) (hn : ∀ g w, kn (g 1) (g 3) (g 4) (g 5) (g 18) (g 19) (g 20) w → Q .normal g w) (h0 : ∀ g w, k0 (g 1) (g 3) (g 4) (g 5) w → Q (.exit 0) g w) (h : sI kn k0 (g 1) (g 3) (g 4) (g 5) (g 18) (g 19) (g 20) w) : aQ pg aV (bI (bI (aA 1 (aC 1 (aA 4 aU))))) Q g w :=
  aL 3 _ g w (by kernel_rfl) (Rb (aX (fun g w => aQ pg aV (aA 3 (bI (bI (aA 1 (aC 1 (aA 4 aU)))))) Q g w) Q) g w (fun bT hZ cF bM t18 t19 t20 w => AR kn bT hZ cF bM t18 t19 t20 w) k0 (fun g w h => aS (K := fun g w => aQ pg aV (aA 3 (bI (bI (aA 1 (aC 1 (aA 4 aU)))))) Q g w) (Px Q g w kn hn h)) h0 h)
def Ft (k0 : K4) (bT hZ cF bM t18 t19 t20 : Value) (w : World) : Prop :=
  cV (fun (X : (Value × Value) → K0) (t : Value × Value) (w : World) => sI (fun _ _ _ bM _ _ t20 w => X (bM, t20) w) k0 bT hZ cF t.1 t18 t19 t.2 w) (bM, t20) w
theorem O5 (k0 : K4) (h0 : ∀ g w, k0 (g 1) (g 3) (g 4) (g 5) w → Q (.exit 0) g w) (h : Ft k0 (g 1) (g 3) (g 4) (g 5) (g 18) (g 19) (g 20) w) : aQ pg aV (bI (aA 1 (aC 1 (aA 4 aU)))) Q g w := by
  refine cR (T := Value × Value) (fun g : eL => (g 5, g 20)) (fun X t w => sI (fun _ _ _ bM _ _ t20 w => X (bM, t20) w) k0 (g 1) (g 3) (g 4) t.1 (g 18) (g 19) t.2 w) _ (by kernel_rfl) h (fun X g1 w1 ha hL => ?_)
  rw [← aO (s := 1) ha (by kernel_rfl)] at hL
  rw [← aO (s := 3) ha (by kernel_rfl)] at hL
  rw [← aO (s := 4) ha (by kernel_rfl)] at hL
  rw [← aO (s := 18) ha (by kernel_rfl)] at hL
  rw [← aO (s := 19) ha (by kernel_rfl)] at hL
  exact (Pf (aX (fun g2 w2 => X ((fun g : eL => (g 5, g 20)) g2) w2) Q) g1 w1 (fun _ _ _ bM _ _ t20 w => X (bM, t20) w) k0 (fun _ _ h => h) h0 hL)
def zH (kn : K4) (bT hZ cF bM t18 t19 t20 : Value) (w : World) : Prop :=
  Ft kn bT hZ cF bM t18 t19 t20 w
theorem Q3 (kn : K4) (hn : ∀ g w, kn (g 1) (g 3) (g 4) (g 5) w → Q .normal g w) (h : zH kn (g 1) (g 3) (g 4) (g 5) (g 18) (g 19) (g 20) w) : aQ pg aV (aA 1 (aC 1 (aA 4 aU))) Q g w :=
  cU 0 _ g w (by kernel_rfl) (O5 (rP 0 Q) g w kn hn h)
def EP (kn : K7) (bT hZ cF bM : Value) (w : World) : Prop :=
  aD pg (bA 69 bT 1) w fun t17 w =>
  aD pg (aW 62 t17) w fun t18 w =>
  aD pg (iJ .len #[62] 3 [t18]) w fun t19 w =>
  kn bT hZ cF bM t18 t19 (.int .i64 0) w
theorem PQ (kn : K7) (hn : ∀ g w, kn (g 1) (g 3) (g 4) (g 5) (g 18) (g 19) (g 20) w → Q .normal g w) (h : EP kn (g 1) (g 3) (g 4) (g 5) w) : aQ pg aV (aC 1 (aC 1 (aA 4 aU))) Q g w :=
  aI (kr := no) (l := []) (by kernel_rfl) h hn fG trivial
def Fc (kn : K4) (bT hZ cF bM : Value) (w : World) : Prop :=
  EP (fun bT hZ cF bM t18 t19 t20 w => zH kn bT hZ cF bM t18 t19 t20 w) bT hZ cF bM w
theorem Qg (kn : K4) (hn : ∀ g w, kn (g 1) (g 3) (g 4) (g 5) w → Q .normal g w) (h : Fc kn (g 1) (g 3) (g 4) (g 5) w) : aQ pg aV (aC 1 (aA 4 aU)) Q g w :=
  aL 1 _ g w (by kernel_rfl) (PQ (aX (fun g w => aQ pg aV (aA 1 (aC 1 (aA 4 aU))) Q g w) Q) g w (fun bT hZ cF bM t18 t19 t20 w => zH kn bT hZ cF bM t18 t19 t20 w) (fun g w h => aS (K := fun g w => aQ pg aV (aA 1 (aC 1 (aA 4 aU))) Q g w) (Q3 Q g w kn hn h)) h)
def Bc (R : K1) (bT hZ cF bM : Value) (w : World) : Prop :=
  Fc (fun bT hZ cF bM w => AC R bT hZ cF bM w) bT hZ cF bM w
theorem Rl (R : K1) (hr : HR nD R Q) (h : Bc R (g 1) (g 3) (g 4) (g 5) w) : aQ pg aV (aA 4 aU) Q g w :=
  aL 1 _ g w (by kernel_rfl) (Qg (aX (fun g w => aQ pg aV (aA 1 (aA 4 aU)) Q g w) Q) g w (fun bT hZ cF bM w => AC R bT hZ cF bM w) (fun g w h => aS (K := fun g w => aQ pg aV (aA 1 (aA 4 aU)) Q g w) (Ru Q g w R hr h)) h)
def Ek (kn : K4) (VP : Value) (w : World) : Prop :=
  aD pg (Ej 69 VP) w fun bT w =>
  aD pg (bA 69 bT 0) w fun t11 w =>
  aD pg (aW 3 t11) w fun t12 w =>
  aD pg (aN .shl 3 (.const (.int .i64 1)) (.tmp 12) (.int .i64 1) t12) w fun t13 w =>
  aD pg (oD 75 t13 t13) w fun t15 w =>
  kn bT t13 t15 t13 w
theorem Qs (kn : K4) (hn : ∀ g w, kn (g 1) (g 3) (g 4) (g 5) w → Q .normal g w) (h : Ek kn (g 0) w) : aQ pg aV (aC 4 aU) Q g w :=
  aI (kr := no) (l := []) (by kernel_rfl) h hn fG trivial
def EG (R : K1) (VP : Value) (w : World) : Prop :=
  Ek (fun bT hZ cF bM w => Bc R bT hZ cF bM w) VP w
theorem Rt (R : K1) (hr : HR nD R Q) (h : EG R (g 0) w) : aQ pg aV aU Q g w :=
  aL 4 _ g w (by kernel_rfl) (Qs (aX (fun g w => aQ pg aV (aA 4 aU) Q g w) Q) g w (fun bT hZ cF bM w => Bc R bT hZ cF bM w) (fun g w h => aS (K := fun g w => aQ pg aV (aA 4 aU) Q g w) (Rl Q g w R hr h)) h)
def VG (a0 : Value) (w : World) (R : K1) : Prop :=
  EG R a0 w
theorem UM {a0 : Value} {w : World} {R : K1} (h : VG a0 w R) : cC pg yS #[a0] w R := by
  refine bQ (ann := aV) (fn := Try.f57) (c := aU) (args := [a0]) (rs := nD) (N := 70) TryM.mixed (by kernel_rfl) Try.func57 (by kernel_rfl) (by kernel_rfl) (by kernel_rfl) (of_decide_eq_true (by kernel_rfl)) (by kernel_rfl) ?_
  exact (Rt (jT pg nD R) (gE [a0]) w R (fun _ _ h => h) h)
def A9 : FA := ⟨kN, fun i => match Nat.beq i 4 with | true => .leaf ([12], [(12, 15), (12, 16)]) [(false, []), (false, []), (false, []), (false, []), (false, []), (false, []), (false, []), (false, []), (false, []), (false, []), (false, []), (false, []), (true, []), (false, []), (false, []), (false, [2]), (false, [3]), (false, []), (false, [])] | false => .leaf ([], []) []⟩
def qP : List ResultVar := [.tmp 4]
noncomputable def yG : Code := fB Try.f58
def qO (R : K1) (r_0 kQ : Value) (w : World) : Prop :=
  aD pg (aN .eql 72 (.tmp 7) (.const (.pointer none)) r_0 (.pointer none)) w fun t8 w =>
  Gd (dW t8 false) (fun K => K kQ w) w fun t10 w =>
  Gd (dW t8 false) (fun K => aD pg (aN .lss 3 (.tmp 10) (.const (.int .i64 1)) t10 (.int .i64 1)) w K) w fun t11 w =>
  aD pg (fJ t8 (.bool true) t11) w fun t12 w =>
  Gd (dW t12 false) (fun K => K kQ w) w fun t14 w =>
  Gd (dW t12 false) (fun K => aD pg (aN .gtr 3 (.tmp 14) (.const (.int .i64 56)) t14 (.int .i64 56)) w K) w fun t15 w =>
  aD pg (fJ t12 (.bool true) t15) w fun t16 w =>
  hH t16
    (R (.int .u64 0) w)
    (aD pg (Ix r_0) w fun t18 w =>
    aD pg (bA 114 t18 1) w fun t19 w =>
    aD pg (aW 3 t19) w fun t20 w =>
    aD pg (iJ .max #[3, 3] 3 [t20, (.int .i64 0)]) w fun t21 w =>
    aD pg (iJ .min #[3, 3] 3 [t21, kQ]) w fun t23 w =>
    (dr w) = (dr w) ∧
    aD pg (Ix r_0) (dr w) fun t25 w_ => w_ = (dr w) ∧
    aD pg (bA 114 t25 0) (dr w) fun t26 w_ => w_ = (dr w) ∧
    aD pg (aW 22 t26) (dr w) fun t27 w_ => w_ = (dr w) ∧
    (dr w) = (dr w) ∧
    aD pg (Ix r_0) (dr w) fun t29 w_ => w_ = (dr w) ∧
    aD pg (bA 114 t29 1) (dr w) fun t30 w_ => w_ = (dr w) ∧
    aD pg (aW 3 t30) (dr w) fun t31 w_ => w_ = (dr w) ∧
    aD pg (iJ .max #[3, 3] 3 [t31, (.int .i64 0)]) (dr w) fun t32 w_ => w_ = (dr w) ∧
    (dr w) = (dr w) ∧
    aD pg (aN .sub 3 (.tmp 32) (.tmp 33) t32 t23) (dr w) fun t34 w_ => w_ = (dr w) ∧
    (dr w) = (dr w) ∧
    cC pg CH #[t27, t34, t23] (dr w) fun t36 HB =>
    HB = HB ∧
    HB = HB ∧
    aD pg (aN .sub 3 (.tmp 37) (.tmp 38) kQ t23) HB fun t39 w_ => w_ = HB ∧
    (gZ pg (aN .sub 3 (.tmp 37) (.tmp 38) kQ t23) t39 (dr w) ∧ True) ∧
    aD pg (jH 3 49 t39) HB fun t40 w_ => w_ = HB ∧
    (gZ pg (jH 3 49 t39) t40 (dr w) ∧ True) ∧
    aD pg (aN .shl 44 (.tmp 36) (.tmp 40) t36 t40) HB fun t41 w_ => w_ = HB ∧
    HB = HB ∧
    aD pg (Ix r_0) HB fun t43 w =>
    aD pg (bA 114 t43 1) w fun t44 w =>
    aD pg (aW 3 t44) w fun t45 w =>
    aD pg (aN .sub 3 (.tmp 45) (.tmp 46) t45 kQ) w fun t47 w =>
    aD pg (Ix r_0) w fun t48 w =>
    aD pg (bA 114 t48 1) w fun t49 w =>
    aD pg (cB 3 t49 t47) w fun _u w =>
    R t41 w)
theorem GQ (R : K1) (hr : HR qP R Q) (h : qO R (g 0) (g 1) w) : aQ pg A9 yG Q g w :=
  aI (kn := no) (l := []) (by kernel_rfl) h fG hr trivial
def EX (a0 a1 : Value) (w : World) (R : K1) : Prop :=
  qO R a0 a1 w
theorem HV {a0 a1 : Value} {w : World} {R : K1} (h : EX a0 a1 w R) : cC pg kN #[a0, a1] w R := by
  refine bQ (ann := A9) (fn := Try.f58) (c := yG) (args := [a0, a1]) (rs := qP) (N := 51) TryM.mixed (by kernel_rfl) Try.func58 (by kernel_rfl) (by kernel_rfl) (by kernel_rfl) (of_decide_eq_true (by kernel_rfl)) (by kernel_rfl) ?_
  exact (GQ (jT pg qP R) (gE [a0, a1]) w R (fun _ _ h => h) h)
def cK : FA := ⟨Ba, fun i => .leaf ([], []) []⟩
def vG : List ResultVar := [.tmp 2]
noncomputable def cG : Code := fB Try.f59
def CB (R : K1) (fK : Value) (w : World) : Prop :=
  R fK w
theorem S4 (R : K1) (hr : HR vG R Q) (h : CB R (g 3) w) : aQ pg cK (aA 1 (aA 2 cG)) Q g w :=
  aI (kn := no) (l := []) (by kernel_rfl) h fG hr trivial
def Ct (kn : K3) (uU fK fQ : Value) (w : World) : Prop :=
  aD pg (aN .add 3 (.tmp 11) (.const (.int .i64 1)) fQ (.int .i64 1)) w fun t12 w =>
  kn uU fK t12 w
theorem SL (kn : K3) (hn : ∀ g w, kn (g 0) (g 3) (g 4) w → Q .normal g w) (h : Ct kn (g 0) (g 3) (g 4) w) : aQ pg cK (aA 1 (aA 1 (bI (bI (aA 1 (aC 1 (aA 2 cG))))))) Q g w :=
  aI (kr := no) (l := []) (by kernel_rfl) h hn fG trivial
def Cc (kn : K5) (k2 : K3) (uU fK fQ YU CE : Value) (w : World) : Prop :=
  aD pg (aN .lss 3 (.tmp 16) (.const (.int .i64 8)) CE (.int .i64 8)) w fun t17 w =>
  hH t17
    (aD pg (aN .rem 5 (.tmp 21) (.const (.int .u8 2)) YU (.int .u8 2)) w fun t22 w =>
    aD pg (aN .eql 5 (.tmp 22) (.const (.int .u8 1)) t22 (.int .u8 1)) w fun t23 w =>
    aD pg (cQ 89 1 [(0, t23)]) w fun t24 w =>
    aD pg (iJ .append #[89, 89] 89 [fK, t24]) w fun t25 w =>
    aD pg (aN .quo 5 (.tmp 26) (.const (.int .u8 2)) YU (.int .u8 2)) w fun t27 w =>
    aD pg (aN .add 3 (.tmp 18) (.const (.int .i64 1)) CE (.int .i64 1)) w fun t19 w =>
    kn uU t25 fQ t27 t19 w)
    (k2 uU fK fQ w)
theorem Sq (kn : K5) (k2 : K3) (hn : ∀ g w, kn (g 0) (g 3) (g 4) (g 5) (g 6) w → Q .normal g w) (h2 : ∀ g w, k2 (g 0) (g 3) (g 4) w → Q (.exit 2) g w) (h : Cc kn k2 (g 0) (g 3) (g 4) (g 5) (g 6) w) : aQ pg cK (bI (bI (aA 2 (bI (aC 1 (aA 1 (bI (bI (aA 1 (aC 1 (aA 2 cG))))))))))) Q g w :=
  aI (kr := no) (l := [(2, fun g w => k2 (g 0) (g 3) (g 4) w)]) (by kernel_rfl) h hn fG ⟨h2, trivial⟩
def He (k2 : K3) (uU fK fQ YU CE : Value) (w : World) : Prop :=
  cV (fun (X : (Value × Value × Value) → K0) (t : Value × Value × Value) (w : World) => Cc (fun _ fK _ YU CE w => X (fK, YU, CE) w) k2 uU t.1 fQ t.2.1 t.2.2 w) (fK, YU, CE) w
theorem Te (k2 : K3) (h2 : ∀ g w, k2 (g 0) (g 3) (g 4) w → Q (.exit 2) g w) (h : He k2 (g 0) (g 3) (g 4) (g 5) (g 6) w) : aQ pg cK (bI (aA 2 (bI (aC 1 (aA 1 (bI (bI (aA 1 (aC 1 (aA 2 cG)))))))))) Q g w := by
  refine cR (T := Value × Value × Value) (fun g : eL => (g 3, g 5, g 6)) (fun X t w => Cc (fun _ fK _ YU CE w => X (fK, YU, CE) w) k2 (g 0) t.1 (g 4) t.2.1 t.2.2 w) _ (by kernel_rfl) h (fun X g1 w1 ha hL => ?_)
  rw [← aO (s := 0) ha (by kernel_rfl)] at hL
  rw [← aO (s := 4) ha (by kernel_rfl)] at hL
  exact (Sq (aX (fun g2 w2 => X ((fun g : eL => (g 3, g 5, g 6)) g2) w2) Q) g1 w1 (fun _ fK _ YU CE w => X (fK, YU, CE) w) k2 (fun _ _ h => h) h2 hL)
def BZ (kn : K3) (uU fK fQ YU CE : Value) (w : World) : Prop :=
  He kn uU fK fQ YU CE w
theorem Th (kn : K3) (hn : ∀ g w, kn (g 0) (g 3) (g 4) w → Q .normal g w) (h : BZ kn (g 0) (g 3) (g 4) (g 5) (g 6) w) : aQ pg cK (aA 2 (bI (aC 1 (aA 1 (bI (bI (aA 1 (aC 1 (aA 2 cG))))))))) Q g w :=
  cU 2 _ g w (by kernel_rfl) (Te (rP 2 Q) g w kn hn h)
def Gp (kn : K5) (uU fK fQ : Value) (w : World) : Prop :=
  aD pg (Oc 9 uU fQ) w fun t15 w =>
  kn uU fK fQ t15 (.int .i64 0) w
theorem Tr (kn : K5) (hn : ∀ g w, kn (g 0) (g 3) (g 4) (g 5) (g 6) w → Q .normal g w) (h : Gp kn (g 0) (g 3) (g 4) w) : aQ pg cK (aC 2 (bI (aC 1 (aA 1 (bI (bI (aA 1 (aC 1 (aA 2 cG))))))))) Q g w :=
  aI (kr := no) (l := []) (by kernel_rfl) h hn fG trivial
def Hn (kn : K3) (uU fK fQ : Value) (w : World) : Prop :=
  Gp (fun uU fK fQ YU CE w => BZ kn uU fK fQ YU CE w) uU fK fQ w
theorem RY (kn : K3) (hn : ∀ g w, kn (g 0) (g 3) (g 4) w → Q .normal g w) (h : Hn kn (g 0) (g 3) (g 4) w) : aQ pg cK (bI (aC 1 (aA 1 (bI (bI (aA 1 (aC 1 (aA 2 cG)))))))) Q g w :=
  aL 2 _ g w (by kernel_rfl) (Tr (aX (fun g w => aQ pg cK (aA 2 (bI (aC 1 (aA 1 (bI (bI (aA 1 (aC 1 (aA 2 cG))))))))) Q g w) Q) g w (fun uU fK fQ YU CE w => BZ kn uU fK fQ YU CE w) (fun g w h => aS (K := fun g w => aQ pg cK (aA 2 (bI (aC 1 (aA 1 (bI (bI (aA 1 (aC 1 (aA 2 cG))))))))) Q g w) (Th Q g w kn hn h)) h)
def G6 (kn : K3) (uU fK fQ : Value) (w : World) : Prop :=
  Hn kn uU fK fQ w
theorem Td (kn : K3) (hn : ∀ g w, kn (g 0) (g 3) (g 4) w → Q .normal g w) (h : G6 kn (g 0) (g 3) (g 4) w) : aQ pg cK (aC 1 (aA 1 (bI (bI (aA 1 (aC 1 (aA 2 cG))))))) Q g w :=
  cU 1 _ g w (by kernel_rfl) (RY (rP 1 Q) g w kn hn h)
def Cn (kn : K3) (uU fK fQ : Value) (w : World) : Prop :=
  G6 (fun uU fK fQ w => Ct kn uU fK fQ w) uU fK fQ w
theorem Sy (kn : K3) (hn : ∀ g w, kn (g 0) (g 3) (g 4) w → Q .normal g w) (h : Cn kn (g 0) (g 3) (g 4) w) : aQ pg cK (aA 1 (bI (bI (aA 1 (aC 1 (aA 2 cG)))))) Q g w :=
  aL 1 _ g w (by kernel_rfl) (Td (aX (fun g w => aQ pg cK (aA 1 (aA 1 (bI (bI (aA 1 (aC 1 (aA 2 cG))))))) Q g w) Q) g w (fun uU fK fQ w => Ct kn uU fK fQ w) (fun g w h => aS (K := fun g w => aQ pg cK (aA 1 (aA 1 (bI (bI (aA 1 (aC 1 (aA 2 cG))))))) Q g w) (SL Q g w kn hn h)) h)
def Eh (kn : K3) (k0 : K1) (uU fK fQ : Value) (w : World) : Prop :=
  aD pg (iJ .len #[9] 3 [uU]) w fun t9 w =>
  aD pg (aN .lss 3 (.tmp 7) (.tmp 9) fQ t9) w fun t10 w =>
  hH t10
    (kn uU fK fQ w)
    (k0 fK w)
theorem QT (kn : K3) (k0 : K1) (hn : ∀ g w, kn (g 0) (g 3) (g 4) w → Q .normal g w) (h0 : ∀ g w, k0 (g 3) w → Q (.exit 0) g w) (h : Eh kn k0 (g 0) (g 3) (g 4) w) : aQ pg cK (aC 1 (bI (bI (aA 1 (aC 1 (aA 2 cG)))))) Q g w :=
  aI (kr := no) (l := [(0, fun g w => k0 (g 3) w)]) (by kernel_rfl) h hn fG ⟨h0, trivial⟩
def zD (kn : K3) (k0 : K1) (uU fK fQ : Value) (w : World) : Prop :=
  Eh (fun uU fK fQ w => Cn kn uU fK fQ w) k0 uU fK fQ w
theorem OW (kn : K3) (k0 : K1) (hn : ∀ g w, kn (g 0) (g 3) (g 4) w → Q .normal g w) (h0 : ∀ g w, k0 (g 3) w → Q (.exit 0) g w) (h : zD kn k0 (g 0) (g 3) (g 4) w) : aQ pg cK (bI (bI (aA 1 (aC 1 (aA 2 cG))))) Q g w :=
  aL 1 _ g w (by kernel_rfl) (QT (aX (fun g w => aQ pg cK (aA 1 (bI (bI (aA 1 (aC 1 (aA 2 cG)))))) Q g w) Q) g w (fun uU fK fQ w => Cn kn uU fK fQ w) k0 (fun g w h => aS (K := fun g w => aQ pg cK (aA 1 (bI (bI (aA 1 (aC 1 (aA 2 cG)))))) Q g w) (Sy Q g w kn hn h)) h0 h)
def Ez (k0 : K1) (uU fK fQ : Value) (w : World) : Prop :=
  cV (fun (X : (Value × Value) → K0) (t : Value × Value) (w : World) => zD (fun _ fK fQ w => X (fK, fQ) w) k0 uU t.1 t.2 w) (fK, fQ) w
theorem Qf (k0 : K1) (h0 : ∀ g w, k0 (g 3) w → Q (.exit 0) g w) (h : Ez k0 (g 0) (g 3) (g 4) w) : aQ pg cK (bI (aA 1 (aC 1 (aA 2 cG)))) Q g w := by
  refine cR (T := Value × Value) (fun g : eL => (g 3, g 4)) (fun X t w => zD (fun _ fK fQ w => X (fK, fQ) w) k0 (g 0) t.1 t.2 w) _ (by kernel_rfl) h (fun X g1 w1 ha hL => ?_)
  rw [← aO (s := 0) ha (by kernel_rfl)] at hL
  exact (OW (aX (fun g2 w2 => X ((fun g : eL => (g 3, g 4)) g2) w2) Q) g1 w1 (fun _ fK fQ w => X (fK, fQ) w) k0 (fun _ _ h => h) h0 hL)
def AE (kn : K1) (uU fK fQ : Value) (w : World) : Prop :=
  Ez kn uU fK fQ w
theorem QR (kn : K1) (hn : ∀ g w, kn (g 3) w → Q .normal g w) (h : AE kn (g 0) (g 3) (g 4) w) : aQ pg cK (aA 1 (aC 1 (aA 2 cG))) Q g w :=
  cU 0 _ g w (by kernel_rfl) (Qf (rP 0 Q) g w kn hn h)
def Fz (kn : K3) (uU fK : Value) (w : World) : Prop :=
  kn uU fK (.int .i64 0) w
theorem Q1 (kn : K3) (hn : ∀ g w, kn (g 0) (g 3) (g 4) w → Q .normal g w) (h : Fz kn (g 0) (g 3) w) : aQ pg cK (aC 1 (aC 1 (aA 2 cG))) Q g w :=
  aI (kr := no) (l := []) (by kernel_rfl) h hn fG trivial
def EI (kn : K1) (uU fK : Value) (w : World) : Prop :=
  Fz (fun uU fK fQ w => AE kn uU fK fQ w) uU fK w
theorem OU (kn : K1) (hn : ∀ g w, kn (g 3) w → Q .normal g w) (h : EI kn (g 0) (g 3) w) : aQ pg cK (aC 1 (aA 2 cG)) Q g w :=
  aL 1 _ g w (by kernel_rfl) (Q1 (aX (fun g w => aQ pg cK (aA 1 (aC 1 (aA 2 cG))) Q g w) Q) g w (fun uU fK fQ w => AE kn uU fK fQ w) (fun g w h => aS (K := fun g w => aQ pg cK (aA 1 (aC 1 (aA 2 cG))) Q g w) (QR Q g w kn hn h)) h)
def AP (R : K1) (uU fK : Value) (w : World) : Prop :=
  EI (fun fK w => CB R fK w) uU fK w
theorem QO (R : K1) (hr : HR vG R Q) (h : AP R (g 0) (g 3) w) : aQ pg cK (aA 2 cG) Q g w :=
  aL 1 _ g w (by kernel_rfl) (OU (aX (fun g w => aQ pg cK (aA 1 (aA 2 cG)) Q g w) Q) g w (fun fK w => CB R fK w) (fun g w h => aS (K := fun g w => aQ pg cK (aA 1 (aA 2 cG)) Q g w) (S4 Q g w R hr h)) h)
def Fn (kn : K2) (uU : Value) (w : World) : Prop :=
  kn uU (.slice none 0 0) w
theorem OZ (kn : K2) (hn : ∀ g w, kn (g 0) (g 3) w → Q .normal g w) (h : Fn kn (g 0) w) : aQ pg cK (aC 2 cG) Q g w :=
  aI (kr := no) (l := []) (by kernel_rfl) h hn fG trivial
def EU (R : K1) (uU : Value) (w : World) : Prop :=
  Fn (fun uU fK w => AP R uU fK w) uU w
theorem P1 (R : K1) (hr : HR vG R Q) (h : EU R (g 0) w) : aQ pg cK cG Q g w :=
  aL 2 _ g w (by kernel_rfl) (OZ (aX (fun g w => aQ pg cK (aA 2 cG) Q g w) Q) g w (fun uU fK w => AP R uU fK w) (fun g w h => aS (K := fun g w => aQ pg cK (aA 2 cG) Q g w) (QO Q g w R hr h)) h)
def Wg (a0 : Value) (w : World) (R : K1) : Prop :=
  EU R a0 w
theorem UP {a0 : Value} {w : World} {R : K1} (h : Wg a0 w R) : cC pg Ba #[a0] w R := by
  refine bQ (ann := cK) (fn := Try.f59) (c := cG) (args := [a0]) (rs := vG) (N := 29) TryM.mixed (by kernel_rfl) Try.func59 (by kernel_rfl) (by kernel_rfl) (by kernel_rfl) (of_decide_eq_true (by kernel_rfl)) (by kernel_rfl) ?_
  exact (P1 (jT pg vG R) (gE [a0]) w R (fun _ _ h => h) h)
def Kf : FA := ⟨oP, fun i => .leaf ([], []) []⟩
def Hq : List ResultVar := [.cell 4 121, .tmp 5, .tmp 6]
noncomputable def Jh : Code := fB Try.f60
def Hu (R : K1) (FT kQ : Value) (w : World) : Prop :=
  aD pg (Ej 121 FT) w fun WV w =>
  aD pg (hT 121) w fun t4 w =>
  aD pg (aN .lss 3 (.tmp 8) (.const (.int .i64 0)) kQ (.int .i64 0)) w fun t9 w =>
  Gd (dW t9 false) (fun K => K kQ w) w fun t11 w =>
  Gd (dW t9 false) (fun K => aD pg (aN .gtr 3 (.tmp 11) (.const (.int .i64 32)) t11 (.int .i64 32)) w K) w fun t12 w =>
  aD pg (fJ t9 (.bool true) t12) w fun t13 w =>
  hH t13
    (aD pg (aW 121 WV) w fun t14 w =>
    aD pg (cB 121 t4 t14) w fun _u w =>
    F1 pg 121 t4 w fun r0 => R (.tuple #[r0, (.int .u64 0), (.int .i64 1)]) w)
    (aD pg (bA 121 WV 0) w fun t15 w =>
    aD pg (aW 89 t15) w fun t16 w =>
    aD pg (iJ .len #[89] 3 [t16]) w fun t17 w =>
    aD pg (bA 121 WV 1) w fun t18 w =>
    aD pg (aW 3 t18) w fun t19 w =>
    aD pg (aN .sub 3 (.tmp 17) (.tmp 19) t17 t19) w fun t20 w =>
    aD pg (aN .lss 3 (.tmp 20) (.tmp 21) t20 kQ) w fun t22 w =>
    hH t22
      (aD pg (aW 121 WV) w fun t23 w =>
      aD pg (cB 121 t4 t23) w fun _u w =>
      F1 pg 121 t4 w fun r0 => R (.tuple #[r0, (.int .u64 0), (.int .i64 10)]) w)
      (aD pg (bA 121 WV 0) w fun t24 w =>
      aD pg (aW 89 t24) w fun t25 w =>
      aD pg (bA 121 WV 1) w fun t26 w =>
      aD pg (aW 3 t26) w fun t27 w =>
      aD pg (bA 121 WV 1) w fun t28 w =>
      aD pg (aW 3 t28) w fun t29 w =>
      aD pg (aN .add 3 (.tmp 29) (.tmp 30) t29 kQ) w fun t31 w =>
      aD pg (jU 89 t25 (some t27) (some t31) none) w fun t32 w =>
      cC pg sB #[t32] w fun t33 w =>
      aD pg (bA 121 WV 1) w fun t34 w =>
      aD pg (aW 3 t34) w fun t35 w =>
      aD pg (aN .add 3 (.tmp 35) (.tmp 36) t35 kQ) w fun t37 w =>
      aD pg (bA 121 WV 1) w fun t38 w =>
      aD pg (cB 3 t38 t37) w fun _u w =>
      aD pg (aW 121 WV) w fun t39 w =>
      aD pg (cB 121 t4 t39) w fun _u w =>
      F1 pg 121 t4 w fun r0 => R (.tuple #[r0, t33, (.int .i64 0)]) w))
theorem Tb (R : K1) (hr : HR Hq R Q) (h : Hu R (g 0) (g 1) w) : aQ pg Kf Jh Q g w :=
  aI (kn := no) (l := []) (by kernel_rfl) h fG hr trivial
def VJ (a0 a1 : Value) (w : World) (R : K1) : Prop :=
  Hu R a0 a1 w
theorem Uf {a0 a1 : Value} {w : World} {R : K1} (h : VJ a0 a1 w R) : cC pg oP #[a0, a1] w R := by
  refine bQ (ann := Kf) (fn := Try.f60) (c := Jh) (args := [a0, a1]) (rs := Hq) (N := 41) TryM.mixed (by kernel_rfl) Try.func60 (by kernel_rfl) (by kernel_rfl) (by kernel_rfl) (of_decide_eq_true (by kernel_rfl)) (by kernel_rfl) ?_
  exact (Tb (jT pg Hq R) (gE [a0, a1]) w R (fun _ _ h => h) h)
def Lg : FA := ⟨DK, fun i => .leaf ([], []) []⟩
def G7 : List ResultVar := [.cell 4 121, .tmp 5, .tmp 6]
noncomputable def Jn : Code := fB Try.f61
def Gr (R : K1) (FT Vu : Value) (w : World) : Prop :=
  aD pg (Ej 121 FT) w fun WV w =>
  aD pg (hT 121) w fun t4 w =>
  aD pg (aN .add 3 (.tmp 13) (.const (.int .i64 1)) Vu (.int .i64 1)) w fun t14 w =>
  cC pg Cg #[t14] w fun t15 w =>
  aD pg (aW 121 WV) w fun t17 w =>
  aD pg (aN .sub 3 (.tmp 18) (.const (.int .i64 1)) t15 (.int .i64 1)) w fun t19 w =>
  cC pg oP #[t17, t19] w fun t20 w =>
  aD pg (dV t20 0) w fun t21 w =>
  aD pg (dV t20 1) w fun t22 w =>
  aD pg (dV t20 2) w fun t23 w =>
  aD pg (cB 121 WV t21) w fun _u w =>
  aD pg (aN .neq 24 (.tmp 24) (.const (.int .i64 0)) t23 (.int .i64 0)) w fun t25 w =>
  hH t25
    (aD pg (aW 121 WV) w fun t26 w =>
    aD pg (cB 121 t4 t26) w fun _u w =>
    F1 pg 121 t4 w fun r0 => R (.tuple #[r0, (.int .i64 0), t23]) w)
    (aD pg (aN .sub 3 (.tmp 28) (.const (.int .i64 1)) t15 (.int .i64 1)) w fun t29 w =>
    cC pg iE #[t29] w fun t30 w =>
    aD pg (aN .mul 3 (.const (.int .i64 2)) (.tmp 31) (.int .i64 2) t30) w fun t32 w =>
    aD pg (aN .sub 3 (.tmp 32) (.const (.int .i64 2)) t32 (.int .i64 2)) w fun t33 w =>
    aD pg (aN .sub 3 (.tmp 33) (.tmp 34) t33 Vu) w fun t35 w =>
    aD pg (jH 44 3 t22) w fun t37 w =>
    aD pg (aN .lss 3 (.tmp 37) (.tmp 38) t37 t35) w fun t39 w =>
    hH t39
      (aD pg (aW 121 WV) w fun t40 w =>
      aD pg (jH 44 3 t22) w fun t42 w =>
      aD pg (cB 121 t4 t40) w fun _u w =>
      F1 pg 121 t4 w fun r0 => R (.tuple #[r0, t42, (.int .i64 0)]) w)
      (aD pg (aW 121 WV) w fun t44 w =>
      cC pg oP #[t44, (.int .i64 1)] w fun t45 w =>
      aD pg (dV t45 0) w fun t46 w =>
      aD pg (dV t45 1) w fun t47 w =>
      aD pg (dV t45 2) w fun t48 w =>
      aD pg (cB 121 WV t46) w fun _u w =>
      aD pg (aN .neq 24 (.tmp 49) (.const (.int .i64 0)) t48 (.int .i64 0)) w fun t50 w =>
      hH t50
        (aD pg (aW 121 WV) w fun t51 w =>
        aD pg (cB 121 t4 t51) w fun _u w =>
        F1 pg 121 t4 w fun r0 => R (.tuple #[r0, (.int .i64 0), t48]) w)
        (aD pg (aN .eql 44 (.tmp 53) (.const (.int .u64 1)) t47 (.int .u64 1)) w fun t54 w =>
        hH t54
          (aD pg (aW 121 WV) w fun t55 w =>
          aD pg (jH 44 3 t22) w fun t57 w =>
          aD pg (aN .add 3 (.tmp 57) (.tmp 58) t57 t30) w fun t59 w =>
          aD pg (aN .sub 3 (.tmp 59) (.tmp 60) t59 t35) w fun t61 w =>
          aD pg (cB 121 t4 t55) w fun _u w =>
          F1 pg 121 t4 w fun r0 => R (.tuple #[r0, t61, (.int .i64 0)]) w)
          (aD pg (aW 121 WV) w fun t62 w =>
          aD pg (jH 44 3 t22) w fun t64 w =>
          aD pg (cB 121 t4 t62) w fun _u w =>
          F1 pg 121 t4 w fun r0 => R (.tuple #[r0, t64, (.int .i64 0)]) w))))
theorem SG (R : K1) (hr : HR G7 R Q) (h : Gr R (g 0) (g 1) w) : aQ pg Lg Jn Q g w :=
  aI (kn := no) (l := []) (by kernel_rfl) h fG hr trivial
def VX (a0 a1 : Value) (w : World) (R : K1) : Prop :=
  Gr R a0 a1 w
theorem Um {a0 a1 : Value} {w : World} {R : K1} (h : VX a0 a1 w R) : cC pg DK #[a0, a1] w R := by
  refine bQ (ann := Lg) (fn := Try.f61) (c := Jn) (args := [a0, a1]) (rs := G7) (N := 65) TryM.mixed (by kernel_rfl) Try.func61 (by kernel_rfl) (by kernel_rfl) (by kernel_rfl) (of_decide_eq_true (by kernel_rfl)) (by kernel_rfl) ?_
  exact (SG (jT pg G7 R) (gE [a0, a1]) w R (fun _ _ h => h) h)
def Lk : FA := ⟨DU, fun i => .leaf ([], []) []⟩
def Hl : List ResultVar := [.tmp 2]
noncomputable def Ji : Code := fB Try.f62
def GK (R : K1) (FT : Value) (w : World) : Prop :=
  aD pg (Ej 121 FT) w fun f_1 w =>
  aD pg (bA 121 f_1 1) w fun t3 w =>
  aD pg (aW 3 t3) w fun t4 w =>
  aD pg (aN .add 3 (.tmp 4) (.const (.int .i64 7)) t4 (.int .i64 7)) w fun t5 w =>
  aD pg (aN .quo 3 (.tmp 5) (.const (.int .i64 8)) t5 (.int .i64 8)) w fun t6 w =>
  R t6 w
theorem TB (R : K1) (hr : HR Hl R Q) (h : GK R (g 0) w) : aQ pg Lk Ji Q g w :=
  aI (kn := no) (l := []) (by kernel_rfl) h fG hr trivial
def We (a0 : Value) (w : World) (R : K1) : Prop :=
  GK R a0 w
theorem Ve {a0 : Value} {w : World} {R : K1} (h : We a0 w R) : cC pg DU #[a0] w R := by
  refine bQ (ann := Lk) (fn := Try.f62) (c := Ji) (args := [a0]) (rs := Hl) (N := 7) TryM.mixed (by kernel_rfl) Try.func62 (by kernel_rfl) (by kernel_rfl) (by kernel_rfl) (of_decide_eq_true (by kernel_rfl)) (by kernel_rfl) ?_
  exact (TB (jT pg Hl R) (gE [a0]) w R (fun _ _ h => h) h)
def Jm : FA := ⟨B8, fun i => .leaf ([], []) []⟩
def Fu : List ResultVar := [.tmp 4]
noncomputable def HA : Code := fB Try.f63
def EF (R : K1) (VP FL : Value) (w : World) : Prop :=
  aD pg (Ej 86 VP) w fun c_2 w =>
  aD pg (aW 86 c_2) w fun t6 w =>
  cC pg F5 #[t6] w fun t7 w =>
  aD pg (sUn .not t7) w fun t9 w =>
  hH t9
    (R (.int .i64 1) w)
    (aD pg (bA 86 c_2 0) w fun t10 w =>
    aD pg (aW 3 t10) w fun t11 w =>
    aD pg (aN .gtr 3 (.tmp 11) (.tmp 12) t11 FL) w fun t13 w =>
    hH t13
      (R (.int .i64 12) w)
      (R (.int .i64 0) w))
theorem RC (R : K1) (hr : HR Fu R Q) (h : EF R (g 0) (g 1) w) : aQ pg Jm HA Q g w :=
  aI (kn := no) (l := []) (by kernel_rfl) h fG hr trivial
def T4 (a0 a1 : Value) (w : World) (R : K1) : Prop :=
  EF R a0 a1 w
theorem R5 {a0 a1 : Value} {w : World} {R : K1} (h : T4 a0 a1 w R) : cC pg B8 #[a0, a1] w R := by
  refine bQ (ann := Jm) (fn := Try.f63) (c := HA) (args := [a0, a1]) (rs := Fu) (N := 14) TryM.mixed (by kernel_rfl) Try.func63 (by kernel_rfl) (by kernel_rfl) (by kernel_rfl) (of_decide_eq_true (by kernel_rfl)) (by kernel_rfl) ?_
  exact (RC (jT pg Fu R) (gE [a0, a1]) w R (fun _ _ h => h) h)
def eS : FA := ⟨Ay, fun i => .leaf ([], []) []⟩
def nI : List ResultVar := [.cell 4 91, .tmp 5]
noncomputable def eA : Code := fB Try.f64
def B7 (R : K1) (D2 t4 CE tA : Value) (w : World) : Prop :=
  aD pg (bA 91 D2 0) w fun t46 w =>
  aD pg (aW 89 t46) w fun t47 w =>
  aD pg (bA 91 D2 0) w fun t48 w =>
  aD pg (aW 89 t48) w fun t49 w =>
  aD pg (iJ .len #[89] 3 [t49]) w fun t50 w =>
  aD pg (aN .sub 3 (.tmp 50) (.tmp 51) t50 CE) w fun t52 w =>
  aD pg (jU 89 t47 none (some t52) none) w fun t53 w =>
  aD pg (bA 91 D2 0) w fun t54 w =>
  aD pg (cB 89 t54 t53) w fun _u w =>
  aD pg (aW 91 D2) w fun t55 w =>
  aD pg (cB 91 t4 t55) w fun _u w =>
  F1 pg 91 t4 w fun r0 => R (.tuple #[r0, tA]) w
theorem SZ (R : K1) (hr : HR nI R Q) (h : B7 R (g 2) (g 4) (g 6) (g 7) w) : aQ pg eS (aA 1 (aA 1 (aA 4 eA))) Q g w :=
  aI (kn := no) (l := []) (by kernel_rfl) h fG hr trivial
def Cb (kn : K6) (k0 : K4) (kQ D2 t4 CE tA YT : Value) (w : World) : Prop :=
  aD pg (aN .lss 3 (.tmp 35) (.tmp 36) YT kQ) w fun t37 w =>
  hH t37
    (aD pg (aN .mul 44 (.tmp 40) (.const (.int .u64 2)) tA (.int .u64 2)) w fun t41 w =>
    aD pg (bA 91 D2 1) w fun t42 w =>
    aD pg (aW 3 t42) w fun t43 w =>
    aD pg (aN .add 3 (.tmp 43) (.const (.int .i64 1)) t43 (.int .i64 1)) w fun t44 w =>
    aD pg (bA 91 D2 1) w fun t45 w =>
    aD pg (cB 3 t45 t44) w fun _u w =>
    aD pg (aN .add 3 (.tmp 38) (.const (.int .i64 1)) YT (.int .i64 1)) w fun t39 w =>
    kn kQ D2 t4 CE t41 t39 w)
    (k0 D2 t4 CE tA w)
theorem RO (kn : K6) (k0 : K4) (hn : ∀ g w, kn (g 1) (g 2) (g 4) (g 6) (g 7) (g 8) w → Q .normal g w) (h0 : ∀ g w, k0 (g 2) (g 4) (g 6) (g 7) w → Q (.exit 0) g w) (h : Cb kn k0 (g 1) (g 2) (g 4) (g 6) (g 7) (g 8) w) : aQ pg eS (bI (bI (aA 1 (aC 1 (aA 1 (aA 4 eA)))))) Q g w :=
  aI (kr := no) (l := [(0, fun g w => k0 (g 2) (g 4) (g 6) (g 7) w)]) (by kernel_rfl) h hn fG ⟨h0, trivial⟩
def GL (k0 : K4) (kQ D2 t4 CE tA YT : Value) (w : World) : Prop :=
  cV (fun (X : (Value × Value) → K0) (t : Value × Value) (w : World) => Cb (fun _ _ _ _ tA YT w => X (tA, YT) w) k0 kQ D2 t4 CE t.1 t.2 w) (tA, YT) w
theorem S5 (k0 : K4) (h0 : ∀ g w, k0 (g 2) (g 4) (g 6) (g 7) w → Q (.exit 0) g w) (h : GL k0 (g 1) (g 2) (g 4) (g 6) (g 7) (g 8) w) : aQ pg eS (bI (aA 1 (aC 1 (aA 1 (aA 4 eA))))) Q g w := by
  refine cR (T := Value × Value) (fun g : eL => (g 7, g 8)) (fun X t w => Cb (fun _ _ _ _ tA YT w => X (tA, YT) w) k0 (g 1) (g 2) (g 4) (g 6) t.1 t.2 w) _ (by kernel_rfl) h (fun X g1 w1 ha hL => ?_)
  rw [← aO (s := 1) ha (by kernel_rfl)] at hL
  rw [← aO (s := 2) ha (by kernel_rfl)] at hL
  rw [← aO (s := 4) ha (by kernel_rfl)] at hL
  rw [← aO (s := 6) ha (by kernel_rfl)] at hL
  exact (RO (aX (fun g2 w2 => X ((fun g : eL => (g 7, g 8)) g2) w2) Q) g1 w1 (fun _ _ _ _ tA YT w => X (tA, YT) w) k0 (fun _ _ h => h) h0 hL)
def Cv (kn : K4) (kQ D2 t4 CE tA YT : Value) (w : World) : Prop :=
  GL kn kQ D2 t4 CE tA YT w
theorem To (kn : K4) (hn : ∀ g w, kn (g 2) (g 4) (g 6) (g 7) w → Q .normal g w) (h : Cv kn (g 1) (g 2) (g 4) (g 6) (g 7) (g 8) w) : aQ pg eS (aA 1 (aC 1 (aA 1 (aA 4 eA)))) Q g w :=
  cU 0 _ g w (by kernel_rfl) (S5 (rP 0 Q) g w kn hn h)
def G8 (kn : K6) (kQ D2 t4 CE tA : Value) (w : World) : Prop :=
  kn kQ D2 t4 CE tA CE w
theorem Ti (kn : K6) (hn : ∀ g w, kn (g 1) (g 2) (g 4) (g 6) (g 7) (g 8) w → Q .normal g w) (h : G8 kn (g 1) (g 2) (g 4) (g 6) (g 7) w) : aQ pg eS (aC 1 (aC 1 (aA 1 (aA 4 eA)))) Q g w :=
  aI (kr := no) (l := []) (by kernel_rfl) h hn fG trivial
def GW (kn : K4) (kQ D2 t4 CE tA : Value) (w : World) : Prop :=
  G8 (fun kQ D2 t4 CE tA YT w => Cv kn kQ D2 t4 CE tA YT w) kQ D2 t4 CE tA w
theorem S7 (kn : K4) (hn : ∀ g w, kn (g 2) (g 4) (g 6) (g 7) w → Q .normal g w) (h : GW kn (g 1) (g 2) (g 4) (g 6) (g 7) w) : aQ pg eS (aC 1 (aA 1 (aA 4 eA))) Q g w :=
  aL 1 _ g w (by kernel_rfl) (Ti (aX (fun g w => aQ pg eS (aA 1 (aC 1 (aA 1 (aA 4 eA)))) Q g w) Q) g w (fun kQ D2 t4 CE tA YT w => Cv kn kQ D2 t4 CE tA YT w) (fun g w h => aS (K := fun g w => aQ pg eS (aA 1 (aC 1 (aA 1 (aA 4 eA)))) Q g w) (To Q g w kn hn h)) h)
def Ce (R : K1) (kQ D2 t4 CE tA : Value) (w : World) : Prop :=
  GW (fun D2 t4 CE tA w => B7 R D2 t4 CE tA w) kQ D2 t4 CE tA w
theorem SO (R : K1) (hr : HR nI R Q) (h : Ce R (g 1) (g 2) (g 4) (g 6) (g 7) w) : aQ pg eS (aA 1 (aA 4 eA)) Q g w :=
  aL 1 _ g w (by kernel_rfl) (S7 (aX (fun g w => aQ pg eS (aA 1 (aA 1 (aA 4 eA))) Q g w) Q) g w (fun D2 t4 CE tA w => B7 R D2 t4 CE tA w) (fun g w h => aS (K := fun g w => aQ pg eS (aA 1 (aA 1 (aA 4 eA))) Q g w) (SZ Q g w R hr h)) h)
def GP (kn : K5) (kQ D2 t4 CE : Value) (w : World) : Prop :=
  aD pg (bA 91 D2 0) w fun t25 w =>
  aD pg (aW 89 t25) w fun t26 w =>
  aD pg (bA 91 D2 0) w fun t27 w =>
  aD pg (aW 89 t27) w fun t28 w =>
  aD pg (iJ .len #[89] 3 [t28]) w fun t29 w =>
  aD pg (aN .sub 3 (.tmp 29) (.tmp 30) t29 CE) w fun t31 w =>
  aD pg (jU 89 t26 (some t31) none none) w fun t32 w =>
  cC pg sB #[t32] w fun t33 w =>
  kn kQ D2 t4 CE t33 w
theorem Sa (kn : K5) (hn : ∀ g w, kn (g 1) (g 2) (g 4) (g 6) (g 7) w → Q .normal g w) (h : GP kn (g 1) (g 2) (g 4) (g 6) w) : aQ pg eS (aC 1 (aA 4 eA)) Q g w :=
  aI (kr := no) (l := []) (by kernel_rfl) h hn fG trivial
def uV (R : K1) (kQ D2 t4 CE : Value) (w : World) : Prop :=
  GP (fun kQ D2 t4 CE tA w => Ce R kQ D2 t4 CE tA w) kQ D2 t4 CE w
theorem SX (R : K1) (hr : HR nI R Q) (h : uV R (g 1) (g 2) (g 4) (g 6) w) : aQ pg eS (aA 4 eA) Q g w :=
  aL 1 _ g w (by kernel_rfl) (Sa (aX (fun g w => aQ pg eS (aA 1 (aA 4 eA)) Q g w) Q) g w (fun kQ D2 t4 CE tA w => Ce R kQ D2 t4 CE tA w) (fun g w h => aS (K := fun g w => aQ pg eS (aA 1 (aA 4 eA)) Q g w) (SO Q g w R hr h)) h)
def EH (kn : K4) (R : K1) (gL kQ : Value) (w : World) : Prop :=
  aD pg (Ej 91 gL) w fun D2 w =>
  aD pg (hT 91) w fun t4 w =>
  aD pg (aN .lss 3 (.tmp 9) (.const (.int .i64 1)) kQ (.int .i64 1)) w fun t10 w =>
  Gd (dW t10 false) (fun K => K kQ w) w fun t12 w =>
  Gd (dW t10 false) (fun K => aD pg (aN .gtr 3 (.tmp 12) (.const (.int .i64 56)) t12 (.int .i64 56)) w K) w fun t13 w =>
  aD pg (fJ t10 (.bool true) t13) w fun t14 w =>
  hH t14
    (aD pg (aW 91 D2) w fun t15 w =>
    aD pg (cB 91 t4 t15) w fun _u w =>
    F1 pg 91 t4 w fun r0 => R (.tuple #[r0, (.int .u64 0)]) w)
    (aD pg (bA 91 D2 0) w fun t18 w =>
    aD pg (aW 89 t18) w fun t19 w =>
    aD pg (iJ .len #[89] 3 [t19]) w fun t20 w =>
    aD pg (aN .gtr 3 (.tmp 17) (.tmp 20) kQ t20) w fun t21 w =>
    hH t21
      (aD pg (bA 91 D2 0) w fun t22 w =>
      aD pg (aW 89 t22) w fun t23 w =>
      aD pg (iJ .len #[89] 3 [t23]) w fun t24 w =>
      kn kQ D2 t4 t24 w)
      (kn kQ D2 t4 kQ w))
theorem PB (kn : K4) (R : K1) (hn : ∀ g w, kn (g 1) (g 2) (g 4) (g 6) w → Q .normal g w) (hr : HR nI R Q) (h : EH kn R (g 0) (g 1) w) : aQ pg eS (aC 4 eA) Q g w :=
  aI (l := []) (by kernel_rfl) h hn hr trivial
def EY (R : K1) (gL kQ : Value) (w : World) : Prop :=
  EH (fun kQ D2 t4 CE w => uV R kQ D2 t4 CE w) R gL kQ w
theorem Rf (R : K1) (hr : HR nI R Q) (h : EY R (g 0) (g 1) w) : aQ pg eS eA Q g w :=
  aL 4 _ g w (by kernel_rfl) (PB (aX (fun g w => aQ pg eS (aA 4 eA) Q g w) Q) g w (fun kQ D2 t4 CE w => uV R kQ D2 t4 CE w) R (fun g w h => aS (K := fun g w => aQ pg eS (aA 4 eA) Q g w) (SX Q g w R hr h)) hr h)
def VZ (a0 a1 : Value) (w : World) (R : K1) : Prop :=
  EY R a0 a1 w
theorem U0 {a0 a1 : Value} {w : World} {R : K1} (h : VZ a0 a1 w R) : cC pg Ay #[a0, a1] w R := by
  refine bQ (ann := eS) (fn := Try.f64) (c := eA) (args := [a0, a1]) (rs := nI) (N := 57) TryM.mixed (by kernel_rfl) Try.func64 (by kernel_rfl) (by kernel_rfl) (by kernel_rfl) (of_decide_eq_true (by kernel_rfl)) (by kernel_rfl) ?_
  exact (Rf (jT pg nI R) (gE [a0, a1]) w R (fun _ _ h => h) h)
def gC : FA := ⟨CH, fun i => .leaf ([], []) []⟩
def yL : List ResultVar := [.tmp 6]
noncomputable def fR : Code := fB Try.f65
def D8 (R : K1) (tA : Value) (w : World) : Prop :=
  R tA w
theorem Ur (R : K1) (hr : HR yL R Q) (h : D8 R (g 7) w) : aQ pg gC (aA 1 (aA 2 fR)) Q g w :=
  aI (kn := no) (l := []) (by kernel_rfl) h fG hr trivial
def Eb (kn : K5) (k0 : K1) (gL D4 tA t10 t11 : Value) (w : World) : Prop :=
  aD pg (aN .lss 3 (.tmp 11) (.tmp 10) t11 t10) w fun t12 w =>
  hH t12
    (aD pg (aN .add 3 (.tmp 14) (.tmp 15) D4 t11) w fun t16 w =>
    aD pg (aN .quo 3 (.tmp 19) (.const (.int .i64 8)) t16 (.int .i64 8)) w fun t20 w =>
    aD pg (cD 22 gL t20) w fun t21 w =>
    aD pg (aW 5 t21) w fun t22 w =>
    aD pg (aN .rem 3 (.tmp 23) (.const (.int .i64 8)) t16 (.int .i64 8)) w fun t24 w =>
    aD pg (aN .shr 5 (.tmp 22) (.tmp 24) t22 t24) w fun t25 w =>
    aD pg (aN .and 5 (.tmp 25) (.const (.int .u8 1)) t25 (.int .u8 1)) w fun t26 w =>
    aD pg (jH 5 44 t26) w fun t27 w =>
    aD pg (jH 3 49 t11) w fun t29 w =>
    aD pg (aN .shl 44 (.tmp 27) (.tmp 29) t27 t29) w fun t30 w =>
    aD pg (aN .or 44 (.tmp 17) (.tmp 30) tA t30) w fun t31 w =>
    aD pg (aN .add 3 (.tmp 11) (.const (.int .i64 1)) t11 (.int .i64 1)) w fun t32 w =>
    kn gL D4 t31 t10 t32 w)
    (k0 tA w)
theorem Uz (kn : K5) (k0 : K1) (hn : ∀ g w, kn (g 0) (g 1) (g 7) (g 10) (g 11) w → Q .normal g w) (h0 : ∀ g w, k0 (g 7) w → Q (.exit 0) g w) (h : Eb kn k0 (g 0) (g 1) (g 7) (g 10) (g 11) w) : aQ pg gC (bI (bI (aA 1 (aC 1 (aA 2 fR))))) Q g w :=
  aI (kr := no) (l := [(0, fun g w => k0 (g 7) w)]) (by kernel_rfl) h hn fG ⟨h0, trivial⟩
def H1 (k0 : K1) (gL D4 tA t10 t11 : Value) (w : World) : Prop :=
  cV (fun (X : (Value × Value) → K0) (t : Value × Value) (w : World) => Eb (fun _ _ tA _ t11 w => X (tA, t11) w) k0 gL D4 t.1 t10 t.2 w) (tA, t11) w
theorem UQ (k0 : K1) (h0 : ∀ g w, k0 (g 7) w → Q (.exit 0) g w) (h : H1 k0 (g 0) (g 1) (g 7) (g 10) (g 11) w) : aQ pg gC (bI (aA 1 (aC 1 (aA 2 fR)))) Q g w := by
  refine cR (T := Value × Value) (fun g : eL => (g 7, g 11)) (fun X t w => Eb (fun _ _ tA _ t11 w => X (tA, t11) w) k0 (g 0) (g 1) t.1 (g 10) t.2 w) _ (by kernel_rfl) h (fun X g1 w1 ha hL => ?_)
  rw [← aO (s := 0) ha (by kernel_rfl)] at hL
  rw [← aO (s := 1) ha (by kernel_rfl)] at hL
  rw [← aO (s := 10) ha (by kernel_rfl)] at hL
  exact (Uz (aX (fun g2 w2 => X ((fun g : eL => (g 7, g 11)) g2) w2) Q) g1 w1 (fun _ _ tA _ t11 w => X (tA, t11) w) k0 (fun _ _ h => h) h0 hL)
def DX (kn : K1) (gL D4 tA t10 t11 : Value) (w : World) : Prop :=
  H1 kn gL D4 tA t10 t11 w
theorem Un (kn : K1) (hn : ∀ g w, kn (g 7) w → Q .normal g w) (h : DX kn (g 0) (g 1) (g 7) (g 10) (g 11) w) : aQ pg gC (aA 1 (aC 1 (aA 2 fR))) Q g w :=
  cU 0 _ g w (by kernel_rfl) (UQ (rP 0 Q) g w kn hn h)
def H5 (kn : K5) (gL D4 JK tA : Value) (w : World) : Prop :=
  kn gL D4 tA JK (.int .i64 0) w
theorem UH (kn : K5) (hn : ∀ g w, kn (g 0) (g 1) (g 7) (g 10) (g 11) w → Q .normal g w) (h : H5 kn (g 0) (g 1) (g 2) (g 7) w) : aQ pg gC (aC 1 (aC 1 (aA 2 fR))) Q g w :=
  aI (kr := no) (l := []) (by kernel_rfl) h hn fG trivial
def Ja (kn : K1) (gL D4 JK tA : Value) (w : World) : Prop :=
  H5 (fun gL D4 tA t10 t11 w => DX kn gL D4 tA t10 t11 w) gL D4 JK tA w
theorem U1 (kn : K1) (hn : ∀ g w, kn (g 7) w → Q .normal g w) (h : Ja kn (g 0) (g 1) (g 2) (g 7) w) : aQ pg gC (aC 1 (aA 2 fR)) Q g w :=
  aL 1 _ g w (by kernel_rfl) (UH (aX (fun g w => aQ pg gC (aA 1 (aC 1 (aA 2 fR))) Q g w) Q) g w (fun gL D4 tA t10 t11 w => DX kn gL D4 tA t10 t11 w) (fun g w h => aS (K := fun g w => aQ pg gC (aA 1 (aC 1 (aA 2 fR))) Q g w) (Un Q g w kn hn h)) h)
def DY (R : K1) (gL D4 JK tA : Value) (w : World) : Prop :=
  Ja (fun tA w => D8 R tA w) gL D4 JK tA w
theorem U9 (R : K1) (hr : HR yL R Q) (h : DY R (g 0) (g 1) (g 2) (g 7) w) : aQ pg gC (aA 2 fR) Q g w :=
  aL 1 _ g w (by kernel_rfl) (U1 (aX (fun g w => aQ pg gC (aA 1 (aA 2 fR)) Q g w) Q) g w (fun tA w => D8 R tA w) (fun g w h => aS (K := fun g w => aQ pg gC (aA 1 (aA 2 fR)) Q g w) (Ur Q g w R hr h)) h)
def HX (kn : K4) (gL D4 JK : Value) (w : World) : Prop :=
  kn gL D4 JK (.int .u64 0) w
theorem UJ (kn : K4) (hn : ∀ g w, kn (g 0) (g 1) (g 2) (g 7) w → Q .normal g w) (h : HX kn (g 0) (g 1) (g 2) w) : aQ pg gC (aC 2 fR) Q g w :=
  aI (kr := no) (l := []) (by kernel_rfl) h hn fG trivial
def Iv (R : K1) (gL D4 JK : Value) (w : World) : Prop :=
  HX (fun gL D4 JK tA w => DY R gL D4 JK tA w) gL D4 JK w
theorem Ug (R : K1) (hr : HR yL R Q) (h : Iv R (g 0) (g 1) (g 2) w) : aQ pg gC fR Q g w :=
  aL 2 _ g w (by kernel_rfl) (UJ (aX (fun g w => aQ pg gC (aA 2 fR) Q g w) Q) g w (fun gL D4 JK tA w => DY R gL D4 JK tA w) (fun g w h => aS (K := fun g w => aQ pg gC (aA 2 fR) Q g w) (U9 Q g w R hr h)) h)
def W5 (a0 a1 a2 : Value) (w : World) (R : K1) : Prop :=
  Iv R a0 a1 a2 w
theorem Wk {a0 a1 a2 : Value} {w : World} {R : K1} (h : W5 a0 a1 a2 w R) : cC pg CH #[a0, a1, a2] w R := by
  refine bQ (ann := gC) (fn := Try.f65) (c := fR) (args := [a0, a1, a2]) (rs := yL) (N := 34) TryM.mixed (by kernel_rfl) Try.func65 (by kernel_rfl) (by kernel_rfl) (by kernel_rfl) (of_decide_eq_true (by kernel_rfl)) (by kernel_rfl) ?_
  exact (Ug (jT pg yL R) (gE [a0, a1, a2]) w R (fun _ _ h => h) h)
def fM : FA := ⟨Ec, fun i => .leaf ([], []) []⟩
def jR : List ResultVar := [.tmp 2]
noncomputable def fE : Code := fB Try.f66
def Cr (R : K1) (iW : Value) (w : World) : Prop :=
  aD pg (aN .eql 3 (.tmp 60) (.const (.int .i64 0)) iW (.int .i64 0)) w fun t61 w =>
  R t61 w
theorem Tj (R : K1) (hr : HR jR R Q) (h : Cr R (g 3) w) : aQ pg fM (aA 1 (aA 3 fE)) Q g w :=
  aI (kn := no) (l := []) (by kernel_rfl) h fG hr trivial
def qH (kn : K4) (k0 : K1) (R : K1) (iW t41 t42 t43 : Value) (w : World) : Prop :=
  aD pg (aN .lss 3 (.tmp 43) (.tmp 42) t43 t42) w fun t44 w =>
  hH t44
    (aD pg (cD 62 t41 t43) w fun t45 w =>
    aD pg (aW 3 t45) w fun t46 w =>
    aD pg (aN .lss 3 (.tmp 47) (.const (.int .i64 (-1))) t46 (.int .i64 (-1))) w fun t48 w =>
    Gd (dW t48 false) (fun K => K t46 w) w fun t50 w =>
    Gd (dW t48 false) (fun K => cC pg oH #[t50] w K) w fun t51 w =>
    Gd (dW t48 false) (fun K => K iW w) w fun t52 w =>
    Gd (dW t48 false) (fun K => aD pg (aN .gtr 3 (.tmp 51) (.tmp 52) t51 t52) w K) w fun t53 w =>
    aD pg (fJ t48 (.bool true) t53) w fun t54 w =>
    hH t54
      (R (.bool false) w)
      (cC pg oH #[t46] w fun t57 w =>
      aD pg (aN .sub 3 (.tmp 55) (.tmp 57) iW t57) w fun t58 w =>
      aD pg (aN .add 3 (.tmp 43) (.const (.int .i64 1)) t43 (.int .i64 1)) w fun t59 w =>
      kn t58 t41 t42 t59 w))
    (k0 iW w)
theorem Sd (kn : K4) (k0 : K1) (R : K1) (hn : ∀ g w, kn (g 3) (g 41) (g 42) (g 43) w → Q .normal g w) (h0 : ∀ g w, k0 (g 3) w → Q (.exit 0) g w) (hr : HR jR R Q) (h : qH kn k0 R (g 3) (g 41) (g 42) (g 43) w) : aQ pg fM (bI (bI (aA 1 (aC 1 (aA 3 fE))))) Q g w :=
  aI (l := [(0, fun g w => k0 (g 3) w)]) (by kernel_rfl) h hn hr ⟨h0, trivial⟩
def Hk (k0 : K1) (R : K1) (iW t41 t42 t43 : Value) (w : World) : Prop :=
  cV (fun (X : (Value × Value) → K0) (t : Value × Value) (w : World) => qH (fun iW _ _ t43 w => X (iW, t43) w) k0 R t.1 t41 t42 t.2 w) (iW, t43) w
theorem SS (k0 : K1) (R : K1) (h0 : ∀ g w, k0 (g 3) w → Q (.exit 0) g w) (hr : HR jR R Q) (h : Hk k0 R (g 3) (g 41) (g 42) (g 43) w) : aQ pg fM (bI (aA 1 (aC 1 (aA 3 fE)))) Q g w := by
  refine cR (T := Value × Value) (fun g : eL => (g 3, g 43)) (fun X t w => qH (fun iW _ _ t43 w => X (iW, t43) w) k0 R t.1 (g 41) (g 42) t.2 w) _ (by kernel_rfl) h (fun X g1 w1 ha hL => ?_)
  rw [← aO (s := 41) ha (by kernel_rfl)] at hL
  rw [← aO (s := 42) ha (by kernel_rfl)] at hL
  exact (Sd (aX (fun g2 w2 => X ((fun g : eL => (g 3, g 43)) g2) w2) Q) g1 w1 (fun iW _ _ t43 w => X (iW, t43) w) k0 R (fun _ _ h => h) h0 hr hL)
def CC (kn : K1) (R : K1) (iW t41 t42 t43 : Value) (w : World) : Prop :=
  Hk kn R iW t41 t42 t43 w
theorem Sx (kn : K1) (R : K1) (hn : ∀ g w, kn (g 3) w → Q .normal g w) (hr : HR jR R Q) (h : CC kn R (g 3) (g 41) (g 42) (g 43) w) : aQ pg fM (aA 1 (aC 1 (aA 3 fE))) Q g w :=
  cU 0 _ g w (by kernel_rfl) (SS (rP 0 Q) g w kn R hn hr h)
def Hg (kn : K4) (bT iW : Value) (w : World) : Prop :=
  aD pg (bA 69 bT 1) w fun t40 w =>
  aD pg (aW 62 t40) w fun t41 w =>
  aD pg (iJ .len #[62] 3 [t41]) w fun t42 w =>
  kn iW t41 t42 (.int .i64 0) w
theorem Su (kn : K4) (hn : ∀ g w, kn (g 3) (g 41) (g 42) (g 43) w → Q .normal g w) (h : Hg kn (g 1) (g 3) w) : aQ pg fM (aC 1 (aC 1 (aA 3 fE))) Q g w :=
  aI (kr := no) (l := []) (by kernel_rfl) h hn fG trivial
def Gm (kn : K1) (R : K1) (bT iW : Value) (w : World) : Prop :=
  Hg (fun iW t41 t42 t43 w => CC kn R iW t41 t42 t43 w) bT iW w
theorem Tk (kn : K1) (R : K1) (hn : ∀ g w, kn (g 3) w → Q .normal g w) (hr : HR jR R Q) (h : Gm kn R (g 1) (g 3) w) : aQ pg fM (aC 1 (aA 3 fE)) Q g w :=
  aL 1 _ g w (by kernel_rfl) (Su (aX (fun g w => aQ pg fM (aA 1 (aC 1 (aA 3 fE))) Q g w) Q) g w (fun iW t41 t42 t43 w => CC kn R iW t41 t42 t43 w) (fun g w h => aS (K := fun g w => aQ pg fM (aA 1 (aC 1 (aA 3 fE))) Q g w) (Sx Q g w kn R hn hr h)) h)
def BX (R : K1) (bT iW : Value) (w : World) : Prop :=
  Gm (fun iW w => Cr R iW w) R bT iW w
theorem SE (R : K1) (hr : HR jR R Q) (h : BX R (g 1) (g 3) w) : aQ pg fM (aA 3 fE) Q g w :=
  aL 1 _ g w (by kernel_rfl) (Tk (aX (fun g w => aQ pg fM (aA 1 (aA 3 fE)) Q g w) Q) g w (fun iW w => Cr R iW w) R (fun g w h => aS (K := fun g w => aQ pg fM (aA 1 (aA 3 fE)) Q g w) (Tj Q g w R hr h)) hr h)
def GY (kn : K2) (R : K1) (VP : Value) (w : World) : Prop :=
  aD pg (Ej 69 VP) w fun bT w =>
  aD pg (bA 69 bT 0) w fun t6 w =>
  aD pg (aW 3 t6) w fun t7 w =>
  aD pg (aN .lss 3 (.tmp 7) (.const (.int .i64 5)) t7 (.int .i64 5)) w fun t8 w =>
  Gd (dW t8 false) (fun K => aD pg (bA 69 bT 0) w K) w fun t10 w =>
  Gd (dW t8 false) (fun K => aD pg (aW 3 t10) w K) w fun t11 w =>
  Gd (dW t8 false) (fun K => aD pg (aN .gtr 3 (.tmp 11) (.const (.int .i64 15)) t11 (.int .i64 15)) w K) w fun t12 w =>
  aD pg (fJ t8 (.bool true) t12) w fun t13 w =>
  Gd (dW t13 false) (fun K => aD pg (bA 69 bT 1) w K) w fun t15 w =>
  Gd (dW t13 false) (fun K => aD pg (aW 62 t15) w K) w fun t16 w =>
  Gd (dW t13 false) (fun K => aD pg (iJ .len #[62] 3 [t16]) w K) w fun t17 w =>
  Gd (dW t13 false) (fun K => aD pg (aN .lss 3 (.tmp 17) (.const (.int .i64 1)) t17 (.int .i64 1)) w K) w fun t18 w =>
  aD pg (fJ t13 (.bool true) t18) w fun t19 w =>
  Gd (dW t19 false) (fun K => aD pg (bA 69 bT 1) w K) w fun t21 w =>
  Gd (dW t19 false) (fun K => aD pg (aW 62 t21) w K) w fun t22 w =>
  Gd (dW t19 false) (fun K => aD pg (iJ .len #[62] 3 [t22]) w K) w fun t23 w =>
  Gd (dW t19 false) (fun K => aD pg (aN .gtr 3 (.tmp 23) (.const (.int .i64 256)) t23 (.int .i64 256)) w K) w fun t24 w =>
  aD pg (fJ t19 (.bool true) t24) w fun t25 w =>
  Gd (dW t25 false) (fun K => aD pg (bA 69 bT 1) w K) w fun t27 w =>
  Gd (dW t25 false) (fun K => aD pg (aW 62 t27) w K) w fun t28 w =>
  Gd (dW t25 false) (fun K => aD pg (bA 69 bT 1) w K) w fun t29 w =>
  Gd (dW t25 false) (fun K => aD pg (aW 62 t29) w K) w fun t30 w =>
  Gd (dW t25 false) (fun K => aD pg (iJ .len #[62] 3 [t30]) w K) w fun t31 w =>
  Gd (dW t25 false) (fun K => aD pg (aN .sub 3 (.tmp 31) (.const (.int .i64 1)) t31 (.int .i64 1)) w K) w fun t32 w =>
  Gd (dW t25 false) (fun K => aD pg (cD 62 t28 t32) w K) w fun t33 w =>
  Gd (dW t25 false) (fun K => aD pg (aW 3 t33) w K) w fun t34 w =>
  Gd (dW t25 false) (fun K => aD pg (aN .eql 3 (.tmp 34) (.const (.int .i64 0)) t34 (.int .i64 0)) w K) w fun t35 w =>
  aD pg (fJ t25 (.bool true) t35) w fun t36 w =>
  hH t36
    (R (.bool false) w)
    (aD pg (bA 69 bT 0) w fun t37 w =>
    aD pg (aW 3 t37) w fun t38 w =>
    aD pg (aN .shl 3 (.const (.int .i64 1)) (.tmp 38) (.int .i64 1) t38) w fun t39 w =>
    kn bT t39 w)
theorem SR (kn : K2) (R : K1) (hn : ∀ g w, kn (g 1) (g 3) w → Q .normal g w) (hr : HR jR R Q) (h : GY kn R (g 0) w) : aQ pg fM (aC 3 fE) Q g w :=
  aI (l := []) (by kernel_rfl) h hn hr trivial
def Hr (R : K1) (VP : Value) (w : World) : Prop :=
  GY (fun bT iW w => BX R bT iW w) R VP w
theorem TF (R : K1) (hr : HR jR R Q) (h : Hr R (g 0) w) : aQ pg fM fE Q g w :=
  aL 3 _ g w (by kernel_rfl) (SR (aX (fun g w => aQ pg fM (aA 3 fE) Q g w) Q) g w (fun bT iW w => BX R bT iW w) R (fun g w h => aS (K := fun g w => aQ pg fM (aA 3 fE) Q g w) (SE Q g w R hr h)) hr h)
def VH (a0 : Value) (w : World) (R : K1) : Prop :=
  Hr R a0 w
theorem Va {a0 : Value} {w : World} {R : K1} (h : VH a0 w R) : cC pg Ec #[a0] w R := by
  refine bQ (ann := fM) (fn := Try.f66) (c := fE) (args := [a0]) (rs := jR) (N := 62) TryM.mixed (by kernel_rfl) Try.func66 (by kernel_rfl) (by kernel_rfl) (by kernel_rfl) (of_decide_eq_true (by kernel_rfl)) (by kernel_rfl) ?_
  exact (TF (jT pg jR R) (gE [a0]) w R (fun _ _ h => h) h)
def dR : FA := ⟨sB, fun i => .leaf ([], []) []⟩
def pY : List ResultVar := [.tmp 2]
noncomputable def dD : Code := fB Try.f67
def vV (R : K1) (rS : Value) (w : World) : Prop :=
  R rS w
theorem NY (R : K1) (hr : HR pY R Q) (h : vV R (g 3) w) : aQ pg dR (aA 1 (aA 2 dD)) Q g w :=
  aI (kn := no) (l := []) (by kernel_rfl) h fG hr trivial
def qD (kn : K3) (eT rS fQ : Value) (w : World) : Prop :=
  aD pg (aN .sub 3 (.tmp 10) (.const (.int .i64 1)) fQ (.int .i64 1)) w fun t11 w =>
  kn eT rS t11 w
theorem Nu (kn : K3) (hn : ∀ g w, kn (g 0) (g 3) (g 4) w → Q .normal g w) (h : qD kn (g 0) (g 3) (g 4) w) : aQ pg dR (aA 2 (bI (bI (aA 1 (aC 1 (aA 2 dD)))))) Q g w :=
  aI (kr := no) (l := []) (by kernel_rfl) h hn fG trivial
def Dg (kn : K3) (k0 : K1) (eT rS fQ : Value) (w : World) : Prop :=
  aD pg (aN .geq 3 (.tmp 8) (.const (.int .i64 0)) fQ (.int .i64 0)) w fun t9 w =>
  hH t9
    (aD pg (aN .mul 44 (.tmp 12) (.const (.int .u64 2)) rS (.int .u64 2)) w fun t13 w =>
    aD pg (cD 89 eT fQ) w fun t16 w =>
    aD pg (aW 4 t16) w fun t17 w =>
    hH t17
      (aD pg (aN .add 44 (.tmp 18) (.const (.int .u64 1)) t13 (.int .u64 1)) w fun t19 w =>
      kn eT t19 fQ w)
      (kn eT t13 fQ w))
    (k0 rS w)
theorem NR (kn : K3) (k0 : K1) (hn : ∀ g w, kn (g 0) (g 3) (g 4) w → Q .normal g w) (h0 : ∀ g w, k0 (g 3) w → Q (.exit 0) g w) (h : Dg kn k0 (g 0) (g 3) (g 4) w) : aQ pg dR (aC 2 (bI (bI (aA 1 (aC 1 (aA 2 dD)))))) Q g w :=
  aI (kr := no) (l := [(0, fun g w => k0 (g 3) w)]) (by kernel_rfl) h hn fG ⟨h0, trivial⟩
def vM (kn : K3) (k0 : K1) (eT rS fQ : Value) (w : World) : Prop :=
  Dg (fun eT rS fQ w => qD kn eT rS fQ w) k0 eT rS fQ w
theorem NC (kn : K3) (k0 : K1) (hn : ∀ g w, kn (g 0) (g 3) (g 4) w → Q .normal g w) (h0 : ∀ g w, k0 (g 3) w → Q (.exit 0) g w) (h : vM kn k0 (g 0) (g 3) (g 4) w) : aQ pg dR (bI (bI (aA 1 (aC 1 (aA 2 dD))))) Q g w :=
  aL 2 _ g w (by kernel_rfl) (NR (aX (fun g w => aQ pg dR (aA 2 (bI (bI (aA 1 (aC 1 (aA 2 dD)))))) Q g w) Q) g w (fun eT rS fQ w => qD kn eT rS fQ w) k0 (fun g w h => aS (K := fun g w => aQ pg dR (aA 2 (bI (bI (aA 1 (aC 1 (aA 2 dD)))))) Q g w) (Nu Q g w kn hn h)) h0 h)
def Dz (k0 : K1) (eT rS fQ : Value) (w : World) : Prop :=
  cV (fun (X : (Value × Value) → K0) (t : Value × Value) (w : World) => vM (fun _ rS fQ w => X (rS, fQ) w) k0 eT t.1 t.2 w) (rS, fQ) w
theorem N5 (k0 : K1) (h0 : ∀ g w, k0 (g 3) w → Q (.exit 0) g w) (h : Dz k0 (g 0) (g 3) (g 4) w) : aQ pg dR (bI (aA 1 (aC 1 (aA 2 dD)))) Q g w := by
  refine cR (T := Value × Value) (fun g : eL => (g 3, g 4)) (fun X t w => vM (fun _ rS fQ w => X (rS, fQ) w) k0 (g 0) t.1 t.2 w) _ (by kernel_rfl) h (fun X g1 w1 ha hL => ?_)
  rw [← aO (s := 0) ha (by kernel_rfl)] at hL
  exact (NC (aX (fun g2 w2 => X ((fun g : eL => (g 3, g 4)) g2) w2) Q) g1 w1 (fun _ rS fQ w => X (rS, fQ) w) k0 (fun _ _ h => h) h0 hL)
def wZ (kn : K1) (eT rS fQ : Value) (w : World) : Prop :=
  Dz kn eT rS fQ w
theorem N1 (kn : K1) (hn : ∀ g w, kn (g 3) w → Q .normal g w) (h : wZ kn (g 0) (g 3) (g 4) w) : aQ pg dR (aA 1 (aC 1 (aA 2 dD))) Q g w :=
  cU 0 _ g w (by kernel_rfl) (N5 (rP 0 Q) g w kn hn h)
def Dk (kn : K3) (eT rS : Value) (w : World) : Prop :=
  aD pg (iJ .len #[89] 3 [eT]) w fun t6 w =>
  aD pg (aN .sub 3 (.tmp 6) (.const (.int .i64 1)) t6 (.int .i64 1)) w fun t7 w =>
  kn eT rS t7 w
theorem OR (kn : K3) (hn : ∀ g w, kn (g 0) (g 3) (g 4) w → Q .normal g w) (h : Dk kn (g 0) (g 3) w) : aQ pg dR (aC 1 (aC 1 (aA 2 dD))) Q g w :=
  aI (kr := no) (l := []) (by kernel_rfl) h hn fG trivial
def CY (kn : K1) (eT rS : Value) (w : World) : Prop :=
  Dk (fun eT rS fQ w => wZ kn eT rS fQ w) eT rS w
theorem N9 (kn : K1) (hn : ∀ g w, kn (g 3) w → Q .normal g w) (h : CY kn (g 0) (g 3) w) : aQ pg dR (aC 1 (aA 2 dD)) Q g w :=
  aL 1 _ g w (by kernel_rfl) (OR (aX (fun g w => aQ pg dR (aA 1 (aC 1 (aA 2 dD))) Q g w) Q) g w (fun eT rS fQ w => wZ kn eT rS fQ w) (fun g w h => aS (K := fun g w => aQ pg dR (aA 1 (aC 1 (aA 2 dD))) Q g w) (N1 Q g w kn hn h)) h)
def wH (R : K1) (eT rS : Value) (w : World) : Prop :=
  CY (fun rS w => vV R rS w) eT rS w
theorem Nv (R : K1) (hr : HR pY R Q) (h : wH R (g 0) (g 3) w) : aQ pg dR (aA 2 dD) Q g w :=
  aL 1 _ g w (by kernel_rfl) (N9 (aX (fun g w => aQ pg dR (aA 1 (aA 2 dD)) Q g w) Q) g w (fun rS w => vV R rS w) (fun g w h => aS (K := fun g w => aQ pg dR (aA 1 (aA 2 dD)) Q g w) (NY Q g w R hr h)) h)
def BS (kn : K2) (eT : Value) (w : World) : Prop :=
  kn eT (.int .u64 0) w
theorem Md (kn : K2) (hn : ∀ g w, kn (g 0) (g 3) w → Q .normal g w) (h : BS kn (g 0) w) : aQ pg dR (aC 2 dD) Q g w :=
  aI (kr := no) (l := []) (by kernel_rfl) h hn fG trivial
def BA (R : K1) (eT : Value) (w : World) : Prop :=
  BS (fun eT rS w => wH R eT rS w) eT w
theorem Mm (R : K1) (hr : HR pY R Q) (h : BA R (g 0) w) : aQ pg dR dD Q g w :=
  aL 2 _ g w (by kernel_rfl) (Md (aX (fun g w => aQ pg dR (aA 2 dD) Q g w) Q) g w (fun eT rS w => wH R eT rS w) (fun g w h => aS (K := fun g w => aQ pg dR (aA 2 dD) Q g w) (Nv Q g w R hr h)) h)
def QY (a0 : Value) (w : World) (R : K1) : Prop :=
  BA R a0 w
theorem Qc {a0 : Value} {w : World} {R : K1} (h : QY a0 w R) : cC pg sB #[a0] w R := by
  refine bQ (ann := dR) (fn := Try.f67) (c := dD) (args := [a0]) (rs := pY) (N := 21) TryM.mixed (by kernel_rfl) Try.func67 (by kernel_rfl) (by kernel_rfl) (by kernel_rfl) (of_decide_eq_true (by kernel_rfl)) (by kernel_rfl) ?_
  exact (Mm (jT pg pY R) (gE [a0]) w R (fun _ _ h => h) h)
def gU : FA := ⟨Cg, fun i => .leaf ([], []) []⟩
def sY : List ResultVar := [.tmp 2]
noncomputable def gI : Code := fB Try.f68
def Aq (R : K1) (hZ : Value) (w : World) : Prop :=
  R hZ w
theorem Q8 (R : K1) (hr : HR sY R Q) (h : Aq R (g 3) w) : aQ pg gU (aA 1 (aA 2 gI)) Q g w :=
  aI (kn := no) (l := []) (by kernel_rfl) h fG hr trivial
def Ax (kn : K2) (k0 : K1) (hY hZ : Value) (w : World) : Prop :=
  aD pg (aN .gtr 3 (.tmp 4) (.const (.int .i64 0)) hY (.int .i64 0)) w fun t5 w =>
  hH t5
    (aD pg (aN .quo 3 (.tmp 6) (.const (.int .i64 2)) hY (.int .i64 2)) w fun t7 w =>
    aD pg (aN .add 3 (.tmp 8) (.const (.int .i64 1)) hZ (.int .i64 1)) w fun t9 w =>
    kn t7 t9 w)
    (k0 hZ w)
theorem Pe (kn : K2) (k0 : K1) (hn : ∀ g w, kn (g 0) (g 3) w → Q .normal g w) (h0 : ∀ g w, k0 (g 3) w → Q (.exit 0) g w) (h : Ax kn k0 (g 0) (g 3) w) : aQ pg gU (bI (bI (aC 1 (aA 2 gI)))) Q g w :=
  aI (kr := no) (l := [(0, fun g w => k0 (g 3) w)]) (by kernel_rfl) h hn fG ⟨h0, trivial⟩
def FP (k0 : K1) (hY hZ : Value) (w : World) : Prop :=
  cV (fun (X : (Value × Value) → K0) (t : Value × Value) (w : World) => Ax (fun hY hZ w => X (hY, hZ) w) k0 t.1 t.2 w) (hY, hZ) w
theorem QU (k0 : K1) (h0 : ∀ g w, k0 (g 3) w → Q (.exit 0) g w) (h : FP k0 (g 0) (g 3) w) : aQ pg gU (bI (aC 1 (aA 2 gI))) Q g w := by
  refine cR (T := Value × Value) (fun g : eL => (g 0, g 3)) (fun X t w => Ax (fun hY hZ w => X (hY, hZ) w) k0 t.1 t.2 w) _ (by kernel_rfl) h (fun X g1 w1 ha hL => ?_)
  exact (Pe (aX (fun g2 w2 => X ((fun g : eL => (g 0, g 3)) g2) w2) Q) g1 w1 (fun hY hZ w => X (hY, hZ) w) k0 (fun _ _ h => h) h0 hL)
def EQ (kn : K1) (hY hZ : Value) (w : World) : Prop :=
  FP kn hY hZ w
theorem Pp (kn : K1) (hn : ∀ g w, kn (g 3) w → Q .normal g w) (h : EQ kn (g 0) (g 3) w) : aQ pg gU (aC 1 (aA 2 gI)) Q g w :=
  cU 0 _ g w (by kernel_rfl) (QU (rP 0 Q) g w kn hn h)
def AB (R : K1) (hY hZ : Value) (w : World) : Prop :=
  EQ (fun hZ w => Aq R hZ w) hY hZ w
theorem Qw (R : K1) (hr : HR sY R Q) (h : AB R (g 0) (g 3) w) : aQ pg gU (aA 2 gI) Q g w :=
  aL 1 _ g w (by kernel_rfl) (Pp (aX (fun g w => aQ pg gU (aA 1 (aA 2 gI)) Q g w) Q) g w (fun hZ w => Aq R hZ w) (fun g w h => aS (K := fun g w => aQ pg gU (aA 1 (aA 2 gI)) Q g w) (Q8 Q g w R hr h)) h)
def Ei (kn : K2) (hY : Value) (w : World) : Prop :=
  kn hY (.int .i64 0) w
theorem Pk (kn : K2) (hn : ∀ g w, kn (g 0) (g 3) w → Q .normal g w) (h : Ei kn (g 0) w) : aQ pg gU (aC 2 gI) Q g w :=
  aI (kr := no) (l := []) (by kernel_rfl) h hn fG trivial
def Fy (R : K1) (hY : Value) (w : World) : Prop :=
  Ei (fun hY hZ w => AB R hY hZ w) hY w
theorem Q7 (R : K1) (hr : HR sY R Q) (h : Fy R (g 0) w) : aQ pg gU gI Q g w :=
  aL 2 _ g w (by kernel_rfl) (Pk (aX (fun g w => aQ pg gU (aA 2 gI) Q g w) Q) g w (fun hY hZ w => AB R hY hZ w) (fun g w h => aS (K := fun g w => aQ pg gU (aA 2 gI) Q g w) (Qw Q g w R hr h)) h)
def T2 (a0 : Value) (w : World) (R : K1) : Prop :=
  Fy R a0 w
theorem Tl {a0 : Value} {w : World} {R : K1} (h : T2 a0 w R) : cC pg Cg #[a0] w R := by
  refine bQ (ann := gU) (fn := Try.f68) (c := gI) (args := [a0]) (rs := sY) (N := 11) TryM.mixed (by kernel_rfl) Try.func68 (by kernel_rfl) (by kernel_rfl) (by kernel_rfl) (of_decide_eq_true (by kernel_rfl)) (by kernel_rfl) ?_
  exact (Q7 (jT pg sY R) (gE [a0]) w R (fun _ _ h => h) h)
def cX : FA := ⟨F5, fun i => .leaf ([], []) []⟩
def iH : List ResultVar := [.tmp 2]
noncomputable def cN : Code := fB Try.f69
def D3 (R : K1) (bT dH : Value) (w : World) : Prop :=
  aD pg (bA 86 bT 0) w fun t61 w =>
  aD pg (aW 3 t61) w fun t62 w =>
  cC pg iE #[t62] w fun t63 w =>
  aD pg (aN .eql 3 (.tmp 60) (.tmp 63) dH t63) w fun t64 w =>
  R t64 w
theorem Vc (R : K1) (hr : HR iH R Q) (h : D3 R (g 1) (g 3) w) : aQ pg cX (aA 1 (aA 3 cN)) Q g w :=
  aI (kn := no) (l := []) (by kernel_rfl) h fG hr trivial
def zZ (kn : K3) (bT dH fQ : Value) (w : World) : Prop :=
  aD pg (aN .add 3 (.tmp 42) (.const (.int .i64 1)) fQ (.int .i64 1)) w fun t43 w =>
  kn bT dH t43 w
theorem UD (kn : K3) (hn : ∀ g w, kn (g 1) (g 3) (g 4) w → Q .normal g w) (h : zZ kn (g 1) (g 3) (g 4) w) : aQ pg cX (aA 1 (aA 1 (bI (bI (aA 1 (aC 1 (aA 3 cN))))))) Q g w :=
  aI (kr := no) (l := []) (by kernel_rfl) h hn fG trivial
def yY (kn : K3) (bT dH fQ p_5 : Value) (w : World) : Prop :=
  aD pg (aN .add 3 (.tmp 57) (.tmp 58) dH p_5) w fun t59 w =>
  kn bT t59 fQ w
theorem Ux (kn : K3) (hn : ∀ g w, kn (g 1) (g 3) (g 4) w → Q .normal g w) (h : yY kn (g 1) (g 3) (g 4) (g 5) w) : aQ pg cX (aA 3 (bI (aC 1 (aA 1 (bI (bI (aA 1 (aC 1 (aA 3 cN))))))))) Q g w :=
  aI (kr := no) (l := []) (by kernel_rfl) h hn fG trivial
def AJ (kn : K4) (R : K1) (bT dH fQ : Value) (w : World) : Prop :=
  aD pg (bA 86 bT 1) w fun t44 w =>
  aD pg (aW 62 t44) w fun t45 w =>
  aD pg (cD 62 t45 fQ) w fun t47 w =>
  aD pg (aW 3 t47) w fun t48 w =>
  aD pg (aN .lss 3 (.tmp 49) (.const (.int .i64 (-1))) t48 (.int .i64 (-1))) w fun t50 w =>
  Gd (dW t50 false) (fun K => K t48 w) w fun t52 w =>
  Gd (dW t50 false) (fun K => aD pg (aN .gtr 3 (.tmp 52) (.const (.int .i64 32768)) t52 (.int .i64 32768)) w K) w fun t53 w =>
  aD pg (fJ t50 (.bool true) t53) w fun t54 w =>
  hH t54
    (R (.bool false) w)
    (aD pg (aN .lss 3 (.tmp 55) (.const (.int .i64 0)) t48 (.int .i64 0)) w fun t56 w =>
    hH t56
      (kn bT dH fQ (.int .i64 1) w)
      (kn bT dH fQ t48 w))
theorem UX (kn : K4) (R : K1) (hn : ∀ g w, kn (g 1) (g 3) (g 4) (g 5) w → Q .normal g w) (hr : HR iH R Q) (h : AJ kn R (g 1) (g 3) (g 4) w) : aQ pg cX (aC 3 (bI (aC 1 (aA 1 (bI (bI (aA 1 (aC 1 (aA 3 cN))))))))) Q g w :=
  aI (l := []) (by kernel_rfl) h hn hr trivial
def AG (kn : K3) (R : K1) (bT dH fQ : Value) (w : World) : Prop :=
  AJ (fun bT dH fQ p_5 w => yY kn bT dH fQ p_5 w) R bT dH fQ w
theorem US (kn : K3) (R : K1) (hn : ∀ g w, kn (g 1) (g 3) (g 4) w → Q .normal g w) (hr : HR iH R Q) (h : AG kn R (g 1) (g 3) (g 4) w) : aQ pg cX (bI (aC 1 (aA 1 (bI (bI (aA 1 (aC 1 (aA 3 cN)))))))) Q g w :=
  aL 3 _ g w (by kernel_rfl) (UX (aX (fun g w => aQ pg cX (aA 3 (bI (aC 1 (aA 1 (bI (bI (aA 1 (aC 1 (aA 3 cN))))))))) Q g w) Q) g w (fun bT dH fQ p_5 w => yY kn bT dH fQ p_5 w) R (fun g w h => aS (K := fun g w => aQ pg cX (aA 3 (bI (aC 1 (aA 1 (bI (bI (aA 1 (aC 1 (aA 3 cN))))))))) Q g w) (Ux Q g w kn hn h)) hr h)
def Ae (kn : K3) (R : K1) (bT dH fQ : Value) (w : World) : Prop :=
  AG kn R bT dH fQ w
theorem UL (kn : K3) (R : K1) (hn : ∀ g w, kn (g 1) (g 3) (g 4) w → Q .normal g w) (hr : HR iH R Q) (h : Ae kn R (g 1) (g 3) (g 4) w) : aQ pg cX (aC 1 (aA 1 (bI (bI (aA 1 (aC 1 (aA 3 cN))))))) Q g w :=
  cU 1 _ g w (by kernel_rfl) (US (rP 1 Q) g w kn R hn hr h)
def tD (kn : K3) (R : K1) (bT dH fQ : Value) (w : World) : Prop :=
  Ae (fun bT dH fQ w => zZ kn bT dH fQ w) R bT dH fQ w
theorem Vh (kn : K3) (R : K1) (hn : ∀ g w, kn (g 1) (g 3) (g 4) w → Q .normal g w) (hr : HR iH R Q) (h : tD kn R (g 1) (g 3) (g 4) w) : aQ pg cX (aA 1 (bI (bI (aA 1 (aC 1 (aA 3 cN)))))) Q g w :=
  aL 1 _ g w (by kernel_rfl) (UL (aX (fun g w => aQ pg cX (aA 1 (aA 1 (bI (bI (aA 1 (aC 1 (aA 3 cN))))))) Q g w) Q) g w (fun bT dH fQ w => zZ kn bT dH fQ w) R (fun g w h => aS (K := fun g w => aQ pg cX (aA 1 (aA 1 (bI (bI (aA 1 (aC 1 (aA 3 cN))))))) Q g w) (UD Q g w kn hn h)) hr h)
def tP (kn : K3) (k0 : K2) (bT dH fQ : Value) (w : World) : Prop :=
  aD pg (bA 86 bT 1) w fun t38 w =>
  aD pg (aW 62 t38) w fun t39 w =>
  aD pg (iJ .len #[62] 3 [t39]) w fun t40 w =>
  aD pg (aN .lss 3 (.tmp 37) (.tmp 40) fQ t40) w fun t41 w =>
  hH t41
    (kn bT dH fQ w)
    (k0 bT dH w)
theorem UF (kn : K3) (k0 : K2) (hn : ∀ g w, kn (g 1) (g 3) (g 4) w → Q .normal g w) (h0 : ∀ g w, k0 (g 1) (g 3) w → Q (.exit 0) g w) (h : tP kn k0 (g 1) (g 3) (g 4) w) : aQ pg cX (aC 1 (bI (bI (aA 1 (aC 1 (aA 3 cN)))))) Q g w :=
  aI (kr := no) (l := [(0, fun g w => k0 (g 1) (g 3) w)]) (by kernel_rfl) h hn fG ⟨h0, trivial⟩
def pC (kn : K3) (k0 : K2) (R : K1) (bT dH fQ : Value) (w : World) : Prop :=
  tP (fun bT dH fQ w => tD kn R bT dH fQ w) k0 bT dH fQ w
theorem UA (kn : K3) (k0 : K2) (R : K1) (hn : ∀ g w, kn (g 1) (g 3) (g 4) w → Q .normal g w) (h0 : ∀ g w, k0 (g 1) (g 3) w → Q (.exit 0) g w) (hr : HR iH R Q) (h : pC kn k0 R (g 1) (g 3) (g 4) w) : aQ pg cX (bI (bI (aA 1 (aC 1 (aA 3 cN))))) Q g w :=
  aL 1 _ g w (by kernel_rfl) (UF (aX (fun g w => aQ pg cX (aA 1 (bI (bI (aA 1 (aC 1 (aA 3 cN)))))) Q g w) Q) g w (fun bT dH fQ w => tD kn R bT dH fQ w) k0 (fun g w h => aS (K := fun g w => aQ pg cX (aA 1 (bI (bI (aA 1 (aC 1 (aA 3 cN)))))) Q g w) (Vh Q g w kn R hn hr h)) h0 h)
def GB (k0 : K2) (R : K1) (bT dH fQ : Value) (w : World) : Prop :=
  cV (fun (X : (Value × Value) → K0) (t : Value × Value) (w : World) => pC (fun _ dH fQ w => X (dH, fQ) w) k0 R bT t.1 t.2 w) (dH, fQ) w
theorem St (k0 : K2) (R : K1) (h0 : ∀ g w, k0 (g 1) (g 3) w → Q (.exit 0) g w) (hr : HR iH R Q) (h : GB k0 R (g 1) (g 3) (g 4) w) : aQ pg cX (bI (aA 1 (aC 1 (aA 3 cN)))) Q g w := by
  refine cR (T := Value × Value) (fun g : eL => (g 3, g 4)) (fun X t w => pC (fun _ dH fQ w => X (dH, fQ) w) k0 R (g 1) t.1 t.2 w) _ (by kernel_rfl) h (fun X g1 w1 ha hL => ?_)
  rw [← aO (s := 1) ha (by kernel_rfl)] at hL
  exact (UA (aX (fun g2 w2 => X ((fun g : eL => (g 3, g 4)) g2) w2) Q) g1 w1 (fun _ dH fQ w => X (dH, fQ) w) k0 R (fun _ _ h => h) h0 hr hL)
def B3 (kn : K2) (R : K1) (bT dH fQ : Value) (w : World) : Prop :=
  GB kn R bT dH fQ w
theorem Tx (kn : K2) (R : K1) (hn : ∀ g w, kn (g 1) (g 3) w → Q .normal g w) (hr : HR iH R Q) (h : B3 kn R (g 1) (g 3) (g 4) w) : aQ pg cX (aA 1 (aC 1 (aA 3 cN))) Q g w :=
  cU 0 _ g w (by kernel_rfl) (St (rP 0 Q) g w kn R hn hr h)
def Gz (kn : K3) (bT dH : Value) (w : World) : Prop :=
  kn bT dH (.int .i64 0) w
theorem Tw (kn : K3) (hn : ∀ g w, kn (g 1) (g 3) (g 4) w → Q .normal g w) (h : Gz kn (g 1) (g 3) w) : aQ pg cX (aC 1 (aC 1 (aA 3 cN))) Q g w :=
  aI (kr := no) (l := []) (by kernel_rfl) h hn fG trivial
def GG (kn : K2) (R : K1) (bT dH : Value) (w : World) : Prop :=
  Gz (fun bT dH fQ w => B3 kn R bT dH fQ w) bT dH w
theorem R7 (kn : K2) (R : K1) (hn : ∀ g w, kn (g 1) (g 3) w → Q .normal g w) (hr : HR iH R Q) (h : GG kn R (g 1) (g 3) w) : aQ pg cX (aC 1 (aA 3 cN)) Q g w :=
  aL 1 _ g w (by kernel_rfl) (Tw (aX (fun g w => aQ pg cX (aA 1 (aC 1 (aA 3 cN))) Q g w) Q) g w (fun bT dH fQ w => B3 kn R bT dH fQ w) (fun g w h => aS (K := fun g w => aQ pg cX (aA 1 (aC 1 (aA 3 cN))) Q g w) (Tx Q g w kn R hn hr h)) h)
def B4 (R : K1) (bT dH : Value) (w : World) : Prop :=
  GG (fun bT dH w => D3 R bT dH w) R bT dH w
theorem SK (R : K1) (hr : HR iH R Q) (h : B4 R (g 1) (g 3) w) : aQ pg cX (aA 3 cN) Q g w :=
  aL 1 _ g w (by kernel_rfl) (R7 (aX (fun g w => aQ pg cX (aA 1 (aA 3 cN)) Q g w) Q) g w (fun bT dH w => D3 R bT dH w) R (fun g w h => aS (K := fun g w => aQ pg cX (aA 1 (aA 3 cN)) Q g w) (Vc Q g w R hr h)) hr h)
def GX (kn : K2) (R : K1) (VP : Value) (w : World) : Prop :=
  aD pg (Ej 86 VP) w fun bT w =>
  aD pg (bA 86 bT 0) w fun t6 w =>
  aD pg (aW 3 t6) w fun t7 w =>
  aD pg (aN .lss 3 (.tmp 7) (.const (.int .i64 5)) t7 (.int .i64 5)) w fun t8 w =>
  Gd (dW t8 false) (fun K => aD pg (bA 86 bT 0) w K) w fun t10 w =>
  Gd (dW t8 false) (fun K => aD pg (aW 3 t10) w K) w fun t11 w =>
  Gd (dW t8 false) (fun K => aD pg (aN .gtr 3 (.tmp 11) (.const (.int .i64 15)) t11 (.int .i64 15)) w K) w fun t12 w =>
  aD pg (fJ t8 (.bool true) t12) w fun t13 w =>
  Gd (dW t13 false) (fun K => aD pg (bA 86 bT 1) w K) w fun t15 w =>
  Gd (dW t13 false) (fun K => aD pg (aW 62 t15) w K) w fun t16 w =>
  Gd (dW t13 false) (fun K => aD pg (iJ .len #[62] 3 [t16]) w K) w fun t17 w =>
  Gd (dW t13 false) (fun K => aD pg (aN .eql 3 (.tmp 17) (.const (.int .i64 0)) t17 (.int .i64 0)) w K) w fun t18 w =>
  aD pg (fJ t13 (.bool true) t18) w fun t19 w =>
  Gd (dW t19 false) (fun K => aD pg (bA 86 bT 1) w K) w fun t21 w =>
  Gd (dW t19 false) (fun K => aD pg (aW 62 t21) w K) w fun t22 w =>
  Gd (dW t19 false) (fun K => aD pg (iJ .len #[62] 3 [t22]) w K) w fun t23 w =>
  Gd (dW t19 false) (fun K => aD pg (aN .gtr 3 (.tmp 23) (.const (.int .i64 256)) t23 (.int .i64 256)) w K) w fun t24 w =>
  aD pg (fJ t19 (.bool true) t24) w fun t25 w =>
  Gd (dW t25 false) (fun K => aD pg (bA 86 bT 1) w K) w fun t27 w =>
  Gd (dW t25 false) (fun K => aD pg (aW 62 t27) w K) w fun t28 w =>
  Gd (dW t25 false) (fun K => aD pg (bA 86 bT 1) w K) w fun t29 w =>
  Gd (dW t25 false) (fun K => aD pg (aW 62 t29) w K) w fun t30 w =>
  Gd (dW t25 false) (fun K => aD pg (iJ .len #[62] 3 [t30]) w K) w fun t31 w =>
  Gd (dW t25 false) (fun K => aD pg (aN .sub 3 (.tmp 31) (.const (.int .i64 1)) t31 (.int .i64 1)) w K) w fun t32 w =>
  Gd (dW t25 false) (fun K => aD pg (cD 62 t28 t32) w K) w fun t33 w =>
  Gd (dW t25 false) (fun K => aD pg (aW 3 t33) w K) w fun t34 w =>
  Gd (dW t25 false) (fun K => aD pg (aN .eql 3 (.tmp 34) (.const (.int .i64 0)) t34 (.int .i64 0)) w K) w fun t35 w =>
  aD pg (fJ t25 (.bool true) t35) w fun t36 w =>
  hH t36
    (R (.bool false) w)
    (kn bT (.int .i64 0) w)
theorem Tg (kn : K2) (R : K1) (hn : ∀ g w, kn (g 1) (g 3) w → Q .normal g w) (hr : HR iH R Q) (h : GX kn R (g 0) w) : aQ pg cX (aC 3 cN) Q g w :=
  aI (l := []) (by kernel_rfl) h hn hr trivial
def G4 (R : K1) (VP : Value) (w : World) : Prop :=
  GX (fun bT dH w => B4 R bT dH w) R VP w
theorem TD (R : K1) (hr : HR iH R Q) (h : G4 R (g 0) w) : aQ pg cX cN Q g w :=
  aL 3 _ g w (by kernel_rfl) (Tg (aX (fun g w => aQ pg cX (aA 3 cN) Q g w) Q) g w (fun bT dH w => B4 R bT dH w) R (fun g w h => aS (K := fun g w => aQ pg cX (aA 3 cN) Q g w) (SK Q g w R hr h)) hr h)
def W1 (a0 : Value) (w : World) (R : K1) : Prop :=
  G4 R a0 w
theorem VK {a0 : Value} {w : World} {R : K1} (h : W1 a0 w R) : cC pg F5 #[a0] w R := by
  refine bQ (ann := cX) (fn := Try.f69) (c := cN) (args := [a0]) (rs := iH) (N := 65) TryM.mixed (by kernel_rfl) Try.func69 (by kernel_rfl) (by kernel_rfl) (by kernel_rfl) (of_decide_eq_true (by kernel_rfl)) (by kernel_rfl) ?_
  exact (TD (jT pg iH R) (gE [a0]) w R (fun _ _ h => h) h)
end Go.Proofs.Ytoepfjgekpdddaa
namespace Go.Proofs.Ytoepfjgekpdddaa
open Go Go.En
set_option linter.unusedVariables false
set_option maxRecDepth 20000
attribute [local irreducible] Go.En.aQ
variable (Q : Exit → eL → World → Prop) (g : eL) (w : World)
def iQ : FA := ⟨Cs, fun i => .leaf ([], []) []⟩
def sQ : List ResultVar := [.tmp 0]
noncomputable def iC : Code := fB Try.f10
def yQ (R : K1) (t0 : Value) (w : World) : Prop :=
  R t0 w
theorem Ql (R : K1) (hr : HR sQ R Q) (h : yQ R (g 0) w) : aQ pg iQ (aA 1 (aA 6 iC)) Q g w :=
  aI (kn := no) (l := []) (by kernel_rfl) h fG hr trivial
def EO (kn : K1) (l_1 e_2 c_3 f_4 b_5 g_6 yJ n_8 h_9 Zi Y8 : Value) (w : World) : Prop :=
  aD pg (iJ .len #[22] 3 [l_1]) w fun t39 w =>
  aD pg (aN .eql 3 (.tmp 39) (.const (.int .i64 2)) t39 (.int .i64 2)) w fun t40 w =>
  Gd (dW t40 true) (fun K => K l_1 w) w fun t42 w =>
  Gd (dW t40 true) (fun K => aD pg (cD 22 t42 (.int .i64 1)) w K) w fun t43 w =>
  Gd (dW t40 true) (fun K => aD pg (aW 5 t43) w K) w fun t44 w =>
  Gd (dW t40 true) (fun K => aD pg (aN .eql 5 (.tmp 44) (.const (.int .u8 1)) t44 (.int .u8 1)) w K) w fun t45 w =>
  aD pg (fJ t40 t45 (.bool false)) w fun t46 w =>
  Gd (dW t46 true) (fun K => K e_2 w) w fun t48 w =>
  Gd (dW t46 true) (fun K => aD pg (aN .eql 24 (.tmp 48) (.const (.int .i64 0)) t48 (.int .i64 0)) w K) w fun t49 w =>
  aD pg (fJ t46 t49 (.bool false)) w fun t50 w =>
  Gd (dW t50 true) (fun K => K c_3 w) w fun t52 w =>
  Gd (dW t50 true) (fun K => aD pg (iJ .len #[29] 3 [t52]) w K) w fun t53 w =>
  Gd (dW t50 true) (fun K => aD pg (aN .eql 3 (.tmp 53) (.const (.int .i64 3)) t53 (.int .i64 3)) w K) w fun t54 w =>
  aD pg (fJ t50 t54 (.bool false)) w fun t55 w =>
  Gd (dW t55 true) (fun K => K c_3 w) w fun t57 w =>
  Gd (dW t55 true) (fun K => aD pg (cD 29 t57 (.int .i64 0)) w K) w fun t58 w =>
  Gd (dW t55 true) (fun K => aD pg (bA 36 t58 0) w K) w fun t59 w =>
  Gd (dW t55 true) (fun K => aD pg (aW 3 t59) w K) w fun t60 w =>
  Gd (dW t55 true) (fun K => aD pg (aN .eql 3 (.tmp 60) (.const (.int .i64 1)) t60 (.int .i64 1)) w K) w fun t61 w =>
  aD pg (fJ t55 t61 (.bool false)) w fun t62 w =>
  Gd (dW t62 true) (fun K => K c_3 w) w fun t64 w =>
  Gd (dW t62 true) (fun K => aD pg (cD 29 t64 (.int .i64 0)) w K) w fun t65 w =>
  Gd (dW t62 true) (fun K => aD pg (bA 36 t65 1) w K) w fun t66 w =>
  Gd (dW t62 true) (fun K => aD pg (aW 3 t66) w K) w fun t67 w =>
  Gd (dW t62 true) (fun K => aD pg (aN .eql 3 (.tmp 67) (.const (.int .i64 1)) t67 (.int .i64 1)) w K) w fun t68 w =>
  aD pg (fJ t62 t68 (.bool false)) w fun t69 w =>
  Gd (dW t69 true) (fun K => K c_3 w) w fun t71 w =>
  Gd (dW t69 true) (fun K => aD pg (cD 29 t71 (.int .i64 2)) w K) w fun t72 w =>
  Gd (dW t69 true) (fun K => aD pg (bA 36 t72 1) w K) w fun t73 w =>
  Gd (dW t69 true) (fun K => aD pg (aW 3 t73) w K) w fun t74 w =>
  Gd (dW t69 true) (fun K => aD pg (aN .eql 3 (.tmp 74) (.const (.int .i64 1)) t74 (.int .i64 1)) w K) w fun t75 w =>
  aD pg (fJ t69 t75 (.bool false)) w fun t76 w =>
  Gd (dW t76 true) (fun K => K f_4 w) w fun t78 w =>
  Gd (dW t76 true) (fun K => aD pg (aN .eql 24 (.tmp 78) (.const (.int .i64 0)) t78 (.int .i64 0)) w K) w fun t79 w =>
  aD pg (fJ t76 t79 (.bool false)) w fun t80 w =>
  Gd (dW t80 true) (fun K => K g_6 w) w fun t82 w =>
  Gd (dW t80 true) (fun K => aD pg (aN .eql 24 (.tmp 82) (.const (.int .i64 0)) t82 (.int .i64 0)) w K) w fun t83 w =>
  aD pg (fJ t80 t83 (.bool false)) w fun t84 w =>
  Gd (dW t84 true) (fun K => K yJ w) w fun t86 w =>
  Gd (dW t84 true) (fun K => aD pg (jH 22 9 t86) w K) w fun t87 w =>
  Gd (dW t84 true) (fun K => aD pg (aN .eql 9 (.tmp 87) (.const (.string ⟨#[2, 1, 1]⟩)) t87 (.string ⟨#[2, 1, 1]⟩)) w K) w fun t88 w =>
  aD pg (fJ t84 t88 (.bool false)) w fun t89 w =>
  Gd (dW t89 true) (fun K => K n_8 w) w fun t91 w =>
  Gd (dW t89 true) (fun K => K b_5 w) w fun t92 w =>
  Gd (dW t89 true) (fun K => aD pg (iJ .len #[22] 3 [t92]) w K) w fun t93 w =>
  Gd (dW t89 true) (fun K => aD pg (aN .eql 3 (.tmp 91) (.tmp 93) t91 t93) w K) w fun t94 w =>
  aD pg (fJ t89 t94 (.bool false)) w fun t95 w =>
  Gd (dW t95 true) (fun K => K h_9 w) w fun t97 w =>
  Gd (dW t95 true) (fun K => aD pg (aN .eql 24 (.tmp 97) (.const (.int .i64 0)) t97 (.int .i64 0)) w K) w fun t98 w =>
  aD pg (fJ t95 t98 (.bool false)) w fun t99 w =>
  Gd (dW t99 true) (fun K => K Zi w) w fun t101 w =>
  Gd (dW t99 true) (fun K => aD pg (iJ .len #[22] 3 [t101]) w K) w fun t102 w =>
  Gd (dW t99 true) (fun K => aD pg (aN .eql 3 (.tmp 102) (.const (.int .i64 3)) t102 (.int .i64 3)) w K) w fun t103 w =>
  aD pg (fJ t99 t103 (.bool false)) w fun t104 w =>
  Gd (dW t104 true) (fun K => K Y8 w) w fun t106 w =>
  Gd (dW t104 true) (fun K => aD pg (aN .eql 24 (.tmp 106) (.const (.int .i64 0)) t106 (.int .i64 0)) w K) w fun t107 w =>
  aD pg (fJ t104 t107 (.bool false)) w fun t108 w =>
  aD pg (fJ t108 (.bool true) (.bool false)) w fun t110 w =>
  kn t110 w
theorem Rw (kn : K1) (hn : ∀ g w, kn (g 0) w → Q .normal g w) (h : EO kn (g 1) (g 2) (g 3) (g 4) (g 5) (g 6) (g 7) (g 8) (g 9) (g 10) (g 11) w) : aQ pg iQ (aC 1 (aA 6 iC)) Q g w :=
  aI (kr := no) (l := []) (by kernel_rfl) h hn fG trivial
def AV (R : K1) (l_1 e_2 c_3 f_4 b_5 g_6 yJ n_8 h_9 Zi Y8 : Value) (w : World) : Prop :=
  EO (fun t0 w => yQ R t0 w) l_1 e_2 c_3 f_4 b_5 g_6 yJ n_8 h_9 Zi Y8 w
theorem Rj (R : K1) (hr : HR sQ R Q) (h : AV R (g 1) (g 2) (g 3) (g 4) (g 5) (g 6) (g 7) (g 8) (g 9) (g 10) (g 11) w) : aQ pg iQ (aA 6 iC) Q g w :=
  aL 1 _ g w (by kernel_rfl) (Rw (aX (fun g w => aQ pg iQ (aA 1 (aA 6 iC)) Q g w) Q) g w (fun t0 w => yQ R t0 w) (fun g w h => aS (K := fun g w => aQ pg iQ (aA 1 (aA 6 iC)) Q g w) (Ql Q g w R hr h)) h)
def Fl (kn : K11)  (w : World) : Prop :=
  aD pg (cQ 22 1 [(0, (.int .u8 1))]) w fun t13 w =>
  cC pg pS #[t13] w fun t14 w =>
  aD pg (dV t14 0) w fun t15 w =>
  aD pg (dV t14 1) w fun t16 w =>
  aD pg (cQ 22 3 [(0, (.int .u8 2)), (1, (.int .u8 1)), (2, (.int .u8 1))]) w fun t18 w =>
  cC pg wF #[t18] w fun t19 w =>
  aD pg (dV t19 0) w fun t20 w =>
  aD pg (dV t19 1) w fun t21 w =>
  aD pg (cQ 22 3 [(0, (.int .u8 2)), (1, (.int .u8 1)), (2, (.int .u8 1))]) w fun t23 w =>
  cC pg vW #[t23] w fun t24 w =>
  aD pg (dV t24 0) w fun t25 w =>
  aD pg (dV t24 1) w fun t26 w =>
  cC pg oM #[t25] w fun t29 w =>
  aD pg (dV t29 0) w fun t30 w =>
  aD pg (dV t29 1) w fun t31 w =>
  aD pg (dV t29 2) w fun t32 w =>
  aD pg (cQ 43 3 [(0, (.int .u32 9)), (1, (.int .u32 0)), (2, (.int .u32 1))]) w fun t34 w =>
  cC pg DS #[t34] w fun t35 w =>
  aD pg (dV t35 0) w fun t36 w =>
  aD pg (dV t35 1) w fun t37 w =>
  kn t15 t16 t20 t21 t25 t26 t30 t31 t32 t36 t37 w
theorem QW (kn : K11) (hn : ∀ g w, kn (g 1) (g 2) (g 3) (g 4) (g 5) (g 6) (g 7) (g 8) (g 9) (g 10) (g 11) w → Q .normal g w) (h : Fl kn w) : aQ pg iQ (aC 6 iC) Q g w :=
  aI (kr := no) (l := []) (by kernel_rfl) h hn fG trivial
def Fd (R : K1)  (w : World) : Prop :=
  Fl (fun l_1 e_2 c_3 f_4 b_5 g_6 yJ n_8 h_9 Zi Y8 w => AV R l_1 e_2 c_3 f_4 b_5 g_6 yJ n_8 h_9 Zi Y8 w) w
theorem QL (R : K1) (hr : HR sQ R Q) (h : Fd R w) : aQ pg iQ iC Q g w :=
  aL 6 _ g w (by kernel_rfl) (QW (aX (fun g w => aQ pg iQ (aA 6 iC) Q g w) Q) g w (fun l_1 e_2 c_3 f_4 b_5 g_6 yJ n_8 h_9 Zi Y8 w => AV R l_1 e_2 c_3 f_4 b_5 g_6 yJ n_8 h_9 Zi Y8 w) (fun g w h => aS (K := fun g w => aQ pg iQ (aA 6 iC) Q g w) (Rj Q g w R hr h)) h)
def T1 (w : World) (R : K1) : Prop :=
  Fd R w
theorem RX {w : World} {R : K1} (h : T1 w R) : cC pg Cs #[] w R := by
  refine bQ (ann := iQ) (fn := Try.f10) (c := iC) (args := []) (rs := sQ) (N := 111) TryM.mixed (by kernel_rfl) Try.func10 (by kernel_rfl) (by kernel_rfl) (by kernel_rfl) (of_decide_eq_true (by kernel_rfl)) (by kernel_rfl) ?_
  exact (QL (jT pg sQ R) (gE []) w R (fun _ _ h => h) h)
end Go.Proofs.Ytoepfjgekpdddaa
namespace Go.Proofs.Ytoepfjgekpdddaa
open Go Go.En
set_option linter.unusedVariables false
set_option maxRecDepth 20000
attribute [local irreducible] Go.En.aQ
variable (Q : Exit → eL → World → Prop) (g : eL) (w : World)
def F2 : FA := ⟨pS, fun i => .leaf ([], []) []⟩
def BV : List ResultVar := [.tmp 2, .tmp 3]
noncomputable def FK : Code := fB Try.f11
def Bw (R : K1) (eT : Value) (w : World) : Prop :=
  cC pg qA #[eT] w fun t10 w =>
  aD pg (dV t10 0) w fun t11 w =>
  aD pg (dV t10 1) w fun t12 w =>
  aD pg (sUn .not t12) w fun t14 w =>
  Gd (dW t14 false) (fun K => K eT w) w fun t16 w =>
  Gd (dW t14 false) (fun K => aD pg (iJ .len #[22] 3 [t16]) w K) w fun t17 w =>
  Gd (dW t14 false) (fun K => aD pg (aN .eql 3 (.tmp 17) (.const (.int .i64 0)) t17 (.int .i64 0)) w K) w fun t18 w =>
  aD pg (fJ t14 (.bool true) t18) w fun t19 w =>
  Gd (dW t19 false) (fun K => K eT w) w fun t21 w =>
  Gd (dW t19 false) (fun K => aD pg (iJ .len #[22] 3 [t21]) w K) w fun t22 w =>
  Gd (dW t19 false) (fun K => aD pg (aN .geq 3 (.tmp 22) (.const (.int .i64 256)) t22 (.int .i64 256)) w K) w fun t23 w =>
  aD pg (fJ t19 (.bool true) t23) w fun t24 w =>
  Gd (dW t24 false) (fun K => K t11 w) w fun t26 w =>
  Gd (dW t24 false) (fun K => aD pg (aN .eql 3 (.tmp 26) (.const (.int .i64 0)) t26 (.int .i64 0)) w K) w fun t27 w =>
  aD pg (fJ t24 (.bool true) t27) w fun t28 w =>
  hH t28
    (R (.tuple #[(.slice none 0 0), (.int .i64 11)]) w)
    (aD pg (jH 3 49 t11) w fun t30 w =>
    cC pg kC #[t30] w fun t31 w =>
    aD pg (aN .shl 3 (.const (.int .i64 1)) (.tmp 32) (.int .i64 1) t31) w fun t33 w =>
    aD pg (aN .sub 3 (.tmp 33) (.tmp 34) t33 t11) w fun t35 w =>
    aD pg (aN .gtr 3 (.tmp 36) (.const (.int .i64 11)) t31 (.int .i64 11)) w fun t37 w =>
    Gd (dW t37 false) (fun K => K t35 w) w fun t39 w =>
    Gd (dW t37 false) (fun K => K t35 w) w fun t40 w =>
    Gd (dW t37 false) (fun K => aD pg (aN .sub 3 (.tmp 40) (.const (.int .i64 1)) t40 (.int .i64 1)) w K) w fun t41 w =>
    Gd (dW t37 false) (fun K => aD pg (aN .and 3 (.tmp 39) (.tmp 41) t39 t41) w K) w fun t42 w =>
    Gd (dW t37 false) (fun K => aD pg (aN .neq 3 (.tmp 42) (.const (.int .i64 0)) t42 (.int .i64 0)) w K) w fun t43 w =>
    aD pg (fJ t37 (.bool true) t43) w fun t44 w =>
    hH t44
      (R (.tuple #[(.slice none 0 0), (.int .i64 11)]) w)
      (cC pg jY #[eT] w fun t46 w =>
      aD pg (jH 3 49 t35) w fun t48 w =>
      cC pg kC #[t48] w fun t49 w =>
      aD pg (jH 3 5 t49) w fun t50 w =>
      aD pg (cQ 22 1 [(0, t50)]) w fun t51 w =>
      aD pg (iJ .append #[22, 22] 22 [t46, t51]) w fun t52 w =>
      R (.tuple #[t52, (.int .i64 0)]) w))
theorem Ms (R : K1) (hr : HR BV R Q) (h : Bw R (g 0) w) : aQ pg F2 FK Q g w :=
  aI (kn := no) (l := []) (by kernel_rfl) h fG hr trivial
def MV (a0 : Value) (w : World) (R : K1) : Prop :=
  Bw R a0 w
theorem OA {a0 : Value} {w : World} {R : K1} (h : MV a0 w R) : cC pg pS #[a0] w R := by
  refine bQ (ann := F2) (fn := Try.f11) (c := FK) (args := [a0]) (rs := BV) (N := 53) TryM.mixed (by kernel_rfl) Try.func11 (by kernel_rfl) (by kernel_rfl) (by kernel_rfl) (of_decide_eq_true (by kernel_rfl)) (by kernel_rfl) ?_
  exact (Ms (jT pg BV R) (gE [a0]) w R (fun _ _ h => h) h)
def gT : FA := ⟨Co, fun i => .leaf ([], []) []⟩
def oE : List ResultVar := [.tmp 2, .tmp 3]
noncomputable def gF : Code := fB Try.f12
def Ag (R : K1) (eT Xt TJ : Value) (w : World) : Prop :=
  cC pg iE #[TJ] w fun t27 w =>
  aD pg (aN .sub 3 (.tmp 27) (.tmp 28) t27 Xt) w fun t29 w =>
  cC pg Ge #[t29] w fun t30 w =>
  aD pg (aN .gtr 3 (.tmp 31) (.const (.int .i64 11)) TJ (.int .i64 11)) w fun t32 w =>
  Gd (dW t32 false) (fun K => K t30 w) w fun t34 w =>
  Gd (dW t32 false) (fun K => aD pg (aN .lss 3 (.tmp 34) (.const (.int .i64 0)) t34 (.int .i64 0)) w K) w fun t35 w =>
  aD pg (fJ t32 (.bool true) t35) w fun t36 w =>
  hH t36
    (R (.tuple #[(.string ⟨#[]⟩), (.int .i64 11)]) w)
    (aD pg (aN .add 3 (.tmp 38) (.const (.int .i64 1)) t30 (.int .i64 1)) w fun t39 w =>
    aD pg (jH 3 5 t39) w fun t40 w =>
    aD pg (cQ 22 1 [(0, t40)]) w fun t41 w =>
    aD pg (jH 22 9 t41) w fun t42 w =>
    aD pg (aN .add 9 (.tmp 37) (.tmp 42) eT t42) w fun t43 w =>
    R (.tuple #[t43, (.int .i64 0)]) w)
theorem P3 (R : K1) (hr : HR oE R Q) (h : Ag R (g 0) (g 4) (g 5) w) : aQ pg gT (aA 1 (aA 4 gF)) Q g w :=
  aI (kn := no) (l := []) (by kernel_rfl) h fG hr trivial
def AM (kn : K3) (k0 : K3) (eT Xt TJ : Value) (w : World) : Prop :=
  cC pg iE #[TJ] w fun t21 w =>
  aD pg (aN .leq 3 (.tmp 21) (.tmp 22) t21 Xt) w fun t23 w =>
  hH t23
    (aD pg (aN .add 3 (.tmp 24) (.const (.int .i64 1)) TJ (.int .i64 1)) w fun t25 w =>
    kn eT Xt t25 w)
    (k0 eT Xt TJ w)
theorem Qi (kn : K3) (k0 : K3) (hn : ∀ g w, kn (g 0) (g 4) (g 5) w → Q .normal g w) (h0 : ∀ g w, k0 (g 0) (g 4) (g 5) w → Q (.exit 0) g w) (h : AM kn k0 (g 0) (g 4) (g 5) w) : aQ pg gT (bI (bI (aC 1 (aA 4 gF)))) Q g w :=
  aI (kr := no) (l := [(0, fun g w => k0 (g 0) (g 4) (g 5) w)]) (by kernel_rfl) h hn fG ⟨h0, trivial⟩
def Ef (k0 : K3) (eT Xt TJ : Value) (w : World) : Prop :=
  cV (fun (X : Value → K0) (t : Value) (w : World) => AM (fun _ _ TJ w => X TJ w) k0 eT Xt t w) TJ w
theorem QI (k0 : K3) (h0 : ∀ g w, k0 (g 0) (g 4) (g 5) w → Q (.exit 0) g w) (h : Ef k0 (g 0) (g 4) (g 5) w) : aQ pg gT (bI (aC 1 (aA 4 gF))) Q g w := by
  refine cR (T := Value) (fun g : eL => g 5) (fun X t w => AM (fun _ _ TJ w => X TJ w) k0 (g 0) (g 4) t w) _ (by kernel_rfl) h (fun X g1 w1 ha hL => ?_)
  rw [← aO (s := 0) ha (by kernel_rfl)] at hL
  rw [← aO (s := 4) ha (by kernel_rfl)] at hL
  exact (Qi (aX (fun g2 w2 => X ((fun g : eL => g 5) g2) w2) Q) g1 w1 (fun _ _ TJ w => X TJ w) k0 (fun _ _ h => h) h0 hL)
def Fx (kn : K3) (eT Xt TJ : Value) (w : World) : Prop :=
  Ef kn eT Xt TJ w
theorem Ri (kn : K3) (hn : ∀ g w, kn (g 0) (g 4) (g 5) w → Q .normal g w) (h : Fx kn (g 0) (g 4) (g 5) w) : aQ pg gT (aC 1 (aA 4 gF)) Q g w :=
  cU 0 _ g w (by kernel_rfl) (QI (rP 0 Q) g w kn hn h)
def AO (R : K1) (eT Xt TJ : Value) (w : World) : Prop :=
  Fx (fun eT Xt TJ w => Ag R eT Xt TJ w) eT Xt TJ w
theorem O9 (R : K1) (hr : HR oE R Q) (h : AO R (g 0) (g 4) (g 5) w) : aQ pg gT (aA 4 gF) Q g w :=
  aL 1 _ g w (by kernel_rfl) (Ri (aX (fun g w => aQ pg gT (aA 1 (aA 4 gF)) Q g w) Q) g w (fun eT Xt TJ w => Ag R eT Xt TJ w) (fun g w h => aS (K := fun g w => aQ pg gT (aA 1 (aA 4 gF)) Q g w) (P3 Q g w R hr h)) h)
def Fb (kn : K3) (R : K1) (eT : Value) (w : World) : Prop :=
  cC pg Cd #[eT] w fun t8 w =>
  aD pg (aN .eql 9 (.tmp 9) (.const (.string ⟨#[]⟩)) eT (.string ⟨#[]⟩)) w fun t10 w =>
  Gd (dW t10 false) (fun K => K eT w) w fun t12 w =>
  Gd (dW t10 false) (fun K => aD pg (iJ .len #[9] 3 [t12]) w K) w fun t13 w =>
  Gd (dW t10 false) (fun K => aD pg (aN .gtr 3 (.tmp 13) (.const (.int .i64 255)) t13 (.int .i64 255)) w K) w fun t14 w =>
  aD pg (fJ t10 (.bool true) t14) w fun t15 w =>
  Gd (dW t15 false) (fun K => K t8 w) w fun t17 w =>
  Gd (dW t15 false) (fun K => aD pg (aN .lss 3 (.tmp 17) (.const (.int .i64 1)) t17 (.int .i64 1)) w K) w fun t18 w =>
  aD pg (fJ t15 (.bool true) t18) w fun t19 w =>
  hH t19
    (R (.tuple #[(.string ⟨#[]⟩), (.int .i64 11)]) w)
    (kn eT t8 (.int .i64 1) w)
theorem Pv (kn : K3) (R : K1) (hn : ∀ g w, kn (g 0) (g 4) (g 5) w → Q .normal g w) (hr : HR oE R Q) (h : Fb kn R (g 0) w) : aQ pg gT (aC 4 gF) Q g w :=
  aI (l := []) (by kernel_rfl) h hn hr trivial
def EW (R : K1) (eT : Value) (w : World) : Prop :=
  Fb (fun eT Xt TJ w => AO R eT Xt TJ w) R eT w
theorem Pj (R : K1) (hr : HR oE R Q) (h : EW R (g 0) w) : aQ pg gT gF Q g w :=
  aL 4 _ g w (by kernel_rfl) (Pv (aX (fun g w => aQ pg gT (aA 4 gF) Q g w) Q) g w (fun eT Xt TJ w => AO R eT Xt TJ w) R (fun g w h => aS (K := fun g w => aQ pg gT (aA 4 gF) Q g w) (O9 Q g w R hr h)) hr h)
def TY (a0 : Value) (w : World) (R : K1) : Prop :=
  EW R a0 w
theorem SN {a0 : Value} {w : World} {R : K1} (h : TY a0 w R) : cC pg Co #[a0] w R := by
  refine bQ (ann := gT) (fn := Try.f12) (c := gF) (args := [a0]) (rs := oE) (N := 44) TryM.mixed (by kernel_rfl) Try.func12 (by kernel_rfl) (by kernel_rfl) (by kernel_rfl) (of_decide_eq_true (by kernel_rfl)) (by kernel_rfl) ?_
  exact (Pj (jT pg oE R) (gE [a0]) w R (fun _ _ h => h) h)
def bO : FA := ⟨wF, fun i => .leaf ([], []) []⟩
def lJ : List ResultVar := [.tmp 2, .tmp 3]
noncomputable def bL : Code := fB Try.f13
def tM (R : K1) (aT : Value) (w : World) : Prop :=
  R (.tuple #[aT, (.int .i64 0)]) w
theorem My (R : K1) (hr : HR lJ R Q) (h : tM R (g 5) w) : aQ pg bO (aA 1 (aA 5 bL)) Q g w :=
  aI (kn := no) (l := []) (by kernel_rfl) h fG hr trivial
def tB (kn : K5) (eT yH aT iK yI : Value) (w : World) : Prop :=
  aD pg (aN .add 3 (.tmp 19) (.const (.int .i64 1)) yI (.int .i64 1)) w fun t20 w =>
  kn eT yH aT iK t20 w
theorem Mx (kn : K5) (hn : ∀ g w, kn (g 0) (g 4) (g 5) (g 6) (g 7) w → Q .normal g w) (h : tB kn (g 0) (g 4) (g 5) (g 6) (g 7) w) : aQ pg bO (aA 1 (aA 1 (bI (bI (aA 1 (aC 1 (aA 5 bL))))))) Q g w :=
  aI (kr := no) (l := []) (by kernel_rfl) h hn fG trivial
def tU (kn : K7) (eT yH aT iK yI t22 t23 : Value) (w : World) : Prop :=
  aD pg (aN .add 3 (.tmp 23) (.const (.int .i64 1)) t23 (.int .i64 1)) w fun t50 w =>
  kn eT yH aT iK yI t22 t50 w
theorem Mh (kn : K7) (hn : ∀ g w, kn (g 0) (g 4) (g 5) (g 6) (g 7) (g 22) (g 23) w → Q .normal g w) (h : tU kn (g 0) (g 4) (g 5) (g 6) (g 7) (g 22) (g 23) w) : aQ pg bO (aA 3 (bI (bI (aA 1 (bI (aC 1 (aA 1 (bI (bI (aA 1 (aC 1 (aA 5 bL)))))))))))) Q g w :=
  aI (kr := no) (l := []) (by kernel_rfl) h hn fG trivial
def BJ (kn : K7) (k2 : K5) (eT yH aT iK yI t22 t23 : Value) (w : World) : Prop :=
  aD pg (aN .lss 3 (.tmp 23) (.tmp 22) t23 t22) w fun t24 w =>
  hH t24
    (aD pg (cD 22 eT t23) w fun t28 w =>
    aD pg (aW 5 t28) w fun t29 w =>
    aD pg (jH 5 3 t29) w fun t30 w =>
    aD pg (aN .neq 3 (.tmp 30) (.tmp 31) t30 yI) w fun t32 w =>
    hH t32
      (kn eT yH aT iK yI t22 t23 w)
      (aD pg (aN .add 3 (.tmp 35) (.const (.int .i64 1)) yH (.int .i64 1)) w fun t36 w =>
      aD pg (aN .sub 3 (.tmp 36) (.tmp 37) t36 yI) w fun t38 w =>
      aD pg (aN .sub 3 (.tmp 40) (.const (.int .i64 1)) yI (.int .i64 1)) w fun t41 w =>
      aD pg (aN .shr 3 (.tmp 39) (.tmp 41) iK t41) w fun t42 w =>
      aD pg (fV 36 [(0, t38), (1, t42)]) w fun t43 w =>
      aD pg (cD 29 aT t23) w fun t44 w =>
      aD pg (cB 36 t44 t43) w fun _u w =>
      aD pg (aN .sub 3 (.tmp 46) (.const (.int .i64 1)) yI (.int .i64 1)) w fun t47 w =>
      aD pg (aN .shl 3 (.const (.int .i64 1)) (.tmp 47) (.int .i64 1) t47) w fun t48 w =>
      aD pg (aN .add 3 (.tmp 45) (.tmp 48) iK t48) w fun t49 w =>
      kn eT yH aT t49 yI t22 t23 w))
    (k2 eT yH aT iK yI w)
theorem Mo (kn : K7) (k2 : K5) (hn : ∀ g w, kn (g 0) (g 4) (g 5) (g 6) (g 7) (g 22) (g 23) w → Q .normal g w) (h2 : ∀ g w, k2 (g 0) (g 4) (g 5) (g 6) (g 7) w → Q (.exit 2) g w) (h : BJ kn k2 (g 0) (g 4) (g 5) (g 6) (g 7) (g 22) (g 23) w) : aQ pg bO (aC 3 (bI (bI (aA 1 (bI (aC 1 (aA 1 (bI (bI (aA 1 (aC 1 (aA 5 bL)))))))))))) Q g w :=
  aI (kr := no) (l := [(2, fun g w => k2 (g 0) (g 4) (g 5) (g 6) (g 7) w)]) (by kernel_rfl) h hn fG ⟨h2, trivial⟩
def tL (kn : K7) (k2 : K5) (eT yH aT iK yI t22 t23 : Value) (w : World) : Prop :=
  BJ (fun eT yH aT iK yI t22 t23 w => tU kn eT yH aT iK yI t22 t23 w) k2 eT yH aT iK yI t22 t23 w
theorem Mw (kn : K7) (k2 : K5) (hn : ∀ g w, kn (g 0) (g 4) (g 5) (g 6) (g 7) (g 22) (g 23) w → Q .normal g w) (h2 : ∀ g w, k2 (g 0) (g 4) (g 5) (g 6) (g 7) w → Q (.exit 2) g w) (h : tL kn k2 (g 0) (g 4) (g 5) (g 6) (g 7) (g 22) (g 23) w) : aQ pg bO (bI (bI (aA 1 (bI (aC 1 (aA 1 (bI (bI (aA 1 (aC 1 (aA 5 bL))))))))))) Q g w :=
  aL 3 _ g w (by kernel_rfl) (Mo (aX (fun g w => aQ pg bO (aA 3 (bI (bI (aA 1 (bI (aC 1 (aA 1 (bI (bI (aA 1 (aC 1 (aA 5 bL)))))))))))) Q g w) Q) g w (fun eT yH aT iK yI t22 t23 w => tU kn eT yH aT iK yI t22 t23 w) k2 (fun g w h => aS (K := fun g w => aQ pg bO (aA 3 (bI (bI (aA 1 (bI (aC 1 (aA 1 (bI (bI (aA 1 (aC 1 (aA 5 bL)))))))))))) Q g w) (Mh Q g w kn hn h)) h2 h)
def BP (k2 : K5) (eT yH aT iK yI t22 t23 : Value) (w : World) : Prop :=
  cV (fun (X : (Value × Value) → K0) (t : Value × Value) (w : World) => tL (fun _ _ _ iK _ _ t23 w => X (iK, t23) w) k2 eT yH aT t.1 yI t22 t.2 w) (iK, t23) w
theorem Mt (k2 : K5) (h2 : ∀ g w, k2 (g 0) (g 4) (g 5) (g 6) (g 7) w → Q (.exit 2) g w) (h : BP k2 (g 0) (g 4) (g 5) (g 6) (g 7) (g 22) (g 23) w) : aQ pg bO (bI (aA 1 (bI (aC 1 (aA 1 (bI (bI (aA 1 (aC 1 (aA 5 bL)))))))))) Q g w := by
  refine cR (T := Value × Value) (fun g : eL => (g 6, g 23)) (fun X t w => tL (fun _ _ _ iK _ _ t23 w => X (iK, t23) w) k2 (g 0) (g 4) (g 5) t.1 (g 7) (g 22) t.2 w) _ (by kernel_rfl) h (fun X g1 w1 ha hL => ?_)
  rw [← aO (s := 0) ha (by kernel_rfl)] at hL
  rw [← aO (s := 4) ha (by kernel_rfl)] at hL
  rw [← aO (s := 5) ha (by kernel_rfl)] at hL
  rw [← aO (s := 7) ha (by kernel_rfl)] at hL
  rw [← aO (s := 22) ha (by kernel_rfl)] at hL
  exact (Mw (aX (fun g2 w2 => X ((fun g : eL => (g 6, g 23)) g2) w2) Q) g1 w1 (fun _ _ _ iK _ _ t23 w => X (iK, t23) w) k2 (fun _ _ h => h) h2 hL)
def tS (kn : K5) (eT yH aT iK yI t22 t23 : Value) (w : World) : Prop :=
  BP kn eT yH aT iK yI t22 t23 w
theorem MC (kn : K5) (hn : ∀ g w, kn (g 0) (g 4) (g 5) (g 6) (g 7) w → Q .normal g w) (h : tS kn (g 0) (g 4) (g 5) (g 6) (g 7) (g 22) (g 23) w) : aQ pg bO (aA 1 (bI (aC 1 (aA 1 (bI (bI (aA 1 (aC 1 (aA 5 bL))))))))) Q g w :=
  cU 2 _ g w (by kernel_rfl) (Mt (rP 2 Q) g w kn hn h)
def BL (kn : K7) (eT yH aT iK yI : Value) (w : World) : Prop :=
  aD pg (iJ .len #[22] 3 [eT]) w fun t22 w =>
  kn eT yH aT iK yI t22 (.int .i64 0) w
theorem Mr (kn : K7) (hn : ∀ g w, kn (g 0) (g 4) (g 5) (g 6) (g 7) (g 22) (g 23) w → Q .normal g w) (h : BL kn (g 0) (g 4) (g 5) (g 6) (g 7) w) : aQ pg bO (aC 1 (bI (aC 1 (aA 1 (bI (bI (aA 1 (aC 1 (aA 5 bL))))))))) Q g w :=
  aI (kr := no) (l := []) (by kernel_rfl) h hn fG trivial
def BO (kn : K5) (eT yH aT iK yI : Value) (w : World) : Prop :=
  BL (fun eT yH aT iK yI t22 t23 w => tS kn eT yH aT iK yI t22 t23 w) eT yH aT iK yI w
theorem Mf (kn : K5) (hn : ∀ g w, kn (g 0) (g 4) (g 5) (g 6) (g 7) w → Q .normal g w) (h : BO kn (g 0) (g 4) (g 5) (g 6) (g 7) w) : aQ pg bO (bI (aC 1 (aA 1 (bI (bI (aA 1 (aC 1 (aA 5 bL)))))))) Q g w :=
  aL 1 _ g w (by kernel_rfl) (Mr (aX (fun g w => aQ pg bO (aA 1 (bI (aC 1 (aA 1 (bI (bI (aA 1 (aC 1 (aA 5 bL))))))))) Q g w) Q) g w (fun eT yH aT iK yI t22 t23 w => tS kn eT yH aT iK yI t22 t23 w) (fun g w h => aS (K := fun g w => aQ pg bO (aA 1 (bI (aC 1 (aA 1 (bI (bI (aA 1 (aC 1 (aA 5 bL))))))))) Q g w) (MC Q g w kn hn h)) h)
def yT (kn : K5) (eT yH aT iK yI : Value) (w : World) : Prop :=
  BO kn eT yH aT iK yI w
theorem Lo (kn : K5) (hn : ∀ g w, kn (g 0) (g 4) (g 5) (g 6) (g 7) w → Q .normal g w) (h : yT kn (g 0) (g 4) (g 5) (g 6) (g 7) w) : aQ pg bO (aC 1 (aA 1 (bI (bI (aA 1 (aC 1 (aA 5 bL))))))) Q g w :=
  cU 1 _ g w (by kernel_rfl) (Mf (rP 1 Q) g w kn hn h)
def rR (kn : K5) (eT yH aT iK yI : Value) (w : World) : Prop :=
  yT (fun eT yH aT iK yI w => tB kn eT yH aT iK yI w) eT yH aT iK yI w
theorem KQ (kn : K5) (hn : ∀ g w, kn (g 0) (g 4) (g 5) (g 6) (g 7) w → Q .normal g w) (h : rR kn (g 0) (g 4) (g 5) (g 6) (g 7) w) : aQ pg bO (aA 1 (bI (bI (aA 1 (aC 1 (aA 5 bL)))))) Q g w :=
  aL 1 _ g w (by kernel_rfl) (Lo (aX (fun g w => aQ pg bO (aA 1 (aA 1 (bI (bI (aA 1 (aC 1 (aA 5 bL))))))) Q g w) Q) g w (fun eT yH aT iK yI w => tB kn eT yH aT iK yI w) (fun g w h => aS (K := fun g w => aQ pg bO (aA 1 (aA 1 (bI (bI (aA 1 (aC 1 (aA 5 bL))))))) Q g w) (Mx Q g w kn hn h)) h)
def zU (kn : K5) (k0 : K1) (eT yH aT iK yI : Value) (w : World) : Prop :=
  aD pg (aN .leq 3 (.tmp 16) (.tmp 17) yI yH) w fun t18 w =>
  hH t18
    (kn eT yH aT iK yI w)
    (k0 aT w)
theorem KT (kn : K5) (k0 : K1) (hn : ∀ g w, kn (g 0) (g 4) (g 5) (g 6) (g 7) w → Q .normal g w) (h0 : ∀ g w, k0 (g 5) w → Q (.exit 0) g w) (h : zU kn k0 (g 0) (g 4) (g 5) (g 6) (g 7) w) : aQ pg bO (aC 1 (bI (bI (aA 1 (aC 1 (aA 5 bL)))))) Q g w :=
  aI (kr := no) (l := [(0, fun g w => k0 (g 5) w)]) (by kernel_rfl) h hn fG ⟨h0, trivial⟩
def rB (kn : K5) (k0 : K1) (eT yH aT iK yI : Value) (w : World) : Prop :=
  zU (fun eT yH aT iK yI w => rR kn eT yH aT iK yI w) k0 eT yH aT iK yI w
theorem Kh (kn : K5) (k0 : K1) (hn : ∀ g w, kn (g 0) (g 4) (g 5) (g 6) (g 7) w → Q .normal g w) (h0 : ∀ g w, k0 (g 5) w → Q (.exit 0) g w) (h : rB kn k0 (g 0) (g 4) (g 5) (g 6) (g 7) w) : aQ pg bO (bI (bI (aA 1 (aC 1 (aA 5 bL))))) Q g w :=
  aL 1 _ g w (by kernel_rfl) (KT (aX (fun g w => aQ pg bO (aA 1 (bI (bI (aA 1 (aC 1 (aA 5 bL)))))) Q g w) Q) g w (fun eT yH aT iK yI w => rR kn eT yH aT iK yI w) k0 (fun g w h => aS (K := fun g w => aQ pg bO (aA 1 (bI (bI (aA 1 (aC 1 (aA 5 bL)))))) Q g w) (KQ Q g w kn hn h)) h0 h)
def Bb (k0 : K1) (eT yH aT iK yI : Value) (w : World) : Prop :=
  cV (fun (X : (Value × Value) → K0) (t : Value × Value) (w : World) => rB (fun _ _ _ iK yI w => X (iK, yI) w) k0 eT yH aT t.1 t.2 w) (iK, yI) w
theorem Ko (k0 : K1) (h0 : ∀ g w, k0 (g 5) w → Q (.exit 0) g w) (h : Bb k0 (g 0) (g 4) (g 5) (g 6) (g 7) w) : aQ pg bO (bI (aA 1 (aC 1 (aA 5 bL)))) Q g w := by
  refine cR (T := Value × Value) (fun g : eL => (g 6, g 7)) (fun X t w => rB (fun _ _ _ iK yI w => X (iK, yI) w) k0 (g 0) (g 4) (g 5) t.1 t.2 w) _ (by kernel_rfl) h (fun X g1 w1 ha hL => ?_)
  rw [← aO (s := 0) ha (by kernel_rfl)] at hL
  rw [← aO (s := 4) ha (by kernel_rfl)] at hL
  rw [← aO (s := 5) ha (by kernel_rfl)] at hL
  exact (Kh (aX (fun g2 w2 => X ((fun g : eL => (g 6, g 7)) g2) w2) Q) g1 w1 (fun _ _ _ iK yI w => X (iK, yI) w) k0 (fun _ _ h => h) h0 hL)
def qY (kn : K1) (eT yH aT iK yI : Value) (w : World) : Prop :=
  Bb kn eT yH aT iK yI w
theorem LG (kn : K1) (hn : ∀ g w, kn (g 5) w → Q .normal g w) (h : qY kn (g 0) (g 4) (g 5) (g 6) (g 7) w) : aQ pg bO (aA 1 (aC 1 (aA 5 bL))) Q g w :=
  cU 0 _ g w (by kernel_rfl) (Ko (rP 0 Q) g w kn hn h)
def zG (kn : K5) (eT yH aT iK : Value) (w : World) : Prop :=
  kn eT yH aT iK (.int .i64 1) w
theorem Lb (kn : K5) (hn : ∀ g w, kn (g 0) (g 4) (g 5) (g 6) (g 7) w → Q .normal g w) (h : zG kn (g 0) (g 4) (g 5) (g 6) w) : aQ pg bO (aC 1 (aC 1 (aA 5 bL))) Q g w :=
  aI (kr := no) (l := []) (by kernel_rfl) h hn fG trivial
def AN (kn : K1) (eT yH aT iK : Value) (w : World) : Prop :=
  zG (fun eT yH aT iK yI w => qY kn eT yH aT iK yI w) eT yH aT iK w
theorem KR (kn : K1) (hn : ∀ g w, kn (g 5) w → Q .normal g w) (h : AN kn (g 0) (g 4) (g 5) (g 6) w) : aQ pg bO (aC 1 (aA 5 bL)) Q g w :=
  aL 1 _ g w (by kernel_rfl) (Lb (aX (fun g w => aQ pg bO (aA 1 (aC 1 (aA 5 bL))) Q g w) Q) g w (fun eT yH aT iK yI w => qY kn eT yH aT iK yI w) (fun g w h => aS (K := fun g w => aQ pg bO (aA 1 (aC 1 (aA 5 bL))) Q g w) (LG Q g w kn hn h)) h)
def qX (R : K1) (eT yH aT iK : Value) (w : World) : Prop :=
  AN (fun aT w => tM R aT w) eT yH aT iK w
theorem Lu (R : K1) (hr : HR lJ R Q) (h : qX R (g 0) (g 4) (g 5) (g 6) w) : aQ pg bO (aA 5 bL) Q g w :=
  aL 1 _ g w (by kernel_rfl) (KR (aX (fun g w => aQ pg bO (aA 1 (aA 5 bL)) Q g w) Q) g w (fun aT w => tM R aT w) (fun g w h => aS (K := fun g w => aQ pg bO (aA 1 (aA 5 bL)) Q g w) (My Q g w R hr h)) h)
def yO (kn : K4) (R : K1) (eT : Value) (w : World) : Prop :=
  cC pg pW #[eT] w fun t10 w =>
  aD pg (aN .eql 3 (.tmp 11) (.const (.int .i64 0)) t10 (.int .i64 0)) w fun t12 w =>
  hH t12
    (R (.tuple #[(.slice none 0 0), (.int .i64 1)]) w)
    (aD pg (iJ .len #[22] 3 [eT]) w fun t14 w =>
    aD pg (oD 29 t14 t14) w fun t15 w =>
    kn eT t10 t15 (.int .i64 0) w)
theorem Lw (kn : K4) (R : K1) (hn : ∀ g w, kn (g 0) (g 4) (g 5) (g 6) w → Q .normal g w) (hr : HR lJ R Q) (h : yO kn R (g 0) w) : aQ pg bO (aC 5 bL) Q g w :=
  aI (l := []) (by kernel_rfl) h hn hr trivial
def Ad (R : K1) (eT : Value) (w : World) : Prop :=
  yO (fun eT yH aT iK w => qX R eT yH aT iK w) R eT w
theorem KX (R : K1) (hr : HR lJ R Q) (h : Ad R (g 0) w) : aQ pg bO bL Q g w :=
  aL 5 _ g w (by kernel_rfl) (Lw (aX (fun g w => aQ pg bO (aA 5 bL) Q g w) Q) g w (fun eT yH aT iK w => qX R eT yH aT iK w) R (fun g w h => aS (K := fun g w => aQ pg bO (aA 5 bL) Q g w) (Lu Q g w R hr h)) hr h)
def MO (a0 : Value) (w : World) (R : K1) : Prop :=
  Ad R a0 w
theorem NG {a0 : Value} {w : World} {R : K1} (h : MO a0 w R) : cC pg wF #[a0] w R := by
  refine bQ (ann := bO) (fn := Try.f13) (c := bL) (args := [a0]) (rs := lJ) (N := 52) TryM.mixed (by kernel_rfl) Try.func13 (by kernel_rfl) (by kernel_rfl) (by kernel_rfl) (of_decide_eq_true (by kernel_rfl)) (by kernel_rfl) ?_
  exact (KX (jT pg lJ R) (gE [a0]) w R (fun _ _ h => h) h)
def lK : FA := ⟨oM, fun i => .leaf ([], []) []⟩
def pX : List ResultVar := [.tmp 2, .tmp 3, .tmp 4]
noncomputable def kS : Code := fB Try.f15
def jI (R : K1) (l_6 n_7 e_8 : Value) (w : World) : Prop :=
  aD pg (aN .neq 24 (.tmp 47) (.const (.int .i64 0)) e_8 (.int .i64 0)) w fun t48 w =>
  hH t48
    (R (.tuple #[(.slice none 0 0), (.int .i64 0), e_8]) w)
    (cC pg pS #[l_6] w fun t52 w =>
    aD pg (dV t52 0) w fun t53 w =>
    aD pg (dV t52 1) w fun t54 w =>
    aD pg (aN .neq 24 (.tmp 55) (.const (.int .i64 0)) t54 (.int .i64 0)) w fun t56 w =>
    hH t56
      (R (.tuple #[(.slice none 0 0), (.int .i64 0), t54]) w)
      (aD pg (aN .add 3 (.const (.int .i64 1)) (.tmp 59) (.int .i64 1) n_7) w fun t60 w =>
      R (.tuple #[t53, t60, (.int .i64 0)]) w))
theorem M3 (R : K1) (hr : HR pX R Q) (h : jI R (g 6) (g 7) (g 8) w) : aQ pg lK (aA 8 kS) Q g w :=
  aI (kn := no) (l := []) (by kernel_rfl) h fG hr trivial
def pV (kn : K3) (R : K1) (gL : Value) (w : World) : Prop :=
  aD pg (iJ .len #[22] 3 [gL]) w fun t11 w =>
  aD pg (aN .eql 3 (.tmp 11) (.const (.int .i64 0)) t11 (.int .i64 0)) w fun t12 w =>
  hH t12
    (R (.tuple #[(.slice none 0 0), (.int .i64 0), (.int .i64 10)]) w)
    (aD pg (cD 22 gL (.int .i64 0)) w fun t14 w =>
    aD pg (aW 5 t14) w fun t15 w =>
    aD pg (jH 5 3 t15) w fun t16 w =>
    aD pg (jU 22 gL (some (.int .i64 1)) none none) w fun t18 w =>
    aD pg (aN .geq 3 (.tmp 28) (.const (.int .i64 128)) t16 (.int .i64 128)) w fun t29 w =>
    hH t29
      (aD pg (aN .sub 3 (.tmp 30) (.const (.int .i64 128)) t16 (.int .i64 128)) w fun t31 w =>
      aD pg (aN .add 3 (.tmp 31) (.const (.int .i64 2)) t31 (.int .i64 2)) w fun t32 w =>
      aD pg (aN .quo 3 (.tmp 32) (.const (.int .i64 2)) t32 (.int .i64 2)) w fun t33 w =>
      aD pg (aN .sub 3 (.tmp 36) (.const (.int .i64 128)) t16 (.int .i64 128)) w fun t37 w =>
      aD pg (aN .add 3 (.tmp 37) (.const (.int .i64 1)) t37 (.int .i64 1)) w fun t38 w =>
      cC pg tR #[t18, t38] w fun t39 w =>
      aD pg (dV t39 0) w fun t40 w =>
      aD pg (dV t39 1) w fun t41 w =>
      kn t40 t33 t41 w)
      (aD pg (iJ .len #[22] 3 [t18]) w fun t44 w =>
      aD pg (aN .lss 3 (.tmp 44) (.tmp 45) t44 t16) w fun t46 w =>
      hH t46
        (kn (.slice none 0 0) (.int .i64 0) (.int .i64 10) w)
        (aD pg (jU 22 t18 none (some t16) none) w fun t23 w =>
        cC pg tN #[t23] w fun t24 w =>
        aD pg (dV t24 0) w fun t25 w =>
        aD pg (dV t24 1) w fun t26 w =>
        kn t25 t16 t26 w)))
theorem Nc (kn : K3) (R : K1) (hn : ∀ g w, kn (g 6) (g 7) (g 8) w → Q .normal g w) (hr : HR pX R Q) (h : pV kn R (g 0) w) : aQ pg lK (aC 8 kS) Q g w :=
  aI (l := []) (by kernel_rfl) h hn hr trivial
def pQ (R : K1) (gL : Value) (w : World) : Prop :=
  pV (fun l_6 n_7 e_8 w => jI R l_6 n_7 e_8 w) R gL w
theorem M7 (R : K1) (hr : HR pX R Q) (h : pQ R (g 0) w) : aQ pg lK kS Q g w :=
  aL 8 _ g w (by kernel_rfl) (Nc (aX (fun g w => aQ pg lK (aA 8 kS) Q g w) Q) g w (fun l_6 n_7 e_8 w => jI R l_6 n_7 e_8 w) R (fun g w h => aS (K := fun g w => aQ pg lK (aA 8 kS) Q g w) (M3 Q g w R hr h)) hr h)
def DR (a0 : Value) (w : World) (R : K1) : Prop :=
  pQ R a0 w
theorem Af {a0 : Value} {w : World} {R : K1} (h : DR a0 w R) : cC pg oM #[a0] w R := by
  refine bQ (ann := lK) (fn := Try.f15) (c := kS) (args := [a0]) (rs := pX) (N := 61) TryM.mixed (by kernel_rfl) Try.func15 (by kernel_rfl) (by kernel_rfl) (by kernel_rfl) (of_decide_eq_true (by kernel_rfl)) (by kernel_rfl) ?_
  exact (M7 (jT pg pX R) (gE [a0]) w R (fun _ _ h => h) h)
def bX : FA := ⟨vW, fun i => .leaf ([], []) []⟩
def lM : List ResultVar := [.tmp 2, .tmp 3]
noncomputable def bU : Code := fB Try.f17
def tJ (R : K1) (aT : Value) (w : World) : Prop :=
  R (.tuple #[aT, (.int .i64 0)]) w
theorem Mg (R : K1) (hr : HR lM R Q) (h : tJ R (g 5) w) : aQ pg bX (aA 1 (aA 4 bU)) Q g w :=
  aI (kn := no) (l := []) (by kernel_rfl) h fG hr trivial
def oN (kn : K4) (eT rT aT FU : Value) (w : World) : Prop :=
  aD pg (aN .add 3 (.tmp 26) (.const (.int .i64 2)) FU (.int .i64 2)) w fun t27 w =>
  kn eT rT aT t27 w
theorem LZ (kn : K4) (hn : ∀ g w, kn (g 0) (g 4) (g 5) (g 6) w → Q .normal g w) (h : oN kn (g 0) (g 4) (g 5) (g 6) w) : aQ pg bX (aA 1 (aA 1 (bI (bI (aA 1 (aC 1 (aA 4 bU))))))) Q g w :=
  aI (kr := no) (l := []) (by kernel_rfl) h hn fG trivial
def oL (kn : K4) (eT rT aT FU c_7 : Value) (w : World) : Prop :=
  aD pg (cQ 22 1 [(0, c_7)]) w fun t46 w =>
  aD pg (iJ .append #[22, 22] 22 [aT, t46]) w fun t47 w =>
  kn eT rT t47 FU w
theorem Mn (kn : K4) (hn : ∀ g w, kn (g 0) (g 4) (g 5) (g 6) w → Q .normal g w) (h : oL kn (g 0) (g 4) (g 5) (g 6) (g 7) w) : aQ pg bX (aA 2 (bI (aC 1 (aA 1 (bI (bI (aA 1 (aC 1 (aA 4 bU))))))))) Q g w :=
  aI (kr := no) (l := []) (by kernel_rfl) h hn fG trivial
def BU (kn : K5) (eT rT aT FU : Value) (w : World) : Prop :=
  aD pg (cD 22 eT FU) w fun t30 w =>
  aD pg (aW 5 t30) w fun t31 w =>
  aD pg (aN .shl 5 (.tmp 31) (.const (.int .u64 4)) t31 (.int .u64 4)) w fun t32 w =>
  aD pg (aN .add 3 (.tmp 33) (.const (.int .i64 1)) FU (.int .i64 1)) w fun t34 w =>
  aD pg (aN .lss 3 (.tmp 34) (.tmp 35) t34 rT) w fun t36 w =>
  hH t36
    (aD pg (aN .add 3 (.tmp 39) (.const (.int .i64 1)) FU (.int .i64 1)) w fun t40 w =>
    aD pg (cD 22 eT t40) w fun t41 w =>
    aD pg (aW 5 t41) w fun t42 w =>
    aD pg (aN .or 5 (.tmp 37) (.tmp 42) t32 t42) w fun t43 w =>
    kn eT rT aT FU t43 w)
    (kn eT rT aT FU t32 w)
theorem L2 (kn : K5) (hn : ∀ g w, kn (g 0) (g 4) (g 5) (g 6) (g 7) w → Q .normal g w) (h : BU kn (g 0) (g 4) (g 5) (g 6) w) : aQ pg bX (aC 2 (bI (aC 1 (aA 1 (bI (bI (aA 1 (aC 1 (aA 4 bU))))))))) Q g w :=
  aI (kr := no) (l := []) (by kernel_rfl) h hn fG trivial
def By (kn : K4) (eT rT aT FU : Value) (w : World) : Prop :=
  BU (fun eT rT aT FU c_7 w => oL kn eT rT aT FU c_7 w) eT rT aT FU w
theorem L7 (kn : K4) (hn : ∀ g w, kn (g 0) (g 4) (g 5) (g 6) w → Q .normal g w) (h : By kn (g 0) (g 4) (g 5) (g 6) w) : aQ pg bX (bI (aC 1 (aA 1 (bI (bI (aA 1 (aC 1 (aA 4 bU)))))))) Q g w :=
  aL 2 _ g w (by kernel_rfl) (L2 (aX (fun g w => aQ pg bX (aA 2 (bI (aC 1 (aA 1 (bI (bI (aA 1 (aC 1 (aA 4 bU))))))))) Q g w) Q) g w (fun eT rT aT FU c_7 w => oL kn eT rT aT FU c_7 w) (fun g w h => aS (K := fun g w => aQ pg bX (aA 2 (bI (aC 1 (aA 1 (bI (bI (aA 1 (aC 1 (aA 4 bU))))))))) Q g w) (Mn Q g w kn hn h)) h)
def BI (kn : K4) (eT rT aT FU : Value) (w : World) : Prop :=
  By kn eT rT aT FU w
theorem L5 (kn : K4) (hn : ∀ g w, kn (g 0) (g 4) (g 5) (g 6) w → Q .normal g w) (h : BI kn (g 0) (g 4) (g 5) (g 6) w) : aQ pg bX (aC 1 (aA 1 (bI (bI (aA 1 (aC 1 (aA 4 bU))))))) Q g w :=
  cU 2 _ g w (by kernel_rfl) (L7 (rP 2 Q) g w kn hn h)
def tT (kn : K4) (eT rT aT FU : Value) (w : World) : Prop :=
  BI (fun eT rT aT FU w => oN kn eT rT aT FU w) eT rT aT FU w
theorem Mc (kn : K4) (hn : ∀ g w, kn (g 0) (g 4) (g 5) (g 6) w → Q .normal g w) (h : tT kn (g 0) (g 4) (g 5) (g 6) w) : aQ pg bX (aA 1 (bI (bI (aA 1 (aC 1 (aA 4 bU)))))) Q g w :=
  aL 1 _ g w (by kernel_rfl) (L5 (aX (fun g w => aQ pg bX (aA 1 (aA 1 (bI (bI (aA 1 (aC 1 (aA 4 bU))))))) Q g w) Q) g w (fun eT rT aT FU w => oN kn eT rT aT FU w) (fun g w h => aS (K := fun g w => aQ pg bX (aA 1 (aA 1 (bI (bI (aA 1 (aC 1 (aA 4 bU))))))) Q g w) (LZ Q g w kn hn h)) h)
def BM (kn : K4) (k1 : K1) (eT rT aT FU : Value) (w : World) : Prop :=
  aD pg (aN .lss 3 (.tmp 23) (.tmp 24) FU rT) w fun t25 w =>
  hH t25
    (kn eT rT aT FU w)
    (k1 aT w)
theorem L6 (kn : K4) (k1 : K1) (hn : ∀ g w, kn (g 0) (g 4) (g 5) (g 6) w → Q .normal g w) (h1 : ∀ g w, k1 (g 5) w → Q (.exit 1) g w) (h : BM kn k1 (g 0) (g 4) (g 5) (g 6) w) : aQ pg bX (aC 1 (bI (bI (aA 1 (aC 1 (aA 4 bU)))))) Q g w :=
  aI (kr := no) (l := [(1, fun g w => k1 (g 5) w)]) (by kernel_rfl) h hn fG ⟨h1, trivial⟩
def tV (kn : K4) (k1 : K1) (eT rT aT FU : Value) (w : World) : Prop :=
  BM (fun eT rT aT FU w => tT kn eT rT aT FU w) k1 eT rT aT FU w
theorem Mq (kn : K4) (k1 : K1) (hn : ∀ g w, kn (g 0) (g 4) (g 5) (g 6) w → Q .normal g w) (h1 : ∀ g w, k1 (g 5) w → Q (.exit 1) g w) (h : tV kn k1 (g 0) (g 4) (g 5) (g 6) w) : aQ pg bX (bI (bI (aA 1 (aC 1 (aA 4 bU))))) Q g w :=
  aL 1 _ g w (by kernel_rfl) (L6 (aX (fun g w => aQ pg bX (aA 1 (bI (bI (aA 1 (aC 1 (aA 4 bU)))))) Q g w) Q) g w (fun eT rT aT FU w => tT kn eT rT aT FU w) k1 (fun g w h => aS (K := fun g w => aQ pg bX (aA 1 (bI (bI (aA 1 (aC 1 (aA 4 bU)))))) Q g w) (Mc Q g w kn hn h)) h1 h)
def A2 (k1 : K1) (eT rT aT FU : Value) (w : World) : Prop :=
  cV (fun (X : (Value × Value) → K0) (t : Value × Value) (w : World) => tV (fun _ _ aT FU w => X (aT, FU) w) k1 eT rT t.1 t.2 w) (aT, FU) w
theorem Kn (k1 : K1) (h1 : ∀ g w, k1 (g 5) w → Q (.exit 1) g w) (h : A2 k1 (g 0) (g 4) (g 5) (g 6) w) : aQ pg bX (bI (aA 1 (aC 1 (aA 4 bU)))) Q g w := by
  refine cR (T := Value × Value) (fun g : eL => (g 5, g 6)) (fun X t w => tV (fun _ _ aT FU w => X (aT, FU) w) k1 (g 0) (g 4) t.1 t.2 w) _ (by kernel_rfl) h (fun X g1 w1 ha hL => ?_)
  rw [← aO (s := 0) ha (by kernel_rfl)] at hL
  rw [← aO (s := 4) ha (by kernel_rfl)] at hL
  exact (Mq (aX (fun g2 w2 => X ((fun g : eL => (g 5, g 6)) g2) w2) Q) g1 w1 (fun _ _ aT FU w => X (aT, FU) w) k1 (fun _ _ h => h) h1 hL)
def rG (kn : K1) (eT rT aT FU : Value) (w : World) : Prop :=
  A2 kn eT rT aT FU w
theorem KS (kn : K1) (hn : ∀ g w, kn (g 5) w → Q .normal g w) (h : rG kn (g 0) (g 4) (g 5) (g 6) w) : aQ pg bX (aA 1 (aC 1 (aA 4 bU))) Q g w :=
  cU 1 _ g w (by kernel_rfl) (Kn (rP 1 Q) g w kn hn h)
def yN (kn : K4) (eT rT aT : Value) (w : World) : Prop :=
  kn eT rT aT (.int .i64 0) w
theorem La (kn : K4) (hn : ∀ g w, kn (g 0) (g 4) (g 5) (g 6) w → Q .normal g w) (h : yN kn (g 0) (g 4) (g 5) w) : aQ pg bX (aC 1 (aC 1 (aA 4 bU))) Q g w :=
  aI (kr := no) (l := []) (by kernel_rfl) h hn fG trivial
def yU (kn : K1) (eT rT aT : Value) (w : World) : Prop :=
  yN (fun eT rT aT FU w => rG kn eT rT aT FU w) eT rT aT w
theorem Kl (kn : K1) (hn : ∀ g w, kn (g 5) w → Q .normal g w) (h : yU kn (g 0) (g 4) (g 5) w) : aQ pg bX (aC 1 (aA 4 bU)) Q g w :=
  aL 1 _ g w (by kernel_rfl) (La (aX (fun g w => aQ pg bX (aA 1 (aC 1 (aA 4 bU))) Q g w) Q) g w (fun eT rT aT FU w => rG kn eT rT aT FU w) (fun g w h => aS (K := fun g w => aQ pg bX (aA 1 (aC 1 (aA 4 bU))) Q g w) (KS Q g w kn hn h)) h)
def rN (R : K1) (eT rT aT : Value) (w : World) : Prop :=
  yU (fun aT w => tJ R aT w) eT rT aT w
theorem Ll (R : K1) (hr : HR lM R Q) (h : rN R (g 0) (g 4) (g 5) w) : aQ pg bX (aA 4 bU) Q g w :=
  aL 1 _ g w (by kernel_rfl) (Kl (aX (fun g w => aQ pg bX (aA 1 (aA 4 bU)) Q g w) Q) g w (fun aT w => tJ R aT w) (fun g w h => aS (K := fun g w => aQ pg bX (aA 1 (aA 4 bU)) Q g w) (Mg Q g w R hr h)) h)
def Ac (kn : K3) (R : K1) (eT : Value) (w : World) : Prop :=
  cC pg pW #[eT] w fun t10 w =>
  aD pg (aN .eql 3 (.tmp 10) (.const (.int .i64 0)) t10 (.int .i64 0)) w fun t11 w =>
  hH t11
    (R (.tuple #[(.slice none 0 0), (.int .i64 1)]) w)
    (aD pg (iJ .len #[22] 3 [eT]) w fun t14 w =>
    aD pg (aN .gtr 3 (.tmp 14) (.const (.int .i64 129)) t14 (.int .i64 129)) w fun t15 w =>
    hH t15
      (R (.tuple #[(.slice none 0 0), (.int .i64 12)]) w)
      (aD pg (iJ .len #[22] 3 [eT]) w fun t17 w =>
      aD pg (aN .sub 3 (.tmp 17) (.const (.int .i64 1)) t17 (.int .i64 1)) w fun t18 w =>
      aD pg (aN .add 3 (.const (.int .i64 127)) (.tmp 19) (.int .i64 127) t18) w fun t20 w =>
      aD pg (jH 3 5 t20) w fun t21 w =>
      aD pg (cQ 22 1 [(0, t21)]) w fun t22 w =>
      kn eT t18 t22 w))
theorem Kj (kn : K3) (R : K1) (hn : ∀ g w, kn (g 0) (g 4) (g 5) w → Q .normal g w) (hr : HR lM R Q) (h : Ac kn R (g 0) w) : aQ pg bX (aC 4 bU) Q g w :=
  aI (l := []) (by kernel_rfl) h hn hr trivial
def zC (R : K1) (eT : Value) (w : World) : Prop :=
  Ac (fun eT rT aT w => rN R eT rT aT w) R eT w
theorem KZ (R : K1) (hr : HR lM R Q) (h : zC R (g 0) w) : aQ pg bX bU Q g w :=
  aL 4 _ g w (by kernel_rfl) (Kj (aX (fun g w => aQ pg bX (aA 4 bU) Q g w) Q) g w (fun eT rT aT w => rN R eT rT aT w) R (fun g w h => aS (K := fun g w => aQ pg bX (aA 4 bU) Q g w) (Ll Q g w R hr h)) hr h)
def MR (a0 : Value) (w : World) (R : K1) : Prop :=
  zC R a0 w
theorem NI {a0 : Value} {w : World} {R : K1} (h : MR a0 w R) : cC pg vW #[a0] w R := by
  refine bQ (ann := bX) (fn := Try.f17) (c := bU) (args := [a0]) (rs := lM) (N := 49) TryM.mixed (by kernel_rfl) Try.func17 (by kernel_rfl) (by kernel_rfl) (by kernel_rfl) (of_decide_eq_true (by kernel_rfl)) (by kernel_rfl) ?_
  exact (KZ (jT pg lM R) (gE [a0]) w R (fun _ _ h => h) h)
def bJ : FA := ⟨DS, fun i => .leaf ([], []) []⟩
def lG : List ResultVar := [.tmp 2, .tmp 3]
noncomputable def bE : Code := fB Try.f19
def Cw (R : K1) (bW : Value) (w : World) : Prop :=
  R (.tuple #[bW, (.int .i64 0)]) w
theorem SA (R : K1) (hr : HR lG R Q) (h : Cw R (g 11) w) : aQ pg bJ (aA 1 (aA 4 (aA 1 (aA 3 bE)))) Q g w :=
  aI (kn := no) (l := []) (by kernel_rfl) h fG hr trivial
def vA (kn : K5) (lQ bW t51 t52 t53 : Value) (w : World) : Prop :=
  aD pg (aN .add 3 (.tmp 53) (.const (.int .i64 1)) t53 (.int .i64 1)) w fun t68 w =>
  kn lQ bW t51 t52 t68 w
theorem Tn (kn : K5) (hn : ∀ g w, kn (g 10) (g 11) (g 51) (g 52) (g 53) w → Q .normal g w) (h : vA kn (g 10) (g 11) (g 51) (g 52) (g 53) w) : aQ pg bJ (aA 1 (aA 2 (bI (bI (aA 1 (aC 1 (aA 4 (aA 1 (aA 3 bE))))))))) Q g w :=
  aI (kr := no) (l := []) (by kernel_rfl) h hn fG trivial
def vF (kn : K5) (lQ bW acQ t51 t52 t53 : Value) (w : World) : Prop :=
  aD pg (jH 3 5 acQ) w fun t65 w =>
  aD pg (cQ 22 1 [(0, t65)]) w fun t66 w =>
  aD pg (iJ .append #[22, 22] 22 [bW, t66]) w fun t67 w =>
  kn lQ t67 t51 t52 t53 w
theorem R6 (kn : K5) (hn : ∀ g w, kn (g 10) (g 11) (g 51) (g 52) (g 53) w → Q .normal g w) (h : vF kn (g 10) (g 11) (g 14) (g 51) (g 52) (g 53) w) : aQ pg bJ (aA 3 (bI (aC 1 (aA 2 (bI (bI (aA 1 (aC 1 (aA 4 (aA 1 (aA 3 bE))))))))))) Q g w :=
  aI (kr := no) (l := []) (by kernel_rfl) h hn fG trivial
def GA (kn : K6) (lQ bW t51 t52 t53 : Value) (w : World) : Prop :=
  aD pg (cD 62 t51 t53) w fun t55 w =>
  aD pg (aW 3 t55) w fun t56 w =>
  aD pg (aN .gtr 3 (.tmp 57) (.const (.int .i64 0)) t56 (.int .i64 0)) w fun t58 w =>
  hH t58
    (aD pg (aN .add 3 (.tmp 59) (.const (.int .i64 1)) lQ (.int .i64 1)) w fun t60 w =>
    aD pg (aN .sub 3 (.tmp 60) (.tmp 61) t60 t56) w fun t62 w =>
    kn lQ bW t62 t51 t52 t53 w)
    (kn lQ bW (.int .i64 0) t51 t52 t53 w)
theorem S6 (kn : K6) (hn : ∀ g w, kn (g 10) (g 11) (g 14) (g 51) (g 52) (g 53) w → Q .normal g w) (h : GA kn (g 10) (g 11) (g 51) (g 52) (g 53) w) : aQ pg bJ (aC 3 (bI (aC 1 (aA 2 (bI (bI (aA 1 (aC 1 (aA 4 (aA 1 (aA 3 bE))))))))))) Q g w :=
  aI (kr := no) (l := []) (by kernel_rfl) h hn fG trivial
def Hi (kn : K5) (lQ bW t51 t52 t53 : Value) (w : World) : Prop :=
  GA (fun lQ bW acQ t51 t52 t53 w => vF kn lQ bW acQ t51 t52 t53 w) lQ bW t51 t52 t53 w
theorem S9 (kn : K5) (hn : ∀ g w, kn (g 10) (g 11) (g 51) (g 52) (g 53) w → Q .normal g w) (h : Hi kn (g 10) (g 11) (g 51) (g 52) (g 53) w) : aQ pg bJ (bI (aC 1 (aA 2 (bI (bI (aA 1 (aC 1 (aA 4 (aA 1 (aA 3 bE)))))))))) Q g w :=
  aL 3 _ g w (by kernel_rfl) (S6 (aX (fun g w => aQ pg bJ (aA 3 (bI (aC 1 (aA 2 (bI (bI (aA 1 (aC 1 (aA 4 (aA 1 (aA 3 bE))))))))))) Q g w) Q) g w (fun lQ bW acQ t51 t52 t53 w => vF kn lQ bW acQ t51 t52 t53 w) (fun g w h => aS (K := fun g w => aQ pg bJ (aA 3 (bI (aC 1 (aA 2 (bI (bI (aA 1 (aC 1 (aA 4 (aA 1 (aA 3 bE))))))))))) Q g w) (R6 Q g w kn hn h)) h)
def G5 (kn : K5) (lQ bW t51 t52 t53 : Value) (w : World) : Prop :=
  Hi kn lQ bW t51 t52 t53 w
theorem SJ (kn : K5) (hn : ∀ g w, kn (g 10) (g 11) (g 51) (g 52) (g 53) w → Q .normal g w) (h : G5 kn (g 10) (g 11) (g 51) (g 52) (g 53) w) : aQ pg bJ (aC 1 (aA 2 (bI (bI (aA 1 (aC 1 (aA 4 (aA 1 (aA 3 bE))))))))) Q g w :=
  cU 3 _ g w (by kernel_rfl) (S9 (rP 3 Q) g w kn hn h)
def Cm (kn : K5) (lQ bW t51 t52 t53 : Value) (w : World) : Prop :=
  G5 (fun lQ bW t51 t52 t53 w => vA kn lQ bW t51 t52 t53 w) lQ bW t51 t52 t53 w
theorem Tv (kn : K5) (hn : ∀ g w, kn (g 10) (g 11) (g 51) (g 52) (g 53) w → Q .normal g w) (h : Cm kn (g 10) (g 11) (g 51) (g 52) (g 53) w) : aQ pg bJ (aA 2 (bI (bI (aA 1 (aC 1 (aA 4 (aA 1 (aA 3 bE)))))))) Q g w :=
  aL 1 _ g w (by kernel_rfl) (SJ (aX (fun g w => aQ pg bJ (aA 1 (aA 2 (bI (bI (aA 1 (aC 1 (aA 4 (aA 1 (aA 3 bE))))))))) Q g w) Q) g w (fun lQ bW t51 t52 t53 w => vA kn lQ bW t51 t52 t53 w) (fun g w h => aS (K := fun g w => aQ pg bJ (aA 1 (aA 2 (bI (bI (aA 1 (aC 1 (aA 4 (aA 1 (aA 3 bE))))))))) Q g w) (Tn Q g w kn hn h)) h)
def Hd (kn : K5) (k2 : K1) (lQ bW t51 t52 t53 : Value) (w : World) : Prop :=
  aD pg (aN .lss 3 (.tmp 53) (.tmp 52) t53 t52) w fun t54 w =>
  hH t54
    (kn lQ bW t51 t52 t53 w)
    (k2 bW w)
theorem SM (kn : K5) (k2 : K1) (hn : ∀ g w, kn (g 10) (g 11) (g 51) (g 52) (g 53) w → Q .normal g w) (h2 : ∀ g w, k2 (g 11) w → Q (.exit 2) g w) (h : Hd kn k2 (g 10) (g 11) (g 51) (g 52) (g 53) w) : aQ pg bJ (aC 2 (bI (bI (aA 1 (aC 1 (aA 4 (aA 1 (aA 3 bE)))))))) Q g w :=
  aI (kr := no) (l := [(2, fun g w => k2 (g 11) w)]) (by kernel_rfl) h hn fG ⟨h2, trivial⟩
def B9 (kn : K5) (k2 : K1) (lQ bW t51 t52 t53 : Value) (w : World) : Prop :=
  Hd (fun lQ bW t51 t52 t53 w => Cm kn lQ bW t51 t52 t53 w) k2 lQ bW t51 t52 t53 w
theorem Sk (kn : K5) (k2 : K1) (hn : ∀ g w, kn (g 10) (g 11) (g 51) (g 52) (g 53) w → Q .normal g w) (h2 : ∀ g w, k2 (g 11) w → Q (.exit 2) g w) (h : B9 kn k2 (g 10) (g 11) (g 51) (g 52) (g 53) w) : aQ pg bJ (bI (bI (aA 1 (aC 1 (aA 4 (aA 1 (aA 3 bE))))))) Q g w :=
  aL 2 _ g w (by kernel_rfl) (SM (aX (fun g w => aQ pg bJ (aA 2 (bI (bI (aA 1 (aC 1 (aA 4 (aA 1 (aA 3 bE)))))))) Q g w) Q) g w (fun lQ bW t51 t52 t53 w => Cm kn lQ bW t51 t52 t53 w) k2 (fun g w h => aS (K := fun g w => aQ pg bJ (aA 2 (bI (bI (aA 1 (aC 1 (aA 4 (aA 1 (aA 3 bE)))))))) Q g w) (Tv Q g w kn hn h)) h2 h)
def EN (k2 : K1) (lQ bW t51 t52 t53 : Value) (w : World) : Prop :=
  cV (fun (X : (Value × Value) → K0) (t : Value × Value) (w : World) => B9 (fun _ bW _ _ t53 w => X (bW, t53) w) k2 lQ t.1 t51 t52 t.2 w) (bW, t53) w
theorem Rz (k2 : K1) (h2 : ∀ g w, k2 (g 11) w → Q (.exit 2) g w) (h : EN k2 (g 10) (g 11) (g 51) (g 52) (g 53) w) : aQ pg bJ (bI (aA 1 (aC 1 (aA 4 (aA 1 (aA 3 bE)))))) Q g w := by
  refine cR (T := Value × Value) (fun g : eL => (g 11, g 53)) (fun X t w => B9 (fun _ bW _ _ t53 w => X (bW, t53) w) k2 (g 10) t.1 (g 51) (g 52) t.2 w) _ (by kernel_rfl) h (fun X g1 w1 ha hL => ?_)
  rw [← aO (s := 10) ha (by kernel_rfl)] at hL
  rw [← aO (s := 51) ha (by kernel_rfl)] at hL
  rw [← aO (s := 52) ha (by kernel_rfl)] at hL
  exact (Sk (aX (fun g2 w2 => X ((fun g : eL => (g 11, g 53)) g2) w2) Q) g1 w1 (fun _ bW _ _ t53 w => X (bW, t53) w) k2 (fun _ _ h => h) h2 hL)
def Ao (kn : K1) (lQ bW t51 t52 t53 : Value) (w : World) : Prop :=
  EN kn lQ bW t51 t52 t53 w
theorem Qm (kn : K1) (hn : ∀ g w, kn (g 11) w → Q .normal g w) (h : Ao kn (g 10) (g 11) (g 51) (g 52) (g 53) w) : aQ pg bJ (aA 1 (aC 1 (aA 4 (aA 1 (aA 3 bE))))) Q g w :=
  cU 2 _ g w (by kernel_rfl) (Rz (rP 2 Q) g w kn hn h)
def E6 (kn : K5) (l_9 lQ bW : Value) (w : World) : Prop :=
  aD pg (iJ .len #[62] 3 [l_9]) w fun t52 w =>
  kn lQ bW l_9 t52 (.int .i64 0) w
theorem Ps (kn : K5) (hn : ∀ g w, kn (g 10) (g 11) (g 51) (g 52) (g 53) w → Q .normal g w) (h : E6 kn (g 9) (g 10) (g 11) w) : aQ pg bJ (aC 1 (aC 1 (aA 4 (aA 1 (aA 3 bE))))) Q g w :=
  aI (kr := no) (l := []) (by kernel_rfl) h hn fG trivial
def EC (kn : K1) (l_9 lQ bW : Value) (w : World) : Prop :=
  E6 (fun lQ bW t51 t52 t53 w => Ao kn lQ bW t51 t52 t53 w) l_9 lQ bW w
theorem RD (kn : K1) (hn : ∀ g w, kn (g 11) w → Q .normal g w) (h : EC kn (g 9) (g 10) (g 11) w) : aQ pg bJ (aC 1 (aA 4 (aA 1 (aA 3 bE)))) Q g w :=
  aL 1 _ g w (by kernel_rfl) (Ps (aX (fun g w => aQ pg bJ (aA 1 (aC 1 (aA 4 (aA 1 (aA 3 bE))))) Q g w) Q) g w (fun lQ bW t51 t52 t53 w => Ao kn lQ bW t51 t52 t53 w) (fun g w h => aS (K := fun g w => aQ pg bJ (aA 1 (aC 1 (aA 4 (aA 1 (aA 3 bE))))) Q g w) (Qm Q g w kn hn h)) h)
def Am (R : K1) (l_9 lQ bW : Value) (w : World) : Prop :=
  EC (fun bW w => Cw R bW w) l_9 lQ bW w
theorem OV (R : K1) (hr : HR lG R Q) (h : Am R (g 9) (g 10) (g 11) w) : aQ pg bJ (aA 4 (aA 1 (aA 3 bE))) Q g w :=
  aL 1 _ g w (by kernel_rfl) (RD (aX (fun g w => aQ pg bJ (aA 1 (aA 4 (aA 1 (aA 3 bE)))) Q g w) Q) g w (fun bW w => Cw R bW w) (fun g w h => aS (K := fun g w => aQ pg bJ (aA 1 (aA 4 (aA 1 (aA 3 bE)))) Q g w) (SA Q g w R hr h)) h)
def Ex (kn : K3) (R : K1) (aM eK t5 gP : Value) (w : World) : Prop :=
  aD pg (iJ .len #[43] 3 [aM]) w fun t33 w =>
  aD pg (aN .gtr 3 (.tmp 33) (.const (.int .i64 256)) t33 (.int .i64 256)) w fun t34 w =>
  Gd (dW t34 false) (fun K => K t5 w) w fun t36 w =>
  Gd (dW t34 false) (fun K => aD pg (aN .lss 3 (.tmp 36) (.const (.int .i64 2)) t36 (.int .i64 2)) w K) w fun t37 w =>
  aD pg (fJ t34 (.bool true) t37) w fun t38 w =>
  Gd (dW t38 false) (fun K => K eK w) w fun t40 w =>
  Gd (dW t38 false) (fun K => aD pg (aN .gtr 44 (.tmp 40) (.const (.int .u64 2147483647)) t40 (.int .u64 2147483647)) w K) w fun t41 w =>
  aD pg (fJ t38 (.bool true) t41) w fun t42 w =>
  hH t42
    (R (.tuple #[(.slice none 0 0), (.int .i64 1)]) w)
    (aD pg (aN .add 3 (.tmp 44) (.const (.int .i64 1)) gP (.int .i64 1)) w fun t45 w =>
    aD pg (jU 43 aM none (some t45) none) w fun t46 w =>
    cC pg rF #[t46, eK] w fun t48 w =>
    cC pg rA #[t48] w fun t50 w =>
    kn t48 t50 (.slice none 0 0) w)
theorem Py (kn : K3) (R : K1) (hn : ∀ g w, kn (g 9) (g 10) (g 11) w → Q .normal g w) (hr : HR lG R Q) (h : Ex kn R (g 0) (g 4) (g 5) (g 6) w) : aQ pg bJ (aC 4 (aA 1 (aA 3 bE))) Q g w :=
  aI (l := []) (by kernel_rfl) h hn hr trivial
def sE (R : K1) (aM eK t5 gP : Value) (w : World) : Prop :=
  Ex (fun l_9 lQ bW w => Am R l_9 lQ bW w) R aM eK t5 gP w
theorem QH (R : K1) (hr : HR lG R Q) (h : sE R (g 0) (g 4) (g 5) (g 6) w) : aQ pg bJ (aA 1 (aA 3 bE)) Q g w :=
  aL 4 _ g w (by kernel_rfl) (Py (aX (fun g w => aQ pg bJ (aA 4 (aA 1 (aA 3 bE))) Q g w) Q) g w (fun l_9 lQ bW w => Am R l_9 lQ bW w) R (fun g w h => aS (K := fun g w => aQ pg bJ (aA 4 (aA 1 (aA 3 bE))) Q g w) (OV Q g w R hr h)) hr h)
def rV (kn : K7) (aM eK t5 gP t15 t16 t17 : Value) (w : World) : Prop :=
  aD pg (aN .add 3 (.tmp 17) (.const (.int .i64 1)) t17 (.int .i64 1)) w fun t31 w =>
  kn aM eK t5 gP t15 t16 t31 w
theorem QQ (kn : K7) (hn : ∀ g w, kn (g 0) (g 4) (g 5) (g 6) (g 15) (g 16) (g 17) w → Q .normal g w) (h : rV kn (g 0) (g 4) (g 5) (g 6) (g 15) (g 16) (g 17) w) : aQ pg bJ (aA 3 (bI (bI (aA 1 (aC 1 (aA 3 bE)))))) Q g w :=
  aI (kr := no) (l := []) (by kernel_rfl) h hn fG trivial
def FJ (kn : K7) (k0 : K4) (aM eK t5 gP t15 t16 t17 : Value) (w : World) : Prop :=
  aD pg (aN .lss 3 (.tmp 17) (.tmp 16) t17 t16) w fun t18 w =>
  hH t18
    (aD pg (cD 43 t15 t17) w fun t20 w =>
    aD pg (aW 45 t20) w fun t21 w =>
    aD pg (jH 45 44 t21) w fun t24 w =>
    aD pg (aN .add 44 (.tmp 22) (.tmp 24) eK t24) w fun t25 w =>
    aD pg (aN .gtr 45 (.tmp 26) (.const (.int .u32 0)) t21 (.int .u32 0)) w fun t27 w =>
    hH t27
      (aD pg (aN .add 3 (.tmp 28) (.const (.int .i64 1)) t5 (.int .i64 1)) w fun t29 w =>
      kn aM t25 t29 t17 t15 t16 t17 w)
      (kn aM t25 t5 gP t15 t16 t17 w))
    (k0 aM eK t5 gP w)
theorem QB (kn : K7) (k0 : K4) (hn : ∀ g w, kn (g 0) (g 4) (g 5) (g 6) (g 15) (g 16) (g 17) w → Q .normal g w) (h0 : ∀ g w, k0 (g 0) (g 4) (g 5) (g 6) w → Q (.exit 0) g w) (h : FJ kn k0 (g 0) (g 4) (g 5) (g 6) (g 15) (g 16) (g 17) w) : aQ pg bJ (aC 3 (bI (bI (aA 1 (aC 1 (aA 3 bE)))))) Q g w :=
  aI (kr := no) (l := [(0, fun g w => k0 (g 0) (g 4) (g 5) (g 6) w)]) (by kernel_rfl) h hn fG ⟨h0, trivial⟩
def AA (kn : K7) (k0 : K4) (aM eK t5 gP t15 t16 t17 : Value) (w : World) : Prop :=
  FJ (fun aM eK t5 gP t15 t16 t17 w => rV kn aM eK t5 gP t15 t16 t17 w) k0 aM eK t5 gP t15 t16 t17 w
theorem P9 (kn : K7) (k0 : K4) (hn : ∀ g w, kn (g 0) (g 4) (g 5) (g 6) (g 15) (g 16) (g 17) w → Q .normal g w) (h0 : ∀ g w, k0 (g 0) (g 4) (g 5) (g 6) w → Q (.exit 0) g w) (h : AA kn k0 (g 0) (g 4) (g 5) (g 6) (g 15) (g 16) (g 17) w) : aQ pg bJ (bI (bI (aA 1 (aC 1 (aA 3 bE))))) Q g w :=
  aL 3 _ g w (by kernel_rfl) (QB (aX (fun g w => aQ pg bJ (aA 3 (bI (bI (aA 1 (aC 1 (aA 3 bE)))))) Q g w) Q) g w (fun aM eK t5 gP t15 t16 t17 w => rV kn aM eK t5 gP t15 t16 t17 w) k0 (fun g w h => aS (K := fun g w => aQ pg bJ (aA 3 (bI (bI (aA 1 (aC 1 (aA 3 bE)))))) Q g w) (QQ Q g w kn hn h)) h0 h)
def Ff (k0 : K4) (aM eK t5 gP t15 t16 t17 : Value) (w : World) : Prop :=
  cV (fun (X : (Value × Value × Value × Value) → K0) (t : Value × Value × Value × Value) (w : World) => AA (fun _ eK t5 gP _ _ t17 w => X (eK, t5, gP, t17) w) k0 aM t.1 t.2.1 t.2.2.1 t15 t16 t.2.2.2 w) (eK, t5, gP, t17) w
theorem Pa (k0 : K4) (h0 : ∀ g w, k0 (g 0) (g 4) (g 5) (g 6) w → Q (.exit 0) g w) (h : Ff k0 (g 0) (g 4) (g 5) (g 6) (g 15) (g 16) (g 17) w) : aQ pg bJ (bI (aA 1 (aC 1 (aA 3 bE)))) Q g w := by
  refine cR (T := Value × Value × Value × Value) (fun g : eL => (g 4, g 5, g 6, g 17)) (fun X t w => AA (fun _ eK t5 gP _ _ t17 w => X (eK, t5, gP, t17) w) k0 (g 0) t.1 t.2.1 t.2.2.1 (g 15) (g 16) t.2.2.2 w) _ (by kernel_rfl) h (fun X g1 w1 ha hL => ?_)
  rw [← aO (s := 0) ha (by kernel_rfl)] at hL
  rw [← aO (s := 15) ha (by kernel_rfl)] at hL
  rw [← aO (s := 16) ha (by kernel_rfl)] at hL
  exact (P9 (aX (fun g2 w2 => X ((fun g : eL => (g 4, g 5, g 6, g 17)) g2) w2) Q) g1 w1 (fun _ eK t5 gP _ _ t17 w => X (eK, t5, gP, t17) w) k0 (fun _ _ h => h) h0 hL)
def AY (kn : K4) (aM eK t5 gP t15 t16 t17 : Value) (w : World) : Prop :=
  Ff kn aM eK t5 gP t15 t16 t17 w
theorem QM (kn : K4) (hn : ∀ g w, kn (g 0) (g 4) (g 5) (g 6) w → Q .normal g w) (h : AY kn (g 0) (g 4) (g 5) (g 6) (g 15) (g 16) (g 17) w) : aQ pg bJ (aA 1 (aC 1 (aA 3 bE))) Q g w :=
  cU 0 _ g w (by kernel_rfl) (Pa (rP 0 Q) g w kn hn h)
def Fv (kn : K7) (aM eK t5 gP : Value) (w : World) : Prop :=
  aD pg (iJ .len #[43] 3 [aM]) w fun t16 w =>
  kn aM eK t5 gP aM t16 (.int .i64 0) w
theorem Pd (kn : K7) (hn : ∀ g w, kn (g 0) (g 4) (g 5) (g 6) (g 15) (g 16) (g 17) w → Q .normal g w) (h : Fv kn (g 0) (g 4) (g 5) (g 6) w) : aQ pg bJ (aC 1 (aC 1 (aA 3 bE))) Q g w :=
  aI (kr := no) (l := []) (by kernel_rfl) h hn fG trivial
def FE (kn : K4) (aM eK t5 gP : Value) (w : World) : Prop :=
  Fv (fun aM eK t5 gP t15 t16 t17 w => AY kn aM eK t5 gP t15 t16 t17 w) aM eK t5 gP w
theorem P7 (kn : K4) (hn : ∀ g w, kn (g 0) (g 4) (g 5) (g 6) w → Q .normal g w) (h : FE kn (g 0) (g 4) (g 5) (g 6) w) : aQ pg bJ (aC 1 (aA 3 bE)) Q g w :=
  aL 1 _ g w (by kernel_rfl) (Pd (aX (fun g w => aQ pg bJ (aA 1 (aC 1 (aA 3 bE))) Q g w) Q) g w (fun aM eK t5 gP t15 t16 t17 w => AY kn aM eK t5 gP t15 t16 t17 w) (fun g w h => aS (K := fun g w => aQ pg bJ (aA 1 (aC 1 (aA 3 bE))) Q g w) (QM Q g w kn hn h)) h)
def sS (R : K1) (aM eK t5 gP : Value) (w : World) : Prop :=
  FE (fun aM eK t5 gP w => sE R aM eK t5 gP w) aM eK t5 gP w
theorem Rc (R : K1) (hr : HR lG R Q) (h : sS R (g 0) (g 4) (g 5) (g 6) w) : aQ pg bJ (aA 3 bE) Q g w :=
  aL 1 _ g w (by kernel_rfl) (P7 (aX (fun g w => aQ pg bJ (aA 1 (aA 3 bE)) Q g w) Q) g w (fun aM eK t5 gP w => sE R aM eK t5 gP w) (fun g w h => aS (K := fun g w => aQ pg bJ (aA 1 (aA 3 bE)) Q g w) (QH Q g w R hr h)) h)
def E8 (kn : K4) (aM : Value) (w : World) : Prop :=
  kn aM (.int .u64 0) (.int .i64 0) (.int .i64 0) w
theorem PJ (kn : K4) (hn : ∀ g w, kn (g 0) (g 4) (g 5) (g 6) w → Q .normal g w) (h : E8 kn (g 0) w) : aQ pg bJ (aC 3 bE) Q g w :=
  aI (kr := no) (l := []) (by kernel_rfl) h hn fG trivial
def EJ (R : K1) (aM : Value) (w : World) : Prop :=
  E8 (fun aM eK t5 gP w => sS R aM eK t5 gP w) aM w
theorem PX (R : K1) (hr : HR lG R Q) (h : EJ R (g 0) w) : aQ pg bJ bE Q g w :=
  aL 3 _ g w (by kernel_rfl) (PJ (aX (fun g w => aQ pg bJ (aA 3 bE) Q g w) Q) g w (fun aM eK t5 gP w => sS R aM eK t5 gP w) (fun g w h => aS (K := fun g w => aQ pg bJ (aA 3 bE) Q g w) (Rc Q g w R hr h)) h)
def Wa (a0 : Value) (w : World) (R : K1) : Prop :=
  EJ R a0 w
theorem Uk {a0 : Value} {w : World} {R : K1} (h : Wa a0 w R) : cC pg DS #[a0] w R := by
  refine bQ (ann := bJ) (fn := Try.f19) (c := bE) (args := [a0]) (rs := lG) (N := 70) TryM.mixed (by kernel_rfl) Try.func19 (by kernel_rfl) (by kernel_rfl) (by kernel_rfl) (of_decide_eq_true (by kernel_rfl)) (by kernel_rfl) ?_
  exact (PX (jT pg lG R) (gE [a0]) w R (fun _ _ h => h) h)
def dB : FA := ⟨qA, fun i => .leaf ([], []) []⟩
def iD : List ResultVar := [.tmp 2, .tmp 3]
noncomputable def cT : Code := fB Try.f21
def tF (R : K1) (eK : Value) (w : World) : Prop :=
  R (.tuple #[eK, (.bool true)]) w
theorem Mk (R : K1) (hr : HR iD R Q) (h : tF R (g 4) w) : aQ pg dB (aA 1 (aA 2 cT)) Q g w :=
  aI (kn := no) (l := []) (by kernel_rfl) h fG hr trivial
def tG (kn : K4) (eK t7 t8 t9 : Value) (w : World) : Prop :=
  aD pg (aN .add 3 (.tmp 9) (.const (.int .i64 1)) t9 (.int .i64 1)) w fun t22 w =>
  kn eK t7 t8 t22 w
theorem MF (kn : K4) (hn : ∀ g w, kn (g 4) (g 7) (g 8) (g 9) w → Q .normal g w) (h : tG kn (g 4) (g 7) (g 8) (g 9) w) : aQ pg dB (aA 3 (bI (bI (aA 1 (aC 1 (aA 2 cT)))))) Q g w :=
  aI (kr := no) (l := []) (by kernel_rfl) h hn fG trivial
def BN (kn : K4) (k0 : K1) (R : K1) (eK t7 t8 t9 : Value) (w : World) : Prop :=
  aD pg (aN .lss 3 (.tmp 9) (.tmp 8) t9 t8) w fun t10 w =>
  hH t10
    (aD pg (cD 22 t7 t9) w fun t11 w =>
    aD pg (aW 5 t11) w fun t12 w =>
    aD pg (aN .gtr 5 (.tmp 13) (.const (.int .u8 11)) t12 (.int .u8 11)) w fun t14 w =>
    hH t14
      (R (.tuple #[(.int .i64 0), (.bool false)]) w)
      (aD pg (aN .gtr 5 (.tmp 15) (.const (.int .u8 0)) t12 (.int .u8 0)) w fun t16 w =>
      hH t16
        (aD pg (aN .sub 5 (.tmp 18) (.const (.int .u8 1)) t12 (.int .u8 1)) w fun t19 w =>
        aD pg (aN .shl 3 (.const (.int .i64 1)) (.tmp 19) (.int .i64 1) t19) w fun t20 w =>
        aD pg (aN .add 3 (.tmp 17) (.tmp 20) eK t20) w fun t21 w =>
        kn t21 t7 t8 t9 w)
        (kn eK t7 t8 t9 w)))
    (k0 eK w)
theorem L9 (kn : K4) (k0 : K1) (R : K1) (hn : ∀ g w, kn (g 4) (g 7) (g 8) (g 9) w → Q .normal g w) (h0 : ∀ g w, k0 (g 4) w → Q (.exit 0) g w) (hr : HR iD R Q) (h : BN kn k0 R (g 4) (g 7) (g 8) (g 9) w) : aQ pg dB (aC 3 (bI (bI (aA 1 (aC 1 (aA 2 cT)))))) Q g w :=
  aI (l := [(0, fun g w => k0 (g 4) w)]) (by kernel_rfl) h hn hr ⟨h0, trivial⟩
def tH (kn : K4) (k0 : K1) (R : K1) (eK t7 t8 t9 : Value) (w : World) : Prop :=
  BN (fun eK t7 t8 t9 w => tG kn eK t7 t8 t9 w) k0 R eK t7 t8 t9 w
theorem Me (kn : K4) (k0 : K1) (R : K1) (hn : ∀ g w, kn (g 4) (g 7) (g 8) (g 9) w → Q .normal g w) (h0 : ∀ g w, k0 (g 4) w → Q (.exit 0) g w) (hr : HR iD R Q) (h : tH kn k0 R (g 4) (g 7) (g 8) (g 9) w) : aQ pg dB (bI (bI (aA 1 (aC 1 (aA 2 cT))))) Q g w :=
  aL 3 _ g w (by kernel_rfl) (L9 (aX (fun g w => aQ pg dB (aA 3 (bI (bI (aA 1 (aC 1 (aA 2 cT)))))) Q g w) Q) g w (fun eK t7 t8 t9 w => tG kn eK t7 t8 t9 w) k0 R (fun g w h => aS (K := fun g w => aQ pg dB (aA 3 (bI (bI (aA 1 (aC 1 (aA 2 cT)))))) Q g w) (MF Q g w kn hn h)) h0 hr h)
def BE (k0 : K1) (R : K1) (eK t7 t8 t9 : Value) (w : World) : Prop :=
  cV (fun (X : (Value × Value) → K0) (t : Value × Value) (w : World) => tH (fun eK _ _ t9 w => X (eK, t9) w) k0 R t.1 t7 t8 t.2 w) (eK, t9) w
theorem MB (k0 : K1) (R : K1) (h0 : ∀ g w, k0 (g 4) w → Q (.exit 0) g w) (hr : HR iD R Q) (h : BE k0 R (g 4) (g 7) (g 8) (g 9) w) : aQ pg dB (bI (aA 1 (aC 1 (aA 2 cT)))) Q g w := by
  refine cR (T := Value × Value) (fun g : eL => (g 4, g 9)) (fun X t w => tH (fun eK _ _ t9 w => X (eK, t9) w) k0 R t.1 (g 7) (g 8) t.2 w) _ (by kernel_rfl) h (fun X g1 w1 ha hL => ?_)
  rw [← aO (s := 7) ha (by kernel_rfl)] at hL
  rw [← aO (s := 8) ha (by kernel_rfl)] at hL
  exact (Me (aX (fun g2 w2 => X ((fun g : eL => (g 4, g 9)) g2) w2) Q) g1 w1 (fun eK _ _ t9 w => X (eK, t9) w) k0 R (fun _ _ h => h) h0 hr hL)
def tE (kn : K1) (R : K1) (eK t7 t8 t9 : Value) (w : World) : Prop :=
  BE kn R eK t7 t8 t9 w
theorem L3 (kn : K1) (R : K1) (hn : ∀ g w, kn (g 4) w → Q .normal g w) (hr : HR iD R Q) (h : tE kn R (g 4) (g 7) (g 8) (g 9) w) : aQ pg dB (aA 1 (aC 1 (aA 2 cT))) Q g w :=
  cU 0 _ g w (by kernel_rfl) (MB (rP 0 Q) g w kn R hn hr h)
def BT (kn : K4) (eT eK : Value) (w : World) : Prop :=
  aD pg (iJ .len #[22] 3 [eT]) w fun t8 w =>
  kn eK eT t8 (.int .i64 0) w
theorem L8 (kn : K4) (hn : ∀ g w, kn (g 4) (g 7) (g 8) (g 9) w → Q .normal g w) (h : BT kn (g 0) (g 4) w) : aQ pg dB (aC 1 (aC 1 (aA 2 cT))) Q g w :=
  aI (kr := no) (l := []) (by kernel_rfl) h hn fG trivial
def BG (kn : K1) (R : K1) (eT eK : Value) (w : World) : Prop :=
  BT (fun eK t7 t8 t9 w => tE kn R eK t7 t8 t9 w) eT eK w
theorem LY (kn : K1) (R : K1) (hn : ∀ g w, kn (g 4) w → Q .normal g w) (hr : HR iD R Q) (h : BG kn R (g 0) (g 4) w) : aQ pg dB (aC 1 (aA 2 cT)) Q g w :=
  aL 1 _ g w (by kernel_rfl) (L8 (aX (fun g w => aQ pg dB (aA 1 (aC 1 (aA 2 cT))) Q g w) Q) g w (fun eK t7 t8 t9 w => tE kn R eK t7 t8 t9 w) (fun g w h => aS (K := fun g w => aQ pg dB (aA 1 (aC 1 (aA 2 cT))) Q g w) (L3 Q g w kn R hn hr h)) h)
def tQ (R : K1) (eT eK : Value) (w : World) : Prop :=
  BG (fun eK w => tF R eK w) R eT eK w
theorem Mz (R : K1) (hr : HR iD R Q) (h : tQ R (g 0) (g 4) w) : aQ pg dB (aA 2 cT) Q g w :=
  aL 1 _ g w (by kernel_rfl) (LY (aX (fun g w => aQ pg dB (aA 1 (aA 2 cT)) Q g w) Q) g w (fun eK w => tF R eK w) R (fun g w h => aS (K := fun g w => aQ pg dB (aA 1 (aA 2 cT)) Q g w) (Mk Q g w R hr h)) hr h)
def A4 (kn : K2) (eT : Value) (w : World) : Prop :=
  kn eT (.int .i64 0) w
theorem KW (kn : K2) (hn : ∀ g w, kn (g 0) (g 4) w → Q .normal g w) (h : A4 kn (g 0) w) : aQ pg dB (aC 2 cT) Q g w :=
  aI (kr := no) (l := []) (by kernel_rfl) h hn fG trivial
def Bf (R : K1) (eT : Value) (w : World) : Prop :=
  A4 (fun eT eK w => tQ R eT eK w) eT w
theorem Ky (R : K1) (hr : HR iD R Q) (h : Bf R (g 0) w) : aQ pg dB cT Q g w :=
  aL 2 _ g w (by kernel_rfl) (KW (aX (fun g w => aQ pg dB (aA 2 cT) Q g w) Q) g w (fun eT eK w => tQ R eT eK w) (fun g w h => aS (K := fun g w => aQ pg dB (aA 2 cT) Q g w) (Mz Q g w R hr h)) h)
def MJ (a0 : Value) (w : World) (R : K1) : Prop :=
  Bf R a0 w
theorem Oa {a0 : Value} {w : World} {R : K1} (h : MJ a0 w R) : cC pg qA #[a0] w R := by
  refine bQ (ann := dB) (fn := Try.f21) (c := cT) (args := [a0]) (rs := iD) (N := 24) TryM.mixed (by kernel_rfl) Try.func21 (by kernel_rfl) (by kernel_rfl) (by kernel_rfl) (of_decide_eq_true (by kernel_rfl)) (by kernel_rfl) ?_
  exact (Ky (jT pg iD R) (gE [a0]) w R (fun _ _ h => h) h)
def F4 : FA := ⟨kC, fun i => .leaf ([], []) []⟩
def BD : List ResultVar := [.tmp 2]
noncomputable def Ev : Code := fB Try.f22
def BW (R : K1) (hY : Value) (w : World) : Prop :=
  hH (.bool false)
    (aD pg (jH 49 45 hY) w fun t4 w =>
    cC pg Qx #[t4] w fun t5 w =>
    R t5 w)
    (cC pg mX #[hY] w fun t7 w =>
    R t7 w)
theorem Mu (R : K1) (hr : HR BD R Q) (h : BW R (g 0) w) : aQ pg F4 Ev Q g w :=
  aI (kn := no) (l := []) (by kernel_rfl) h fG hr trivial
def ML (a0 : Value) (w : World) (R : K1) : Prop :=
  BW R a0 w
theorem Nt {a0 : Value} {w : World} {R : K1} (h : ML a0 w R) : cC pg kC #[a0] w R := by
  refine bQ (ann := F4) (fn := Try.f22) (c := Ev) (args := [a0]) (rs := BD) (N := 8) TryM.mixed (by kernel_rfl) Try.func22 (by kernel_rfl) (by kernel_rfl) (by kernel_rfl) (of_decide_eq_true (by kernel_rfl)) (by kernel_rfl) ?_
  exact (Mu (jT pg BD R) (gE [a0]) w R (fun _ _ h => h) h)
def Bo : FA := ⟨jY, fun i => .leaf ([], []) []⟩
def sV : List ResultVar := [.tmp 2]
noncomputable def Au : Code := fB Try.f23
def rW (R : K1) (uU : Value) (w : World) : Prop :=
  aD pg (aN .eql 22 (.tmp 3) (.const (.slice none 0 0)) uU (.slice none 0 0)) w fun t4 w =>
  hH t4
    (R (.slice none 0 0) w)
    (aD pg (cQ 22 0 []) w fun t5 w =>
    aD pg (iJ .append #[22, 22] 22 [t5, uU]) w fun t7 w =>
    R t7 w)
theorem Hx (R : K1) (hr : HR sV R Q) (h : rW R (g 0) w) : aQ pg Bo Au Q g w :=
  aI (kn := no) (l := []) (by kernel_rfl) h fG hr trivial
def Gg (a0 : Value) (w : World) (R : K1) : Prop :=
  rW R a0 w
theorem Iw {a0 : Value} {w : World} {R : K1} (h : Gg a0 w R) : cC pg jY #[a0] w R := by
  refine bQ (ann := Bo) (fn := Try.f23) (c := Au) (args := [a0]) (rs := sV) (N := 8) TryM.mixed (by kernel_rfl) Try.func23 (by kernel_rfl) (by kernel_rfl) (by kernel_rfl) (of_decide_eq_true (by kernel_rfl)) (by kernel_rfl) ?_
  exact (Hx (jT pg sV R) (gE [a0]) w R (fun _ _ h => h) h)
def eC : FA := ⟨Cd, fun i => .leaf ([], []) []⟩
def jF : List ResultVar := [.tmp 2]
noncomputable def dP : Code := fB Try.f24
def zF (R : K1) (dH : Value) (w : World) : Prop :=
  R dH w
theorem PP (R : K1) (hr : HR jF R Q) (h : zF R (g 3) w) : aQ pg eC (aA 1 (aA 2 dP)) Q g w :=
  aI (kn := no) (l := []) (by kernel_rfl) h fG hr trivial
def zM (kn : K3) (eT dH fQ : Value) (w : World) : Prop :=
  aD pg (aN .add 3 (.tmp 9) (.const (.int .i64 1)) fQ (.int .i64 1)) w fun t10 w =>
  kn eT dH t10 w
theorem Q6 (kn : K3) (hn : ∀ g w, kn (g 0) (g 3) (g 4) w → Q .normal g w) (h : zM kn (g 0) (g 3) (g 4) w) : aQ pg eC (aA 2 (bI (bI (aA 1 (aC 1 (aA 2 dP)))))) Q g w :=
  aI (kr := no) (l := []) (by kernel_rfl) h hn fG trivial
def Fr (kn : K3) (k0 : K1) (R : K1) (eT dH fQ : Value) (w : World) : Prop :=
  aD pg (iJ .len #[9] 3 [eT]) w fun t7 w =>
  aD pg (aN .lss 3 (.tmp 5) (.tmp 7) fQ t7) w fun t8 w =>
  hH t8
    (aD pg (Oc 9 eT fQ) w fun t13 w =>
    aD pg (aN .gtr 5 (.tmp 13) (.const (.int .u8 11)) t13 (.int .u8 11)) w fun t14 w =>
    hH t14
      (R (.int .i64 (-1)) w)
      (aD pg (Oc 9 eT fQ) w fun t17 w =>
      aD pg (aN .gtr 5 (.tmp 17) (.const (.int .u8 0)) t17 (.int .u8 0)) w fun t18 w =>
      hH t18
        (aD pg (Oc 9 eT fQ) w fun t22 w =>
        aD pg (jH 5 3 t22) w fun t23 w =>
        aD pg (aN .sub 3 (.tmp 23) (.const (.int .i64 1)) t23 (.int .i64 1)) w fun t24 w =>
        cC pg iE #[t24] w fun t25 w =>
        aD pg (aN .add 3 (.tmp 19) (.tmp 25) dH t25) w fun t26 w =>
        kn eT t26 fQ w)
        (kn eT dH fQ w)))
    (k0 dH w)
theorem QV (kn : K3) (k0 : K1) (R : K1) (hn : ∀ g w, kn (g 0) (g 3) (g 4) w → Q .normal g w) (h0 : ∀ g w, k0 (g 3) w → Q (.exit 0) g w) (hr : HR jF R Q) (h : Fr kn k0 R (g 0) (g 3) (g 4) w) : aQ pg eC (aC 2 (bI (bI (aA 1 (aC 1 (aA 2 dP)))))) Q g w :=
  aI (l := [(0, fun g w => k0 (g 3) w)]) (by kernel_rfl) h hn hr ⟨h0, trivial⟩
def An (kn : K3) (k0 : K1) (R : K1) (eT dH fQ : Value) (w : World) : Prop :=
  Fr (fun eT dH fQ w => zM kn eT dH fQ w) k0 R eT dH fQ w
theorem P6 (kn : K3) (k0 : K1) (R : K1) (hn : ∀ g w, kn (g 0) (g 3) (g 4) w → Q .normal g w) (h0 : ∀ g w, k0 (g 3) w → Q (.exit 0) g w) (hr : HR jF R Q) (h : An kn k0 R (g 0) (g 3) (g 4) w) : aQ pg eC (bI (bI (aA 1 (aC 1 (aA 2 dP))))) Q g w :=
  aL 2 _ g w (by kernel_rfl) (QV (aX (fun g w => aQ pg eC (aA 2 (bI (bI (aA 1 (aC 1 (aA 2 dP)))))) Q g w) Q) g w (fun eT dH fQ w => zM kn eT dH fQ w) k0 R (fun g w h => aS (K := fun g w => aQ pg eC (aA 2 (bI (bI (aA 1 (aC 1 (aA 2 dP)))))) Q g w) (Q6 Q g w kn hn h)) h0 hr h)
def Fa (k0 : K1) (R : K1) (eT dH fQ : Value) (w : World) : Prop :=
  cV (fun (X : (Value × Value) → K0) (t : Value × Value) (w : World) => An (fun _ dH fQ w => X (dH, fQ) w) k0 R eT t.1 t.2 w) (dH, fQ) w
theorem Rm (k0 : K1) (R : K1) (h0 : ∀ g w, k0 (g 3) w → Q (.exit 0) g w) (hr : HR jF R Q) (h : Fa k0 R (g 0) (g 3) (g 4) w) : aQ pg eC (bI (aA 1 (aC 1 (aA 2 dP)))) Q g w := by
  refine cR (T := Value × Value) (fun g : eL => (g 3, g 4)) (fun X t w => An (fun _ dH fQ w => X (dH, fQ) w) k0 R (g 0) t.1 t.2 w) _ (by kernel_rfl) h (fun X g1 w1 ha hL => ?_)
  rw [← aO (s := 0) ha (by kernel_rfl)] at hL
  exact (P6 (aX (fun g2 w2 => X ((fun g : eL => (g 3, g 4)) g2) w2) Q) g1 w1 (fun _ dH fQ w => X (dH, fQ) w) k0 R (fun _ _ h => h) h0 hr hL)
def AW (kn : K1) (R : K1) (eT dH fQ : Value) (w : World) : Prop :=
  Fa kn R eT dH fQ w
theorem PH (kn : K1) (R : K1) (hn : ∀ g w, kn (g 3) w → Q .normal g w) (hr : HR jF R Q) (h : AW kn R (g 0) (g 3) (g 4) w) : aQ pg eC (aA 1 (aC 1 (aA 2 dP))) Q g w :=
  cU 0 _ g w (by kernel_rfl) (Rm (rP 0 Q) g w kn R hn hr h)
def EZ (kn : K3) (eT dH : Value) (w : World) : Prop :=
  kn eT dH (.int .i64 0) w
theorem QX (kn : K3) (hn : ∀ g w, kn (g 0) (g 3) (g 4) w → Q .normal g w) (h : EZ kn (g 0) (g 3) w) : aQ pg eC (aC 1 (aC 1 (aA 2 dP))) Q g w :=
  aI (kr := no) (l := []) (by kernel_rfl) h hn fG trivial
def FM (kn : K1) (R : K1) (eT dH : Value) (w : World) : Prop :=
  EZ (fun eT dH fQ w => AW kn R eT dH fQ w) eT dH w
theorem Qj (kn : K1) (R : K1) (hn : ∀ g w, kn (g 3) w → Q .normal g w) (hr : HR jF R Q) (h : FM kn R (g 0) (g 3) w) : aQ pg eC (aC 1 (aA 2 dP)) Q g w :=
  aL 1 _ g w (by kernel_rfl) (QX (aX (fun g w => aQ pg eC (aA 1 (aC 1 (aA 2 dP))) Q g w) Q) g w (fun eT dH fQ w => AW kn R eT dH fQ w) (fun g w h => aS (K := fun g w => aQ pg eC (aA 1 (aC 1 (aA 2 dP))) Q g w) (PH Q g w kn R hn hr h)) h)
def zT (R : K1) (eT dH : Value) (w : World) : Prop :=
  FM (fun dH w => zF R dH w) R eT dH w
theorem Qb (R : K1) (hr : HR jF R Q) (h : zT R (g 0) (g 3) w) : aQ pg eC (aA 2 dP) Q g w :=
  aL 1 _ g w (by kernel_rfl) (Qj (aX (fun g w => aQ pg eC (aA 1 (aA 2 dP)) Q g w) Q) g w (fun dH w => zF R dH w) R (fun g w h => aS (K := fun g w => aQ pg eC (aA 1 (aA 2 dP)) Q g w) (PP Q g w R hr h)) hr h)
def Dm (kn : K2) (eT : Value) (w : World) : Prop :=
  kn eT (.int .i64 0) w
theorem Oz (kn : K2) (hn : ∀ g w, kn (g 0) (g 3) w → Q .normal g w) (h : Dm kn (g 0) w) : aQ pg eC (aC 2 dP) Q g w :=
  aI (kr := no) (l := []) (by kernel_rfl) h hn fG trivial
def CU (R : K1) (eT : Value) (w : World) : Prop :=
  Dm (fun eT dH w => zT R eT dH w) eT w
theorem M8 (R : K1) (hr : HR jF R Q) (h : CU R (g 0) w) : aQ pg eC dP Q g w :=
  aL 2 _ g w (by kernel_rfl) (Oz (aX (fun g w => aQ pg eC (aA 2 dP) Q g w) Q) g w (fun eT dH w => zT R eT dH w) (fun g w h => aS (K := fun g w => aQ pg eC (aA 2 dP) Q g w) (Qb Q g w R hr h)) h)
def Ud (a0 : Value) (w : World) (R : K1) : Prop :=
  CU R a0 w
theorem Tp {a0 : Value} {w : World} {R : K1} (h : Ud a0 w R) : cC pg Cd #[a0] w R := by
  refine bQ (ann := eC) (fn := Try.f24) (c := dP) (args := [a0]) (rs := jF) (N := 28) TryM.mixed (by kernel_rfl) Try.func24 (by kernel_rfl) (by kernel_rfl) (by kernel_rfl) (of_decide_eq_true (by kernel_rfl)) (by kernel_rfl) ?_
  exact (M8 (jT pg jF R) (gE [a0]) w R (fun _ _ h => h) h)
def fD : FA := ⟨iE, fun i => .leaf ([], []) []⟩
def sK : List ResultVar := [.tmp 2]
noncomputable def eZ : Code := fB Try.f25
def A8 (R : K1) (rS : Value) (w : World) : Prop :=
  R rS w
theorem Qo (R : K1) (hr : HR sK R Q) (h : A8 R (g 3) w) : aQ pg fD (aA 1 (aA 2 eZ)) Q g w :=
  aI (kn := no) (l := []) (by kernel_rfl) h fG hr trivial
def rY (kn : K3) (k0 : K1) (Vj rS fQ : Value) (w : World) : Prop :=
  aD pg (aN .lss 3 (.tmp 5) (.tmp 6) fQ Vj) w fun t7 w =>
  Gd (dW t7 true) (fun K => K fQ w) w fun t9 w =>
  Gd (dW t7 true) (fun K => aD pg (aN .lss 3 (.tmp 9) (.const (.int .i64 40)) t9 (.int .i64 40)) w K) w fun t10 w =>
  aD pg (fJ t7 t10 (.bool false)) w fun t11 w =>
  hH t11
    (aD pg (aN .mul 3 (.tmp 14) (.const (.int .i64 2)) rS (.int .i64 2)) w fun t15 w =>
    aD pg (aN .add 3 (.tmp 12) (.const (.int .i64 1)) fQ (.int .i64 1)) w fun t13 w =>
    kn Vj t15 t13 w)
    (k0 rS w)
theorem Qz (kn : K3) (k0 : K1) (hn : ∀ g w, kn (g 0) (g 3) (g 4) w → Q .normal g w) (h0 : ∀ g w, k0 (g 3) w → Q (.exit 0) g w) (h : rY kn k0 (g 0) (g 3) (g 4) w) : aQ pg fD (bI (bI (aA 1 (aC 1 (aA 2 eZ))))) Q g w :=
  aI (kr := no) (l := [(0, fun g w => k0 (g 3) w)]) (by kernel_rfl) h hn fG ⟨h0, trivial⟩
def ER (k0 : K1) (Vj rS fQ : Value) (w : World) : Prop :=
  cV (fun (X : (Value × Value) → K0) (t : Value × Value) (w : World) => rY (fun _ rS fQ w => X (rS, fQ) w) k0 Vj t.1 t.2 w) (rS, fQ) w
theorem QN (k0 : K1) (h0 : ∀ g w, k0 (g 3) w → Q (.exit 0) g w) (h : ER k0 (g 0) (g 3) (g 4) w) : aQ pg fD (bI (aA 1 (aC 1 (aA 2 eZ)))) Q g w := by
  refine cR (T := Value × Value) (fun g : eL => (g 3, g 4)) (fun X t w => rY (fun _ rS fQ w => X (rS, fQ) w) k0 (g 0) t.1 t.2 w) _ (by kernel_rfl) h (fun X g1 w1 ha hL => ?_)
  rw [← aO (s := 0) ha (by kernel_rfl)] at hL
  exact (Qz (aX (fun g2 w2 => X ((fun g : eL => (g 3, g 4)) g2) w2) Q) g1 w1 (fun _ rS fQ w => X (rS, fQ) w) k0 (fun _ _ h => h) h0 hL)
def As (kn : K1) (Vj rS fQ : Value) (w : World) : Prop :=
  ER kn Vj rS fQ w
theorem Pn (kn : K1) (hn : ∀ g w, kn (g 3) w → Q .normal g w) (h : As kn (g 0) (g 3) (g 4) w) : aQ pg fD (aA 1 (aC 1 (aA 2 eZ))) Q g w :=
  cU 0 _ g w (by kernel_rfl) (QN (rP 0 Q) g w kn hn h)
def EV (kn : K3) (Vj rS : Value) (w : World) : Prop :=
  kn Vj rS (.int .i64 0) w
theorem OY (kn : K3) (hn : ∀ g w, kn (g 0) (g 3) (g 4) w → Q .normal g w) (h : EV kn (g 0) (g 3) w) : aQ pg fD (aC 1 (aC 1 (aA 2 eZ))) Q g w :=
  aI (kr := no) (l := []) (by kernel_rfl) h hn fG trivial
def ED (kn : K1) (Vj rS : Value) (w : World) : Prop :=
  EV (fun Vj rS fQ w => As kn Vj rS fQ w) Vj rS w
theorem RE (kn : K1) (hn : ∀ g w, kn (g 3) w → Q .normal g w) (h : ED kn (g 0) (g 3) w) : aQ pg fD (aC 1 (aA 2 eZ)) Q g w :=
  aL 1 _ g w (by kernel_rfl) (OY (aX (fun g w => aQ pg fD (aA 1 (aC 1 (aA 2 eZ))) Q g w) Q) g w (fun Vj rS fQ w => As kn Vj rS fQ w) (fun g w h => aS (K := fun g w => aQ pg fD (aA 1 (aC 1 (aA 2 eZ))) Q g w) (Pn Q g w kn hn h)) h)
def Ab (R : K1) (Vj rS : Value) (w : World) : Prop :=
  ED (fun rS w => A8 R rS w) Vj rS w
theorem Pw (R : K1) (hr : HR sK R Q) (h : Ab R (g 0) (g 3) w) : aQ pg fD (aA 2 eZ) Q g w :=
  aL 1 _ g w (by kernel_rfl) (RE (aX (fun g w => aQ pg fD (aA 1 (aA 2 eZ)) Q g w) Q) g w (fun rS w => A8 R rS w) (fun g w h => aS (K := fun g w => aQ pg fD (aA 1 (aA 2 eZ)) Q g w) (Qo Q g w R hr h)) h)
def FC (kn : K2) (Vj : Value) (w : World) : Prop :=
  kn Vj (.int .i64 1) w
theorem Qv (kn : K2) (hn : ∀ g w, kn (g 0) (g 3) w → Q .normal g w) (h : FC kn (g 0) w) : aQ pg fD (aC 2 eZ) Q g w :=
  aI (kr := no) (l := []) (by kernel_rfl) h hn fG trivial
def Fh (R : K1) (Vj : Value) (w : World) : Prop :=
  FC (fun Vj rS w => Ab R Vj rS w) Vj w
theorem PM (R : K1) (hr : HR sK R Q) (h : Fh R (g 0) w) : aQ pg fD eZ Q g w :=
  aL 2 _ g w (by kernel_rfl) (Qv (aX (fun g w => aQ pg fD (aA 2 eZ) Q g w) Q) g w (fun Vj rS w => Ab R Vj rS w) (fun g w h => aS (K := fun g w => aQ pg fD (aA 2 eZ) Q g w) (Pw Q g w R hr h)) h)
def TH (a0 : Value) (w : World) (R : K1) : Prop :=
  Fh R a0 w
theorem Se {a0 : Value} {w : World} {R : K1} (h : TH a0 w R) : cC pg iE #[a0] w R := by
  refine bQ (ann := fD) (fn := Try.f25) (c := eZ) (args := [a0]) (rs := sK) (N := 17) TryM.mixed (by kernel_rfl) Try.func25 (by kernel_rfl) (by kernel_rfl) (by kernel_rfl) (of_decide_eq_true (by kernel_rfl)) (by kernel_rfl) ?_
  exact (PM (jT pg sK R) (gE [a0]) w R (fun _ _ h => h) h)
def gB : FA := ⟨Ge, fun i => .leaf ([], []) []⟩
def lE : List ResultVar := [.tmp 2]
noncomputable def fO : Code := fB Try.f26
def DM (R : K1)  (w : World) : Prop :=
  R (.int .i64 (-1)) w
theorem Uo (R : K1) (hr : HR lE R Q) (h : DM R w) : aQ pg gB (aA 1 (aA 1 fO)) Q g w :=
  aI (kn := no) (l := []) (by kernel_rfl) h fG hr trivial
def DQ (kn : K2) (k0 : K0) (R : K1) (hY XX : Value) (w : World) : Prop :=
  aD pg (aN .lss 3 (.tmp 4) (.const (.int .i64 20)) XX (.int .i64 20)) w fun t5 w =>
  hH t5
    (cC pg iE #[XX] w fun t9 w =>
    aD pg (aN .eql 3 (.tmp 9) (.tmp 10) t9 hY) w fun t11 w =>
    hH t11
      (R XX w)
      (aD pg (aN .add 3 (.tmp 6) (.const (.int .i64 1)) XX (.int .i64 1)) w fun t7 w =>
      kn hY t7 w))
    (k0 w)
theorem Vf (kn : K2) (k0 : K0) (R : K1) (hn : ∀ g w, kn (g 0) (g 3) w → Q .normal g w) (h0 : ∀ g w, k0 w → Q (.exit 0) g w) (hr : HR lE R Q) (h : DQ kn k0 R (g 0) (g 3) w) : aQ pg gB (bI (bI (aA 1 (aC 1 (aA 1 fO))))) Q g w :=
  aI (l := [(0, fun g w => k0 w)]) (by kernel_rfl) h hn hr ⟨h0, trivial⟩
def IH (k0 : K0) (R : K1) (hY XX : Value) (w : World) : Prop :=
  cV (fun (X : Value → K0) (t : Value) (w : World) => DQ (fun _ XX w => X XX w) k0 R hY t w) XX w
theorem Uv (k0 : K0) (R : K1) (h0 : ∀ g w, k0 w → Q (.exit 0) g w) (hr : HR lE R Q) (h : IH k0 R (g 0) (g 3) w) : aQ pg gB (bI (aA 1 (aC 1 (aA 1 fO)))) Q g w := by
  refine cR (T := Value) (fun g : eL => g 3) (fun X t w => DQ (fun _ XX w => X XX w) k0 R (g 0) t w) _ (by kernel_rfl) h (fun X g1 w1 ha hL => ?_)
  rw [← aO (s := 0) ha (by kernel_rfl)] at hL
  exact (Vf (aX (fun g2 w2 => X ((fun g : eL => g 3) g2) w2) Q) g1 w1 (fun _ XX w => X XX w) k0 R (fun _ _ h => h) h0 hr hL)
def DP (kn : K0) (R : K1) (hY XX : Value) (w : World) : Prop :=
  IH kn R hY XX w
theorem Ui (kn : K0) (R : K1) (hn : ∀ g w, kn w → Q .normal g w) (hr : HR lE R Q) (h : DP kn R (g 0) (g 3) w) : aQ pg gB (aA 1 (aC 1 (aA 1 fO))) Q g w :=
  cU 0 _ g w (by kernel_rfl) (Uv (rP 0 Q) g w kn R hn hr h)
def H3 (kn : K2) (hY : Value) (w : World) : Prop :=
  kn hY (.int .i64 0) w
theorem Up (kn : K2) (hn : ∀ g w, kn (g 0) (g 3) w → Q .normal g w) (h : H3 kn (g 0) w) : aQ pg gB (aC 1 (aC 1 (aA 1 fO))) Q g w :=
  aI (kr := no) (l := []) (by kernel_rfl) h hn fG trivial
def IC (kn : K0) (R : K1) (hY : Value) (w : World) : Prop :=
  H3 (fun hY XX w => DP kn R hY XX w) hY w
theorem Ut (kn : K0) (R : K1) (hn : ∀ g w, kn w → Q .normal g w) (hr : HR lE R Q) (h : IC kn R (g 0) w) : aQ pg gB (aC 1 (aA 1 fO)) Q g w :=
  aL 1 _ g w (by kernel_rfl) (Up (aX (fun g w => aQ pg gB (aA 1 (aC 1 (aA 1 fO))) Q g w) Q) g w (fun hY XX w => DP kn R hY XX w) (fun g w h => aS (K := fun g w => aQ pg gB (aA 1 (aC 1 (aA 1 fO))) Q g w) (Ui Q g w kn R hn hr h)) h)
def DH (R : K1) (hY : Value) (w : World) : Prop :=
  IC (fun  w => DM R w) R hY w
theorem U4 (R : K1) (hr : HR lE R Q) (h : DH R (g 0) w) : aQ pg gB (aA 1 fO) Q g w :=
  aL 1 _ g w (by kernel_rfl) (Ut (aX (fun g w => aQ pg gB (aA 1 (aA 1 fO)) Q g w) Q) g w (fun  w => DM R w) R (fun g w h => aS (K := fun g w => aQ pg gB (aA 1 (aA 1 fO)) Q g w) (Uo Q g w R hr h)) hr h)
def Id (kn : K1) (hY : Value) (w : World) : Prop :=
  kn hY w
theorem Vg (kn : K1) (hn : ∀ g w, kn (g 0) w → Q .normal g w) (h : Id kn (g 0) w) : aQ pg gB (aC 1 fO) Q g w :=
  aI (kr := no) (l := []) (by kernel_rfl) h hn fG trivial
def Iz (R : K1) (hY : Value) (w : World) : Prop :=
  Id (fun hY w => DH R hY w) hY w
theorem Us (R : K1) (hr : HR lE R Q) (h : Iz R (g 0) w) : aQ pg gB fO Q g w :=
  aL 1 _ g w (by kernel_rfl) (Vg (aX (fun g w => aQ pg gB (aA 1 fO) Q g w) Q) g w (fun hY w => DH R hY w) (fun g w h => aS (K := fun g w => aQ pg gB (aA 1 fO) Q g w) (U4 Q g w R hr h)) h)
def Xc (a0 : Value) (w : World) (R : K1) : Prop :=
  Iz R a0 w
theorem VC {a0 : Value} {w : World} {R : K1} (h : Xc a0 w R) : cC pg Ge #[a0] w R := by
  refine bQ (ann := gB) (fn := Try.f26) (c := fO) (args := [a0]) (rs := lE) (N := 13) TryM.mixed (by kernel_rfl) Try.func26 (by kernel_rfl) (by kernel_rfl) (by kernel_rfl) (of_decide_eq_true (by kernel_rfl)) (by kernel_rfl) ?_
  exact (Us (jT pg lE R) (gE [a0]) w R (fun _ _ h => h) h)
def Gf : FA := ⟨pW, fun i => .leaf ([], []) []⟩
def BB : List ResultVar := [.tmp 2]
noncomputable def Fp : Code := fB Try.f27
def BR (R : K1) (eT : Value) (w : World) : Prop :=
  cC pg qA #[eT] w fun t8 w =>
  aD pg (dV t8 0) w fun t9 w =>
  aD pg (dV t8 1) w fun t10 w =>
  aD pg (sUn .not t10) w fun t12 w =>
  Gd (dW t12 false) (fun K => K eT w) w fun t14 w =>
  Gd (dW t12 false) (fun K => aD pg (iJ .len #[22] 3 [t14]) w K) w fun t15 w =>
  Gd (dW t12 false) (fun K => aD pg (aN .lss 3 (.tmp 15) (.const (.int .i64 2)) t15 (.int .i64 2)) w K) w fun t16 w =>
  aD pg (fJ t12 (.bool true) t16) w fun t17 w =>
  Gd (dW t17 false) (fun K => K eT w) w fun t19 w =>
  Gd (dW t17 false) (fun K => aD pg (iJ .len #[22] 3 [t19]) w K) w fun t20 w =>
  Gd (dW t17 false) (fun K => aD pg (aN .gtr 3 (.tmp 20) (.const (.int .i64 256)) t20 (.int .i64 256)) w K) w fun t21 w =>
  aD pg (fJ t17 (.bool true) t21) w fun t22 w =>
  Gd (dW t22 false) (fun K => K eT w) w fun t24 w =>
  Gd (dW t22 false) (fun K => K eT w) w fun t25 w =>
  Gd (dW t22 false) (fun K => aD pg (iJ .len #[22] 3 [t25]) w K) w fun t26 w =>
  Gd (dW t22 false) (fun K => aD pg (aN .sub 3 (.tmp 26) (.const (.int .i64 1)) t26 (.int .i64 1)) w K) w fun t27 w =>
  Gd (dW t22 false) (fun K => aD pg (cD 22 t24 t27) w K) w fun t28 w =>
  Gd (dW t22 false) (fun K => aD pg (aW 5 t28) w K) w fun t29 w =>
  Gd (dW t22 false) (fun K => aD pg (aN .eql 5 (.tmp 29) (.const (.int .u8 0)) t29 (.int .u8 0)) w K) w fun t30 w =>
  aD pg (fJ t22 (.bool true) t30) w fun t31 w =>
  Gd (dW t31 false) (fun K => K t9 w) w fun t33 w =>
  Gd (dW t31 false) (fun K => K t9 w) w fun t34 w =>
  Gd (dW t31 false) (fun K => aD pg (aN .sub 3 (.tmp 34) (.const (.int .i64 1)) t34 (.int .i64 1)) w K) w fun t35 w =>
  Gd (dW t31 false) (fun K => aD pg (aN .and 3 (.tmp 33) (.tmp 35) t33 t35) w K) w fun t36 w =>
  Gd (dW t31 false) (fun K => aD pg (aN .neq 3 (.tmp 36) (.const (.int .i64 0)) t36 (.int .i64 0)) w K) w fun t37 w =>
  aD pg (fJ t31 (.bool true) t37) w fun t38 w =>
  hH t38
    (R (.int .i64 0) w)
    (aD pg (jH 3 49 t9) w fun t40 w =>
    cC pg kC #[t40] w fun t41 w =>
    aD pg (aN .sub 3 (.tmp 41) (.const (.int .i64 1)) t41 (.int .i64 1)) w fun t42 w =>
    aD pg (aN .gtr 3 (.tmp 43) (.const (.int .i64 11)) t42 (.int .i64 11)) w fun t44 w =>
    Gd (dW t44 false) (fun K => K eT w) w fun t46 w =>
    Gd (dW t44 false) (fun K => cC pg nB #[t46] w K) w fun t47 w =>
    Gd (dW t44 false) (fun K => aD pg (jH 5 3 t47) w K) w fun t48 w =>
    Gd (dW t44 false) (fun K => K t42 w) w fun t49 w =>
    Gd (dW t44 false) (fun K => aD pg (aN .gtr 3 (.tmp 48) (.tmp 49) t48 t49) w K) w fun t50 w =>
    aD pg (fJ t44 (.bool true) t50) w fun t51 w =>
    hH t51
      (R (.int .i64 0) w)
      (R t42 w))
theorem Mb (R : K1) (hr : HR BB R Q) (h : BR R (g 0) w) : aQ pg Gf Fp Q g w :=
  aI (kn := no) (l := []) (by kernel_rfl) h fG hr trivial
def MQ (a0 : Value) (w : World) (R : K1) : Prop :=
  BR R a0 w
theorem Nk {a0 : Value} {w : World} {R : K1} (h : MQ a0 w R) : cC pg pW #[a0] w R := by
  refine bQ (ann := Gf) (fn := Try.f27) (c := Fp) (args := [a0]) (rs := BB) (N := 53) TryM.mixed (by kernel_rfl) Try.func27 (by kernel_rfl) (by kernel_rfl) (by kernel_rfl) (of_decide_eq_true (by kernel_rfl)) (by kernel_rfl) ?_
  exact (Mb (jT pg BB R) (gE [a0]) w R (fun _ _ h => h) h)
def bV : FA := ⟨tR, fun i => .leaf ([], []) []⟩
def kV : List ResultVar := [.tmp 4, .tmp 5]
noncomputable def bR : Code := fB Try.f28
def rM (R : K1) (dJ : Value) (w : World) : Prop :=
  R (.tuple #[dJ, (.int .i64 0)]) w
theorem KO (R : K1) (hr : HR kV R Q) (h : rM R (g 6) w) : aQ pg bV (aA 1 (aA 3 bR)) Q g w :=
  aI (kn := no) (l := []) (by kernel_rfl) h fG hr trivial
def nC (kn : K4) (gL dJ t15 t16 : Value) (w : World) : Prop :=
  aD pg (aN .add 3 (.tmp 16) (.const (.int .i64 1)) t16 (.int .i64 1)) w fun t34 w =>
  kn gL dJ t15 t34 w
theorem Kd (kn : K4) (hn : ∀ g w, kn (g 0) (g 6) (g 15) (g 16) w → Q .normal g w) (h : nC kn (g 0) (g 6) (g 15) (g 16) w) : aQ pg bV (aA 1 (aA 2 (bI (bI (aA 1 (aC 1 (aA 3 bR))))))) Q g w :=
  aI (kr := no) (l := []) (by kernel_rfl) h hn fG trivial
def mV (kn : K4) (gL dJ c_8 t15 t16 : Value) (w : World) : Prop :=
  aD pg (aN .and 5 (.tmp 30) (.const (.int .u8 15)) c_8 (.int .u8 15)) w fun t31 w =>
  aD pg (cQ 22 1 [(0, t31)]) w fun t32 w =>
  aD pg (iJ .append #[22, 22] 22 [dJ, t32]) w fun t33 w =>
  kn gL t33 t15 t16 w
theorem Kr (kn : K4) (hn : ∀ g w, kn (g 0) (g 6) (g 15) (g 16) w → Q .normal g w) (h : mV kn (g 0) (g 6) (g 8) (g 15) (g 16) w) : aQ pg bV (aA 3 (bI (aC 1 (aA 2 (bI (bI (aA 1 (aC 1 (aA 3 bR))))))))) Q g w :=
  aI (kr := no) (l := []) (by kernel_rfl) h hn fG trivial
def AI (kn : K5) (gL dJ t15 t16 : Value) (w : World) : Prop :=
  aD pg (aN .quo 3 (.tmp 20) (.const (.int .i64 2)) t16 (.int .i64 2)) w fun t21 w =>
  aD pg (cD 22 gL t21) w fun t22 w =>
  aD pg (aW 5 t22) w fun t23 w =>
  aD pg (aN .rem 3 (.tmp 24) (.const (.int .i64 2)) t16 (.int .i64 2)) w fun t25 w =>
  aD pg (aN .eql 3 (.tmp 25) (.const (.int .i64 0)) t25 (.int .i64 0)) w fun t26 w =>
  hH t26
    (aD pg (aN .shr 5 (.tmp 27) (.const (.int .u64 4)) t23 (.int .u64 4)) w fun t28 w =>
    kn gL dJ t28 t15 t16 w)
    (kn gL dJ t23 t15 t16 w)
theorem KL (kn : K5) (hn : ∀ g w, kn (g 0) (g 6) (g 8) (g 15) (g 16) w → Q .normal g w) (h : AI kn (g 0) (g 6) (g 15) (g 16) w) : aQ pg bV (aC 3 (bI (aC 1 (aA 2 (bI (bI (aA 1 (aC 1 (aA 3 bR))))))))) Q g w :=
  aI (kr := no) (l := []) (by kernel_rfl) h hn fG trivial
def AD (kn : K4) (gL dJ t15 t16 : Value) (w : World) : Prop :=
  AI (fun gL dJ c_8 t15 t16 w => mV kn gL dJ c_8 t15 t16 w) gL dJ t15 t16 w
theorem LF (kn : K4) (hn : ∀ g w, kn (g 0) (g 6) (g 15) (g 16) w → Q .normal g w) (h : AD kn (g 0) (g 6) (g 15) (g 16) w) : aQ pg bV (bI (aC 1 (aA 2 (bI (bI (aA 1 (aC 1 (aA 3 bR)))))))) Q g w :=
  aL 3 _ g w (by kernel_rfl) (KL (aX (fun g w => aQ pg bV (aA 3 (bI (aC 1 (aA 2 (bI (bI (aA 1 (aC 1 (aA 3 bR))))))))) Q g w) Q) g w (fun gL dJ c_8 t15 t16 w => mV kn gL dJ c_8 t15 t16 w) (fun g w h => aS (K := fun g w => aQ pg bV (aA 3 (bI (aC 1 (aA 2 (bI (bI (aA 1 (aC 1 (aA 3 bR))))))))) Q g w) (Kr Q g w kn hn h)) h)
def zR (kn : K4) (gL dJ t15 t16 : Value) (w : World) : Prop :=
  AD kn gL dJ t15 t16 w
theorem KF (kn : K4) (hn : ∀ g w, kn (g 0) (g 6) (g 15) (g 16) w → Q .normal g w) (h : zR kn (g 0) (g 6) (g 15) (g 16) w) : aQ pg bV (aC 1 (aA 2 (bI (bI (aA 1 (aC 1 (aA 3 bR))))))) Q g w :=
  cU 1 _ g w (by kernel_rfl) (LF (rP 1 Q) g w kn hn h)
def rJ (kn : K4) (gL dJ t15 t16 : Value) (w : World) : Prop :=
  zR (fun gL dJ t15 t16 w => nC kn gL dJ t15 t16 w) gL dJ t15 t16 w
theorem Kz (kn : K4) (hn : ∀ g w, kn (g 0) (g 6) (g 15) (g 16) w → Q .normal g w) (h : rJ kn (g 0) (g 6) (g 15) (g 16) w) : aQ pg bV (aA 2 (bI (bI (aA 1 (aC 1 (aA 3 bR)))))) Q g w :=
  aL 1 _ g w (by kernel_rfl) (KF (aX (fun g w => aQ pg bV (aA 1 (aA 2 (bI (bI (aA 1 (aC 1 (aA 3 bR))))))) Q g w) Q) g w (fun gL dJ t15 t16 w => nC kn gL dJ t15 t16 w) (fun g w h => aS (K := fun g w => aQ pg bV (aA 1 (aA 2 (bI (bI (aA 1 (aC 1 (aA 3 bR))))))) Q g w) (Kd Q g w kn hn h)) h)
def A0 (kn : K4) (k0 : K1) (gL dJ t15 t16 : Value) (w : World) : Prop :=
  aD pg (aN .lss 3 (.tmp 16) (.tmp 15) t16 t15) w fun t17 w =>
  hH t17
    (kn gL dJ t15 t16 w)
    (k0 dJ w)
theorem Ki (kn : K4) (k0 : K1) (hn : ∀ g w, kn (g 0) (g 6) (g 15) (g 16) w → Q .normal g w) (h0 : ∀ g w, k0 (g 6) w → Q (.exit 0) g w) (h : A0 kn k0 (g 0) (g 6) (g 15) (g 16) w) : aQ pg bV (aC 2 (bI (bI (aA 1 (aC 1 (aA 3 bR)))))) Q g w :=
  aI (kr := no) (l := [(0, fun g w => k0 (g 6) w)]) (by kernel_rfl) h hn fG ⟨h0, trivial⟩
def rQ (kn : K4) (k0 : K1) (gL dJ t15 t16 : Value) (w : World) : Prop :=
  A0 (fun gL dJ t15 t16 w => rJ kn gL dJ t15 t16 w) k0 gL dJ t15 t16 w
theorem LC (kn : K4) (k0 : K1) (hn : ∀ g w, kn (g 0) (g 6) (g 15) (g 16) w → Q .normal g w) (h0 : ∀ g w, k0 (g 6) w → Q (.exit 0) g w) (h : rQ kn k0 (g 0) (g 6) (g 15) (g 16) w) : aQ pg bV (bI (bI (aA 1 (aC 1 (aA 3 bR))))) Q g w :=
  aL 2 _ g w (by kernel_rfl) (Ki (aX (fun g w => aQ pg bV (aA 2 (bI (bI (aA 1 (aC 1 (aA 3 bR)))))) Q g w) Q) g w (fun gL dJ t15 t16 w => rJ kn gL dJ t15 t16 w) k0 (fun g w h => aS (K := fun g w => aQ pg bV (aA 2 (bI (bI (aA 1 (aC 1 (aA 3 bR)))))) Q g w) (Kz Q g w kn hn h)) h0 h)
def xN (k0 : K1) (gL dJ t15 t16 : Value) (w : World) : Prop :=
  cV (fun (X : (Value × Value) → K0) (t : Value × Value) (w : World) => rQ (fun _ dJ _ t16 w => X (dJ, t16) w) k0 gL t.1 t15 t.2 w) (dJ, t16) w
theorem J2 (k0 : K1) (h0 : ∀ g w, k0 (g 6) w → Q (.exit 0) g w) (h : xN k0 (g 0) (g 6) (g 15) (g 16) w) : aQ pg bV (bI (aA 1 (aC 1 (aA 3 bR)))) Q g w := by
  refine cR (T := Value × Value) (fun g : eL => (g 6, g 16)) (fun X t w => rQ (fun _ dJ _ t16 w => X (dJ, t16) w) k0 (g 0) t.1 (g 15) t.2 w) _ (by kernel_rfl) h (fun X g1 w1 ha hL => ?_)
  rw [← aO (s := 0) ha (by kernel_rfl)] at hL
  rw [← aO (s := 15) ha (by kernel_rfl)] at hL
  exact (LC (aX (fun g2 w2 => X ((fun g : eL => (g 6, g 16)) g2) w2) Q) g1 w1 (fun _ dJ _ t16 w => X (dJ, t16) w) k0 (fun _ _ h => h) h0 hL)
def pG (kn : K1) (gL dJ t15 t16 : Value) (w : World) : Prop :=
  xN kn gL dJ t15 t16 w
theorem J1 (kn : K1) (hn : ∀ g w, kn (g 6) w → Q .normal g w) (h : pG kn (g 0) (g 6) (g 15) (g 16) w) : aQ pg bV (aA 1 (aC 1 (aA 3 bR))) Q g w :=
  cU 0 _ g w (by kernel_rfl) (J2 (rP 0 Q) g w kn hn h)
def xV (kn : K4) (gL kQ dJ : Value) (w : World) : Prop :=
  kn gL dJ kQ (.int .i64 0) w
theorem JD (kn : K4) (hn : ∀ g w, kn (g 0) (g 6) (g 15) (g 16) w → Q .normal g w) (h : xV kn (g 0) (g 1) (g 6) w) : aQ pg bV (aC 1 (aC 1 (aA 3 bR))) Q g w :=
  aI (kr := no) (l := []) (by kernel_rfl) h hn fG trivial
def xB (kn : K1) (gL kQ dJ : Value) (w : World) : Prop :=
  xV (fun gL dJ t15 t16 w => pG kn gL dJ t15 t16 w) gL kQ dJ w
theorem JO (kn : K1) (hn : ∀ g w, kn (g 6) w → Q .normal g w) (h : xB kn (g 0) (g 1) (g 6) w) : aQ pg bV (aC 1 (aA 3 bR)) Q g w :=
  aL 1 _ g w (by kernel_rfl) (JD (aX (fun g w => aQ pg bV (aA 1 (aC 1 (aA 3 bR))) Q g w) Q) g w (fun gL dJ t15 t16 w => pG kn gL dJ t15 t16 w) (fun g w h => aS (K := fun g w => aQ pg bV (aA 1 (aC 1 (aA 3 bR))) Q g w) (J1 Q g w kn hn h)) h)
def pL (R : K1) (gL kQ dJ : Value) (w : World) : Prop :=
  xB (fun dJ w => rM R dJ w) gL kQ dJ w
theorem JB (R : K1) (hr : HR kV R Q) (h : pL R (g 0) (g 1) (g 6) w) : aQ pg bV (aA 3 bR) Q g w :=
  aL 1 _ g w (by kernel_rfl) (JO (aX (fun g w => aQ pg bV (aA 1 (aA 3 bR)) Q g w) Q) g w (fun dJ w => rM R dJ w) (fun g w h => aS (K := fun g w => aQ pg bV (aA 1 (aA 3 bR)) Q g w) (KO Q g w R hr h)) h)
def xH (kn : K3) (R : K1) (gL kQ : Value) (w : World) : Prop :=
  aD pg (iJ .len #[22] 3 [gL]) w fun t10 w =>
  aD pg (aN .add 3 (.tmp 11) (.const (.int .i64 1)) kQ (.int .i64 1)) w fun t12 w =>
  aD pg (aN .quo 3 (.tmp 12) (.const (.int .i64 2)) t12 (.int .i64 2)) w fun t13 w =>
  aD pg (aN .lss 3 (.tmp 10) (.tmp 13) t10 t13) w fun t14 w =>
  hH t14
    (R (.tuple #[(.slice none 0 0), (.int .i64 10)]) w)
    (kn gL kQ (.slice none 0 0) w)
theorem J9 (kn : K3) (R : K1) (hn : ∀ g w, kn (g 0) (g 1) (g 6) w → Q .normal g w) (hr : HR kV R Q) (h : xH kn R (g 0) (g 1) w) : aQ pg bV (aC 3 bR) Q g w :=
  aI (l := []) (by kernel_rfl) h hn hr trivial
def xK (R : K1) (gL kQ : Value) (w : World) : Prop :=
  xH (fun gL kQ dJ w => pL R gL kQ dJ w) R gL kQ w
theorem JU (R : K1) (hr : HR kV R Q) (h : xK R (g 0) (g 1) w) : aQ pg bV bR Q g w :=
  aL 3 _ g w (by kernel_rfl) (J9 (aX (fun g w => aQ pg bV (aA 3 bR) Q g w) Q) g w (fun gL kQ dJ w => pL R gL kQ dJ w) R (fun g w h => aS (K := fun g w => aQ pg bV (aA 3 bR) Q g w) (JB Q g w R hr h)) hr h)
def Kt (a0 a1 : Value) (w : World) (R : K1) : Prop :=
  xK R a0 a1 w
theorem Mi {a0 a1 : Value} {w : World} {R : K1} (h : Kt a0 a1 w R) : cC pg tR #[a0, a1] w R := by
  refine bQ (ann := bV) (fn := Try.f28) (c := bR) (args := [a0, a1]) (rs := kV) (N := 36) TryM.mixed (by kernel_rfl) Try.func28 (by kernel_rfl) (by kernel_rfl) (by kernel_rfl) (of_decide_eq_true (by kernel_rfl)) (by kernel_rfl) ?_
  exact (JU (jT pg kV R) (gE [a0, a1]) w R (fun _ _ h => h) h)
end Go.Proofs.Ytoepfjgekpdddaa
namespace Go.Proofs.Ytoepfjgekpdddaa
open Go Go.En
set_option linter.unusedVariables false
set_option maxRecDepth 20000
attribute [local irreducible] Go.En.aQ
variable (Q : Exit → eL → World → Prop) (g : eL) (w : World)
def aH : FA := ⟨rF, fun i => match Nat.beq i 15 with | true => .leaf ([], []) [(false, []), (false, []), (false, []), (false, []), (false, []), (false, []), (false, []), (false, []), (false, []), (false, []), (false, []), (false, []), (false, []), (false, []), (false, []), (false, []), (false, []), (false, []), (false, []), (false, []), (false, []), (false, []), (false, []), (false, []), (false, []), (false, []), (false, []), (false, []), (false, []), (false, []), (false, []), (false, []), (false, []), (false, []), (false, []), (false, []), (false, []), (false, []), (false, []), (false, []), (false, []), (false, []), (false, [])] | false => match Nat.beq i 25 with | true => .leaf ([], []) [(false, []), (false, []), (false, []), (false, []), (false, []), (false, []), (false, []), (false, []), (false, []), (false, []), (false, []), (false, []), (false, []), (false, []), (false, []), (false, []), (false, []), (false, []), (false, []), (false, []), (false, []), (false, []), (false, []), (false, []), (false, []), (false, []), (false, []), (false, []), (false, []), (false, []), (false, []), (false, []), (false, []), (false, []), (false, []), (false, []), (false, []), (false, []), (false, []), (false, []), (false, []), (false, []), (false, []), (false, []), (false, []), (false, [])] | false => .leaf ([], []) []⟩
def jM : List ResultVar := [.tmp 4]
noncomputable def aG : Code := fB Try.f32
def oS (R : K1) (aT : Value) (w : World) : Prop :=
  R aT w
theorem JI (R : K1) (hr : HR jM R Q) (h : oS R (g 5) w) : aQ pg aH (aA 1 (aA 1 (aA 1 (aA 3 aG)))) Q g w :=
  aI (kn := no) (l := []) (by kernel_rfl) h fG hr trivial
def oX (kn : K3) (aM aT aZ iR : Value) (w : World) : Prop :=
  aD pg (cD 62 aT iR) w fun t176 w =>
  aD pg (aW 3 t176) w fun t177 w =>
  aD pg (aN .sub 3 (.const (.int .i64 11)) (.tmp 177) (.int .i64 11) t177) w fun t178 w =>
  aD pg (aN .shl 3 (.const (.int .i64 1)) (.tmp 178) (.int .i64 1) t178) w fun t179 w =>
  aD pg (aN .sub 3 (.tmp 173) (.tmp 179) aZ t179) w fun t180 w =>
  aD pg (cD 62 aT iR) w fun t183 w =>
  aD pg (aW 3 t183) w fun t184 w =>
  aD pg (aN .sub 3 (.tmp 184) (.const (.int .i64 1)) t184 (.int .i64 1)) w fun t185 w =>
  aD pg (cD 62 aT iR) w fun t186 w =>
  aD pg (cB 3 t186 t185) w fun _u w =>
  kn aM aT t180 w
theorem JA (kn : K3) (hn : ∀ g w, kn (g 0) (g 5) (g 6) w → Q .normal g w) (h : oX kn (g 0) (g 5) (g 6) (g 12) w) : aQ pg aH (aA 1 (aA 1 (bI (aA 1 (bI (bI (aC 1 (aA 1 (aA 1 (aA 3 aG)))))))))) Q g w :=
  aI (kr := no) (l := []) (by kernel_rfl) h hn fG trivial
def pM (kn : K7) (aM aT aZ iR t118 t119 t120 : Value) (w : World) : Prop :=
  aD pg (aN .add 3 (.tmp 120) (.const (.int .i64 1)) t120 (.int .i64 1)) w fun t172 w =>
  kn aM aT aZ iR t118 t119 t172 w
theorem JH (kn : K7) (hn : ∀ g w, kn (g 0) (g 5) (g 6) (g 12) (g 118) (g 119) (g 120) w → Q .normal g w) (h : pM kn (g 0) (g 5) (g 6) (g 12) (g 118) (g 119) (g 120) w) : aQ pg aH (aA 3 (bI (bI (aA 1 (aC 1 (aA 1 (bI (aA 1 (bI (bI (aC 1 (aA 1 (aA 1 (aA 3 aG)))))))))))))) Q g w :=
  aI (kr := no) (l := []) (by kernel_rfl) h hn fG trivial
def xR (kn : K7) (k8 : K4) (aM aT aZ iR t118 t119 t120 : Value) (w : World) : Prop :=
  aD pg (aN .lss 3 (.tmp 120) (.tmp 119) t120 t119) w fun t121 w =>
  hH t121
    (aD pg (cD 43 t118 t120) w fun t123 w =>
    aD pg (aW 45 t123) w fun t124 w =>
    (dr w) = (dr w) ∧
    aD pg (aN .gtr 45 (.tmp 125) (.const (.int .u32 0)) t124 (.int .u32 0)) (dr w) fun t126 w_ => w_ = (dr w) ∧
    (dr w) = (dr w) ∧
    Gd (dW t126 true) (fun K => K aT (dr w)) (dr w) fun t128 w_ => w_ = (dr w) ∧
    Gd (dW t126 true) (fun K => K t120 (dr w)) (dr w) fun t129 w_ => w_ = (dr w) ∧
    Gd (dW t126 true) (fun K => aD pg (cD 62 t128 t129) (dr w) K) (dr w) fun t130 w_ => w_ = (dr w) ∧
    Gd (dW t126 true) (fun K => aD pg (aW 3 t130) (dr w) K) (dr w) fun t131 w_ => w_ = (dr w) ∧
    Gd (dW t126 true) (fun K => aD pg (aN .sub 3 (.const (.int .i64 11)) (.tmp 131) (.int .i64 11) t131) (dr w) K) (dr w) fun t132 w_ => w_ = (dr w) ∧
    Gd (dW t126 true) (fun K => aD pg (aN .shl 3 (.const (.int .i64 1)) (.tmp 132) (.int .i64 1) t132) (dr w) K) (dr w) fun t133 w_ => w_ = (dr w) ∧
    Gd (dW t126 true) (fun K => K aZ (dr w)) (dr w) fun t134 w_ => w_ = (dr w) ∧
    Gd (dW t126 true) (fun K => aD pg (aN .leq 3 (.tmp 133) (.tmp 134) t133 t134) (dr w) K) (dr w) fun t135 w_ => w_ = (dr w) ∧
    aD pg (fJ t126 t135 (.bool false)) (dr w) fun t136 w_ => w_ = (dr w) ∧
    (dr w) = (dr w) ∧
    Gd (dW t136 true) (fun K => K iR (dr w)) (dr w) fun t138 w_ => w_ = (dr w) ∧
    Gd (dW t136 true) (fun K => aD pg (aN .lss 3 (.tmp 138) (.const (.int .i64 0)) t138 (.int .i64 0)) (dr w) K) (dr w) fun t139 w_ => w_ = (dr w) ∧
    Gd (dW t136 true) (fun K => K t139 (dr w)) (dr w) fun t140 w_ => w_ = (dr w) ∧
    Gd (dW t140 false) (fun K => K aT (dr w)) (dr w) fun t141 w_ => w_ = (dr w) ∧
    Gd (dW t140 false) (fun K => K t120 (dr w)) (dr w) fun t142 w_ => w_ = (dr w) ∧
    Gd (dW t140 false) (fun K => aD pg (cD 62 t141 t142) (dr w) K) (dr w) fun t143 w_ => w_ = (dr w) ∧
    Gd (dW t140 false) (fun K => aD pg (aW 3 t143) (dr w) K) (dr w) fun t144 w_ => w_ = (dr w) ∧
    Gd (dW t140 false) (fun K => K aT (dr w)) (dr w) fun t145 w_ => w_ = (dr w) ∧
    Gd (dW t140 false) (fun K => K iR (dr w)) (dr w) fun t146 w_ => w_ = (dr w) ∧
    Gd (dW t140 false) (fun K => aD pg (cD 62 t145 t146) (dr w) K) (dr w) fun t147 w_ => w_ = (dr w) ∧
    Gd (dW t140 false) (fun K => aD pg (aW 3 t147) (dr w) K) (dr w) fun t148 w_ => w_ = (dr w) ∧
    Gd (dW t140 false) (fun K => aD pg (aN .gtr 3 (.tmp 144) (.tmp 148) t144 t148) (dr w) K) (dr w) fun t149 w_ => w_ = (dr w) ∧
    Gd (dW t136 true) (fun K => aD pg (fJ t140 (.bool true) t149) (dr w) K) (dr w) fun t150 w_ => w_ = (dr w) ∧
    Gd (dW t136 true) (fun K => K t150 (dr w)) (dr w) fun t151 w_ => w_ = (dr w) ∧
    Gd (dW t151 false) (fun K => K aT (dr w)) (dr w) fun t152 w_ => w_ = (dr w) ∧
    Gd (dW t151 false) (fun K => K t120 (dr w)) (dr w) fun t153 w_ => w_ = (dr w) ∧
    Gd (dW t151 false) (fun K => aD pg (cD 62 t152 t153) (dr w) K) (dr w) fun t154 w_ => w_ = (dr w) ∧
    Gd (dW t151 false) (fun K => aD pg (aW 3 t154) (dr w) K) (dr w) fun t155 w_ => w_ = (dr w) ∧
    Gd (dW t151 false) (fun K => K aT (dr w)) (dr w) fun t156 w_ => w_ = (dr w) ∧
    Gd (dW t151 false) (fun K => K iR (dr w)) (dr w) fun t157 w_ => w_ = (dr w) ∧
    Gd (dW t151 false) (fun K => aD pg (cD 62 t156 t157) (dr w) K) (dr w) fun t158 w_ => w_ = (dr w) ∧
    Gd (dW t151 false) (fun K => aD pg (aW 3 t158) (dr w) K) (dr w) fun t159 w_ => w_ = (dr w) ∧
    Gd (dW t151 false) (fun K => aD pg (aN .eql 3 (.tmp 155) (.tmp 159) t155 t159) (dr w) K) (dr w) fun t160 w_ => w_ = (dr w) ∧
    Gd (dW t151 false) (fun K => K t160 (dr w)) (dr w) fun t161 w_ => w_ = (dr w) ∧
    Gd (dW t161 true) (fun K => K t124 (dr w)) (dr w) fun t162 w_ => w_ = (dr w) ∧
    Gd (dW t161 true) (fun K => K aM (dr w)) (dr w) fun t163 w_ => w_ = (dr w) ∧
    Gd (dW t161 true) (fun K => K iR (dr w)) (dr w) fun t164 w_ => w_ = (dr w) ∧
    Gd (dW t161 true) (fun K => aD pg (cD 43 t163 t164) (dr w) K) (dr w) fun t165 w_ => w_ = (dr w) ∧
    Gd (dW t161 true) (fun K => aD pg (aW 45 t165) (dr w) K) (dr w) fun t166 w_ => w_ = (dr w) ∧
    Gd (dW t161 true) (fun K => aD pg (aN .gtr 45 (.tmp 162) (.tmp 166) t162 t166) (dr w) K) (dr w) fun t167 w_ => w_ = (dr w) ∧
    Gd (dW t151 false) (fun K => aD pg (fJ t161 t167 (.bool false)) (dr w) K) (dr w) fun t168 w_ => w_ = (dr w) ∧
    Gd (dW t136 true) (fun K => aD pg (fJ t151 (.bool true) t168) (dr w) K) (dr w) fun t169 w_ => w_ = (dr w) ∧
    aD pg (fJ t136 t169 (.bool false)) (dr w) fun t170 w_ => w_ = (dr w) ∧
    hH t170
      (kn aM aT aZ t120 t118 t119 t120 (dr w))
      (kn aM aT aZ iR t118 t119 t120 (dr w)))
    (k8 aM aT aZ iR w)
theorem JJ (kn : K7) (k8 : K4) (hn : ∀ g w, kn (g 0) (g 5) (g 6) (g 12) (g 118) (g 119) (g 120) w → Q .normal g w) (h8 : ∀ g w, k8 (g 0) (g 5) (g 6) (g 12) w → Q (.exit 8) g w) (h : xR kn k8 (g 0) (g 5) (g 6) (g 12) (g 118) (g 119) (g 120) w) : aQ pg aH (aC 3 (bI (bI (aA 1 (aC 1 (aA 1 (bI (aA 1 (bI (bI (aC 1 (aA 1 (aA 1 (aA 3 aG)))))))))))))) Q g w :=
  aI (kr := no) (l := [(8, fun g w => k8 (g 0) (g 5) (g 6) (g 12) w)]) (by kernel_rfl) h hn fG ⟨h8, trivial⟩
def oR (kn : K7) (k8 : K4) (aM aT aZ iR t118 t119 t120 : Value) (w : World) : Prop :=
  xR (fun aM aT aZ iR t118 t119 t120 w => pM kn aM aT aZ iR t118 t119 t120 w) k8 aM aT aZ iR t118 t119 t120 w
theorem JY (kn : K7) (k8 : K4) (hn : ∀ g w, kn (g 0) (g 5) (g 6) (g 12) (g 118) (g 119) (g 120) w → Q .normal g w) (h8 : ∀ g w, k8 (g 0) (g 5) (g 6) (g 12) w → Q (.exit 8) g w) (h : oR kn k8 (g 0) (g 5) (g 6) (g 12) (g 118) (g 119) (g 120) w) : aQ pg aH (bI (bI (aA 1 (aC 1 (aA 1 (bI (aA 1 (bI (bI (aC 1 (aA 1 (aA 1 (aA 3 aG))))))))))))) Q g w :=
  aL 3 _ g w (by kernel_rfl) (JJ (aX (fun g w => aQ pg aH (aA 3 (bI (bI (aA 1 (aC 1 (aA 1 (bI (aA 1 (bI (bI (aC 1 (aA 1 (aA 1 (aA 3 aG)))))))))))))) Q g w) Q) g w (fun aM aT aZ iR t118 t119 t120 w => pM kn aM aT aZ iR t118 t119 t120 w) k8 (fun g w h => aS (K := fun g w => aQ pg aH (aA 3 (bI (bI (aA 1 (aC 1 (aA 1 (bI (aA 1 (bI (bI (aC 1 (aA 1 (aA 1 (aA 3 aG)))))))))))))) Q g w) (JH Q g w kn hn h)) h8 h)
def xZ (k8 : K4) (aM aT aZ iR t118 t119 t120 : Value) (w : World) : Prop :=
  cV (fun (X : (Value × Value) → K0) (t : Value × Value) (w : World) => oR (fun _ _ _ iR _ _ t120 w => X (iR, t120) w) k8 aM aT aZ t.1 t118 t119 t.2 w) (iR, t120) w
theorem Jt (k8 : K4) (h8 : ∀ g w, k8 (g 0) (g 5) (g 6) (g 12) w → Q (.exit 8) g w) (h : xZ k8 (g 0) (g 5) (g 6) (g 12) (g 118) (g 119) (g 120) w) : aQ pg aH (bI (aA 1 (aC 1 (aA 1 (bI (aA 1 (bI (bI (aC 1 (aA 1 (aA 1 (aA 3 aG)))))))))))) Q g w := by
  refine cR (T := Value × Value) (fun g : eL => (g 12, g 120)) (fun X t w => oR (fun _ _ _ iR _ _ t120 w => X (iR, t120) w) k8 (g 0) (g 5) (g 6) t.1 (g 118) (g 119) t.2 w) _ (by kernel_rfl) h (fun X g1 w1 ha hL => ?_)
  rw [← aO (s := 0) ha (by kernel_rfl)] at hL
  rw [← aO (s := 5) ha (by kernel_rfl)] at hL
  rw [← aO (s := 6) ha (by kernel_rfl)] at hL
  rw [← aO (s := 118) ha (by kernel_rfl)] at hL
  rw [← aO (s := 119) ha (by kernel_rfl)] at hL
  exact (JY (aX (fun g2 w2 => X ((fun g : eL => (g 12, g 120)) g2) w2) Q) g1 w1 (fun _ _ _ iR _ _ t120 w => X (iR, t120) w) k8 (fun _ _ h => h) h8 hL)
def pD (kn : K4) (aM aT aZ iR t118 t119 t120 : Value) (w : World) : Prop :=
  xZ kn aM aT aZ iR t118 t119 t120 w
theorem Jr (kn : K4) (hn : ∀ g w, kn (g 0) (g 5) (g 6) (g 12) w → Q .normal g w) (h : pD kn (g 0) (g 5) (g 6) (g 12) (g 118) (g 119) (g 120) w) : aQ pg aH (aA 1 (aC 1 (aA 1 (bI (aA 1 (bI (bI (aC 1 (aA 1 (aA 1 (aA 3 aG))))))))))) Q g w :=
  cU 8 _ g w (by kernel_rfl) (Jt (rP 8 Q) g w kn hn h)
def xU (kn : K7) (aM aT aZ iR : Value) (w : World) : Prop :=
  aD pg (iJ .len #[43] 3 [aM]) w fun t119 w =>
  kn aM aT aZ iR aM t119 (.int .i64 0) w
theorem JX (kn : K7) (hn : ∀ g w, kn (g 0) (g 5) (g 6) (g 12) (g 118) (g 119) (g 120) w → Q .normal g w) (h : xU kn (g 0) (g 5) (g 6) (g 12) w) : aQ pg aH (aC 1 (aC 1 (aA 1 (bI (aA 1 (bI (bI (aC 1 (aA 1 (aA 1 (aA 3 aG))))))))))) Q g w :=
  aI (kr := no) (l := []) (by kernel_rfl) h hn fG trivial
def oT (kn : K4) (aM aT aZ iR : Value) (w : World) : Prop :=
  xU (fun aM aT aZ iR t118 t119 t120 w => pD kn aM aT aZ iR t118 t119 t120 w) aM aT aZ iR w
theorem JG (kn : K4) (hn : ∀ g w, kn (g 0) (g 5) (g 6) (g 12) w → Q .normal g w) (h : oT kn (g 0) (g 5) (g 6) (g 12) w) : aQ pg aH (aC 1 (aA 1 (bI (aA 1 (bI (bI (aC 1 (aA 1 (aA 1 (aA 3 aG)))))))))) Q g w :=
  aL 1 _ g w (by kernel_rfl) (JX (aX (fun g w => aQ pg aH (aA 1 (aC 1 (aA 1 (bI (aA 1 (bI (bI (aC 1 (aA 1 (aA 1 (aA 3 aG))))))))))) Q g w) Q) g w (fun aM aT aZ iR t118 t119 t120 w => pD kn aM aT aZ iR t118 t119 t120 w) (fun g w h => aS (K := fun g w => aQ pg aH (aA 1 (aC 1 (aA 1 (bI (aA 1 (bI (bI (aC 1 (aA 1 (aA 1 (aA 3 aG))))))))))) Q g w) (Jr Q g w kn hn h)) h)
def nW (kn : K3) (aM aT aZ iR : Value) (w : World) : Prop :=
  oT (fun aM aT aZ iR w => oX kn aM aT aZ iR w) aM aT aZ iR w
theorem II (kn : K3) (hn : ∀ g w, kn (g 0) (g 5) (g 6) w → Q .normal g w) (h : nW kn (g 0) (g 5) (g 6) (g 12) w) : aQ pg aH (aA 1 (bI (aA 1 (bI (bI (aC 1 (aA 1 (aA 1 (aA 3 aG))))))))) Q g w :=
  aL 1 _ g w (by kernel_rfl) (JG (aX (fun g w => aQ pg aH (aA 1 (aA 1 (bI (aA 1 (bI (bI (aC 1 (aA 1 (aA 1 (aA 3 aG)))))))))) Q g w) Q) g w (fun aM aT aZ iR w => oX kn aM aT aZ iR w) (fun g w h => aS (K := fun g w => aQ pg aH (aA 1 (aA 1 (bI (aA 1 (bI (bI (aC 1 (aA 1 (aA 1 (aA 3 aG)))))))))) Q g w) (JA Q g w kn hn h)) h)
def uB (kn : K4) (aM aT aZ : Value) (w : World) : Prop :=
  kn aM aT aZ (.int .i64 (-1)) w
theorem Ir (kn : K4) (hn : ∀ g w, kn (g 0) (g 5) (g 6) (g 12) w → Q .normal g w) (h : uB kn (g 0) (g 5) (g 6) w) : aQ pg aH (aC 1 (bI (aA 1 (bI (bI (aC 1 (aA 1 (aA 1 (aA 3 aG))))))))) Q g w :=
  aI (kr := no) (l := []) (by kernel_rfl) h hn fG trivial
def tX (kn : K3) (aM aT aZ : Value) (w : World) : Prop :=
  uB (fun aM aT aZ iR w => nW kn aM aT aZ iR w) aM aT aZ w
theorem Im (kn : K3) (hn : ∀ g w, kn (g 0) (g 5) (g 6) w → Q .normal g w) (h : tX kn (g 0) (g 5) (g 6) w) : aQ pg aH (bI (aA 1 (bI (bI (aC 1 (aA 1 (aA 1 (aA 3 aG)))))))) Q g w :=
  aL 1 _ g w (by kernel_rfl) (Ir (aX (fun g w => aQ pg aH (aA 1 (bI (aA 1 (bI (bI (aC 1 (aA 1 (aA 1 (aA 3 aG))))))))) Q g w) Q) g w (fun aM aT aZ iR w => nW kn aM aT aZ iR w) (fun g w h => aS (K := fun g w => aQ pg aH (aA 1 (bI (aA 1 (bI (bI (aC 1 (aA 1 (aA 1 (aA 3 aG))))))))) Q g w) (II Q g w kn hn h)) h)
def nM (kn : K3) (aM aT aZ : Value) (w : World) : Prop :=
  tX kn aM aT aZ w
theorem Jc (kn : K3) (hn : ∀ g w, kn (g 0) (g 5) (g 6) w → Q .normal g w) (h : nM kn (g 0) (g 5) (g 6) w) : aQ pg aH (aA 1 (bI (bI (aC 1 (aA 1 (aA 1 (aA 3 aG))))))) Q g w :=
  cU 7 _ g w (by kernel_rfl) (Im (rP 7 Q) g w kn hn h)
def uN (kn : K3) (k6 : K1) (aM aT aZ : Value) (w : World) : Prop :=
  aD pg (aN .gtr 3 (.tmp 116) (.const (.int .i64 0)) aZ (.int .i64 0)) w fun t117 w =>
  hH t117
    (kn aM aT aZ w)
    (k6 aT w)
theorem IG (kn : K3) (k6 : K1) (hn : ∀ g w, kn (g 0) (g 5) (g 6) w → Q .normal g w) (h6 : ∀ g w, k6 (g 5) w → Q (.exit 6) g w) (h : uN kn k6 (g 0) (g 5) (g 6) w) : aQ pg aH (aC 1 (bI (bI (aC 1 (aA 1 (aA 1 (aA 3 aG))))))) Q g w :=
  aI (kr := no) (l := [(6, fun g w => k6 (g 5) w)]) (by kernel_rfl) h hn fG ⟨h6, trivial⟩
def nY (kn : K3) (k6 : K1) (aM aT aZ : Value) (w : World) : Prop :=
  uN (fun aM aT aZ w => nM kn aM aT aZ w) k6 aM aT aZ w
theorem IT (kn : K3) (k6 : K1) (hn : ∀ g w, kn (g 0) (g 5) (g 6) w → Q .normal g w) (h6 : ∀ g w, k6 (g 5) w → Q (.exit 6) g w) (h : nY kn k6 (g 0) (g 5) (g 6) w) : aQ pg aH (bI (bI (aC 1 (aA 1 (aA 1 (aA 3 aG)))))) Q g w :=
  aL 1 _ g w (by kernel_rfl) (IG (aX (fun g w => aQ pg aH (aA 1 (bI (bI (aC 1 (aA 1 (aA 1 (aA 3 aG))))))) Q g w) Q) g w (fun aM aT aZ w => nM kn aM aT aZ w) k6 (fun g w h => aS (K := fun g w => aQ pg aH (aA 1 (bI (bI (aC 1 (aA 1 (aA 1 (aA 3 aG))))))) Q g w) (Jc Q g w kn hn h)) h6 h)
def tZ (k6 : K1) (aM aT aZ : Value) (w : World) : Prop :=
  cV (fun (X : Value → K0) (t : Value) (w : World) => nY (fun _ _ aZ w => X aZ w) k6 aM aT t w) aZ w
theorem IK (k6 : K1) (h6 : ∀ g w, k6 (g 5) w → Q (.exit 6) g w) (h : tZ k6 (g 0) (g 5) (g 6) w) : aQ pg aH (bI (aC 1 (aA 1 (aA 1 (aA 3 aG))))) Q g w := by
  refine cR (T := Value) (fun g : eL => g 6) (fun X t w => nY (fun _ _ aZ w => X aZ w) k6 (g 0) (g 5) t w) _ (by kernel_rfl) h (fun X g1 w1 ha hL => ?_)
  rw [← aO (s := 0) ha (by kernel_rfl)] at hL
  rw [← aO (s := 5) ha (by kernel_rfl)] at hL
  exact (IT (aX (fun g2 w2 => X ((fun g : eL => g 6) g2) w2) Q) g1 w1 (fun _ _ aZ w => X aZ w) k6 (fun _ _ h => h) h6 hL)
def uJ (kn : K1) (aM aT aZ : Value) (w : World) : Prop :=
  tZ kn aM aT aZ w
theorem Il (kn : K1) (hn : ∀ g w, kn (g 5) w → Q .normal g w) (h : uJ kn (g 0) (g 5) (g 6) w) : aQ pg aH (aC 1 (aA 1 (aA 1 (aA 3 aG)))) Q g w :=
  cU 6 _ g w (by kernel_rfl) (IK (rP 6 Q) g w kn hn h)
def jZ (R : K1) (aM aT aZ : Value) (w : World) : Prop :=
  uJ (fun aT w => oS R aT w) aM aT aZ w
theorem I4 (R : K1) (hr : HR jM R Q) (h : jZ R (g 0) (g 5) (g 6) w) : aQ pg aH (aA 1 (aA 1 (aA 3 aG))) Q g w :=
  aL 1 _ g w (by kernel_rfl) (Il (aX (fun g w => aQ pg aH (aA 1 (aA 1 (aA 1 (aA 3 aG)))) Q g w) Q) g w (fun aT w => oS R aT w) (fun g w h => aS (K := fun g w => aQ pg aH (aA 1 (aA 1 (aA 1 (aA 3 aG)))) Q g w) (JI Q g w R hr h)) h)
def oB (kn : K3) (aM aT aZ mF : Value) (w : World) : Prop :=
  aD pg (cD 62 aT mF) w fun t104 w =>
  aD pg (aW 3 t104) w fun t105 w =>
  aD pg (aN .sub 3 (.const (.int .i64 11)) (.tmp 105) (.int .i64 11) t105) w fun t106 w =>
  aD pg (aN .sub 3 (.tmp 106) (.const (.int .i64 1)) t106 (.int .i64 1)) w fun t107 w =>
  aD pg (aN .shl 3 (.const (.int .i64 1)) (.tmp 107) (.int .i64 1) t107) w fun t108 w =>
  aD pg (aN .add 3 (.tmp 101) (.tmp 108) aZ t108) w fun t109 w =>
  aD pg (cD 62 aT mF) w fun t112 w =>
  aD pg (aW 3 t112) w fun t113 w =>
  aD pg (aN .add 3 (.tmp 113) (.const (.int .i64 1)) t113 (.int .i64 1)) w fun t114 w =>
  aD pg (cD 62 aT mF) w fun t115 w =>
  aD pg (cB 3 t115 t114) w fun _u w =>
  kn aM aT t109 w
theorem H7 (kn : K3) (hn : ∀ g w, kn (g 0) (g 5) (g 6) w → Q .normal g w) (h : oB kn (g 0) (g 5) (g 6) (g 9) w) : aQ pg aH (aA 1 (aA 1 (bI (aA 1 (bI (bI (aC 1 (aA 1 (aA 3 aG))))))))) Q g w :=
  aI (kr := no) (l := []) (by kernel_rfl) h hn fG trivial
def nO (kn : K7) (aM aT aZ mF t49 t50 t51 : Value) (w : World) : Prop :=
  aD pg (aN .add 3 (.tmp 51) (.const (.int .i64 1)) t51 (.int .i64 1)) w fun t100 w =>
  kn aM aT aZ mF t49 t50 t100 w
theorem Ia (kn : K7) (hn : ∀ g w, kn (g 0) (g 5) (g 6) (g 9) (g 49) (g 50) (g 51) w → Q .normal g w) (h : nO kn (g 0) (g 5) (g 6) (g 9) (g 49) (g 50) (g 51) w) : aQ pg aH (aA 3 (bI (bI (aA 1 (aC 1 (aA 1 (bI (aA 1 (bI (bI (aC 1 (aA 1 (aA 3 aG))))))))))))) Q g w :=
  aI (kr := no) (l := []) (by kernel_rfl) h hn fG trivial
def uF (kn : K7) (k4 : K4) (aM aT aZ mF t49 t50 t51 : Value) (w : World) : Prop :=
  aD pg (aN .lss 3 (.tmp 51) (.tmp 50) t51 t50) w fun t52 w =>
  hH t52
    (aD pg (cD 43 t49 t51) w fun t54 w =>
    aD pg (aW 45 t54) w fun t55 w =>
    (dr w) = (dr w) ∧
    aD pg (aN .gtr 45 (.tmp 56) (.const (.int .u32 0)) t55 (.int .u32 0)) (dr w) fun t57 w_ => w_ = (dr w) ∧
    (dr w) = (dr w) ∧
    Gd (dW t57 true) (fun K => K aT (dr w)) (dr w) fun t59 w_ => w_ = (dr w) ∧
    Gd (dW t57 true) (fun K => K t51 (dr w)) (dr w) fun t60 w_ => w_ = (dr w) ∧
    Gd (dW t57 true) (fun K => aD pg (cD 62 t59 t60) (dr w) K) (dr w) fun t61 w_ => w_ = (dr w) ∧
    Gd (dW t57 true) (fun K => aD pg (aW 3 t61) (dr w) K) (dr w) fun t62 w_ => w_ = (dr w) ∧
    Gd (dW t57 true) (fun K => aD pg (aN .lss 3 (.tmp 62) (.const (.int .i64 11)) t62 (.int .i64 11)) (dr w) K) (dr w) fun t63 w_ => w_ = (dr w) ∧
    aD pg (fJ t57 t63 (.bool false)) (dr w) fun t64 w_ => w_ = (dr w) ∧
    (dr w) = (dr w) ∧
    Gd (dW t64 true) (fun K => K mF (dr w)) (dr w) fun t66 w_ => w_ = (dr w) ∧
    Gd (dW t64 true) (fun K => aD pg (aN .lss 3 (.tmp 66) (.const (.int .i64 0)) t66 (.int .i64 0)) (dr w) K) (dr w) fun t67 w_ => w_ = (dr w) ∧
    Gd (dW t64 true) (fun K => K t67 (dr w)) (dr w) fun t68 w_ => w_ = (dr w) ∧
    Gd (dW t68 false) (fun K => K aT (dr w)) (dr w) fun t69 w_ => w_ = (dr w) ∧
    Gd (dW t68 false) (fun K => K t51 (dr w)) (dr w) fun t70 w_ => w_ = (dr w) ∧
    Gd (dW t68 false) (fun K => aD pg (cD 62 t69 t70) (dr w) K) (dr w) fun t71 w_ => w_ = (dr w) ∧
    Gd (dW t68 false) (fun K => aD pg (aW 3 t71) (dr w) K) (dr w) fun t72 w_ => w_ = (dr w) ∧
    Gd (dW t68 false) (fun K => K aT (dr w)) (dr w) fun t73 w_ => w_ = (dr w) ∧
    Gd (dW t68 false) (fun K => K mF (dr w)) (dr w) fun t74 w_ => w_ = (dr w) ∧
    Gd (dW t68 false) (fun K => aD pg (cD 62 t73 t74) (dr w) K) (dr w) fun t75 w_ => w_ = (dr w) ∧
    Gd (dW t68 false) (fun K => aD pg (aW 3 t75) (dr w) K) (dr w) fun t76 w_ => w_ = (dr w) ∧
    Gd (dW t68 false) (fun K => aD pg (aN .gtr 3 (.tmp 72) (.tmp 76) t72 t76) (dr w) K) (dr w) fun t77 w_ => w_ = (dr w) ∧
    Gd (dW t64 true) (fun K => aD pg (fJ t68 (.bool true) t77) (dr w) K) (dr w) fun t78 w_ => w_ = (dr w) ∧
    Gd (dW t64 true) (fun K => K t78 (dr w)) (dr w) fun t79 w_ => w_ = (dr w) ∧
    Gd (dW t79 false) (fun K => K aT (dr w)) (dr w) fun t80 w_ => w_ = (dr w) ∧
    Gd (dW t79 false) (fun K => K t51 (dr w)) (dr w) fun t81 w_ => w_ = (dr w) ∧
    Gd (dW t79 false) (fun K => aD pg (cD 62 t80 t81) (dr w) K) (dr w) fun t82 w_ => w_ = (dr w) ∧
    Gd (dW t79 false) (fun K => aD pg (aW 3 t82) (dr w) K) (dr w) fun t83 w_ => w_ = (dr w) ∧
    Gd (dW t79 false) (fun K => K aT (dr w)) (dr w) fun t84 w_ => w_ = (dr w) ∧
    Gd (dW t79 false) (fun K => K mF (dr w)) (dr w) fun t85 w_ => w_ = (dr w) ∧
    Gd (dW t79 false) (fun K => aD pg (cD 62 t84 t85) (dr w) K) (dr w) fun t86 w_ => w_ = (dr w) ∧
    Gd (dW t79 false) (fun K => aD pg (aW 3 t86) (dr w) K) (dr w) fun t87 w_ => w_ = (dr w) ∧
    Gd (dW t79 false) (fun K => aD pg (aN .eql 3 (.tmp 83) (.tmp 87) t83 t87) (dr w) K) (dr w) fun t88 w_ => w_ = (dr w) ∧
    Gd (dW t79 false) (fun K => K t88 (dr w)) (dr w) fun t89 w_ => w_ = (dr w) ∧
    Gd (dW t89 true) (fun K => K t55 (dr w)) (dr w) fun t90 w_ => w_ = (dr w) ∧
    Gd (dW t89 true) (fun K => K aM (dr w)) (dr w) fun t91 w_ => w_ = (dr w) ∧
    Gd (dW t89 true) (fun K => K mF (dr w)) (dr w) fun t92 w_ => w_ = (dr w) ∧
    Gd (dW t89 true) (fun K => aD pg (cD 43 t91 t92) (dr w) K) (dr w) fun t93 w_ => w_ = (dr w) ∧
    Gd (dW t89 true) (fun K => aD pg (aW 45 t93) (dr w) K) (dr w) fun t94 w_ => w_ = (dr w) ∧
    Gd (dW t89 true) (fun K => aD pg (aN .lss 45 (.tmp 90) (.tmp 94) t90 t94) (dr w) K) (dr w) fun t95 w_ => w_ = (dr w) ∧
    Gd (dW t79 false) (fun K => aD pg (fJ t89 t95 (.bool false)) (dr w) K) (dr w) fun t96 w_ => w_ = (dr w) ∧
    Gd (dW t64 true) (fun K => aD pg (fJ t79 (.bool true) t96) (dr w) K) (dr w) fun t97 w_ => w_ = (dr w) ∧
    aD pg (fJ t64 t97 (.bool false)) (dr w) fun t98 w_ => w_ = (dr w) ∧
    hH t98
      (kn aM aT aZ t51 t49 t50 t51 (dr w))
      (kn aM aT aZ mF t49 t50 t51 (dr w)))
    (k4 aM aT aZ mF w)
theorem Jb (kn : K7) (k4 : K4) (hn : ∀ g w, kn (g 0) (g 5) (g 6) (g 9) (g 49) (g 50) (g 51) w → Q .normal g w) (h4 : ∀ g w, k4 (g 0) (g 5) (g 6) (g 9) w → Q (.exit 4) g w) (h : uF kn k4 (g 0) (g 5) (g 6) (g 9) (g 49) (g 50) (g 51) w) : aQ pg aH (aC 3 (bI (bI (aA 1 (aC 1 (aA 1 (bI (aA 1 (bI (bI (aC 1 (aA 1 (aA 3 aG))))))))))))) Q g w :=
  aI (kr := no) (l := [(4, fun g w => k4 (g 0) (g 5) (g 6) (g 9) w)]) (by kernel_rfl) h hn fG ⟨h4, trivial⟩
def nQ (kn : K7) (k4 : K4) (aM aT aZ mF t49 t50 t51 : Value) (w : World) : Prop :=
  uF (fun aM aT aZ mF t49 t50 t51 w => nO kn aM aT aZ mF t49 t50 t51 w) k4 aM aT aZ mF t49 t50 t51 w
theorem H4 (kn : K7) (k4 : K4) (hn : ∀ g w, kn (g 0) (g 5) (g 6) (g 9) (g 49) (g 50) (g 51) w → Q .normal g w) (h4 : ∀ g w, k4 (g 0) (g 5) (g 6) (g 9) w → Q (.exit 4) g w) (h : nQ kn k4 (g 0) (g 5) (g 6) (g 9) (g 49) (g 50) (g 51) w) : aQ pg aH (bI (bI (aA 1 (aC 1 (aA 1 (bI (aA 1 (bI (bI (aC 1 (aA 1 (aA 3 aG)))))))))))) Q g w :=
  aL 3 _ g w (by kernel_rfl) (Jb (aX (fun g w => aQ pg aH (aA 3 (bI (bI (aA 1 (aC 1 (aA 1 (bI (aA 1 (bI (bI (aC 1 (aA 1 (aA 3 aG))))))))))))) Q g w) Q) g w (fun aM aT aZ mF t49 t50 t51 w => nO kn aM aT aZ mF t49 t50 t51 w) k4 (fun g w h => aS (K := fun g w => aQ pg aH (aA 3 (bI (bI (aA 1 (aC 1 (aA 1 (bI (aA 1 (bI (bI (aC 1 (aA 1 (aA 3 aG))))))))))))) Q g w) (Ia Q g w kn hn h)) h4 h)
def uA (k4 : K4) (aM aT aZ mF t49 t50 t51 : Value) (w : World) : Prop :=
  cV (fun (X : (Value × Value) → K0) (t : Value × Value) (w : World) => nQ (fun _ _ _ mF _ _ t51 w => X (mF, t51) w) k4 aM aT aZ t.1 t49 t50 t.2 w) (mF, t51) w
theorem IF (k4 : K4) (h4 : ∀ g w, k4 (g 0) (g 5) (g 6) (g 9) w → Q (.exit 4) g w) (h : uA k4 (g 0) (g 5) (g 6) (g 9) (g 49) (g 50) (g 51) w) : aQ pg aH (bI (aA 1 (aC 1 (aA 1 (bI (aA 1 (bI (bI (aC 1 (aA 1 (aA 3 aG))))))))))) Q g w := by
  refine cR (T := Value × Value) (fun g : eL => (g 9, g 51)) (fun X t w => nQ (fun _ _ _ mF _ _ t51 w => X (mF, t51) w) k4 (g 0) (g 5) (g 6) t.1 (g 49) (g 50) t.2 w) _ (by kernel_rfl) h (fun X g1 w1 ha hL => ?_)
  rw [← aO (s := 0) ha (by kernel_rfl)] at hL
  rw [← aO (s := 5) ha (by kernel_rfl)] at hL
  rw [← aO (s := 6) ha (by kernel_rfl)] at hL
  rw [← aO (s := 49) ha (by kernel_rfl)] at hL
  rw [← aO (s := 50) ha (by kernel_rfl)] at hL
  exact (H4 (aX (fun g2 w2 => X ((fun g : eL => (g 9, g 51)) g2) w2) Q) g1 w1 (fun _ _ _ mF _ _ t51 w => X (mF, t51) w) k4 (fun _ _ h => h) h4 hL)
def nL (kn : K4) (aM aT aZ mF t49 t50 t51 : Value) (w : World) : Prop :=
  uA kn aM aT aZ mF t49 t50 t51 w
theorem Ie (kn : K4) (hn : ∀ g w, kn (g 0) (g 5) (g 6) (g 9) w → Q .normal g w) (h : nL kn (g 0) (g 5) (g 6) (g 9) (g 49) (g 50) (g 51) w) : aQ pg aH (aA 1 (aC 1 (aA 1 (bI (aA 1 (bI (bI (aC 1 (aA 1 (aA 3 aG)))))))))) Q g w :=
  cU 4 _ g w (by kernel_rfl) (IF (rP 4 Q) g w kn hn h)
def uT (kn : K7) (aM aT aZ mF : Value) (w : World) : Prop :=
  aD pg (iJ .len #[43] 3 [aM]) w fun t50 w =>
  kn aM aT aZ mF aM t50 (.int .i64 0) w
theorem IV (kn : K7) (hn : ∀ g w, kn (g 0) (g 5) (g 6) (g 9) (g 49) (g 50) (g 51) w → Q .normal g w) (h : uT kn (g 0) (g 5) (g 6) (g 9) w) : aQ pg aH (aC 1 (aC 1 (aA 1 (bI (aA 1 (bI (bI (aC 1 (aA 1 (aA 3 aG)))))))))) Q g w :=
  aI (kr := no) (l := []) (by kernel_rfl) h hn fG trivial
def nV (kn : K4) (aM aT aZ mF : Value) (w : World) : Prop :=
  uT (fun aM aT aZ mF t49 t50 t51 w => nL kn aM aT aZ mF t49 t50 t51 w) aM aT aZ mF w
theorem IQ (kn : K4) (hn : ∀ g w, kn (g 0) (g 5) (g 6) (g 9) w → Q .normal g w) (h : nV kn (g 0) (g 5) (g 6) (g 9) w) : aQ pg aH (aC 1 (aA 1 (bI (aA 1 (bI (bI (aC 1 (aA 1 (aA 3 aG))))))))) Q g w :=
  aL 1 _ g w (by kernel_rfl) (IV (aX (fun g w => aQ pg aH (aA 1 (aC 1 (aA 1 (bI (aA 1 (bI (bI (aC 1 (aA 1 (aA 3 aG)))))))))) Q g w) Q) g w (fun aM aT aZ mF t49 t50 t51 w => nL kn aM aT aZ mF t49 t50 t51 w) (fun g w h => aS (K := fun g w => aQ pg aH (aA 1 (aC 1 (aA 1 (bI (aA 1 (bI (bI (aC 1 (aA 1 (aA 3 aG)))))))))) Q g w) (Ie Q g w kn hn h)) h)
def nP (kn : K3) (aM aT aZ mF : Value) (w : World) : Prop :=
  nV (fun aM aT aZ mF w => oB kn aM aT aZ mF w) aM aT aZ mF w
theorem IE (kn : K3) (hn : ∀ g w, kn (g 0) (g 5) (g 6) w → Q .normal g w) (h : nP kn (g 0) (g 5) (g 6) (g 9) w) : aQ pg aH (aA 1 (bI (aA 1 (bI (bI (aC 1 (aA 1 (aA 3 aG)))))))) Q g w :=
  aL 1 _ g w (by kernel_rfl) (IQ (aX (fun g w => aQ pg aH (aA 1 (aA 1 (bI (aA 1 (bI (bI (aC 1 (aA 1 (aA 3 aG))))))))) Q g w) Q) g w (fun aM aT aZ mF w => oB kn aM aT aZ mF w) (fun g w h => aS (K := fun g w => aQ pg aH (aA 1 (aA 1 (bI (aA 1 (bI (bI (aC 1 (aA 1 (aA 3 aG))))))))) Q g w) (H7 Q g w kn hn h)) h)
def uO (kn : K4) (aM aT aZ : Value) (w : World) : Prop :=
  kn aM aT aZ (.int .i64 (-1)) w
theorem Ip (kn : K4) (hn : ∀ g w, kn (g 0) (g 5) (g 6) (g 9) w → Q .normal g w) (h : uO kn (g 0) (g 5) (g 6) w) : aQ pg aH (aC 1 (bI (aA 1 (bI (bI (aC 1 (aA 1 (aA 3 aG)))))))) Q g w :=
  aI (kr := no) (l := []) (by kernel_rfl) h hn fG trivial
def uS (kn : K3) (aM aT aZ : Value) (w : World) : Prop :=
  uO (fun aM aT aZ mF w => nP kn aM aT aZ mF w) aM aT aZ w
theorem IX (kn : K3) (hn : ∀ g w, kn (g 0) (g 5) (g 6) w → Q .normal g w) (h : uS kn (g 0) (g 5) (g 6) w) : aQ pg aH (bI (aA 1 (bI (bI (aC 1 (aA 1 (aA 3 aG))))))) Q g w :=
  aL 1 _ g w (by kernel_rfl) (Ip (aX (fun g w => aQ pg aH (aA 1 (bI (aA 1 (bI (bI (aC 1 (aA 1 (aA 3 aG)))))))) Q g w) Q) g w (fun aM aT aZ mF w => nP kn aM aT aZ mF w) (fun g w h => aS (K := fun g w => aQ pg aH (aA 1 (bI (aA 1 (bI (bI (aC 1 (aA 1 (aA 3 aG)))))))) Q g w) (IE Q g w kn hn h)) h)
def nU (kn : K3) (aM aT aZ : Value) (w : World) : Prop :=
  uS kn aM aT aZ w
theorem IJ (kn : K3) (hn : ∀ g w, kn (g 0) (g 5) (g 6) w → Q .normal g w) (h : nU kn (g 0) (g 5) (g 6) w) : aQ pg aH (aA 1 (bI (bI (aC 1 (aA 1 (aA 3 aG)))))) Q g w :=
  cU 3 _ g w (by kernel_rfl) (IX (rP 3 Q) g w kn hn h)
def uI (kn : K3) (k2 : K3) (aM aT aZ : Value) (w : World) : Prop :=
  aD pg (aN .lss 3 (.tmp 47) (.const (.int .i64 0)) aZ (.int .i64 0)) w fun t48 w =>
  hH t48
    (kn aM aT aZ w)
    (k2 aM aT aZ w)
theorem In (kn : K3) (k2 : K3) (hn : ∀ g w, kn (g 0) (g 5) (g 6) w → Q .normal g w) (h2 : ∀ g w, k2 (g 0) (g 5) (g 6) w → Q (.exit 2) g w) (h : uI kn k2 (g 0) (g 5) (g 6) w) : aQ pg aH (aC 1 (bI (bI (aC 1 (aA 1 (aA 3 aG)))))) Q g w :=
  aI (kr := no) (l := [(2, fun g w => k2 (g 0) (g 5) (g 6) w)]) (by kernel_rfl) h hn fG ⟨h2, trivial⟩
def nZ (kn : K3) (k2 : K3) (aM aT aZ : Value) (w : World) : Prop :=
  uI (fun aM aT aZ w => nU kn aM aT aZ w) k2 aM aT aZ w
theorem IA (kn : K3) (k2 : K3) (hn : ∀ g w, kn (g 0) (g 5) (g 6) w → Q .normal g w) (h2 : ∀ g w, k2 (g 0) (g 5) (g 6) w → Q (.exit 2) g w) (h : nZ kn k2 (g 0) (g 5) (g 6) w) : aQ pg aH (bI (bI (aC 1 (aA 1 (aA 3 aG))))) Q g w :=
  aL 1 _ g w (by kernel_rfl) (In (aX (fun g w => aQ pg aH (aA 1 (bI (bI (aC 1 (aA 1 (aA 3 aG)))))) Q g w) Q) g w (fun aM aT aZ w => nU kn aM aT aZ w) k2 (fun g w h => aS (K := fun g w => aQ pg aH (aA 1 (bI (bI (aC 1 (aA 1 (aA 3 aG)))))) Q g w) (IJ Q g w kn hn h)) h2 h)
def uP (k2 : K3) (aM aT aZ : Value) (w : World) : Prop :=
  cV (fun (X : Value → K0) (t : Value) (w : World) => nZ (fun _ _ aZ w => X aZ w) k2 aM aT t w) aZ w
theorem Iu (k2 : K3) (h2 : ∀ g w, k2 (g 0) (g 5) (g 6) w → Q (.exit 2) g w) (h : uP k2 (g 0) (g 5) (g 6) w) : aQ pg aH (bI (aC 1 (aA 1 (aA 3 aG)))) Q g w := by
  refine cR (T := Value) (fun g : eL => g 6) (fun X t w => nZ (fun _ _ aZ w => X aZ w) k2 (g 0) (g 5) t w) _ (by kernel_rfl) h (fun X g1 w1 ha hL => ?_)
  rw [← aO (s := 0) ha (by kernel_rfl)] at hL
  rw [← aO (s := 5) ha (by kernel_rfl)] at hL
  exact (IA (aX (fun g2 w2 => X ((fun g : eL => g 6) g2) w2) Q) g1 w1 (fun _ _ aZ w => X aZ w) k2 (fun _ _ h => h) h2 hL)
def uE (kn : K3) (aM aT aZ : Value) (w : World) : Prop :=
  uP kn aM aT aZ w
theorem Ih (kn : K3) (hn : ∀ g w, kn (g 0) (g 5) (g 6) w → Q .normal g w) (h : uE kn (g 0) (g 5) (g 6) w) : aQ pg aH (aC 1 (aA 1 (aA 3 aG))) Q g w :=
  cU 2 _ g w (by kernel_rfl) (Iu (rP 2 Q) g w kn hn h)
def kA (R : K1) (aM aT aZ : Value) (w : World) : Prop :=
  uE (fun aM aT aZ w => jZ R aM aT aZ w) aM aT aZ w
theorem Io (R : K1) (hr : HR jM R Q) (h : kA R (g 0) (g 5) (g 6) w) : aQ pg aH (aA 1 (aA 3 aG)) Q g w :=
  aL 1 _ g w (by kernel_rfl) (Ih (aX (fun g w => aQ pg aH (aA 1 (aA 1 (aA 3 aG))) Q g w) Q) g w (fun aM aT aZ w => jZ R aM aT aZ w) (fun g w h => aS (K := fun g w => aQ pg aH (aA 1 (aA 1 (aA 3 aG))) Q g w) (I4 Q g w R hr h)) h)
def nS (kn : K7) (aM lA aT aZ t18 t19 t20 : Value) (w : World) : Prop :=
  aD pg (aN .add 3 (.tmp 20) (.const (.int .i64 1)) t20 (.int .i64 1)) w fun t46 w =>
  kn aM lA aT aZ t18 t19 t46 w
theorem Iq (kn : K7) (hn : ∀ g w, kn (g 0) (g 1) (g 5) (g 6) (g 18) (g 19) (g 20) w → Q .normal g w) (h : nS kn (g 0) (g 1) (g 5) (g 6) (g 18) (g 19) (g 20) w) : aQ pg aH (aA 3 (bI (bI (aA 1 (aC 1 (aA 3 aG)))))) Q g w :=
  aI (kr := no) (l := []) (by kernel_rfl) h hn fG trivial
def uC (kn : K7) (k0 : K3) (aM lA aT aZ t18 t19 t20 : Value) (w : World) : Prop :=
  aD pg (aN .lss 3 (.tmp 20) (.tmp 19) t20 t19) w fun t21 w =>
  hH t21
    (aD pg (cD 43 t18 t20) w fun t23 w =>
    aD pg (aW 45 t23) w fun t24 w =>
    aD pg (aN .gtr 45 (.tmp 25) (.const (.int .u32 0)) t24 (.int .u32 0)) w fun t26 w =>
    hH t26
      (aD pg (aN .sub 44 (.tmp 29) (.const (.int .u64 1)) lA (.int .u64 1)) w fun t30 w =>
      aD pg (jH 45 44 t24) w fun t32 w =>
      aD pg (aN .quo 44 (.tmp 30) (.tmp 32) t30 t32) w fun t33 w =>
      cC pg mX #[t33] w fun t34 w =>
      aD pg (iJ .max #[3, 3] 3 [t34, (.int .i64 1)]) w fun t35 w =>
      aD pg (iJ .min #[3, 3] 3 [t35, (.int .i64 11)]) w fun t36 w =>
      aD pg (cD 62 aT t20) w fun t37 w =>
      aD pg (cB 3 t37 t36) w fun _u w =>
      aD pg (cD 62 aT t20) w fun t41 w =>
      aD pg (aW 3 t41) w fun t42 w =>
      aD pg (aN .sub 3 (.const (.int .i64 11)) (.tmp 42) (.int .i64 11) t42) w fun t43 w =>
      aD pg (aN .shl 3 (.const (.int .i64 1)) (.tmp 43) (.int .i64 1) t43) w fun t44 w =>
      aD pg (aN .sub 3 (.tmp 38) (.tmp 44) aZ t44) w fun t45 w =>
      kn aM lA aT t45 t18 t19 t20 w)
      (kn aM lA aT aZ t18 t19 t20 w))
    (k0 aM aT aZ w)
theorem IW (kn : K7) (k0 : K3) (hn : ∀ g w, kn (g 0) (g 1) (g 5) (g 6) (g 18) (g 19) (g 20) w → Q .normal g w) (h0 : ∀ g w, k0 (g 0) (g 5) (g 6) w → Q (.exit 0) g w) (h : uC kn k0 (g 0) (g 1) (g 5) (g 6) (g 18) (g 19) (g 20) w) : aQ pg aH (aC 3 (bI (bI (aA 1 (aC 1 (aA 3 aG)))))) Q g w :=
  aI (kr := no) (l := [(0, fun g w => k0 (g 0) (g 5) (g 6) w)]) (by kernel_rfl) h hn fG ⟨h0, trivial⟩
def oA (kn : K7) (k0 : K3) (aM lA aT aZ t18 t19 t20 : Value) (w : World) : Prop :=
  uC (fun aM lA aT aZ t18 t19 t20 w => nS kn aM lA aT aZ t18 t19 t20 w) k0 aM lA aT aZ t18 t19 t20 w
theorem IS (kn : K7) (k0 : K3) (hn : ∀ g w, kn (g 0) (g 1) (g 5) (g 6) (g 18) (g 19) (g 20) w → Q .normal g w) (h0 : ∀ g w, k0 (g 0) (g 5) (g 6) w → Q (.exit 0) g w) (h : oA kn k0 (g 0) (g 1) (g 5) (g 6) (g 18) (g 19) (g 20) w) : aQ pg aH (bI (bI (aA 1 (aC 1 (aA 3 aG))))) Q g w :=
  aL 3 _ g w (by kernel_rfl) (IW (aX (fun g w => aQ pg aH (aA 3 (bI (bI (aA 1 (aC 1 (aA 3 aG)))))) Q g w) Q) g w (fun aM lA aT aZ t18 t19 t20 w => nS kn aM lA aT aZ t18 t19 t20 w) k0 (fun g w h => aS (K := fun g w => aQ pg aH (aA 3 (bI (bI (aA 1 (aC 1 (aA 3 aG)))))) Q g w) (Iq Q g w kn hn h)) h0 h)
def uH (k0 : K3) (aM lA aT aZ t18 t19 t20 : Value) (w : World) : Prop :=
  cV (fun (X : (Value × Value) → K0) (t : Value × Value) (w : World) => oA (fun _ _ _ aZ _ _ t20 w => X (aZ, t20) w) k0 aM lA aT t.1 t18 t19 t.2 w) (aZ, t20) w
theorem Ij (k0 : K3) (h0 : ∀ g w, k0 (g 0) (g 5) (g 6) w → Q (.exit 0) g w) (h : uH k0 (g 0) (g 1) (g 5) (g 6) (g 18) (g 19) (g 20) w) : aQ pg aH (bI (aA 1 (aC 1 (aA 3 aG)))) Q g w := by
  refine cR (T := Value × Value) (fun g : eL => (g 6, g 20)) (fun X t w => oA (fun _ _ _ aZ _ _ t20 w => X (aZ, t20) w) k0 (g 0) (g 1) (g 5) t.1 (g 18) (g 19) t.2 w) _ (by kernel_rfl) h (fun X g1 w1 ha hL => ?_)
  rw [← aO (s := 0) ha (by kernel_rfl)] at hL
  rw [← aO (s := 1) ha (by kernel_rfl)] at hL
  rw [← aO (s := 5) ha (by kernel_rfl)] at hL
  rw [← aO (s := 18) ha (by kernel_rfl)] at hL
  rw [← aO (s := 19) ha (by kernel_rfl)] at hL
  exact (IS (aX (fun g2 w2 => X ((fun g : eL => (g 6, g 20)) g2) w2) Q) g1 w1 (fun _ _ _ aZ _ _ t20 w => X (aZ, t20) w) k0 (fun _ _ h => h) h0 hL)
def nT (kn : K3) (aM lA aT aZ t18 t19 t20 : Value) (w : World) : Prop :=
  uH kn aM lA aT aZ t18 t19 t20 w
theorem IU (kn : K3) (hn : ∀ g w, kn (g 0) (g 5) (g 6) w → Q .normal g w) (h : nT kn (g 0) (g 1) (g 5) (g 6) (g 18) (g 19) (g 20) w) : aQ pg aH (aA 1 (aC 1 (aA 3 aG))) Q g w :=
  cU 0 _ g w (by kernel_rfl) (Ij (rP 0 Q) g w kn hn h)
def uK (kn : K7) (aM lA aT aZ : Value) (w : World) : Prop :=
  aD pg (iJ .len #[43] 3 [aM]) w fun t19 w =>
  kn aM lA aT aZ aM t19 (.int .i64 0) w
theorem I3 (kn : K7) (hn : ∀ g w, kn (g 0) (g 1) (g 5) (g 6) (g 18) (g 19) (g 20) w → Q .normal g w) (h : uK kn (g 0) (g 1) (g 5) (g 6) w) : aQ pg aH (aC 1 (aC 1 (aA 3 aG))) Q g w :=
  aI (kr := no) (l := []) (by kernel_rfl) h hn fG trivial
def uL (kn : K3) (aM lA aT aZ : Value) (w : World) : Prop :=
  uK (fun aM lA aT aZ t18 t19 t20 w => nT kn aM lA aT aZ t18 t19 t20 w) aM lA aT aZ w
theorem IY (kn : K3) (hn : ∀ g w, kn (g 0) (g 5) (g 6) w → Q .normal g w) (h : uL kn (g 0) (g 1) (g 5) (g 6) w) : aQ pg aH (aC 1 (aA 3 aG)) Q g w :=
  aL 1 _ g w (by kernel_rfl) (I3 (aX (fun g w => aQ pg aH (aA 1 (aC 1 (aA 3 aG))) Q g w) Q) g w (fun aM lA aT aZ t18 t19 t20 w => nT kn aM lA aT aZ t18 t19 t20 w) (fun g w h => aS (K := fun g w => aQ pg aH (aA 1 (aC 1 (aA 3 aG))) Q g w) (IU Q g w kn hn h)) h)
def lB (R : K1) (aM lA aT aZ : Value) (w : World) : Prop :=
  uL (fun aM aT aZ w => kA R aM aT aZ w) aM lA aT aZ w
theorem Is (R : K1) (hr : HR jM R Q) (h : lB R (g 0) (g 1) (g 5) (g 6) w) : aQ pg aH (aA 3 aG) Q g w :=
  aL 1 _ g w (by kernel_rfl) (IY (aX (fun g w => aQ pg aH (aA 1 (aA 3 aG)) Q g w) Q) g w (fun aM aT aZ w => kA R aM aT aZ w) (fun g w h => aS (K := fun g w => aQ pg aH (aA 1 (aA 3 aG)) Q g w) (Io Q g w R hr h)) h)
def uG (kn : K4) (aM lA : Value) (w : World) : Prop :=
  aD pg (iJ .len #[43] 3 [aM]) w fun t16 w =>
  aD pg (oD 62 t16 t16) w fun t17 w =>
  kn aM lA t17 (.int .i64 2048) w
theorem Ii (kn : K4) (hn : ∀ g w, kn (g 0) (g 1) (g 5) (g 6) w → Q .normal g w) (h : uG kn (g 0) (g 1) w) : aQ pg aH (aC 3 aG) Q g w :=
  aI (kr := no) (l := []) (by kernel_rfl) h hn fG trivial
def uQ (R : K1) (aM lA : Value) (w : World) : Prop :=
  uG (fun aM lA aT aZ w => lB R aM lA aT aZ w) aM lA w
theorem I0 (R : K1) (hr : HR jM R Q) (h : uQ R (g 0) (g 1) w) : aQ pg aH aG Q g w :=
  aL 3 _ g w (by kernel_rfl) (Ii (aX (fun g w => aQ pg aH (aA 3 aG) Q g w) Q) g w (fun aM lA aT aZ w => lB R aM lA aT aZ w) (fun g w h => aS (K := fun g w => aQ pg aH (aA 3 aG) Q g w) (Is Q g w R hr h)) h)
def Jl (a0 a1 : Value) (w : World) (R : K1) : Prop :=
  uQ R a0 a1 w
theorem KA {a0 a1 : Value} {w : World} {R : K1} (h : Jl a0 a1 w R) : cC pg rF #[a0, a1] w R := by
  refine bQ (ann := aH) (fn := Try.f32) (c := aG) (args := [a0, a1]) (rs := jM) (N := 188) TryM.mixed (by kernel_rfl) Try.func32 (by kernel_rfl) (by kernel_rfl) (by kernel_rfl) (of_decide_eq_true (by kernel_rfl)) (by kernel_rfl) ?_
  exact (I0 (jT pg jM R) (gE [a0, a1]) w R (fun _ _ h => h) h)
def cO : FA := ⟨rA, fun i => .leaf ([], []) []⟩
def kI : List ResultVar := [.tmp 2]
noncomputable def cM : Code := fB Try.f33
def pK (R : K1) (vC : Value) (w : World) : Prop :=
  R vC w
theorem Ka (R : K1) (hr : HR kI R Q) (h : pK R (g 3) w) : aQ pg cO (aA 1 (aA 1 (aA 2 cM))) Q g w :=
  aI (kn := no) (l := []) (by kernel_rfl) h fG hr trivial
def pB (kn : K3) (k0 : K1) (hY vC fQ : Value) (w : World) : Prop :=
  aD pg (iJ .len #[62] 3 [hY]) w fun t14 w =>
  aD pg (aN .lss 3 (.tmp 12) (.tmp 14) fQ t14) w fun t15 w =>
  hH t15
    (aD pg (cD 62 hY fQ) w fun t21 w =>
    aD pg (aW 3 t21) w fun t22 w =>
    aD pg (iJ .max #[3, 3] 3 [vC, t22]) w fun t23 w =>
    aD pg (aN .add 3 (.tmp 16) (.const (.int .i64 1)) fQ (.int .i64 1)) w fun t17 w =>
    kn hY t23 t17 w)
    (k0 vC w)
theorem JZ (kn : K3) (k0 : K1) (hn : ∀ g w, kn (g 0) (g 3) (g 4) w → Q .normal g w) (h0 : ∀ g w, k0 (g 3) w → Q (.exit 0) g w) (h : pB kn k0 (g 0) (g 3) (g 4) w) : aQ pg cO (bI (bI (aA 1 (aC 1 (aA 1 (aA 2 cM)))))) Q g w :=
  aI (kr := no) (l := [(0, fun g w => k0 (g 3) w)]) (by kernel_rfl) h hn fG ⟨h0, trivial⟩
def xC (k0 : K1) (hY vC fQ : Value) (w : World) : Prop :=
  cV (fun (X : (Value × Value) → K0) (t : Value × Value) (w : World) => pB (fun _ vC fQ w => X (vC, fQ) w) k0 hY t.1 t.2 w) (vC, fQ) w
theorem Js (k0 : K1) (h0 : ∀ g w, k0 (g 3) w → Q (.exit 0) g w) (h : xC k0 (g 0) (g 3) (g 4) w) : aQ pg cO (bI (aA 1 (aC 1 (aA 1 (aA 2 cM))))) Q g w := by
  refine cR (T := Value × Value) (fun g : eL => (g 3, g 4)) (fun X t w => pB (fun _ vC fQ w => X (vC, fQ) w) k0 (g 0) t.1 t.2 w) _ (by kernel_rfl) h (fun X g1 w1 ha hL => ?_)
  rw [← aO (s := 0) ha (by kernel_rfl)] at hL
  exact (JZ (aX (fun g2 w2 => X ((fun g : eL => (g 3, g 4)) g2) w2) Q) g1 w1 (fun _ vC fQ w => X (vC, fQ) w) k0 (fun _ _ h => h) h0 hL)
def pA (kn : K1) (hY vC fQ : Value) (w : World) : Prop :=
  xC kn hY vC fQ w
theorem J5 (kn : K1) (hn : ∀ g w, kn (g 3) w → Q .normal g w) (h : pA kn (g 0) (g 3) (g 4) w) : aQ pg cO (aA 1 (aC 1 (aA 1 (aA 2 cM)))) Q g w :=
  cU 0 _ g w (by kernel_rfl) (Js (rP 0 Q) g w kn hn h)
def xE (kn : K3) (hY vC : Value) (w : World) : Prop :=
  kn hY vC (.int .i64 1) w
theorem JP (kn : K3) (hn : ∀ g w, kn (g 0) (g 3) (g 4) w → Q .normal g w) (h : xE kn (g 0) (g 3) w) : aQ pg cO (aC 1 (aC 1 (aA 1 (aA 2 cM)))) Q g w :=
  aI (kr := no) (l := []) (by kernel_rfl) h hn fG trivial
def xT (kn : K1) (hY vC : Value) (w : World) : Prop :=
  xE (fun hY vC fQ w => pA kn hY vC fQ w) hY vC w
theorem Kc (kn : K1) (hn : ∀ g w, kn (g 3) w → Q .normal g w) (h : xT kn (g 0) (g 3) w) : aQ pg cO (aC 1 (aA 1 (aA 2 cM))) Q g w :=
  aL 1 _ g w (by kernel_rfl) (JP (aX (fun g w => aQ pg cO (aA 1 (aC 1 (aA 1 (aA 2 cM)))) Q g w) Q) g w (fun hY vC fQ w => pA kn hY vC fQ w) (fun g w h => aS (K := fun g w => aQ pg cO (aA 1 (aC 1 (aA 1 (aA 2 cM)))) Q g w) (J5 Q g w kn hn h)) h)
def pF (R : K1) (hY vC : Value) (w : World) : Prop :=
  xT (fun vC w => pK R vC w) hY vC w
theorem Jx (R : K1) (hr : HR kI R Q) (h : pF R (g 0) (g 3) w) : aQ pg cO (aA 1 (aA 2 cM)) Q g w :=
  aL 1 _ g w (by kernel_rfl) (Kc (aX (fun g w => aQ pg cO (aA 1 (aA 1 (aA 2 cM))) Q g w) Q) g w (fun vC w => pK R vC w) (fun g w h => aS (K := fun g w => aQ pg cO (aA 1 (aA 1 (aA 2 cM))) Q g w) (Ka Q g w R hr h)) h)
def xW (kn : K2) (hY : Value) (w : World) : Prop :=
  aD pg (cD 62 hY (.int .i64 0)) w fun t10 w =>
  aD pg (aW 3 t10) w fun t11 w =>
  kn hY t11 w
theorem JR (kn : K2) (hn : ∀ g w, kn (g 0) (g 3) w → Q .normal g w) (h : xW kn (g 0) w) : aQ pg cO (aC 1 (aA 2 cM)) Q g w :=
  aI (kr := no) (l := []) (by kernel_rfl) h hn fG trivial
def pE (R : K1) (hY : Value) (w : World) : Prop :=
  xW (fun hY vC w => pF R hY vC w) hY w
theorem Jw (R : K1) (hr : HR kI R Q) (h : pE R (g 0) w) : aQ pg cO (aA 2 cM) Q g w :=
  aL 1 _ g w (by kernel_rfl) (JR (aX (fun g w => aQ pg cO (aA 1 (aA 2 cM)) Q g w) Q) g w (fun hY vC w => pF R hY vC w) (fun g w h => aS (K := fun g w => aQ pg cO (aA 1 (aA 2 cM)) Q g w) (Jx Q g w R hr h)) h)
def uD (kn : K1) (hY : Value) (w : World) : Prop :=
  aD pg (iJ .len #[62] 3 [hY]) w fun t6 w =>
  aD pg (aN .lss 3 (.tmp 6) (.const (.int .i64 1)) t6 (.int .i64 1)) w fun t7 w =>
  hH t7
    (aD pg (aeS 9 (.string ⟨#[115, 108, 105, 99, 101, 115, 46, 77, 97, 120, 58, 32, 101, 109, 112, 116, 121, 32, 108, 105, 115, 116]⟩)) w fun t8 w =>
    aD pg (V (Instr.panic t8)) w fun _u w =>
    kn hY w)
    (kn hY w)
theorem IZ (kn : K1) (hn : ∀ g w, kn (g 0) w → Q .normal g w) (h : uD kn (g 0) w) : aQ pg cO (aC 2 cM) Q g w :=
  aI (kr := no) (l := []) (by kernel_rfl) h hn fG trivial
def uM (R : K1) (hY : Value) (w : World) : Prop :=
  uD (fun hY w => pE R hY w) hY w
theorem IP (R : K1) (hr : HR kI R Q) (h : uM R (g 0) w) : aQ pg cO cM Q g w :=
  aL 2 _ g w (by kernel_rfl) (IZ (aX (fun g w => aQ pg cO (aA 2 cM) Q g w) Q) g w (fun hY w => pE R hY w) (fun g w h => aS (K := fun g w => aQ pg cO (aA 2 cM) Q g w) (Jw Q g w R hr h)) h)
def Jj (a0 : Value) (w : World) (R : K1) : Prop :=
  uM R a0 w
theorem Lc {a0 : Value} {w : World} {R : K1} (h : Jj a0 w R) : cC pg rA #[a0] w R := by
  refine bQ (ann := cO) (fn := Try.f33) (c := cM) (args := [a0]) (rs := kI) (N := 25) TryM.mixed (by kernel_rfl) Try.func33 (by kernel_rfl) (by kernel_rfl) (by kernel_rfl) (of_decide_eq_true (by kernel_rfl)) (by kernel_rfl) ?_
  exact (IP (jT pg kI R) (gE [a0]) w R (fun _ _ h => h) h)
def eN : FA := ⟨mX, fun i => .leaf ([], []) []⟩
def kJ : List ResultVar := [.tmp 2]
noncomputable def eE : Code := fB Try.f35
def lS (R : K1) (hY JK : Value) (w : World) : Prop :=
  aD pg (jH 44 5 hY) w fun t21 w =>
  aD pg (Oc 9 (.string ⟨#[0, 1, 2, 2, 3, 3, 3, 3, 4, 4, 4, 4, 4, 4, 4, 4, 5, 5, 5, 5, 5, 5, 5, 5, 5, 5, 5, 5, 5, 5, 5, 5, 6, 6, 6, 6, 6, 6, 6, 6, 6, 6, 6, 6, 6, 6, 6, 6, 6, 6, 6, 6, 6, 6, 6, 6, 6, 6, 6, 6, 6, 6, 6, 6, 7, 7, 7, 7, 7, 7, 7, 7, 7, 7, 7, 7, 7, 7, 7, 7, 7, 7, 7, 7, 7, 7, 7, 7, 7, 7, 7, 7, 7, 7, 7, 7, 7, 7, 7, 7, 7, 7, 7, 7, 7, 7, 7, 7, 7, 7, 7, 7, 7, 7, 7, 7, 7, 7, 7, 7, 7, 7, 7, 7, 7, 7, 7, 7, 8, 8, 8, 8, 8, 8, 8, 8, 8, 8, 8, 8, 8, 8, 8, 8, 8, 8, 8, 8, 8, 8, 8, 8, 8, 8, 8, 8, 8, 8, 8, 8, 8, 8, 8, 8, 8, 8, 8, 8, 8, 8, 8, 8, 8, 8, 8, 8, 8, 8, 8, 8, 8, 8, 8, 8, 8, 8, 8, 8, 8, 8, 8, 8, 8, 8, 8, 8, 8, 8, 8, 8, 8, 8, 8, 8, 8, 8, 8, 8, 8, 8, 8, 8, 8, 8, 8, 8, 8, 8, 8, 8, 8, 8, 8, 8, 8, 8, 8, 8, 8, 8, 8, 8, 8, 8, 8, 8, 8, 8, 8, 8, 8, 8, 8, 8, 8, 8, 8, 8, 8, 8, 8, 8, 8, 8, 8, 8]⟩) t21) w fun t22 w =>
  aD pg (jH 5 3 t22) w fun t23 w =>
  aD pg (aN .add 3 (.tmp 19) (.tmp 23) JK t23) w fun t24 w =>
  R t24 w
theorem JW (R : K1) (hr : HR kJ R Q) (h : lS R (g 0) (g 2) w) : aQ pg eN (aA 1 (aA 1 (aA 2 eE))) Q g w :=
  aI (kn := no) (l := []) (by kernel_rfl) h fG hr trivial
def xG (kn : K2) (hY JK : Value) (w : World) : Prop :=
  aD pg (aN .geq 44 (.tmp 13) (.const (.int .u64 256)) hY (.int .u64 256)) w fun t14 w =>
  hH t14
    (aD pg (aN .shr 44 (.tmp 15) (.const (.int .u64 8)) hY (.int .u64 8)) w fun t16 w =>
    aD pg (aN .add 3 (.tmp 17) (.const (.int .i64 8)) JK (.int .i64 8)) w fun t18 w =>
    kn t16 t18 w)
    (kn hY JK w)
theorem JC (kn : K2) (hn : ∀ g w, kn (g 0) (g 2) w → Q .normal g w) (h : xG kn (g 0) (g 2) w) : aQ pg eN (aC 1 (aA 1 (aA 2 eE))) Q g w :=
  aI (kr := no) (l := []) (by kernel_rfl) h hn fG trivial
def lT (R : K1) (hY JK : Value) (w : World) : Prop :=
  xG (fun hY JK w => lS R hY JK w) hY JK w
theorem J6 (R : K1) (hr : HR kJ R Q) (h : lT R (g 0) (g 2) w) : aQ pg eN (aA 1 (aA 2 eE)) Q g w :=
  aL 1 _ g w (by kernel_rfl) (JC (aX (fun g w => aQ pg eN (aA 1 (aA 1 (aA 2 eE))) Q g w) Q) g w (fun hY JK w => lS R hY JK w) (fun g w h => aS (K := fun g w => aQ pg eN (aA 1 (aA 1 (aA 2 eE))) Q g w) (JW Q g w R hr h)) h)
def xJ (kn : K2) (hY JK : Value) (w : World) : Prop :=
  aD pg (aN .geq 44 (.tmp 7) (.const (.int .u64 65536)) hY (.int .u64 65536)) w fun t8 w =>
  hH t8
    (aD pg (aN .shr 44 (.tmp 9) (.const (.int .u64 16)) hY (.int .u64 16)) w fun t10 w =>
    aD pg (aN .add 3 (.tmp 11) (.const (.int .i64 16)) JK (.int .i64 16)) w fun t12 w =>
    kn t10 t12 w)
    (kn hY JK w)
theorem Jv (kn : K2) (hn : ∀ g w, kn (g 0) (g 2) w → Q .normal g w) (h : xJ kn (g 0) (g 2) w) : aQ pg eN (aC 1 (aA 2 eE)) Q g w :=
  aI (kr := no) (l := []) (by kernel_rfl) h hn fG trivial
def lW (R : K1) (hY JK : Value) (w : World) : Prop :=
  xJ (fun hY JK w => lT R hY JK w) hY JK w
theorem JM (R : K1) (hr : HR kJ R Q) (h : lW R (g 0) (g 2) w) : aQ pg eN (aA 2 eE) Q g w :=
  aL 1 _ g w (by kernel_rfl) (Jv (aX (fun g w => aQ pg eN (aA 1 (aA 2 eE)) Q g w) Q) g w (fun hY JK w => lT R hY JK w) (fun g w h => aS (K := fun g w => aQ pg eN (aA 1 (aA 2 eE)) Q g w) (J6 Q g w R hr h)) h)
def xO (kn : K2) (hY : Value) (w : World) : Prop :=
  aD pg (aN .geq 44 (.tmp 3) (.const (.int .u64 4294967296)) hY (.int .u64 4294967296)) w fun t4 w =>
  hH t4
    (aD pg (aN .shr 44 (.tmp 5) (.const (.int .u64 32)) hY (.int .u64 32)) w fun t6 w =>
    kn t6 (.int .i64 32) w)
    (kn hY (.int .i64 0) w)
theorem JE (kn : K2) (hn : ∀ g w, kn (g 0) (g 2) w → Q .normal g w) (h : xO kn (g 0) w) : aQ pg eN (aC 2 eE) Q g w :=
  aI (kr := no) (l := []) (by kernel_rfl) h hn fG trivial
def xY (R : K1) (hY : Value) (w : World) : Prop :=
  xO (fun hY JK w => lW R hY JK w) hY w
theorem Jz (R : K1) (hr : HR kJ R Q) (h : xY R (g 0) w) : aQ pg eN eE Q g w :=
  aL 2 _ g w (by kernel_rfl) (JE (aX (fun g w => aQ pg eN (aA 2 eE) Q g w) Q) g w (fun hY JK w => lW R hY JK w) (fun g w h => aS (K := fun g w => aQ pg eN (aA 2 eE) Q g w) (JM Q g w R hr h)) h)
def Je (a0 : Value) (w : World) (R : K1) : Prop :=
  xY R a0 w
theorem Kx {a0 : Value} {w : World} {R : K1} (h : Je a0 w R) : cC pg mX #[a0] w R := by
  refine bQ (ann := eN) (fn := Try.f35) (c := eE) (args := [a0]) (rs := kJ) (N := 25) TryM.mixed (by kernel_rfl) Try.func35 (by kernel_rfl) (by kernel_rfl) (by kernel_rfl) (of_decide_eq_true (by kernel_rfl)) (by kernel_rfl) ?_
  exact (Jz (jT pg kJ R) (gE [a0]) w R (fun _ _ h => h) h)
def cE : FA := ⟨nB, fun i => .leaf ([], []) []⟩
def jC : List ResultVar := [.tmp 2]
noncomputable def cA : Code := fB Try.f36
def mD (R : K1) (vC : Value) (w : World) : Prop :=
  R vC w
theorem Hj (R : K1) (hr : HR jC R Q) (h : mD R (g 3) w) : aQ pg cE (aA 1 (aA 1 (aA 2 cA))) Q g w :=
  aI (kn := no) (l := []) (by kernel_rfl) h fG hr trivial
def mB (kn : K3) (k0 : K1) (hY vC fQ : Value) (w : World) : Prop :=
  aD pg (iJ .len #[22] 3 [hY]) w fun t14 w =>
  aD pg (aN .lss 3 (.tmp 12) (.tmp 14) fQ t14) w fun t15 w =>
  hH t15
    (aD pg (cD 22 hY fQ) w fun t21 w =>
    aD pg (aW 5 t21) w fun t22 w =>
    aD pg (iJ .max #[5, 5] 5 [vC, t22]) w fun t23 w =>
    aD pg (aN .add 3 (.tmp 16) (.const (.int .i64 1)) fQ (.int .i64 1)) w fun t17 w =>
    kn hY t23 t17 w)
    (k0 vC w)
theorem Gv (kn : K3) (k0 : K1) (hn : ∀ g w, kn (g 0) (g 3) (g 4) w → Q .normal g w) (h0 : ∀ g w, k0 (g 3) w → Q (.exit 0) g w) (h : mB kn k0 (g 0) (g 3) (g 4) w) : aQ pg cE (bI (bI (aA 1 (aC 1 (aA 1 (aA 2 cA)))))) Q g w :=
  aI (kr := no) (l := [(0, fun g w => k0 (g 3) w)]) (by kernel_rfl) h hn fG ⟨h0, trivial⟩
def qQ (k0 : K1) (hY vC fQ : Value) (w : World) : Prop :=
  cV (fun (X : (Value × Value) → K0) (t : Value × Value) (w : World) => mB (fun _ vC fQ w => X (vC, fQ) w) k0 hY t.1 t.2 w) (vC, fQ) w
theorem GC (k0 : K1) (h0 : ∀ g w, k0 (g 3) w → Q (.exit 0) g w) (h : qQ k0 (g 0) (g 3) (g 4) w) : aQ pg cE (bI (aA 1 (aC 1 (aA 1 (aA 2 cA))))) Q g w := by
  refine cR (T := Value × Value) (fun g : eL => (g 3, g 4)) (fun X t w => mB (fun _ vC fQ w => X (vC, fQ) w) k0 (g 0) t.1 t.2 w) _ (by kernel_rfl) h (fun X g1 w1 ha hL => ?_)
  rw [← aO (s := 0) ha (by kernel_rfl)] at hL
  exact (Gv (aX (fun g2 w2 => X ((fun g : eL => (g 3, g 4)) g2) w2) Q) g1 w1 (fun _ vC fQ w => X (vC, fQ) w) k0 (fun _ _ h => h) h0 hL)
def lZ (kn : K1) (hY vC fQ : Value) (w : World) : Prop :=
  qQ kn hY vC fQ w
theorem Gw (kn : K1) (hn : ∀ g w, kn (g 3) w → Q .normal g w) (h : lZ kn (g 0) (g 3) (g 4) w) : aQ pg cE (aA 1 (aC 1 (aA 1 (aA 2 cA)))) Q g w :=
  cU 0 _ g w (by kernel_rfl) (GC (rP 0 Q) g w kn hn h)
def qU (kn : K3) (hY vC : Value) (w : World) : Prop :=
  kn hY vC (.int .i64 1) w
theorem GV (kn : K3) (hn : ∀ g w, kn (g 0) (g 3) (g 4) w → Q .normal g w) (h : qU kn (g 0) (g 3) w) : aQ pg cE (aC 1 (aC 1 (aA 1 (aA 2 cA)))) Q g w :=
  aI (kr := no) (l := []) (by kernel_rfl) h hn fG trivial
def qN (kn : K1) (hY vC : Value) (w : World) : Prop :=
  qU (fun hY vC fQ w => lZ kn hY vC fQ w) hY vC w
theorem Ht (kn : K1) (hn : ∀ g w, kn (g 3) w → Q .normal g w) (h : qN kn (g 0) (g 3) w) : aQ pg cE (aC 1 (aA 1 (aA 2 cA))) Q g w :=
  aL 1 _ g w (by kernel_rfl) (GV (aX (fun g w => aQ pg cE (aA 1 (aC 1 (aA 1 (aA 2 cA)))) Q g w) Q) g w (fun hY vC fQ w => lZ kn hY vC fQ w) (fun g w h => aS (K := fun g w => aQ pg cE (aA 1 (aC 1 (aA 1 (aA 2 cA)))) Q g w) (Gw Q g w kn hn h)) h)
def mE (R : K1) (hY vC : Value) (w : World) : Prop :=
  qN (fun vC w => mD R vC w) hY vC w
theorem GE (R : K1) (hr : HR jC R Q) (h : mE R (g 0) (g 3) w) : aQ pg cE (aA 1 (aA 2 cA)) Q g w :=
  aL 1 _ g w (by kernel_rfl) (Ht (aX (fun g w => aQ pg cE (aA 1 (aA 1 (aA 2 cA))) Q g w) Q) g w (fun vC w => mD R vC w) (fun g w h => aS (K := fun g w => aQ pg cE (aA 1 (aA 1 (aA 2 cA))) Q g w) (Hj Q g w R hr h)) h)
def qK (kn : K2) (hY : Value) (w : World) : Prop :=
  aD pg (cD 22 hY (.int .i64 0)) w fun t10 w =>
  aD pg (aW 5 t10) w fun t11 w =>
  kn hY t11 w
theorem GI (kn : K2) (hn : ∀ g w, kn (g 0) (g 3) w → Q .normal g w) (h : qK kn (g 0) w) : aQ pg cE (aC 1 (aA 2 cA)) Q g w :=
  aI (kr := no) (l := []) (by kernel_rfl) h hn fG trivial
def mA (R : K1) (hY : Value) (w : World) : Prop :=
  qK (fun hY vC w => mE R hY vC w) hY w
theorem G9 (R : K1) (hr : HR jC R Q) (h : mA R (g 0) w) : aQ pg cE (aA 2 cA) Q g w :=
  aL 1 _ g w (by kernel_rfl) (GI (aX (fun g w => aQ pg cE (aA 1 (aA 2 cA)) Q g w) Q) g w (fun hY vC w => mE R hY vC w) (fun g w h => aS (K := fun g w => aQ pg cE (aA 1 (aA 2 cA)) Q g w) (GE Q g w R hr h)) h)
def pP (kn : K1) (hY : Value) (w : World) : Prop :=
  aD pg (iJ .len #[22] 3 [hY]) w fun t6 w =>
  aD pg (aN .lss 3 (.tmp 6) (.const (.int .i64 1)) t6 (.int .i64 1)) w fun t7 w =>
  hH t7
    (aD pg (aeS 9 (.string ⟨#[115, 108, 105, 99, 101, 115, 46, 77, 97, 120, 58, 32, 101, 109, 112, 116, 121, 32, 108, 105, 115, 116]⟩)) w fun t8 w =>
    aD pg (V (Instr.panic t8)) w fun _u w =>
    kn hY w)
    (kn hY w)
theorem FV (kn : K1) (hn : ∀ g w, kn (g 0) w → Q .normal g w) (h : pP kn (g 0) w) : aQ pg cE (aC 2 cA) Q g w :=
  aI (kr := no) (l := []) (by kernel_rfl) h hn fG trivial
def oQ (R : K1) (hY : Value) (w : World) : Prop :=
  pP (fun hY w => mA R hY w) hY w
theorem FY (R : K1) (hr : HR jC R Q) (h : oQ R (g 0) w) : aQ pg cE cA Q g w :=
  aL 2 _ g w (by kernel_rfl) (FV (aX (fun g w => aQ pg cE (aA 2 cA) Q g w) Q) g w (fun hY w => mA R hY w) (fun g w h => aS (K := fun g w => aQ pg cE (aA 2 cA) Q g w) (G9 Q g w R hr h)) h)
def E2 (a0 : Value) (w : World) (R : K1) : Prop :=
  oQ R a0 w
theorem HJ {a0 : Value} {w : World} {R : K1} (h : E2 a0 w R) : cC pg nB #[a0] w R := by
  refine bQ (ann := cE) (fn := Try.f36) (c := cA) (args := [a0]) (rs := jC) (N := 25) TryM.mixed (by kernel_rfl) Try.func36 (by kernel_rfl) (by kernel_rfl) (by kernel_rfl) (of_decide_eq_true (by kernel_rfl)) (by kernel_rfl) ?_
  exact (FY (jT pg jC R) (gE [a0]) w R (fun _ _ h => h) h)
end Go.Proofs.Ytoepfjgekpdddaa
namespace Go.En
open Go
section
variable {P : Program} {w : World} {t : TypeId} {ox oy : Operand} {k : IntKind} {a b : Int}
theorem nK (s : Sem Value) : (V s).run P w = (s.run P w).andThen fun v w => .ok (.value v) w := by
  unfold V; rw [Sem.run_bind]; rfl
theorem ajM (s : Sem Unit) : (U s).run P w = (s.run P w).andThen fun _ w => .ok .skip w := by
  unfold U; rw [Sem.run_bind]; rfl
theorem bY : (aN .add t ox oy (.int k a) (.int k b)).run P w = .ok (.value (.int k (k.wrap (a + b)))) w := by
  simp [aN, FX, nK, binOp, Op.intArith]
theorem dY : (aN .sub t ox oy (.int k a) (.int k b)).run P w = .ok (.value (.int k (k.wrap (a - b)))) w := by
  simp [aN, FX, nK, binOp, Op.intArith]
theorem qB : (aN .mul t ox oy (.int k a) (.int k b)).run P w = .ok (.value (.int k (k.wrap (a * b)))) w := by
  simp [aN, FX, nK, binOp, Op.intArith]
theorem kX (h : b ≠ 0) : (aN .quo t ox oy (.int k a) (.int k b)).run P w = .ok (.value (.int k (k.wrap (a.tdiv b)))) w := by
  simp [aN, FX, nK, binOp, Op.intDiv, h]
theorem rE (h : b ≠ 0) : (aN .rem t ox oy (.int k a) (.int k b)).run P w = .ok (.value (.int k (a.tmod b))) w := by
  simp [aN, FX, nK, binOp, Op.intDiv, h]
def YF (k : IntKind) (a b : Int) : Int := k.wrap (BitVec.ofInt k.bits a &&& BitVec.ofInt k.bits b).toNat
def orI (k : IntKind) (a b : Int) : Int := k.wrap (BitVec.ofInt k.bits a ||| BitVec.ofInt k.bits b).toNat
def afT (k : IntKind) (a b : Int) : Int := k.wrap (BitVec.ofInt k.bits a ^^^ BitVec.ofInt k.bits b).toNat
def ZT (k : IntKind) (a b : Int) : Int := k.wrap (BitVec.ofInt k.bits a &&& ~~~BitVec.ofInt k.bits b).toNat
theorem Gi : (aN .and t ox oy (.int k a) (.int k b)).run P w = .ok (.value (.int k (YF k a b))) w := by
  simp [aN, FX, nK, binOp, Op.intBits, YF]
theorem WB : (aN .or t ox oy (.int k a) (.int k b)).run P w = .ok (.value (.int k (orI k a b))) w := by
  simp [aN, FX, nK, binOp, Op.intBits, orI]
theorem TR : (aN .xor t ox oy (.int k a) (.int k b)).run P w = .ok (.value (.int k (afT k a b))) w := by
  simp [aN, FX, nK, binOp, Op.intBits, afT]
theorem CJ : (aN .andNot t ox oy (.int k a) (.int k b)).run P w = .ok (.value (.int k (ZT k a b))) w := by
  simp [aN, FX, nK, binOp, Op.intBits, ZT]
theorem lH {k' : IntKind} (h : 0 ≤ b) : (aN .shl t ox oy (.int k a) (.int k' b)).run P w = .ok (.value (.int k (k.wrap (a * 2 ^ (min b.toNat k.bits))))) w := by
  simp [aN, FX, nK, binOp, Op.shift, Int.not_lt.2 h]
theorem uW {k' : IntKind} (h : 0 ≤ b) : (aN .shr t ox oy (.int k a) (.int k' b)).run P w = .ok (.value (.int k (a.fdiv (2 ^ (min b.toNat k.bits))))) w := by
  simp [aN, FX, nK, binOp, Op.shift, Int.not_lt.2 h]
theorem gY : (aN .eql t ox oy (.int k a) (.int k b)).run P w = .ok (.value (.bool (a == b))) w := by
  simp [aN, FX, nK, binOp, Op.intCmp, eqGuard]
theorem fP : (aN .neq t ox oy (.int k a) (.int k b)).run P w = .ok (.value (.bool (a != b))) w := by
  simp [aN, FX, nK, binOp, Op.intCmp, eqGuard]
theorem bN : (aN .lss t ox oy (.int k a) (.int k b)).run P w = .ok (.value (.bool (decide (a < b)))) w := by
  simp [aN, FX, nK, binOp, Op.intCmp]
theorem DE : (aN .leq t ox oy (.int k a) (.int k b)).run P w = .ok (.value (.bool (decide (a ≤ b)))) w := by
  simp [aN, FX, nK, binOp, Op.intCmp]
theorem dM : (aN .gtr t ox oy (.int k a) (.int k b)).run P w = .ok (.value (.bool (decide (b < a)))) w := by
  simp [aN, FX, nK, binOp, Op.intCmp]
theorem kU : (aN .geq t ox oy (.int k a) (.int k b)).run P w = .ok (.value (.bool (decide (b ≤ a)))) w := by
  simp [aN, FX, nK, binOp, Op.intCmp]
theorem O1 : (sUn .neg (.int k a)).run P w = .ok (.value (.int k (k.wrap (0 - a)))) w := by
  simp [sUn, nK, Op.unary, Op.intArith]
theorem TU : (sUn .xor (.int k a)).run P w = .ok (.value (.int k (afT k (if k.signed then -1 else k.max) a))) w := by
  simp [sUn, nK, Op.unary, Op.intBits, afT]
theorem mR (c : Bool) : (sUn .not (.bool c)).run P w = .ok (.value (.bool !c)) w := by
  simp [sUn, nK, Op.unary]
theorem cJ (c : Bool) (x y : Value) : (fJ (.bool c) x y).run P w = .ok (.value (if c then x else y)) w := by
  simp [fJ, asBool]
theorem Ym {x y : Value} {r : Bool} (hg : eqGuard .eql t ox oy x y = pure ()) (hb : binOp .eql t x y = (do pure (.bool (← Op.equal t x y)))) (he : (Op.equal t x y).run P w = .ok r w) :
    (aN .eql t ox oy x y).run P w = .ok (.value (.bool r)) w := by
  unfold aN
  simp only [FX, nK, hg, hb, pure_bind]
  rw [Sem.run_bind, he]; rfl
theorem bD {n : Int} (h0 : -9223372036854775808 ≤ n) (h1 : n ≤ 9223372036854775807) : IntKind.i64.wrap n = n := by
  unfold IntKind.wrap; simp [IntKind.bits, IntKind.signed]; split <;> omega
theorem lF {n : Int} (h0 : 0 ≤ n) (h1 : n ≤ 18446744073709551615) : IntKind.u64.wrap n = n := by
  unfold IntKind.wrap; simp [IntKind.bits, IntKind.signed]; omega
theorem T5 {n : Int} (h0 : -2147483648 ≤ n) (h1 : n ≤ 2147483647) : IntKind.i32.wrap n = n := by
  unfold IntKind.wrap; simp [IntKind.bits, IntKind.signed]; split <;> omega
theorem T8 {n : Int} (h0 : 0 ≤ n) (h1 : n ≤ 4294967295) : IntKind.u32.wrap n = n := by
  unfold IntKind.wrap; simp [IntKind.bits, IntKind.signed]; omega
theorem TG {n : Int} (h0 : 0 ≤ n) (h1 : n ≤ 65535) : IntKind.u16.wrap n = n := by
  unfold IntKind.wrap; simp [IntKind.bits, IntKind.signed]; omega
theorem CI {n : Int} (h0 : 0 ≤ n) (h1 : n ≤ 255) : IntKind.u8.wrap n = n := by
  unfold IntKind.wrap; simp [IntKind.bits, IntKind.signed]; omega
theorem aeA (x y : ByteArray) (h : ((x.size + y.size : Nat) : Int) ≤ 9223372036854775807) : (aN .add t ox oy (.string x) (.string y)).run P w = .ok (.value (.string (x ++ y))) w := by
  have : ¬ (((x.size + y.size : Nat) : Int) > IntKind.i64.max) := by
    have e : IntKind.i64.max = 9223372036854775807 := by decide
    rw [e]; omega
  simp only [aN, FX, nK, binOp, Op.stringOp, this, if_false]
  rfl
theorem Be (x y : ByteArray) : (aN .eql t ox oy (.string x) (.string y)).run P w = .ok (.value (.bool (x.toList == y.toList))) w := by
  simp [aN, FX, nK, binOp, Op.stringOp, eqGuard]
theorem aeQ (n : Nat) {e : TypeId} (hu : P.underlying t = some (.pointer e)) (x : Option Addr) : (Op.equalIn (n + 1) t (.pointer x) (.pointer none)).run P w = .ok x.isNone w := by
  simp only [Op.equalIn, underlying]
  cases x <;> simp [hu]
theorem ahP {e : TypeId} (hu : P.underlying t = some (.pointer e)) (x : Option Addr) : (Op.equal t (.pointer x) (.pointer none)).run P w = .ok x.isNone w := aeQ 9999 hu x
theorem afI (m : Nat) {e : TypeId} (hu : P.underlying t = some (.slice e)) (x : Option Addr) (n c : Nat) : (Op.equalIn (m + 1) t (.slice x n c) (.slice none 0 0)).run P w = .ok x.isNone w := by
  simp only [Op.equalIn, underlying]
  cases x <;> simp [hu]
theorem aiP {e : TypeId} (hu : P.underlying t = some (.slice e)) (x : Option Addr) (n c : Nat) : (Op.equal t (.slice x n c) (.slice none 0 0)).run P w = .ok x.isNone w := afI 9999 hu x n c
theorem aeL {e : TypeId} (hu : P.underlying t = some (.pointer e)) (x : Option Addr) : (aN .eql t ox oy (.pointer x) (.pointer none)).run P w = .ok (.value (.bool x.isNone)) w :=
  Ym rfl rfl (ahP hu x)
theorem agR {e : TypeId} (hu : P.underlying t = some (.slice e)) (x : Option Addr) (n c : Nat) : (aN .eql t ox oy (.slice x n c) (.slice none 0 0)).run P w = .ok (.value (.bool x.isNone)) w :=
  Ym rfl rfl (aiP hu x n c)
theorem IB {s : TypeId} {d : TypeDesc} {kd : IntKind} (hs : P.underlying s = some d) (hu : P.underlying t = some (.int kd)) : (jH s t (.int k a)).run P w = .ok (.value (.int kd (kd.wrap a))) w := by
  cases d <;> simp [jH, nK, convert, underlying, hs, hu, Conv.intToInt]
theorem OI {ty : TypeId} {e : TypeId} (hu : P.underlying t = some (.slice e)) (x : Option Addr) (n c : Nat) : (iJ .len #[t] ty [.slice x n c]).run P w = .ok (.value (.int .i64 n)) w := by
  simp [iJ, builtin, Builtin.len_, underlying, hu, goInt]
theorem aiD {ty : TypeId} (hu : P.underlying t = some .string) (x : ByteArray) : (iJ .len #[t] ty [.string x]).run P w = .ok (.value (.int .i64 x.size)) w := by
  simp [iJ, builtin, Builtin.len_, underlying, hu, goInt]
theorem MH {ats : Array TypeId} {ty : TypeId} : (iJ .min ats ty [.int k a, .int k b]).run P w = .ok (.value (.int k (if b < a then b else a))) w := by
  simp [iJ, builtin, Builtin.min_, Builtin.min2]
theorem F0 {ats : Array TypeId} {ty : TypeId} : (iJ .max ats ty [.int k a, .int k b]).run P w = .ok (.value (.int k (if b > a then b else a))) w := by
  simp [iJ, builtin, Builtin.max_, Builtin.max2]
theorem vU (a b : Value) : (dV (.tuple #[a, b]) 0).run P w = .ok (.value a) w := Eq.trans rfl rfl
theorem wU (a b : Value) : (dV (.tuple #[a, b]) 1).run P w = .ok (.value b) w := Eq.trans rfl rfl
theorem UU (a b c : Value) : (dV (.tuple #[a, b, c]) 0).run P w = .ok (.value a) w := Eq.trans rfl rfl
theorem UY (a b c : Value) : (dV (.tuple #[a, b, c]) 1).run P w = .ok (.value b) w := Eq.trans rfl rfl
theorem Ul (a b c : Value) : (dV (.tuple #[a, b, c]) 2).run P w = .ok (.value c) w := Eq.trans rfl rfl
theorem x40 (a b c d : Value) : (dV (.tuple #[a, b, c, d]) 0).run P w = .ok (.value a) w := Eq.trans rfl rfl
theorem x41 (a b c d : Value) : (dV (.tuple #[a, b, c, d]) 1).run P w = .ok (.value b) w := Eq.trans rfl rfl
theorem x42 (a b c d : Value) : (dV (.tuple #[a, b, c, d]) 2).run P w = .ok (.value c) w := Eq.trans rfl rfl
theorem x43 (a b c d : Value) : (dV (.tuple #[a, b, c, d]) 3).run P w = .ok (.value d) w := Eq.trans rfl rfl
theorem CL (x : Addr) : (Ix (.pointer (some x))).run P w = .ok (.value (.pointer (some x))) w := Eq.trans rfl rfl
theorem jP {fs : Array Field} {f : Field} {i : Nat} {inf : TypeInfo} (hu : P.underlying t = some (.struct fs)) (hf : fs[i]? = some f)
    (hi : P.info? f.type = some inf) (hz : inf.size ≠ 0) (x : Addr) : (bA t (.pointer (some x)) i).run P w = .ok (.value (.pointer (some (x.add f.offset)))) w := by
  simp [bA, nK, Instr.fieldAt, underlying, hu, hf, Instr.sureAddr, fieldPlace, sizeOf, typeInfo, hi, hz]
theorem Yn {e : TypeId} {inf : TypeInfo} (hu : P.underlying t = some (.slice e)) (hi : P.info? e = some inf) (x : Addr) (n c : Nat) (h0 : 0 ≤ a) (h1 : a < n) :
    (cD t (.slice (some x) n c) (.int k a)).run P w = .ok (.value (.pointer (some (x.add (a.toNat * inf.size))))) w := by
  simp [cD, nK, Instr.indexAt, asIntOf, underlying, hu, h0, h1, sizeOf, typeInfo, hi]
theorem aeN {e : TypeId} {len : Nat} {inf : TypeInfo} (hu : P.underlying t = some (.array len e)) (hi : P.info? e = some inf) (x : Addr) (h0 : 0 ≤ a) (h1 : a < len) :
    (cD t (.pointer (some x)) (.int k a)).run P w = .ok (.value (.pointer (some (x.add (a.toNat * inf.size))))) w := by
  simp [cD, nK, Instr.indexAt, asIntOf, underlying, hu, h0, h1, sizeOf, typeInfo, hi, Instr.sureAddr]
theorem ahR (hu : P.underlying t = some .string) (x : ByteArray) (h0 : 0 ≤ a) (h1 : a.toNat < x.size) :
    (Oc t (.string x) (.int k a)).run P w = .ok (.value (.int .u8 (x[a.toNat]'h1).toNat)) w := by
  simp [Oc, nK, Instr.index, asIntOf, underlying, hu, h0, h1]
end
end Go.En
namespace Go.En
open Go
def fA (w : World) (b : Nat) (cs : List Value) : Prop :=
  ∃ T lo hi, w.heap[b]? = some (.cells cs.toArray T (lo, hi)) ∧ (cs.length ≤ lo ∨ hi = lo)
structure bZ (w w' : World) (M : Nat → Prop) : Prop where
  os : w'.os = w.os
  tape : w'.tape = w.tape
  output : w'.output = w.output
  size : w.heap.size ≤ w'.heap.size
  keep : ∀ b, b < w.heap.size → ¬ M b → w'.heap[b]? = w.heap[b]?
def fN : Nat → Prop := fun _ => False
theorem bZ.refl (w : World) (M : Nat → Prop) : bZ w w M := ⟨rfl, rfl, rfl, Nat.le_refl _, fun _ _ _ => rfl⟩
theorem bZ.mono {w w' : World} {M N : Nat → Prop} (h : bZ w w' M) (hm : ∀ b, b < w.heap.size → M b → N b) : bZ w w' N :=
  ⟨h.os, h.tape, h.output, h.size, fun b hb hn => h.keep b hb fun hM => hn (hm b hb hM)⟩
theorem bZ.trans {a b c : World} {M N : Nat → Prop} (h : bZ a b M) (k : bZ b c N) (hn : ∀ x, x < a.heap.size → N x → M x) : bZ a c M :=
  ⟨k.os.trans h.os, k.tape.trans h.tape, k.output.trans h.output, Nat.le_trans h.size k.size,
    fun x hx hM => (k.keep x (Nat.lt_of_lt_of_le hx h.size) fun h => hM (hn x hx h)).trans (h.keep x hx hM)⟩
theorem bZ.seq {a b c : World} {M : Nat → Prop} (h : bZ a b M) (k : bZ b c M) : bZ a c M := h.trans k fun _ _ h => h
theorem bZ.new {a b c : World} {M : Nat → Prop} {x : Nat} (h : bZ a b M) (k : bZ b c (fun y => y = x)) (hx : a.heap.size ≤ x) : bZ a c M :=
  h.trans k fun y hy e => absurd hy (by subst e; omega)
theorem bZ.below {w w' : World} (h : bZ w w' fN) : Go.RowKit.Below w.heap.size w w' :=
  ⟨h.os, h.tape, h.output, h.size, fun k hk => h.keep k hk fun h => h⟩
theorem bZ.dr (w : World) (M : Nat → Prop) : bZ w (dr w) M := ⟨rfl, rfl, rfl, Nat.le_refl _, fun _ _ _ => rfl⟩
theorem bZ.alloc (w : World) (o : Obj) (M : Nat → Prop) : bZ w (w.alloc o) M :=
  ⟨rfl, rfl, rfl, by simp, fun b hb _ => by show (w.heap.push o)[b]? = _; rw [Array.getElem?_push, if_neg (by omega)]⟩
theorem Uu (w : World) (a : Addr) (v : Value) (b : Nat) (h : b ≠ a.block) : (w.setCell a v).heap[b]? = w.heap[b]? := Go.RowKit.Below.heap_setCell w a v b h
theorem bZ.setCell (w : World) (a : Addr) (v : Value) {M : Nat → Prop} (h : a.block < w.heap.size → M a.block) : bZ w (w.setCell a v) M :=
  ⟨rfl, rfl, rfl, by simp, fun b hb hM => Uu w a v b fun e => hM (e ▸ h (e ▸ hb))⟩
theorem fA.lt {w : World} {b : Nat} {cs : List Value} (h : fA w b cs) : b < w.heap.size := by
  obtain ⟨T, lo, hi, h, _⟩ := h
  rcases Nat.lt_or_ge b w.heap.size with h' | h'
  · exact h'
  · rw [Array.getElem?_eq_none h'] at h; cases h
theorem fA.ext {w w' : World} {b : Nat} {cs : List Value} {M : Nat → Prop} (h : fA w b cs) (hx : bZ w w' M) (hM : ¬ M b) : fA w' b cs := by
  have := h.lt
  obtain ⟨T, lo, hi, h, k⟩ := h
  exact ⟨T, lo, hi, by rw [hx.keep b this hM]; exact h, k⟩
theorem fA.cell {w : World} {b off : Nat} {cs : List Value} (h : fA w b cs) : w.cell? ⟨b, off, none⟩ = cs[off]? := by
  obtain ⟨T, lo, hi, h, _⟩ := h
  simp [World.cell?, h]
theorem fA.free {w : World} {b off : Nat} {cs : List Value} {s : Option Nat} (h : fA w b cs) (ho : off < cs.length) : w.frozen? ⟨b, off, s⟩ = false := by
  obtain ⟨T, lo, hi, h, k⟩ := h
  simp only [World.frozen?, h]
  rcases k with k | k <;> (simp; omega)
theorem fA.setCell {w : World} {b off : Nat} {cs : List Value} (h : fA w b cs) (v : Value) : fA (w.setCell ⟨b, off, none⟩ v) b (cs.set off v) := by
  have hb := h.lt
  obtain ⟨T, lo, hi, h, k⟩ := h
  refine ⟨T, lo, hi, ?_, by simpa using k⟩
  simp only [World.setCell, Array.getElem?_modify, h]
  simp
theorem fA.alloc (w : World) (cs : List Value) (T : TypeId) : fA (w.alloc (.cells cs.toArray T)) w.heap.size cs :=
  ⟨T, 0, 0, by show (w.heap.push _)[w.heap.size]? = _; simp, .inr rfl⟩
theorem X5 {w w' : World} {M : Nat → Prop} {a : Addr} {v : Value} (h : w.cell? a = some v) (hx : bZ w w' M) (hM : ¬ M a.block) : w'.cell? a = some v := by
  have hb := World.block_lt_of_cell? w a h
  have e := hx.keep _ hb hM
  unfold World.cell? at h ⊢
  rw [e]; exact h
section
variable {P : Program} {w : World} {t : TypeId}
def acT (d : TypeDesc) : Bool := match d with | .struct _ | .array _ _ => true | _ => false
theorem Sz {d : TypeDesc} (hu : P.underlying t = some d) : (isAgg t).run P w = .ok (acT d) w := by
  cases d <;> simp [isAgg, underlying, hu, acT]
theorem gV {i : TypeInfo} (hi : P.info? t = some i) : (sizeOf t).run P w = .ok i.size w := by simp [sizeOf, typeInfo, hi]
theorem Ra {b off : Nat} {cs : List Value} (ho : fA w b cs) : ∀ (n i : Nat) (acc : Array Value), off + i + n ≤ cs.length →
    (loadCellsFrom ⟨b, off, none⟩ i n acc).run P w = .ok (acc ++ ((cs.drop (off + i)).take n).toArray) w := by
  intro n
  induction n with
  | zero => intro i acc _; simp [loadCellsFrom]
  | succ n ih =>
    intro i acc h
    have hc : w.cell? ((⟨b, off, none⟩ : Addr).add i) = some cs[off + i] := by
      unfold Addr.add
      split
      · rename_i hi; subst hi; rw [ho.cell]; simp
      · show w.cell? ⟨b, off + i, none⟩ = _; rw [ho.cell]; simp
    simp only [loadCellsFrom, Sem.run_bind, run_load, hc, Result.andThen_ok]
    rw [ih (i + 1) _ (by omega)]
    congr 1
    rw [List.drop_eq_getElem_cons (by omega : off + i < cs.length)]
    simp [Nat.add_assoc]
theorem MK {b off n : Nat} {cs : List Value} (ho : fA w b cs) (h : off + n ≤ cs.length) :
    (loadCells ⟨b, off, none⟩ n).run P w = .ok ((cs.drop off).take n).toArray w := by
  unfold loadCells
  rw [Ra ho n 0 #[] (by omega)]
  simp
theorem F9 {d : TypeDesc} {i : TypeInfo} (hu : P.underlying t = some d) (hd : acT d = true) (hi : P.info? t = some i) {b off : Nat} {cs : List Value} (ho : fA w b cs) (h : off + i.size ≤ cs.length) :
    (aW t (.pointer (some ⟨b, off, none⟩))).run P w = .ok (.value (.agg ((cs.drop off).take i.size).toArray)) w := by
  unfold aW
  rw [nK]
  simp only [Instr.loadAt, Instr.sureAddr, loadVar, pure_bind, Sem.run_bind, Sz hu, hd, Result.andThen_ok, if_true, gV hi, MK ho h, Sem.run_pure]
def one (v : Value) : Bool := match v with | .agg _ | .tuple _ => false | _ => true
theorem Zz {a : Addr} {v x : Value} (hv : one v = true) (hc : w.cell? a = some x) (hf : w.frozen? a = false) : (store a v).run P w = .ok () (w.setCell a v) := by
  unfold store
  cases v <;> simp [one] at hv <;> simp [Sem.run, hc, hf]
def cY (cs : List Value) (off : Nat) : List Value → List Value
  | [] => cs
  | v :: vs => cY (cs.set off v) (off + 1) vs
theorem Fq {b : Nat} {M : Nat → Prop} (hM : M b) : ∀ (vs : List Value) (w : World) (off i : Nat) (cs : List Value), fA w b cs → off + i + vs.length ≤ cs.length → (∀ v ∈ vs, one v = true) →
    ∃ w', (storeCells ⟨b, off, none⟩ vs i).run P w = .ok () w' ∧ fA w' b (cY cs (off + i) vs) ∧ bZ w w' M ∧ w'.heap.size = w.heap.size ∧ w'.drawn = w.drawn := by
  intro vs
  induction vs with
  | nil => intro w off i cs ho _ _; exact ⟨w, by simp [storeCells], ho, bZ.refl _ _, rfl, rfl⟩
  | cons v vs ih =>
    intro w off i cs ho h hv
    simp only [List.length_cons] at h
    have ha : (⟨b, off, none⟩ : Addr).add i = ⟨b, off + i, none⟩ := by
      unfold Addr.add; split
      · rename_i hi; subst hi; rfl
      · rfl
    have hlt : off + i < cs.length := by omega
    have hc : w.cell? ⟨b, off + i, none⟩ = some cs[off + i] := by rw [ho.cell]; simp
    have hs := Zz (P := P) (hv v (by simp)) hc (ho.free hlt)
    obtain ⟨w', h1, h2, h3, h4, h5⟩ := ih (w.setCell ⟨b, off + i, none⟩ v) off (i + 1) (cs.set (off + i) v) (ho.setCell v) (by simp; omega) (fun x hx => hv x (List.mem_cons_of_mem _ hx))
    refine ⟨w', ?_, h2, (bZ.setCell w _ v fun _ => hM).trans h3 (fun _ _ h => h), by rw [h4]; simp, by rw [h5]; rfl⟩
    simp only [storeCells, Sem.run_bind, ha, hs, Result.andThen_ok]
    exact h1
theorem oC {i : TypeInfo} (hi : P.info? t = some i) {b off : Nat} {cs : List Value} (ho : fA w b cs) {v : Value} (hs : v.cells.size = i.size)
    (hv : ∀ x ∈ v.cells.toList, one x = true) (h : off + i.size ≤ cs.length) {K : Value → World → Prop}
    (hk : ∀ w', fA w' b (cY cs off v.cells.toList) → bZ w w' (fun x => x = b) → w'.heap.size = w.heap.size → K undef w') : aD P (cB t (.pointer (some ⟨b, off, none⟩)) v) w K := by
  obtain ⟨w', h1, h2, h3, h4, _⟩ := Fq (P := P) (M := fun x => x = b) rfl v.cells.toList w off 0 cs ho (by simp [hs]; omega) hv
  have : (cB t (.pointer (some ⟨b, off, none⟩)) v).run P w = .ok .skip w' := by
    unfold cB
    rw [ajM]
    simp only [Instr.storeAt, Instr.sureAddr, storeVar, pure_bind, Sem.run_bind, gV hi, Result.andThen_ok, hs]
    simp [h1]
  unfold aD
  rw [this]
  exact hk w' h2 h3 h4
theorem WZ {v : Value} (hv : one v = true) : v.cells = #[v] := by cases v <;> simp [one] at hv <;> rfl
theorem FO {i : TypeInfo} (hi : P.info? t = some i) (h1 : i.size = 1) {b off : Nat} {cs : List Value} (ho : fA w b cs) {v : Value} (hv : one v = true) (h : off < cs.length) {K : Value → World → Prop}
    (hk : ∀ w', fA w' b (cs.set off v) → bZ w w' (fun x => x = b) → w'.heap.size = w.heap.size → K undef w') : aD P (cB t (.pointer (some ⟨b, off, none⟩)) v) w K := by
  have e := WZ hv
  refine oC hi ho (by rw [e, h1]; rfl) (by rw [e]; simpa using hv) (by omega) fun w' a b c => hk w' ?_ b c
  rw [e] at a; exact a
def ldC (c : Option Value) (w : World) (far : Result Next) : Result Next := match c with | some v => .ok (.value v) w | none => far
def far (P : Program) (t : TypeId) (x : Addr) (w : World) : Result Next := (aW t (.pointer (some x))).run P w
theorem aP (v : Value) (w : World) (f : Result Next) : ldC (some v) w f = .ok (.value v) w := rfl
theorem XC {d : TypeDesc} (hu : P.underlying t = some d) (hd : acT d = false) (x : Addr) (w : World) :
    (aW t (.pointer (some x))).run P w = ldC (w.cell? x) w (far P t x w) := by
  cases h : w.cell? x with
  | none => rfl
  | some v =>
    unfold aW
    rw [nK]
    simp only [Instr.loadAt, Instr.sureAddr, loadVar, pure_bind, Sem.run_bind, Sz hu, hd, Result.andThen_ok, Bool.false_eq_true, if_false, run_load, h, ldC]
theorem LJ {d : TypeDesc} {i : TypeInfo} (hu : P.underlying t = some d) (hd : acT d = true) (hi : P.info? t = some i) {b off : Nat} {cs : List Value} (ho : fA w b cs) (h : off + i.size ≤ cs.length) {K : Value → Prop}
    (hk : K (.agg ((cs.drop off).take i.size).toArray)) : F1 P t (.pointer (some ⟨b, off, none⟩)) w K := by
  refine ⟨_, ?_, hk⟩
  simp only [asAddr, loadVar, pure_bind, Sem.run_bind, Sz hu, hd, Result.andThen_ok, if_true, gV hi, MK ho h, Sem.run_pure]
theorem kT {v : Value} {K : Value → World → Prop} (hk : ∀ w', fA w' w.heap.size v.cells.toList → bZ w w' fN → w'.heap.size = w.heap.size + 1 → K (.pointer (some ⟨w.heap.size, 0, none⟩)) w') :
    aD P (Ej t v) w K := by
  have : (Ej t v).run P w = .ok (.value (.pointer (some ⟨w.heap.size, 0, none⟩))) (w.alloc (.cells v.cells.toList.toArray t)) := by
    unfold Ej; rw [nK]
    simp [Instr.box, newVar, newRow]
  unfold aD
  rw [this]
  exact hk _ (fA.alloc _ _ _) (bZ.alloc _ _ _) (by simp)
theorem qI {i : TypeInfo} {z : Value} (hi : P.info? t = some i) (hz : i.zero = some z) {K : Value → World → Prop}
    (hk : ∀ w', fA w' w.heap.size z.cells.toList → bZ w w' fN → w'.heap.size = w.heap.size + 1 → K (.pointer (some ⟨w.heap.size, 0, none⟩)) w') :
    aD P (hT t) w K := by
  have : (hT t).run P w = .ok (.value (.pointer (some ⟨w.heap.size, 0, none⟩))) (w.alloc (.cells z.cells.toList.toArray t)) := by
    unfold hT; rw [nK]
    simp [Instr.alloc, zeroValue, typeInfo, hi, hz, newVar, newRow]
  unfold aD
  rw [this]
  exact hk _ (fA.alloc _ _ _) (bZ.alloc _ _ _) (by simp)
end
theorem Bu {P : Program} {w : World} {k : IntKind} {a : Int} {y : Nat} {code : BoundsCode} (h0 : 0 ≤ a) (h1 : a ≤ y) : (Instr.sliceBound (.int k a) y code).run P w = .ok a.toNat w := by
  simp [Instr.sliceBound, asIntOf, h0, h1]
section
variable {P : Program} {w : World} {t e : TypeId} {k k' : IntKind} {lo hi : Int} {i : TypeInfo}
def kW (x : Option Addr) (m l sz : Nat) : Option Addr := if m = l then x else x.map (·.add (l * sz))
theorem V9 (hu : P.underlying t = some (.slice e)) (hi' : P.info? e = some i) (x : Option Addr) (n c : Nat) (h0 : 0 ≤ lo) (h1 : lo ≤ n) :
    (jU t (.slice x n c) (some (.int k lo)) none none).run P w = .ok (.value (.slice (kW x c lo.toNat i.size) (n - lo.toNat) (c - lo.toNat))) w := by
  simp only [jU, nK, Instr.sliceAt, underlying, hu, Sem.run_bind, run_program, Result.andThen_ok, Sem.run_pure, Instr.slice, Instr.sliceBounds, pure_bind, Bu h0 h1, gV hi', kW]
theorem Ni (hu : P.underlying t = some (.slice e)) (hi' : P.info? e = some i) (x : Option Addr) (n c : Nat) (h0 : 0 ≤ hi) (h1 : hi ≤ c) :
    (jU t (.slice x n c) none (some (.int k hi)) none).run P w = .ok (.value (.slice (kW x c 0 i.size) (hi.toNat - 0) (c - 0))) w := by
  simp only [jU, nK, Instr.sliceAt, underlying, hu, Sem.run_bind, run_program, Result.andThen_ok, Sem.run_pure, Instr.slice, Instr.sliceBounds, pure_bind, Bu h0 h1, gV hi', kW]
theorem Xn (hu : P.underlying t = some (.slice e)) (hi' : P.info? e = some i) (x : Option Addr) (n c : Nat) (h0 : 0 ≤ lo) (h1 : lo ≤ hi) (h2 : hi ≤ c) :
    (jU t (.slice x n c) (some (.int k lo)) (some (.int k' hi)) none).run P w = .ok (.value (.slice (kW x c lo.toNat i.size) (hi.toNat - lo.toNat) (c - lo.toNat))) w := by
  have h3 : (0 : Int) ≤ hi := by omega
  have h4 : lo ≤ (hi.toNat : Int) := by omega
  simp only [jU, nK, Instr.sliceAt, underlying, hu, Sem.run_bind, run_program, Result.andThen_ok, Sem.run_pure, Instr.slice, Instr.sliceBounds, pure_bind, Bu h3 h2, Bu h0 h4, gV hi', kW]
theorem YQ (hu : P.underlying t = some .string) (x : ByteArray) (h0 : 0 ≤ lo) (h1 : lo ≤ x.size) :
    (jU t (.string x) (some (.int k lo)) none none).run P w = .ok (.value (.string (x.extract lo.toNat x.size))) w := by
  simp only [jU, nK, Instr.sliceAt, underlying, hu, Sem.run_bind, run_program, Result.andThen_ok, Sem.run_pure, Instr.slice, Instr.sliceBounds, pure_bind, Option.isSome_none, Bool.false_eq_true, if_false, Bu h0 h1]
theorem WC (hu : P.underlying t = some .string) (x : ByteArray) (h0 : 0 ≤ lo) (h1 : lo ≤ hi) (h2 : hi ≤ x.size) :
    (jU t (.string x) (some (.int k lo)) (some (.int k' hi)) none).run P w = .ok (.value (.string (x.extract lo.toNat hi.toNat))) w := by
  have h3 : (0 : Int) ≤ hi := by omega
  have h4 : lo ≤ (hi.toNat : Int) := by omega
  simp only [jU, nK, Instr.sliceAt, underlying, hu, Sem.run_bind, run_program, Result.andThen_ok, Sem.run_pure, Instr.slice, Instr.sliceBounds, pure_bind, Option.isSome_none, Bool.false_eq_true, if_false, Bu h3 h2, Bu h0 h4]
end
def Sl (w : World) (v : Value) (l : List Value) : Prop :=
  ∃ a n c, v = .slice a n c ∧ n = l.length ∧ n ≤ c ∧ (0 < n → ∃ b off, a = some ⟨b, off, none⟩ ∧ ∀ i, i < n → w.cell? ⟨b, off + i, none⟩ = l[i]?)
def YD (v : Value) (M : Nat → Prop) : Prop := match v with | .slice (some a) (_ + 1) _ => M a.block | _ => False
theorem Sl.ext {w w' : World} {v : Value} {l : List Value} {M : Nat → Prop} (h : Sl w v l) (hx : bZ w w' M) (hM : ¬ YD v M) : Sl w' v l := by
  obtain ⟨a, n, c, rfl, hn, hc, h⟩ := h
  refine ⟨a, n, c, rfl, hn, hc, fun h0 => ?_⟩
  obtain ⟨b, off, rfl, h2⟩ := h h0
  refine ⟨b, off, rfl, fun i hi => ?_⟩
  have h1 := h2 i hi
  obtain ⟨v, hv⟩ : ∃ v, l[i]? = some v := ⟨l[i], by simp⟩
  rw [hv] at h1 ⊢
  refine X5 h1 hx ?_
  obtain ⟨m, rfl⟩ : ∃ m, n = m + 1 := ⟨n - 1, by omega⟩
  exact hM
theorem Sl.old {w : World} {v : Value} {l : List Value} (h : Sl w v l) : ¬ YD v (fun b => w.heap.size ≤ b) := by
  obtain ⟨a, n, c, rfl, hn, hc, h⟩ := h
  unfold YD
  split
  · rename_i x m _ e
    obtain ⟨rfl, rfl, rfl⟩ : a = some x ∧ n = m + 1 ∧ c = _ := by simpa using e
    obtain ⟨b, off, e, h2⟩ := h (by omega)
    have e := Option.some.inj e; subst e
    have h1 := h2 0 (by omega)
    obtain ⟨v, hv⟩ : ∃ v, l[0]? = some v := ⟨l[0], by simp⟩
    rw [hv] at h1
    have := World.block_lt_of_cell? _ _ h1
    simp at this ⊢; omega
  · simp
def Ic (x : UInt8) : Value := .int .u8 x.toNat
abbrev Bs (w : World) (v : Value) (l : List UInt8) : Prop := Sl w v (l.map Ic)
end Go.En
namespace Go.En
open Go
theorem EL (b o n : Nat) : (⟨b, o, none⟩ : Addr).add n = ⟨b, o + n, none⟩ := by
  unfold Addr.add; split
  · rename_i h; subst h; rfl
  · rfl
section
variable {P : Program} {w : World} {t e : TypeId} {k : IntKind} {a : Int}
theorem LO {inf : TypeInfo} {sz : Nat} (hz : inf.size = sz) (hu : P.underlying t = some (.slice e)) (hi : P.info? e = some inf) (b o n c : Nat) (h0 : 0 ≤ a) (h1 : a < n) :
    (cD t (.slice (some ⟨b, o, none⟩) n c) (.int k a)).run P w = .ok (.value (.pointer (some ⟨b, o + a.toNat * sz, none⟩))) w := by
  rw [Yn hu hi _ n c h0 h1, EL, hz]
theorem LW {inf : TypeInfo} (hz : inf.size = 1) (hu : P.underlying t = some (.slice e)) (hi : P.info? e = some inf) (b o n c : Nat) (h0 : 0 ≤ a) (h1 : a < n) :
    (cD t (.slice (some ⟨b, o, none⟩) n c) (.int k a)).run P w = .ok (.value (.pointer (some ⟨b, o + a.toNat, none⟩))) w := by
  rw [Yn hu hi _ n c h0 h1, EL, hz, Nat.mul_one]
theorem W6 {inf : TypeInfo} {len : Nat} (hz : inf.size = 1) (hu : P.underlying t = some (.array len e)) (hi : P.info? e = some inf) (b o : Nat) (h0 : 0 ≤ a) (h1 : a < (len : Int)) :
    (cD t (.pointer (some ⟨b, o, none⟩)) (.int k a)).run P w = .ok (.value (.pointer (some ⟨b, o + a.toNat, none⟩))) w := by
  rw [aeN hu hi _ h0 h1, EL, hz, Nat.mul_one]
end
def nJ (x : ByteArray) : List UInt8 := x.data.toList
theorem iV (x : ByteArray) : (nJ x).length = x.size := by unfold nJ; rw [Array.length_toList]; rfl
theorem P5 (x : ByteArray) (i : Nat) (h : i < x.size) : x[i]'h = (nJ x)[i]'(by rw [iV]; exact h) := rfl
theorem Kp (x : ByteArray) (a b : Nat) : nJ (x.extract a b) = ((nJ x).drop a).take (b - a) := by
  unfold nJ; rw [ByteArray.data_extract, Array.toList_extract, List.extract_eq_take_drop]
theorem Za (x y : ByteArray) : nJ (x ++ y) = nJ x ++ nJ y := by
  unfold nJ; rw [ByteArray.data_append, Array.toList_append]
theorem acX (l : List UInt8) : nJ ⟨l.toArray⟩ = l := rfl
theorem Vm {x y : ByteArray} (h : nJ x = nJ y) : x = y := by
  cases x; cases y; unfold nJ at h; congr; exact Array.toList_inj.1 h
section
variable {P : Program} {w : World} {s d e : TypeId}
theorem adQ (hs : P.underlying s = some (.slice e)) (hd : P.underlying d = some .string) (he : P.underlying e = some (.int .u8)) {l : List UInt8} {v : Value} (h : Bs w v l) :
    (jH s d v).run P w = .ok (.value (.string ⟨l.toArray⟩)) w := by
  obtain ⟨a, n, c, rfl, hn, hc, h⟩ := h
  simp only [List.length_map] at hn
  unfold jH
  rw [nK]
  have key : (convert s d (.slice a n c)).run P w = .ok (.string ⟨l.toArray⟩) w := by
    cases a with
    | none =>
      have hl : l = [] := by
        cases l with
        | nil => rfl
        | cons x l => obtain ⟨b, off, e, _⟩ := h (by rw [hn]; simp); cases e
      subst hl
      rw [run_convert_bytes_string w s d e none n c hs he hd]
      rfl
    | some x =>
      subst hn
      refine run_convert_bytes_back w s d e x c l hs he hd fun j hj => ?_
      obtain ⟨b, off, hx, h2⟩ := h (by omega)
      have hx := Option.some.inj hx
      subst hx
      rw [EL, h2 j hj]
      simp [Ic, hj]
  rw [key]; rfl
end
end Go.En
namespace Go.En
open Go
theorem ahF (l : List UInt8) : ∀ x ∈ l.map Ic, one x = true := by
  intro x hx
  obtain ⟨c, _, rfl⟩ := List.mem_map.1 hx
  rfl
theorem Sl.drop {w : World} {b o n c : Nat} {l : List Value} (h : Sl w (.slice (some ⟨b, o, none⟩) n c) l) {k : Nat} (hk : k ≤ n) :
    Sl w (.slice (kW (some ⟨b, o, none⟩) c k 1) (n - k) (c - k)) (l.drop k) := by
  obtain ⟨x, m, c', e, hm, hc, hh⟩ := h
  cases e
  refine ⟨_, _, _, rfl, by rw [List.length_drop]; omega, by omega, fun h0 => ?_⟩
  obtain ⟨b', o', e, h2⟩ := hh (by omega)
  cases e
  have hne : ¬ c = k := by omega
  refine ⟨b, o + k, by unfold kW; rw [if_neg hne, Option.map_some, EL, Nat.mul_one], fun i hi => ?_⟩
  rw [Nat.add_assoc, h2 (k + i) (by omega), List.getElem?_drop]
theorem Sl.take {w : World} {b o n c : Nat} {l : List Value} (h : Sl w (.slice (some ⟨b, o, none⟩) n c) l) {k : Nat} (hk : k ≤ n) :
    Sl w (.slice (kW (some ⟨b, o, none⟩) c 0 1) (k - 0) (c - 0)) (l.take k) := by
  obtain ⟨x, m, c', e, hm, hc, hh⟩ := h
  cases e
  refine ⟨_, _, _, rfl, by rw [List.length_take]; omega, by omega, fun h0 => ?_⟩
  obtain ⟨b', o', e, h2⟩ := hh (by omega)
  cases e
  have hne : ¬ c = 0 := by omega
  refine ⟨b, o, by unfold kW; rw [if_neg hne, Option.map_some, EL]; rfl, fun i hi => ?_⟩
  rw [h2 i (by omega), List.getElem?_take_of_lt (by omega)]
theorem fA.bs {w : World} {b off c : Nat} {cs : List Value} {l : List UInt8} (h : fA w b cs) (hc : l.length ≤ c) (hl : ∀ i (hi : i < l.length), cs[off + i]? = some (Ic l[i])) : Bs w (.slice (some ⟨b, off, none⟩) l.length c) l :=
  ⟨_, _, _, rfl, by simp, hc, fun _ => ⟨b, off, rfl, fun i hi => by rw [h.cell, hl i hi]; simp [hi]⟩⟩
section
variable {P : Program} {w : World} {t e : TypeId} {k : IntKind} {a : Int}
theorem Xw {b off : Nat} {l : List Value} (h : ∀ i, i < l.length → w.cell? ⟨b, off + i, none⟩ = l[i]?) (n : Nat) (hn : n ≤ l.length) :
    (loadCells ⟨b, off, none⟩ n).run P w = .ok (l.take n).toArray w := by
  have key : ∀ (m i : Nat) (acc : Array Value), i + m ≤ l.length → (loadCellsFrom ⟨b, off, none⟩ i m acc).run P w = .ok (acc ++ ((l.drop i).take m).toArray) w := by
    intro m
    induction m with
    | zero => intro i acc _; simp [loadCellsFrom]
    | succ m ih =>
      intro i acc hm
      have hc := h i (by omega)
      rw [List.getElem?_eq_getElem (by omega)] at hc
      simp only [loadCellsFrom, Sem.run_bind, run_load, EL, hc, Result.andThen_ok]
      rw [ih (i + 1) _ (by omega), List.drop_eq_getElem_cons (by omega : i < l.length), List.take_succ_cons]
      simp
  unfold loadCells
  rw [key n 0 #[] (by omega)]
  simp
theorem acM {i : TypeInfo} {z : Value} (hu : P.underlying t = some (.slice e)) (hi : P.info? e = some i) (h1 : i.size = 1) (hz : i.zero = some z) (hz1 : one z = true) {n : Int} (h0 : 0 ≤ n) (hn : i.bytes * n ≤ 2 ^ 48) (hn2 : n ≤ 9223372036854775807)
    {K : Value → World → Prop}
    (hk : ∀ w', fA w' w.heap.size (List.replicate n.toNat z) → bZ w w' fN → w'.heap.size = w.heap.size + 1 → K (.slice (some ⟨w.heap.size, 0, none⟩) n.toNat n.toNat) w') :
    aD P (oD t (.int k n) (.int k n)) w K := by
  have hw : IntKind.i64.wrap n = n := bD (by omega) hn2
  have hcells : z.cells = #[z] := WZ hz1
  have harr : (Array.range n.toNat).map (fun j => (#[z] : Array Value)[j % (#[z] : Array Value).size]!) = (List.replicate n.toNat z).toArray := by
    apply Array.ext
    · simp
    · intro j h1 h2; simp [Nat.mod_one]
  have hz' : (zeroValue e).run P w = .ok z w := by simp [zeroValue, typeInfo, hi, hz]
  have : (oD t (.int k n) (.int k n)).run P w = .ok (.value (.slice (some ⟨w.heap.size, 0, none⟩) n.toNat n.toNat)) (w.alloc (.cells (List.replicate n.toNat z).toArray e)) := by
    unfold oD
    rw [nK]
    have t1 : (decide (n < 0) || decide ((i.bytes : Int) * n > 2 ^ 48) || decide (n < 0) || decide (n > n)) = false := by
      simp only [Bool.or_eq_false_iff, decide_eq_false_iff_not]; omega
    by_cases hn0 : n.toNat = 0
    · simp only [Instr.makeSlice, underlying, typeInfo, asInt, asIntOf, pure_bind, Sem.run_bind, run_program, Result.andThen_ok, hu, hi, Sem.run_pure, hw, t1, Bool.false_eq_true, if_false, run_askRoom, gV hi, h1, Nat.mul_one, hn0, if_true, newRow, run_newObj]
      have : (Array.range 0).map (fun x => (#[] : Array Value)[x % (#[] : Array Value).size]!) = (List.replicate 0 z).toArray := by simp
      rw [this]
      rfl
    · simp only [Instr.makeSlice, underlying, typeInfo, asInt, asIntOf, pure_bind, Sem.run_bind, run_program, Result.andThen_ok, hu, hi, Sem.run_pure, hw, t1, Bool.false_eq_true, if_false, run_askRoom, gV hi, h1, Nat.mul_one, hn0, hz', hcells, newRow, run_newObj, harr]
      rfl
  unfold aD
  rw [this]
  exact hk _ (fA.alloc _ _ _) (bZ.alloc _ _ _) (by simp)
end
end Go.En

/- The pieces of bodies, written by a program of ours off the loaded code, each with its proof. -/
import Derived.Test.YtoepfjgekpdddaaF
namespace Go.Proofs.Ytoepfjgekpdddaa
open Go Go.En
set_option linter.unusedVariables false
set_option maxRecDepth 20000
attribute [local irreducible] Go.En.den
variable (Q : Exit → Env → World → Prop) (g : Env) (w : World)
/- lighterman/lightermanlaw08.WeightsWrites -/
def ann_law08_WeightsWrites : FA := ⟨F_law08_WeightsWrites, fun i => .leaf ([], []) []⟩
def rs_law08_WeightsWrites : List ResultVar := [.tmp 2]
noncomputable def code_law08_WeightsWrites : Code := bodyOf Try.f5
def law08_WeightsWrites_p1 (R : K1) (l_0 : Value) (w : World) : Prop :=
  Does pg F_law08_awake #[] w fun t11 w =>
  Stp pg (sUn .not t11) w fun t13 w =>
  Cnd t13
    (R (.bool false) w)
    (Stp pg (sBi .len #[22] 3 [l_0]) w fun t15 w =>
    Stp pg (sBin .gtr 3 (.tmp 15) (.const (.int .i64 300)) t15 (.int .i64 300)) w fun t16 w =>
    Cnd t16
      (R (.bool true) w)
      (Does pg F_weights_Write #[l_0] w fun t19 w =>
      Stp pg (sExtr t19 0) w fun t20 w =>
      Stp pg (sExtr t19 1) w fun t21 w =>
      Stp pg (sCvt 22 9 l_0) w fun t24 w =>
      Does pg F_ref08_Write #[t24] w fun t25 w =>
      Stp pg (sExtr t25 0) w fun t26 w =>
      Stp pg (sExtr t25 1) w fun t27 w =>
      Stp pg (sCvt 22 9 t20) w fun t29 w =>
      Stp pg (sBin .neq 9 (.tmp 29) (.tmp 30) t29 t26) w fun t31 w =>
      Gd (isB t31 false) (fun K => K t21 w) w fun t33 w =>
      Gd (isB t31 false) (fun K => K t27 w) w fun t34 w =>
      Gd (isB t31 false) (fun K => Stp pg (sBin .neq 24 (.tmp 33) (.tmp 34) t33 t34) w K) w fun t35 w =>
      Stp pg (sPick t31 (.bool true) t35) w fun t36 w =>
      Cnd t36
        (R (.bool false) w)
        (Stp pg (sBin .neq 24 (.tmp 37) (.const (.int .i64 0)) t21 (.int .i64 0)) w fun t38 w =>
        Cnd t38
          (R (.bool true) w)
          (Does pg F_weights_Read #[t20] w fun t41 w =>
          Stp pg (sExtr t41 0) w fun t42 w =>
          Stp pg (sExtr t41 1) w fun t43 w =>
          Stp pg (sExtr t41 2) w fun t44 w =>
          Stp pg (sBin .eql 24 (.tmp 45) (.const (.int .i64 0)) t44 (.int .i64 0)) w fun t46 w =>
          Gd (isB t46 true) (fun K => K t43 w) w fun t48 w =>
          Gd (isB t46 true) (fun K => K t20 w) w fun t49 w =>
          Gd (isB t46 true) (fun K => Stp pg (sBi .len #[22] 3 [t49]) w K) w fun t50 w =>
          Gd (isB t46 true) (fun K => Stp pg (sBin .eql 3 (.tmp 48) (.tmp 50) t48 t50) w K) w fun t51 w =>
          Stp pg (sPick t46 t51 (.bool false)) w fun t52 w =>
          Gd (isB t52 true) (fun K => K t42 w) w fun t54 w =>
          Gd (isB t52 true) (fun K => Stp pg (sCvt 22 9 t54) w K) w fun t55 w =>
          Gd (isB t52 true) (fun K => K l_0 w) w fun t56 w =>
          Gd (isB t52 true) (fun K => Stp pg (sCvt 22 9 t56) w K) w fun t57 w =>
          Gd (isB t52 true) (fun K => Stp pg (sBin .eql 9 (.tmp 55) (.tmp 57) t55 t57) w K) w fun t58 w =>
          Stp pg (sPick t52 t58 (.bool false)) w fun t59 w =>
          R t59 w))))
theorem law08_WeightsWrites_p1_ok (R : K1) (hr : HR rs_law08_WeightsWrites R Q) (h : law08_WeightsWrites_p1 R (g 0) w) : den pg ann_law08_WeightsWrites code_law08_WeightsWrites Q g w :=
  den_exQ (kn := no) (l := []) (by kernel_rfl) h noE hr trivial

def law08_WeightsWrites (a0 : Value) (w : World) (R : K1) : Prop :=
  law08_WeightsWrites_p1 R a0 w
theorem law08_WeightsWrites_does {a0 : Value} {w : World} {R : K1} (h : law08_WeightsWrites a0 w R) : Does pg F_law08_WeightsWrites #[a0] w R := by
  refine does_of_den (ann := ann_law08_WeightsWrites) (fn := Try.f5) (c := code_law08_WeightsWrites) (args := [a0]) (rs := rs_law08_WeightsWrites) (N := 60) TryM.mixed (by kernel_rfl) Try.func5 (by kernel_rfl) (by kernel_rfl) (by kernel_rfl) (of_decide_eq_true (by kernel_rfl)) (by kernel_rfl) ?_
  exact (law08_WeightsWrites_p1_ok (retQ pg rs_law08_WeightsWrites R) (envOf [a0]) w R (fun _ _ h => h) h)
-- PIECES law08_WeightsWrites/0 law08_WeightsWrites_p1

end Go.Proofs.Ytoepfjgekpdddaa

/- The pieces of bodies, written by a program of ours off the loaded code, each with its proof. -/
import Derived.Test.YtoepfjgekpdddaaF
namespace Go.Proofs.Ytoepfjgekpdddaa
open Go Go.En
set_option linter.unusedVariables false
set_option maxRecDepth 20000
attribute [local irreducible] Go.En.den
variable (Q : Exit → Env → World → Prop) (g : Env) (w : World)
/- lighterman/lightermanlaw08.WeightsLast -/
def ann_law08_WeightsLast : FA := ⟨F_law08_WeightsLast, fun i => match Nat.beq i 15 with | true => .leaf ([], []) [(false, []), (false, []), (false, []), (false, []), (false, []), (false, []), (false, []), (false, []), (false, []), (false, []), (false, []), (false, []), (false, []), (false, []), (false, []), (false, []), (false, []), (false, []), (false, []), (false, []), (false, []), (false, []), (false, []), (false, []), (false, []), (false, []), (false, []), (false, []), (false, []), (false, []), (false, []), (false, []), (false, []), (false, []), (false, [])] | false => .leaf ([], []) []⟩
def rs_law08_WeightsLast : List ResultVar := [.tmp 4]
noncomputable def code_law08_WeightsLast : Code := bodyOf Try.f8
def law08_WeightsLast_p1 (R : K1) (l_0 other_1 : Value) (w : World) : Prop :=
  Does pg F_law08_awake #[] w fun t12 w =>
  Stp pg (sUn .not t12) w fun t14 w =>
  Cnd t14
    (R (.bool false) w)
    (Stp pg (sBi .len #[22] 3 [l_0]) w fun t16 w =>
    Stp pg (sBin .gtr 3 (.tmp 16) (.const (.int .i64 255)) t16 (.int .i64 255)) w fun t17 w =>
    Cnd t17
      (R (.bool true) w)
      (Does pg F_weights_Whole #[l_0] w fun t20 w =>
      Stp pg (sExtr t20 0) w fun t21 w =>
      Stp pg (sExtr t20 1) w fun t22 w =>
      Stp pg (sBin .neq 24 (.tmp 23) (.const (.int .i64 0)) t22 (.int .i64 0)) w fun t24 w =>
      Cnd t24
        (Stp pg (sBin .eql 24 (.tmp 25) (.const (.int .i64 11)) t22 (.int .i64 11)) w fun t26 w =>
        Gd (isB t26 true) (fun K => K t21 w) w fun t28 w =>
        Gd (isB t26 true) (fun K => Stp pg (sBi .len #[22] 3 [t28]) w K) w fun t29 w =>
        Gd (isB t26 true) (fun K => Stp pg (sBin .eql 3 (.tmp 29) (.const (.int .i64 0)) t29 (.int .i64 0)) w K) w fun t30 w =>
        Stp pg (sPick t26 t30 (.bool false)) w fun t31 w =>
        R t31 w)
        (Stp pg (sBin .rem 5 (.tmp 32) (.const (.int .u8 11)) other_1 (.int .u8 11)) w fun t33 w =>
        Stp pg (sBin .add 5 (.tmp 33) (.const (.int .u8 1)) t33 (.int .u8 1)) w fun t34 w =>
        Stp pg (sBi .append #[22, 22] 22 [(.slice none 0 0), l_0]) w fun t37 w =>
        Stp pg (sBuildSlice 22 1 [(0, t34)]) w fun t40 w =>
        Stp pg (sBi .append #[22, 22] 22 [t37, t40]) w fun t41 w =>
        Stp pg (sCvt 22 9 t21) w fun t43 w =>
        Does pg F_ref08_Depth #[t43] w fun t44 w =>
        Stp pg (sCvt 22 9 t41) w fun t46 w =>
        Does pg F_ref08_Depth #[t46] w fun t47 w =>
        (dr w) = (dr w) ∧
        Stp pg (sBi .len #[22] 3 [t21]) (dr w) fun t49 w_ => w_ = (dr w) ∧
        (dr w) = (dr w) ∧
        Stp pg (sBi .len #[22] 3 [l_0]) (dr w) fun t51 w_ => w_ = (dr w) ∧
        Stp pg (sBin .add 3 (.tmp 51) (.const (.int .i64 1)) t51 (.int .i64 1)) (dr w) fun t52 w_ => w_ = (dr w) ∧
        Stp pg (sBin .eql 3 (.tmp 49) (.tmp 52) t49 t52) (dr w) fun t53 w_ => w_ = (dr w) ∧
        (dr w) = (dr w) ∧
        Gd (isB t53 true) (fun K => K t21 (dr w)) (dr w) fun t55 w_ => w_ = (dr w) ∧
        Gd (isB t53 true) (fun K => K l_0 (dr w)) (dr w) fun t56 w_ => w_ = (dr w) ∧
        Gd (isB t53 true) (fun K => Stp pg (sBi .len #[22] 3 [t56]) (dr w) K) (dr w) fun t57 w_ => w_ = (dr w) ∧
        Gd (isB t53 true) (fun K => Stp pg (sSlice 22 t55 none (some t57) none) (dr w) K) (dr w) fun t58 w_ => w_ = (dr w) ∧
        Gd (isB t53 true) (fun K => Stp pg (sCvt 22 9 t58) (dr w) K) (dr w) fun t59 w_ => w_ = (dr w) ∧
        Gd (isB t53 true) (fun K => K l_0 (dr w)) (dr w) fun t60 w_ => w_ = (dr w) ∧
        Gd (isB t53 true) (fun K => Stp pg (sCvt 22 9 t60) (dr w) K) (dr w) fun t61 w_ => w_ = (dr w) ∧
        Gd (isB t53 true) (fun K => Stp pg (sBin .eql 9 (.tmp 59) (.tmp 61) t59 t61) (dr w) K) (dr w) fun t62 w_ => w_ = (dr w) ∧
        Stp pg (sPick t53 t62 (.bool false)) (dr w) fun t63 w_ => w_ = (dr w) ∧
        (dr w) = (dr w) ∧
        Gd (isB t63 true) (fun K => K t44 (dr w)) (dr w) fun t65 w_ => w_ = (dr w) ∧
        Gd (isB t63 true) (fun K => Stp pg (sBin .gtr 3 (.tmp 65) (.const (.int .i64 0)) t65 (.int .i64 0)) (dr w) K) (dr w) fun t66 w_ => w_ = (dr w) ∧
        Stp pg (sPick t63 t66 (.bool false)) (dr w) fun t67 w_ => w_ = (dr w) ∧
        (dr w) = (dr w) ∧
        Gd (isB t67 true) (fun K => K t34 (dr w)) (dr w) fun t69 w_ => w_ = (dr w) ∧
        Gd (isB t67 true) (fun K => K t21 (dr w)) (dr w) fun t70 w_ => w_ = (dr w) ∧
        Gd (isB t67 true) (fun K => K l_0 (dr w)) (dr w) fun t71 w_ => w_ = (dr w) ∧
        Gd (isB t67 true) (fun K => Stp pg (sBi .len #[22] 3 [t71]) (dr w) K) (dr w) fun t72 w_ => w_ = (dr w) ∧
        Gd (isB t67 true) (fun K => Stp pg (sIAddr 22 t70 t72) (dr w) K) (dr w) fun t73 w_ => w_ = (dr w) ∧
        Gd (isB t67 true) (fun K => Stp pg (sLoad 5 t73) (dr w) K) (dr w) fun t74 w_ => w_ = (dr w) ∧
        Gd (isB t67 true) (fun K => Stp pg (sBin .eql 5 (.tmp 69) (.tmp 74) t69 t74) (dr w) K) (dr w) fun t75 w_ => w_ = (dr w) ∧
        Gd (isB t67 true) (fun K => K t75 (dr w)) (dr w) fun t76 w_ => w_ = (dr w) ∧
        Gd (isB t76 false) (fun K => K t47 (dr w)) (dr w) fun t77 w_ => w_ = (dr w) ∧
        Gd (isB t76 false) (fun K => K t44 (dr w)) (dr w) fun t78 w_ => w_ = (dr w) ∧
        Gd (isB t76 false) (fun K => Stp pg (sBin .neq 3 (.tmp 77) (.tmp 78) t77 t78) (dr w) K) (dr w) fun t79 w_ => w_ = (dr w) ∧
        Gd (isB t67 true) (fun K => Stp pg (sPick t76 (.bool true) t79) (dr w) K) (dr w) fun t80 w_ => w_ = (dr w) ∧
        Stp pg (sPick t67 t80 (.bool false)) (dr w) fun t81 w_ => w_ = (dr w) ∧
        (dr w) = (dr w) ∧
        R t81 (dr w))))
theorem law08_WeightsLast_p1_ok (R : K1) (hr : HR rs_law08_WeightsLast R Q) (h : law08_WeightsLast_p1 R (g 0) (g 1) w) : den pg ann_law08_WeightsLast code_law08_WeightsLast Q g w :=
  den_exQ (kn := no) (l := []) (by kernel_rfl) h noE hr trivial

def law08_WeightsLast (a0 a1 : Value) (w : World) (R : K1) : Prop :=
  law08_WeightsLast_p1 R a0 a1 w
theorem law08_WeightsLast_does {a0 a1 : Value} {w : World} {R : K1} (h : law08_WeightsLast a0 a1 w R) : Does pg F_law08_WeightsLast #[a0, a1] w R := by
  refine does_of_den (ann := ann_law08_WeightsLast) (fn := Try.f8) (c := code_law08_WeightsLast) (args := [a0, a1]) (rs := rs_law08_WeightsLast) (N := 82) TryM.mixed (by kernel_rfl) Try.func8 (by kernel_rfl) (by kernel_rfl) (by kernel_rfl) (of_decide_eq_true (by kernel_rfl)) (by kernel_rfl) ?_
  exact (law08_WeightsLast_p1_ok (retQ pg rs_law08_WeightsLast R) (envOf [a0, a1]) w R (fun _ _ h => h) h)
-- PIECES law08_WeightsLast/0 law08_WeightsLast_p1

end Go.Proofs.Ytoepfjgekpdddaa

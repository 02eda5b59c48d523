/- The pieces of bodies, written by a program of ours off the loaded code, each with its proof. -/
import Derived.Test.YtoepfjgekpdddaaF
namespace Go.Proofs.Ytoepfjgekpdddaa
open Go Go.En
set_option linter.unusedVariables false
set_option maxRecDepth 20000
attribute [local irreducible] Go.En.den
variable (Q : Exit → Env → World → Prop) (g : Env) (w : World)
/- lighterman/lightermanlaw08.WeightsFree -/
def ann_law08_WeightsFree : FA := ⟨F_law08_WeightsFree, fun i => match Nat.beq i 14 with | true => .leaf ([], []) [(false, []), (false, []), (false, []), (false, []), (false, []), (false, []), (false, []), (false, []), (false, []), (false, []), (false, []), (false, []), (false, [])] | false => match Nat.beq i 16 with | true => .leaf ([], []) [(false, []), (false, []), (false, []), (false, []), (false, []), (false, []), (false, []), (false, []), (false, []), (false, []), (false, []), (false, []), (false, []), (false, []), (false, []), (false, []), (false, []), (false, []), (false, []), (false, []), (false, []), (false, []), (false, [])] | false => .leaf ([], []) []⟩
def rs_law08_WeightsFree : List ResultVar := [.tmp 6]
noncomputable def code_law08_WeightsFree : Code := bodyOf Try.f7
def law08_WeightsFree_p1 (R : K1) (e_9 x_11 y_12 : Value) (w : World) : Prop :=
  Stp pg (sBin .eql 24 (.tmp 113) (.const (.int .i64 0)) e_9 (.int .i64 0)) w fun t114 w =>
  Gd (isB t114 true) (fun K => Stp pg (sFAddr 36 y_12 1) w K) w fun t116 w =>
  Gd (isB t114 true) (fun K => Stp pg (sLoad 3 t116) w K) w fun t117 w =>
  Gd (isB t114 true) (fun K => Stp pg (sFAddr 36 y_12 0) w K) w fun t118 w =>
  Gd (isB t114 true) (fun K => Stp pg (sLoad 3 t118) w K) w fun t119 w =>
  Gd (isB t114 true) (fun K => Stp pg (sFAddr 36 x_11 0) w K) w fun t120 w =>
  Gd (isB t114 true) (fun K => Stp pg (sLoad 3 t120) w K) w fun t121 w =>
  Gd (isB t114 true) (fun K => Stp pg (sBin .sub 3 (.tmp 119) (.tmp 121) t119 t121) w K) w fun t122 w =>
  Gd (isB t114 true) (fun K => Stp pg (sCvt 3 49 t122) w K) w fun t123 w =>
  Gd (isB t114 true) (fun K => Stp pg (sBin .shr 3 (.tmp 117) (.tmp 123) t117 t123) w K) w fun t124 w =>
  Gd (isB t114 true) (fun K => Stp pg (sFAddr 36 x_11 1) w K) w fun t125 w =>
  Gd (isB t114 true) (fun K => Stp pg (sLoad 3 t125) w K) w fun t126 w =>
  Gd (isB t114 true) (fun K => Stp pg (sBin .neq 3 (.tmp 124) (.tmp 126) t124 t126) w K) w fun t127 w =>
  Stp pg (sPick t114 t127 (.bool false)) w fun t128 w =>
  R t128 w
theorem law08_WeightsFree_p1_ok (R : K1) (hr : HR rs_law08_WeightsFree R Q) (h : law08_WeightsFree_p1 R (g 9) (g 11) (g 12) w) : den pg ann_law08_WeightsFree (dropS 1 (dropS 1 (dropS 1 (dropS 2 (dropS 7 code_law08_WeightsFree))))) Q g w :=
  den_exQ (kn := no) (l := []) (by kernel_rfl) h noE hr trivial

def law08_WeightsFree_p2 (kn : K3) (R : K1) (l_0 a_1 b_2 e_9 x_11 y_12 : Value) (w : World) : Prop :=
  (dr w) = (dr w) ∧
  Stp pg (sCvt 5 3 a_1) (dr w) fun t89 w_ => w_ = (dr w) ∧
  (dr w) = (dr w) ∧
  Stp pg (sBi .len #[22] 3 [l_0]) (dr w) fun t91 w_ => w_ = (dr w) ∧
  Stp pg (sBin .rem 3 (.tmp 89) (.tmp 91) t89 t91) (dr w) fun t92 w_ => w_ = (dr w) ∧
  (dr w) = (dr w) ∧
  Stp pg (sCvt 5 3 b_2) (dr w) fun t94 w_ => w_ = (dr w) ∧
  (dr w) = (dr w) ∧
  Stp pg (sBi .len #[22] 3 [l_0]) (dr w) fun t96 w_ => w_ = (dr w) ∧
  Stp pg (sBin .rem 3 (.tmp 94) (.tmp 96) t94 t96) (dr w) fun t97 w_ => w_ = (dr w) ∧
  Stp pg (sBin .eql 3 (.tmp 92) (.tmp 97) t92 t97) (dr w) fun t98 w_ => w_ = (dr w) ∧
  (dr w) = (dr w) ∧
  Gd (isB t98 false) (fun K => Stp pg (sFAddr 36 x_11 0) (dr w) K) (dr w) fun t100 w_ => w_ = (dr w) ∧
  Gd (isB t98 false) (fun K => Stp pg (sLoad 3 t100) (dr w) K) (dr w) fun t101 w_ => w_ = (dr w) ∧
  Gd (isB t98 false) (fun K => Stp pg (sBin .eql 3 (.tmp 101) (.const (.int .i64 0)) t101 (.int .i64 0)) (dr w) K) (dr w) fun t102 w_ => w_ = (dr w) ∧
  Stp pg (sPick t98 (.bool true) t102) (dr w) fun t103 w_ => w_ = (dr w) ∧
  (dr w) = (dr w) ∧
  Gd (isB t103 false) (fun K => Stp pg (sFAddr 36 y_12 0) (dr w) K) (dr w) fun t105 w_ => w_ = (dr w) ∧
  Gd (isB t103 false) (fun K => Stp pg (sLoad 3 t105) (dr w) K) (dr w) fun t106 w_ => w_ = (dr w) ∧
  Gd (isB t103 false) (fun K => Stp pg (sFAddr 36 x_11 0) (dr w) K) (dr w) fun t107 w_ => w_ = (dr w) ∧
  Gd (isB t103 false) (fun K => Stp pg (sLoad 3 t107) (dr w) K) (dr w) fun t108 w_ => w_ = (dr w) ∧
  Gd (isB t103 false) (fun K => Stp pg (sBin .lss 3 (.tmp 106) (.tmp 108) t106 t108) (dr w) K) (dr w) fun t109 w_ => w_ = (dr w) ∧
  Stp pg (sPick t103 (.bool true) t109) (dr w) fun t110 w_ => w_ = (dr w) ∧
  Cnd t110
    (Stp pg (sBin .eql 24 (.tmp 111) (.const (.int .i64 0)) e_9 (.int .i64 0)) (dr w) fun t112 w =>
    R t112 w)
    (kn e_9 x_11 y_12 (dr w))
theorem law08_WeightsFree_p2_ok (kn : K3) (R : K1) (hn : ∀ g w, kn (g 9) (g 11) (g 12) w → Q .normal g w) (hr : HR rs_law08_WeightsFree R Q) (h : law08_WeightsFree_p2 kn R (g 0) (g 1) (g 2) (g 9) (g 11) (g 12) w) : den pg ann_law08_WeightsFree (takeS 1 (dropS 1 (dropS 1 (dropS 2 (dropS 7 code_law08_WeightsFree))))) Q g w :=
  den_exQ (l := []) (by kernel_rfl) h hn hr trivial

def law08_WeightsFree_p3 (R : K1) (l_0 a_1 b_2 e_9 x_11 y_12 : Value) (w : World) : Prop :=
  law08_WeightsFree_p2 (fun e_9 x_11 y_12 w => law08_WeightsFree_p1 R e_9 x_11 y_12 w) R l_0 a_1 b_2 e_9 x_11 y_12 w
theorem law08_WeightsFree_p3_ok (R : K1) (hr : HR rs_law08_WeightsFree R Q) (h : law08_WeightsFree_p3 R (g 0) (g 1) (g 2) (g 9) (g 11) (g 12) w) : den pg ann_law08_WeightsFree (dropS 1 (dropS 1 (dropS 2 (dropS 7 code_law08_WeightsFree)))) Q g w :=
  den_seqs 1 _ g w (by kernel_rfl) (law08_WeightsFree_p2_ok (thenE (fun g w => den pg ann_law08_WeightsFree (dropS 1 (dropS 1 (dropS 1 (dropS 2 (dropS 7 code_law08_WeightsFree))))) Q g w) Q) g w (fun e_9 x_11 y_12 w => law08_WeightsFree_p1 R e_9 x_11 y_12 w) R (fun g w h => thenE_n (K := fun g w => den pg ann_law08_WeightsFree (dropS 1 (dropS 1 (dropS 1 (dropS 2 (dropS 7 code_law08_WeightsFree))))) Q g w) (law08_WeightsFree_p1_ok Q g w R hr h)) hr h)

def law08_WeightsFree_p4 (kn : K6) (R : K1) (l_0 a_1 b_2 e_9 x_11 y_12 : Value) (w : World) : Prop :=
  Stp pg (sFAddr 36 x_11 0) (dr w) fun t75 w_ => w_ = (dr w) ∧
  Stp pg (sLoad 3 t75) (dr w) fun t76 w_ => w_ = (dr w) ∧
  Stp pg (sBin .eql 3 (.tmp 76) (.const (.int .i64 0)) t76 (.int .i64 0)) (dr w) fun t77 w_ => w_ = (dr w) ∧
  (dr w) = (dr w) ∧
  (dr w) = (dr w) ∧
  Stp pg (sCvt 5 3 a_1) (dr w) fun t80 w_ => w_ = (dr w) ∧
  (dr w) = (dr w) ∧
  Stp pg (sBi .len #[22] 3 [l_0]) (dr w) fun t82 w_ => w_ = (dr w) ∧
  Stp pg (sBin .rem 3 (.tmp 80) (.tmp 82) t80 t82) (dr w) fun t83 w_ => w_ = (dr w) ∧
  Stp pg (sIAddr 22 l_0 t83) (dr w) fun t84 w_ => w_ = (dr w) ∧
  Stp pg (sLoad 5 t84) (dr w) fun t85 w_ => w_ = (dr w) ∧
  Stp pg (sBin .eql 5 (.tmp 85) (.const (.int .u8 0)) t85 (.int .u8 0)) (dr w) fun t86 w_ => w_ = (dr w) ∧
  Stp pg (sBin .neq 4 (.tmp 77) (.tmp 86) t77 t86) (dr w) fun t87 w_ => w_ = (dr w) ∧
  Cnd t87
    (R (.bool false) (dr w))
    (kn l_0 a_1 b_2 e_9 x_11 y_12 (dr w))
theorem law08_WeightsFree_p4_ok (kn : K6) (R : K1) (hn : ∀ g w, kn (g 0) (g 1) (g 2) (g 9) (g 11) (g 12) w → Q .normal g w) (hr : HR rs_law08_WeightsFree R Q) (h : law08_WeightsFree_p4 kn R (g 0) (g 1) (g 2) (g 9) (g 11) (g 12) w) : den pg ann_law08_WeightsFree (takeS 1 (dropS 1 (dropS 2 (dropS 7 code_law08_WeightsFree)))) Q g w :=
  den_exQ (l := []) (by kernel_rfl) h hn hr trivial

def law08_WeightsFree_p5 (R : K1) (l_0 a_1 b_2 e_9 x_11 y_12 : Value) (w : World) : Prop :=
  law08_WeightsFree_p4 (fun l_0 a_1 b_2 e_9 x_11 y_12 w => law08_WeightsFree_p3 R l_0 a_1 b_2 e_9 x_11 y_12 w) R l_0 a_1 b_2 e_9 x_11 y_12 w
theorem law08_WeightsFree_p5_ok (R : K1) (hr : HR rs_law08_WeightsFree R Q) (h : law08_WeightsFree_p5 R (g 0) (g 1) (g 2) (g 9) (g 11) (g 12) w) : den pg ann_law08_WeightsFree (dropS 1 (dropS 2 (dropS 7 code_law08_WeightsFree))) Q g w :=
  den_seqs 1 _ g w (by kernel_rfl) (law08_WeightsFree_p4_ok (thenE (fun g w => den pg ann_law08_WeightsFree (dropS 1 (dropS 1 (dropS 2 (dropS 7 code_law08_WeightsFree)))) Q g w) Q) g w (fun l_0 a_1 b_2 e_9 x_11 y_12 w => law08_WeightsFree_p3 R l_0 a_1 b_2 e_9 x_11 y_12 w) R (fun g w h => thenE_n (K := fun g w => den pg ann_law08_WeightsFree (dropS 1 (dropS 1 (dropS 2 (dropS 7 code_law08_WeightsFree)))) Q g w) (law08_WeightsFree_p3_ok Q g w R hr h)) hr h)

def law08_WeightsFree_p6 (kn : K6) (R : K1) (l_0 a_1 b_2 e_9 d_10 x_11 y_12 : Value) (w : World) : Prop :=
  Stp pg (sFAddr 36 x_11 0) w fun t52 w =>
  Stp pg (sLoad 3 t52) w fun t53 w =>
  Stp pg (sBin .neq 3 (.tmp 53) (.const (.int .i64 0)) t53 (.int .i64 0)) w fun t54 w =>
  Gd (isB t54 true) (fun K => Stp pg (sFAddr 36 x_11 1) w K) w fun t56 w =>
  Gd (isB t54 true) (fun K => Stp pg (sLoad 3 t56) w K) w fun t57 w =>
  Gd (isB t54 true) (fun K => Stp pg (sBin .lss 3 (.tmp 57) (.const (.int .i64 0)) t57 (.int .i64 0)) w K) w fun t58 w =>
  Gd (isB t54 true) (fun K => K t58 w) w fun t59 w =>
  Gd (isB t59 false) (fun K => Stp pg (sFAddr 36 x_11 1) w K) w fun t60 w =>
  Gd (isB t59 false) (fun K => Stp pg (sLoad 3 t60) w K) w fun t61 w =>
  Gd (isB t59 false) (fun K => Stp pg (sFAddr 36 x_11 0) w K) w fun t62 w =>
  Gd (isB t59 false) (fun K => Stp pg (sLoad 3 t62) w K) w fun t63 w =>
  Gd (isB t59 false) (fun K => Stp pg (sCvt 3 49 t63) w K) w fun t64 w =>
  Gd (isB t59 false) (fun K => Stp pg (sBin .shl 3 (.const (.int .i64 1)) (.tmp 64) (.int .i64 1) t64) w K) w fun t65 w =>
  Gd (isB t59 false) (fun K => Stp pg (sBin .geq 3 (.tmp 61) (.tmp 65) t61 t65) w K) w fun t66 w =>
  Gd (isB t54 true) (fun K => Stp pg (sPick t59 (.bool true) t66) w K) w fun t67 w =>
  Gd (isB t54 true) (fun K => K t67 w) w fun t68 w =>
  Gd (isB t68 false) (fun K => Stp pg (sFAddr 36 x_11 0) w K) w fun t69 w =>
  Gd (isB t68 false) (fun K => Stp pg (sLoad 3 t69) w K) w fun t70 w =>
  Gd (isB t68 false) (fun K => K d_10 w) w fun t71 w =>
  Gd (isB t68 false) (fun K => Stp pg (sBin .gtr 3 (.tmp 70) (.tmp 71) t70 t71) w K) w fun t72 w =>
  Gd (isB t54 true) (fun K => Stp pg (sPick t68 (.bool true) t72) w K) w fun t73 w =>
  Stp pg (sPick t54 t73 (.bool false)) w fun t74 w =>
  Cnd t74
    (R (.bool false) w)
    (kn l_0 a_1 b_2 e_9 x_11 y_12 w)
theorem law08_WeightsFree_p6_ok (kn : K6) (R : K1) (hn : ∀ g w, kn (g 0) (g 1) (g 2) (g 9) (g 11) (g 12) w → Q .normal g w) (hr : HR rs_law08_WeightsFree R Q) (h : law08_WeightsFree_p6 kn R (g 0) (g 1) (g 2) (g 9) (g 10) (g 11) (g 12) w) : den pg ann_law08_WeightsFree (takeS 1 (dropS 2 (dropS 7 code_law08_WeightsFree))) Q g w :=
  den_exQ (l := []) (by kernel_rfl) h hn hr trivial

def law08_WeightsFree_p7 (R : K1) (l_0 a_1 b_2 e_9 d_10 x_11 y_12 : Value) (w : World) : Prop :=
  law08_WeightsFree_p6 (fun l_0 a_1 b_2 e_9 x_11 y_12 w => law08_WeightsFree_p5 R l_0 a_1 b_2 e_9 x_11 y_12 w) R l_0 a_1 b_2 e_9 d_10 x_11 y_12 w
theorem law08_WeightsFree_p7_ok (R : K1) (hr : HR rs_law08_WeightsFree R Q) (h : law08_WeightsFree_p7 R (g 0) (g 1) (g 2) (g 9) (g 10) (g 11) (g 12) w) : den pg ann_law08_WeightsFree (dropS 2 (dropS 7 code_law08_WeightsFree)) Q g w :=
  den_seqs 1 _ g w (by kernel_rfl) (law08_WeightsFree_p6_ok (thenE (fun g w => den pg ann_law08_WeightsFree (dropS 1 (dropS 2 (dropS 7 code_law08_WeightsFree))) Q g w) Q) g w (fun l_0 a_1 b_2 e_9 x_11 y_12 w => law08_WeightsFree_p5 R l_0 a_1 b_2 e_9 x_11 y_12 w) R (fun g w h => thenE_n (K := fun g w => den pg ann_law08_WeightsFree (dropS 1 (dropS 2 (dropS 7 code_law08_WeightsFree))) Q g w) (law08_WeightsFree_p5_ok Q g w R hr h)) hr h)

def law08_WeightsFree_p8 (kn : K7) (l_0 a_1 b_2 c_8 e_9 d_10 : Value) (w : World) : Prop :=
  Stp pg (sCvt 5 3 a_1) w fun t38 w =>
  Stp pg (sBi .len #[22] 3 [l_0]) w fun t40 w =>
  Stp pg (sBin .rem 3 (.tmp 38) (.tmp 40) t38 t40) w fun t41 w =>
  Stp pg (sIAddr 29 c_8 t41) w fun t42 w =>
  Stp pg (sLoad 36 t42) w fun t43 w =>
  Stp pg (sAlloc 36) w fun x_11 w =>
  Stp pg (sStore 36 x_11 t43) w fun _u w =>
  Stp pg (sCvt 5 3 b_2) w fun t46 w =>
  Stp pg (sBi .len #[22] 3 [l_0]) w fun t48 w =>
  Stp pg (sBin .rem 3 (.tmp 46) (.tmp 48) t46 t48) w fun t49 w =>
  Stp pg (sIAddr 29 c_8 t49) w fun t50 w =>
  Stp pg (sLoad 36 t50) w fun t51 w =>
  Stp pg (sAlloc 36) w fun y_12 w =>
  Stp pg (sStore 36 y_12 t51) w fun _u w =>
  kn l_0 a_1 b_2 e_9 d_10 x_11 y_12 w
theorem law08_WeightsFree_p8_ok (kn : K7) (hn : ∀ g w, kn (g 0) (g 1) (g 2) (g 9) (g 10) (g 11) (g 12) w → Q .normal g w) (h : law08_WeightsFree_p8 kn (g 0) (g 1) (g 2) (g 8) (g 9) (g 10) w) : den pg ann_law08_WeightsFree (takeS 2 (dropS 7 code_law08_WeightsFree)) Q g w :=
  den_exQ (kr := no) (l := []) (by kernel_rfl) h hn noE trivial

def law08_WeightsFree_p9 (R : K1) (l_0 a_1 b_2 c_8 e_9 d_10 : Value) (w : World) : Prop :=
  law08_WeightsFree_p8 (fun l_0 a_1 b_2 e_9 d_10 x_11 y_12 w => law08_WeightsFree_p7 R l_0 a_1 b_2 e_9 d_10 x_11 y_12 w) l_0 a_1 b_2 c_8 e_9 d_10 w
theorem law08_WeightsFree_p9_ok (R : K1) (hr : HR rs_law08_WeightsFree R Q) (h : law08_WeightsFree_p9 R (g 0) (g 1) (g 2) (g 8) (g 9) (g 10) w) : den pg ann_law08_WeightsFree (dropS 7 code_law08_WeightsFree) Q g w :=
  den_seqs 2 _ g w (by kernel_rfl) (law08_WeightsFree_p8_ok (thenE (fun g w => den pg ann_law08_WeightsFree (dropS 2 (dropS 7 code_law08_WeightsFree)) Q g w) Q) g w (fun l_0 a_1 b_2 e_9 d_10 x_11 y_12 w => law08_WeightsFree_p7 R l_0 a_1 b_2 e_9 d_10 x_11 y_12 w) (fun g w h => thenE_n (K := fun g w => den pg ann_law08_WeightsFree (dropS 2 (dropS 7 code_law08_WeightsFree)) Q g w) (law08_WeightsFree_p7_ok Q g w R hr h)) h)

def law08_WeightsFree_p10 (kn : K6) (R : K1) (l_0 a_1 b_2 : Value) (w : World) : Prop :=
  Does pg F_law08_awake #[] w fun t13 w =>
  Stp pg (sUn .not t13) w fun t15 w =>
  Cnd t15
    (R (.bool false) w)
    (Stp pg (sBi .len #[22] 3 [l_0]) w fun t17 w =>
    Stp pg (sBin .gtr 3 (.tmp 17) (.const (.int .i64 300)) t17 (.int .i64 300)) w fun t18 w =>
    Cnd t18
      (R (.bool true) w)
      (Does pg F_weights_Codes #[l_0] w fun t21 w =>
      Stp pg (sExtr t21 0) w fun t22 w =>
      Stp pg (sExtr t21 1) w fun t23 w =>
      Stp pg (sCvt 22 9 l_0) w fun t25 w =>
      Does pg F_ref08_Depth #[t25] w fun t26 w =>
      Stp pg (sBin .eql 3 (.tmp 27) (.const (.int .i64 0)) t26 (.int .i64 0)) w fun t28 w =>
      Cnd t28
        (Stp pg (sBin .eql 24 (.tmp 29) (.const (.int .i64 1)) t23 (.int .i64 1)) w fun t30 w =>
        Gd (isB t30 true) (fun K => K t22 w) w fun t32 w =>
        Gd (isB t30 true) (fun K => Stp pg (sBi .len #[29] 3 [t32]) w K) w fun t33 w =>
        Gd (isB t30 true) (fun K => Stp pg (sBin .eql 3 (.tmp 33) (.const (.int .i64 0)) t33 (.int .i64 0)) w K) w fun t34 w =>
        Stp pg (sPick t30 t34 (.bool false)) w fun t35 w =>
        R t35 w)
        (kn l_0 a_1 b_2 t22 t23 t26 w)))
theorem law08_WeightsFree_p10_ok (kn : K6) (R : K1) (hn : ∀ g w, kn (g 0) (g 1) (g 2) (g 8) (g 9) (g 10) w → Q .normal g w) (hr : HR rs_law08_WeightsFree R Q) (h : law08_WeightsFree_p10 kn R (g 0) (g 1) (g 2) w) : den pg ann_law08_WeightsFree (takeS 7 code_law08_WeightsFree) Q g w :=
  den_exQ (l := []) (by kernel_rfl) h hn hr trivial

def law08_WeightsFree_p11 (R : K1) (l_0 a_1 b_2 : Value) (w : World) : Prop :=
  law08_WeightsFree_p10 (fun l_0 a_1 b_2 c_8 e_9 d_10 w => law08_WeightsFree_p9 R l_0 a_1 b_2 c_8 e_9 d_10 w) R l_0 a_1 b_2 w
theorem law08_WeightsFree_p11_ok (R : K1) (hr : HR rs_law08_WeightsFree R Q) (h : law08_WeightsFree_p11 R (g 0) (g 1) (g 2) w) : den pg ann_law08_WeightsFree code_law08_WeightsFree Q g w :=
  den_seqs 7 _ g w (by kernel_rfl) (law08_WeightsFree_p10_ok (thenE (fun g w => den pg ann_law08_WeightsFree (dropS 7 code_law08_WeightsFree) Q g w) Q) g w (fun l_0 a_1 b_2 c_8 e_9 d_10 w => law08_WeightsFree_p9 R l_0 a_1 b_2 c_8 e_9 d_10 w) R (fun g w h => thenE_n (K := fun g w => den pg ann_law08_WeightsFree (dropS 7 code_law08_WeightsFree) Q g w) (law08_WeightsFree_p9_ok Q g w R hr h)) hr h)

def law08_WeightsFree (a0 a1 a2 : Value) (w : World) (R : K1) : Prop :=
  law08_WeightsFree_p11 R a0 a1 a2 w
theorem law08_WeightsFree_does {a0 a1 a2 : Value} {w : World} {R : K1} (h : law08_WeightsFree a0 a1 a2 w R) : Does pg F_law08_WeightsFree #[a0, a1, a2] w R := by
  refine does_of_den (ann := ann_law08_WeightsFree) (fn := Try.f7) (c := code_law08_WeightsFree) (args := [a0, a1, a2]) (rs := rs_law08_WeightsFree) (N := 129) TryM.mixed (by kernel_rfl) Try.func7 (by kernel_rfl) (by kernel_rfl) (by kernel_rfl) (of_decide_eq_true (by kernel_rfl)) (by kernel_rfl) ?_
  exact (law08_WeightsFree_p11_ok (retQ pg rs_law08_WeightsFree R) (envOf [a0, a1, a2]) w R (fun _ _ h => h) h)
-- PIECES law08_WeightsFree/0 law08_WeightsFree_p1 law08_WeightsFree_p2 law08_WeightsFree_p3 law08_WeightsFree_p4 law08_WeightsFree_p5 law08_WeightsFree_p6 law08_WeightsFree_p7 law08_WeightsFree_p8 law08_WeightsFree_p9 law08_WeightsFree_p10 law08_WeightsFree_p11

end Go.Proofs.Ytoepfjgekpdddaa

/- The pieces of bodies, written by a program of ours off the loaded code, each with its proof. -/
import Derived.Test.YtoepfjgekpdddaaF
namespace Go.Proofs.Ytoepfjgekpdddaa
open Go Go.En
set_option linter.unusedVariables false
set_option maxRecDepth 20000
attribute [local irreducible] Go.En.den
variable (Q : Exit → Env → World → Prop) (g : Env) (w : World)
/- lighterman/lightermanlaw08.awake -/
def ann_law08_awake : FA := ⟨F_law08_awake, fun i => .leaf ([], []) []⟩
def rs_law08_awake : List ResultVar := [.tmp 0]
noncomputable def code_law08_awake : Code := bodyOf Try.f10
def law08_awake_p1 (R : K1) (t0 : Value) (w : World) : Prop :=
  R t0 w
theorem law08_awake_p1_ok (R : K1) (hr : HR rs_law08_awake R Q) (h : law08_awake_p1 R (g 0) w) : den pg ann_law08_awake (dropS 1 (dropS 6 code_law08_awake)) Q g w :=
  den_exQ (kn := no) (l := []) (by kernel_rfl) h noE hr trivial

def law08_awake_p2 (kn : K1) (l_1 e_2 c_3 f_4 b_5 g_6 r_7 n_8 h_9 o_10 i_11 : Value) (w : World) : Prop :=
  Stp pg (sBi .len #[22] 3 [l_1]) w fun t39 w =>
  Stp pg (sBin .eql 3 (.tmp 39) (.const (.int .i64 2)) t39 (.int .i64 2)) w fun t40 w =>
  Gd (isB t40 true) (fun K => K l_1 w) w fun t42 w =>
  Gd (isB t40 true) (fun K => Stp pg (sIAddr 22 t42 (.int .i64 1)) w K) w fun t43 w =>
  Gd (isB t40 true) (fun K => Stp pg (sLoad 5 t43) w K) w fun t44 w =>
  Gd (isB t40 true) (fun K => Stp pg (sBin .eql 5 (.tmp 44) (.const (.int .u8 1)) t44 (.int .u8 1)) w K) w fun t45 w =>
  Stp pg (sPick t40 t45 (.bool false)) w fun t46 w =>
  Gd (isB t46 true) (fun K => K e_2 w) w fun t48 w =>
  Gd (isB t46 true) (fun K => Stp pg (sBin .eql 24 (.tmp 48) (.const (.int .i64 0)) t48 (.int .i64 0)) w K) w fun t49 w =>
  Stp pg (sPick t46 t49 (.bool false)) w fun t50 w =>
  Gd (isB t50 true) (fun K => K c_3 w) w fun t52 w =>
  Gd (isB t50 true) (fun K => Stp pg (sBi .len #[29] 3 [t52]) w K) w fun t53 w =>
  Gd (isB t50 true) (fun K => Stp pg (sBin .eql 3 (.tmp 53) (.const (.int .i64 3)) t53 (.int .i64 3)) w K) w fun t54 w =>
  Stp pg (sPick t50 t54 (.bool false)) w fun t55 w =>
  Gd (isB t55 true) (fun K => K c_3 w) w fun t57 w =>
  Gd (isB t55 true) (fun K => Stp pg (sIAddr 29 t57 (.int .i64 0)) w K) w fun t58 w =>
  Gd (isB t55 true) (fun K => Stp pg (sFAddr 36 t58 0) w K) w fun t59 w =>
  Gd (isB t55 true) (fun K => Stp pg (sLoad 3 t59) w K) w fun t60 w =>
  Gd (isB t55 true) (fun K => Stp pg (sBin .eql 3 (.tmp 60) (.const (.int .i64 1)) t60 (.int .i64 1)) w K) w fun t61 w =>
  Stp pg (sPick t55 t61 (.bool false)) w fun t62 w =>
  Gd (isB t62 true) (fun K => K c_3 w) w fun t64 w =>
  Gd (isB t62 true) (fun K => Stp pg (sIAddr 29 t64 (.int .i64 0)) w K) w fun t65 w =>
  Gd (isB t62 true) (fun K => Stp pg (sFAddr 36 t65 1) w K) w fun t66 w =>
  Gd (isB t62 true) (fun K => Stp pg (sLoad 3 t66) w K) w fun t67 w =>
  Gd (isB t62 true) (fun K => Stp pg (sBin .eql 3 (.tmp 67) (.const (.int .i64 1)) t67 (.int .i64 1)) w K) w fun t68 w =>
  Stp pg (sPick t62 t68 (.bool false)) w fun t69 w =>
  Gd (isB t69 true) (fun K => K c_3 w) w fun t71 w =>
  Gd (isB t69 true) (fun K => Stp pg (sIAddr 29 t71 (.int .i64 2)) w K) w fun t72 w =>
  Gd (isB t69 true) (fun K => Stp pg (sFAddr 36 t72 1) w K) w fun t73 w =>
  Gd (isB t69 true) (fun K => Stp pg (sLoad 3 t73) w K) w fun t74 w =>
  Gd (isB t69 true) (fun K => Stp pg (sBin .eql 3 (.tmp 74) (.const (.int .i64 1)) t74 (.int .i64 1)) w K) w fun t75 w =>
  Stp pg (sPick t69 t75 (.bool false)) w fun t76 w =>
  Gd (isB t76 true) (fun K => K f_4 w) w fun t78 w =>
  Gd (isB t76 true) (fun K => Stp pg (sBin .eql 24 (.tmp 78) (.const (.int .i64 0)) t78 (.int .i64 0)) w K) w fun t79 w =>
  Stp pg (sPick t76 t79 (.bool false)) w fun t80 w =>
  Gd (isB t80 true) (fun K => K g_6 w) w fun t82 w =>
  Gd (isB t80 true) (fun K => Stp pg (sBin .eql 24 (.tmp 82) (.const (.int .i64 0)) t82 (.int .i64 0)) w K) w fun t83 w =>
  Stp pg (sPick t80 t83 (.bool false)) w fun t84 w =>
  Gd (isB t84 true) (fun K => K r_7 w) w fun t86 w =>
  Gd (isB t84 true) (fun K => Stp pg (sCvt 22 9 t86) w K) w fun t87 w =>
  Gd (isB t84 true) (fun K => Stp pg (sBin .eql 9 (.tmp 87) (.const (.string ⟨#[2, 1, 1]⟩)) t87 (.string ⟨#[2, 1, 1]⟩)) w K) w fun t88 w =>
  Stp pg (sPick t84 t88 (.bool false)) w fun t89 w =>
  Gd (isB t89 true) (fun K => K n_8 w) w fun t91 w =>
  Gd (isB t89 true) (fun K => K b_5 w) w fun t92 w =>
  Gd (isB t89 true) (fun K => Stp pg (sBi .len #[22] 3 [t92]) w K) w fun t93 w =>
  Gd (isB t89 true) (fun K => Stp pg (sBin .eql 3 (.tmp 91) (.tmp 93) t91 t93) w K) w fun t94 w =>
  Stp pg (sPick t89 t94 (.bool false)) w fun t95 w =>
  Gd (isB t95 true) (fun K => K h_9 w) w fun t97 w =>
  Gd (isB t95 true) (fun K => Stp pg (sBin .eql 24 (.tmp 97) (.const (.int .i64 0)) t97 (.int .i64 0)) w K) w fun t98 w =>
  Stp pg (sPick t95 t98 (.bool false)) w fun t99 w =>
  Gd (isB t99 true) (fun K => K o_10 w) w fun t101 w =>
  Gd (isB t99 true) (fun K => Stp pg (sBi .len #[22] 3 [t101]) w K) w fun t102 w =>
  Gd (isB t99 true) (fun K => Stp pg (sBin .eql 3 (.tmp 102) (.const (.int .i64 3)) t102 (.int .i64 3)) w K) w fun t103 w =>
  Stp pg (sPick t99 t103 (.bool false)) w fun t104 w =>
  Gd (isB t104 true) (fun K => K i_11 w) w fun t106 w =>
  Gd (isB t104 true) (fun K => Stp pg (sBin .eql 24 (.tmp 106) (.const (.int .i64 0)) t106 (.int .i64 0)) w K) w fun t107 w =>
  Stp pg (sPick t104 t107 (.bool false)) w fun t108 w =>
  Stp pg (sPick t108 (.bool true) (.bool false)) w fun t110 w =>
  kn t110 w
theorem law08_awake_p2_ok (kn : K1) (hn : ∀ g w, kn (g 0) w → Q .normal g w) (h : law08_awake_p2 kn (g 1) (g 2) (g 3) (g 4) (g 5) (g 6) (g 7) (g 8) (g 9) (g 10) (g 11) w) : den pg ann_law08_awake (takeS 1 (dropS 6 code_law08_awake)) Q g w :=
  den_exQ (kr := no) (l := []) (by kernel_rfl) h hn noE trivial

def law08_awake_p3 (R : K1) (l_1 e_2 c_3 f_4 b_5 g_6 r_7 n_8 h_9 o_10 i_11 : Value) (w : World) : Prop :=
  law08_awake_p2 (fun t0 w => law08_awake_p1 R t0 w) l_1 e_2 c_3 f_4 b_5 g_6 r_7 n_8 h_9 o_10 i_11 w
theorem law08_awake_p3_ok (R : K1) (hr : HR rs_law08_awake R Q) (h : law08_awake_p3 R (g 1) (g 2) (g 3) (g 4) (g 5) (g 6) (g 7) (g 8) (g 9) (g 10) (g 11) w) : den pg ann_law08_awake (dropS 6 code_law08_awake) Q g w :=
  den_seqs 1 _ g w (by kernel_rfl) (law08_awake_p2_ok (thenE (fun g w => den pg ann_law08_awake (dropS 1 (dropS 6 code_law08_awake)) Q g w) Q) g w (fun t0 w => law08_awake_p1 R t0 w) (fun g w h => thenE_n (K := fun g w => den pg ann_law08_awake (dropS 1 (dropS 6 code_law08_awake)) Q g w) (law08_awake_p1_ok Q g w R hr h)) h)

def law08_awake_p4 (kn : K11)  (w : World) : Prop :=
  Stp pg (sBuildSlice 22 1 [(0, (.int .u8 1))]) w fun t13 w =>
  Does pg F_weights_Whole #[t13] w fun t14 w =>
  Stp pg (sExtr t14 0) w fun t15 w =>
  Stp pg (sExtr t14 1) w fun t16 w =>
  Stp pg (sBuildSlice 22 3 [(0, (.int .u8 2)), (1, (.int .u8 1)), (2, (.int .u8 1))]) w fun t18 w =>
  Does pg F_weights_Codes #[t18] w fun t19 w =>
  Stp pg (sExtr t19 0) w fun t20 w =>
  Stp pg (sExtr t19 1) w fun t21 w =>
  Stp pg (sBuildSlice 22 3 [(0, (.int .u8 2)), (1, (.int .u8 1)), (2, (.int .u8 1))]) w fun t23 w =>
  Does pg F_weights_Write #[t23] w fun t24 w =>
  Stp pg (sExtr t24 0) w fun t25 w =>
  Stp pg (sExtr t24 1) w fun t26 w =>
  Does pg F_weights_Read #[t25] w fun t29 w =>
  Stp pg (sExtr t29 0) w fun t30 w =>
  Stp pg (sExtr t29 1) w fun t31 w =>
  Stp pg (sExtr t29 2) w fun t32 w =>
  Stp pg (sBuildSlice 43 3 [(0, (.int .u32 9)), (1, (.int .u32 0)), (2, (.int .u32 1))]) w fun t34 w =>
  Does pg F_weights_Of #[t34] w fun t35 w =>
  Stp pg (sExtr t35 0) w fun t36 w =>
  Stp pg (sExtr t35 1) w fun t37 w =>
  kn t15 t16 t20 t21 t25 t26 t30 t31 t32 t36 t37 w
theorem law08_awake_p4_ok (kn : K11) (hn : ∀ g w, kn (g 1) (g 2) (g 3) (g 4) (g 5) (g 6) (g 7) (g 8) (g 9) (g 10) (g 11) w → Q .normal g w) (h : law08_awake_p4 kn w) : den pg ann_law08_awake (takeS 6 code_law08_awake) Q g w :=
  den_exQ (kr := no) (l := []) (by kernel_rfl) h hn noE trivial

def law08_awake_p5 (R : K1)  (w : World) : Prop :=
  law08_awake_p4 (fun l_1 e_2 c_3 f_4 b_5 g_6 r_7 n_8 h_9 o_10 i_11 w => law08_awake_p3 R l_1 e_2 c_3 f_4 b_5 g_6 r_7 n_8 h_9 o_10 i_11 w) w
theorem law08_awake_p5_ok (R : K1) (hr : HR rs_law08_awake R Q) (h : law08_awake_p5 R w) : den pg ann_law08_awake code_law08_awake Q g w :=
  den_seqs 6 _ g w (by kernel_rfl) (law08_awake_p4_ok (thenE (fun g w => den pg ann_law08_awake (dropS 6 code_law08_awake) Q g w) Q) g w (fun l_1 e_2 c_3 f_4 b_5 g_6 r_7 n_8 h_9 o_10 i_11 w => law08_awake_p3 R l_1 e_2 c_3 f_4 b_5 g_6 r_7 n_8 h_9 o_10 i_11 w) (fun g w h => thenE_n (K := fun g w => den pg ann_law08_awake (dropS 6 code_law08_awake) Q g w) (law08_awake_p3_ok Q g w R hr h)) h)

def law08_awake (w : World) (R : K1) : Prop :=
  law08_awake_p5 R w
theorem law08_awake_does {w : World} {R : K1} (h : law08_awake w R) : Does pg F_law08_awake #[] w R := by
  refine does_of_den (ann := ann_law08_awake) (fn := Try.f10) (c := code_law08_awake) (args := []) (rs := rs_law08_awake) (N := 111) TryM.mixed (by kernel_rfl) Try.func10 (by kernel_rfl) (by kernel_rfl) (by kernel_rfl) (of_decide_eq_true (by kernel_rfl)) (by kernel_rfl) ?_
  exact (law08_awake_p5_ok (retQ pg rs_law08_awake R) (envOf []) w R (fun _ _ h => h) h)
-- PIECES law08_awake/0 law08_awake_p1 law08_awake_p2 law08_awake_p3 law08_awake_p4 law08_awake_p5

end Go.Proofs.Ytoepfjgekpdddaa

/- The pieces of bodies, written by a program of ours off the loaded code, each with its proof. -/
import Derived.Test.YtcbkdccobhkbpaaF
namespace Go.Proofs.Ytcbkdccobhkbpaa
open Go Go.En
set_option linter.unusedVariables false
set_option maxRecDepth 20000
attribute [local irreducible] Go.En.den
variable (Q : Exit → Env → World → Prop) (g : Env) (w : World)
/- lighterman/lightermanlaw06.NormalReads -/
def ann_law06_NormalReads : FA := ⟨F_law06_NormalReads, fun i => match Nat.beq i 8 with | true => .leaf ([10, 12], [(10, 11)]) [(false, []), (false, []), (false, []), (false, []), (false, []), (false, []), (false, []), (false, []), (false, []), (false, []), (true, []), (false, [0]), (true, []), (false, []), (false, [])] | false => .leaf ([], []) []⟩
def rs_law06_NormalReads : List ResultVar := [.tmp 6]
noncomputable def code_law06_NormalReads : Code := bodyOf Try.f8
def law06_NormalReads_p1 (R : K1) (b_0 most_1 symbols_2 : Value) (w : World) : Prop :=
  Does pg F_law06_awake #[] w fun t14 w =>
  Stp pg (sUn .not t14) w fun t16 w =>
  Cnd t16
    (R (.bool false) w)
    (Stp pg (sBi .len #[52] 3 [b_0]) w fun t18 w =>
    Stp pg (sBin .gtr 3 (.tmp 18) (.const (.int .i64 300)) t18 (.int .i64 300)) w fun t19 w =>
    Gd (isB t19 false) (fun K => K symbols_2 w) w fun t21 w =>
    Gd (isB t19 false) (fun K => Stp pg (sBin .lss 3 (.tmp 21) (.const (.int .i64 0)) t21 (.int .i64 0)) w K) w fun t22 w =>
    Stp pg (sPick t19 (.bool true) t22) w fun t23 w =>
    Gd (isB t23 false) (fun K => K symbols_2 w) w fun t25 w =>
    Gd (isB t23 false) (fun K => Stp pg (sBin .gtr 3 (.tmp 25) (.const (.int .i64 1000)) t25 (.int .i64 1000)) w K) w fun t26 w =>
    Stp pg (sPick t23 (.bool true) t26) w fun t27 w =>
    Cnd t27
      (R (.bool true) w)
      (Does pg F_normal_Read #[b_0, most_1, symbols_2] w fun t32 w =>
      Stp pg (sExtr t32 0) w fun t33 w =>
      Stp pg (sExtr t32 1) w fun t34 w =>
      Stp pg (sExtr t32 2) w fun t35 w =>
      Stp pg (sAlloc 24) w fun c_8 w =>
      Stp pg (sStore 24 c_8 t33) w fun _u w =>
      Stp pg (sCvt 52 9 b_0) w fun t38 w =>
      Does pg F_ref06_Read #[t38, most_1, symbols_2] w fun t41 w =>
      Stp pg (sExtr t41 0) w fun t42 w =>
      Stp pg (sExtr t41 1) w fun t43 w =>
      Stp pg (sExtr t41 2) w fun t44 w =>
      Stp pg (sAlloc 37) w fun w_11 w =>
      Stp pg (sStore 37 w_11 t42) w fun _u w =>
      (dr w) = (dr w) ∧
      (dr w) = (dr w) ∧
      Stp pg (sBin .neq 3 (.tmp 45) (.tmp 46) t34 t43) (dr w) fun t47 w_ => w_ = (dr w) ∧
      (dr w) = (dr w) ∧
      Gd (isB t47 false) (fun K => K t35 (dr w)) (dr w) fun t49 w_ => w_ = (dr w) ∧
      Gd (isB t47 false) (fun K => K t44 (dr w)) (dr w) fun t50 w_ => w_ = (dr w) ∧
      Gd (isB t47 false) (fun K => Stp pg (sBin .neq 29 (.tmp 49) (.tmp 50) t49 t50) (dr w) K) (dr w) fun t51 w_ => w_ = (dr w) ∧
      Stp pg (sPick t47 (.bool true) t51) (dr w) fun t52 w_ => w_ = (dr w) ∧
      (dr w) = (dr w) ∧
      Gd (isB t52 false) (fun K => Stp pg (sLoad 24 c_8) (dr w) K) (dr w) fun t54 w_ => w_ = (dr w) ∧
      Gd (isB t52 false) (fun K => Does pg F_law06_modelOf #[t54] (dr w) K) (dr w) fun t55 w8_10 =>
      Gd (isB t52 false) (fun K => Stp pg (sLoad 37 w_11) w8_10 K) w8_10 fun t56 w_ => w_ = w8_10 ∧
      (Gs (isB t52 false) (Same pg (sLoad 37 w_11) t56 (dr w)) ∧ True) ∧
      Gd (isB t52 false) (fun K => Does pg F_ref06_Same #[t55, t56] w8_10 K) w8_10 fun t57 w8_12 =>
      Gd (isB t52 false) (fun K => Stp pg (sUn .not t57) w8_12 K) w8_12 fun t58 w_ => w_ = w8_12 ∧
      Stp pg (sPick t52 (.bool true) t58) w8_12 fun t59 w_ => w_ = w8_12 ∧
      Cnd t59
        (R (.bool false) w8_12)
        (Stp pg (sBin .neq 29 (.tmp 60) (.const (.int .i64 0)) t35 (.int .i64 0)) w8_12 fun t61 w =>
        Gd (isB t61 false) (fun K => K symbols_2 w) w fun t63 w =>
        Gd (isB t61 false) (fun K => Stp pg (sBin .gtr 3 (.tmp 63) (.const (.int .i64 256)) t63 (.int .i64 256)) w K) w fun t64 w =>
        Stp pg (sPick t61 (.bool true) t64) w fun t65 w =>
        Cnd t65
          (R (.bool true) w)
          (Stp pg (sLoad 24 c_8) w fun t66 w =>
          Does pg F_normal_Check #[t66, most_1] w fun t68 w =>
          Stp pg (sBin .eql 29 (.tmp 68) (.const (.int .i64 0)) t68 (.int .i64 0)) w fun t69 w =>
          Gd (isB t69 true) (fun K => Stp pg (sFAddr 24 c_8 1) w K) w fun t71 w =>
          Gd (isB t69 true) (fun K => Stp pg (sLoad 22 t71) w K) w fun t72 w =>
          Gd (isB t69 true) (fun K => Stp pg (sBi .len #[22] 3 [t72]) w K) w fun t73 w =>
          Gd (isB t69 true) (fun K => K symbols_2 w) w fun t74 w =>
          Gd (isB t69 true) (fun K => Stp pg (sBin .leq 3 (.tmp 73) (.tmp 74) t73 t74) w K) w fun t75 w =>
          Stp pg (sPick t69 t75 (.bool false)) w fun t76 w =>
          R t76 w))))
theorem law06_NormalReads_p1_ok (R : K1) (hr : HR rs_law06_NormalReads R Q) (h : law06_NormalReads_p1 R (g 0) (g 1) (g 2) w) : den pg ann_law06_NormalReads code_law06_NormalReads Q g w :=
  den_exQ (kn := no) (l := []) (by kernel_rfl) h noE hr trivial

def law06_NormalReads (a0 a1 a2 : Value) (w : World) (R : K1) : Prop :=
  law06_NormalReads_p1 R a0 a1 a2 w
theorem law06_NormalReads_does {a0 a1 a2 : Value} {w : World} {R : K1} (h : law06_NormalReads a0 a1 a2 w R) : Does pg F_law06_NormalReads #[a0, a1, a2] w R := by
  refine does_of_den (ann := ann_law06_NormalReads) (fn := Try.f8) (c := code_law06_NormalReads) (args := [a0, a1, a2]) (rs := rs_law06_NormalReads) (N := 77) TryM.mixed (by kernel_rfl) Try.func8 (by kernel_rfl) (by kernel_rfl) (by kernel_rfl) (of_decide_eq_true (by kernel_rfl)) (by kernel_rfl) ?_
  exact (law06_NormalReads_p1_ok (retQ pg rs_law06_NormalReads R) (envOf [a0, a1, a2]) w R (fun _ _ h => h) h)
-- PIECES law06_NormalReads/0 law06_NormalReads_p1

/- lighterman/lightermanlaw06.NormalWrites -/
def ann_law06_NormalWrites : FA := ⟨F_law06_NormalWrites, fun i => match Nat.beq i 14 with | true => .leaf ([10, 12, 26, 28], [(10, 11), (26, 27)]) [(false, []), (false, []), (false, []), (false, []), (false, []), (false, []), (false, []), (false, []), (false, []), (false, []), (true, []), (false, [0]), (true, []), (false, []), (false, []), (false, []), (false, []), (false, []), (false, []), (false, []), (false, []), (false, []), (false, []), (false, []), (false, []), (false, []), (true, []), (false, [0]), (true, []), (false, []), (false, [])] | false => .leaf ([], []) []⟩
def rs_law06_NormalWrites : List ResultVar := [.tmp 4]
noncomputable def code_law06_NormalWrites : Code := bodyOf Try.f9
def law06_NormalWrites_p1 (R : K1) (c_0 most_1 : Value) (w : World) : Prop :=
  Stp pg (sBox 24 c_0) w fun c_2 w =>
  Does pg F_law06_awake #[] w fun t15 w =>
  Stp pg (sUn .not t15) w fun t17 w =>
  Cnd t17
    (R (.bool false) w)
    (Stp pg (sFAddr 24 c_2 1) w fun t18 w =>
    Stp pg (sLoad 22 t18) w fun t19 w =>
    Stp pg (sBi .len #[22] 3 [t19]) w fun t20 w =>
    Stp pg (sBin .gtr 3 (.tmp 20) (.const (.int .i64 300)) t20 (.int .i64 300)) w fun t21 w =>
    Cnd t21
      (R (.bool true) w)
      (Stp pg (sLoad 24 c_2) w fun t22 w =>
      Does pg F_normal_Check #[t22, most_1] w fun t24 w =>
      Stp pg (sLoad 24 c_2) w fun t26 w =>
      Does pg F_normal_Write #[t26] w fun t27 w =>
      Stp pg (sExtr t27 0) w fun t28 w =>
      Stp pg (sExtr t27 1) w fun t29 w =>
      Stp pg (sLoad 24 c_2) w fun t31 w =>
      Does pg F_law06_modelOf #[t31] w fun t32 w =>
      Does pg F_ref06_Check #[t32, most_1] w fun t34 w =>
      Stp pg (sBin .neq 29 (.tmp 30) (.tmp 34) t24 t34) w fun t35 w =>
      Gd (isB t35 false) (fun K => K t29 w) w fun t37 w =>
      Gd (isB t35 false) (fun K => Stp pg (sBin .eql 29 (.tmp 37) (.const (.int .i64 0)) t37 (.int .i64 0)) w K) w fun t38 w =>
      Gd (isB t35 false) (fun K => Stp pg (sLoad 24 c_2) w K) w fun t39 w =>
      Gd (isB t35 false) (fun K => Does pg F_law06_modelOf #[t39] w K) w fun t40 w =>
      Gd (isB t35 false) (fun K => Does pg F_ref06_May #[t40] w K) w fun t41 w =>
      Gd (isB t35 false) (fun K => Stp pg (sBin .neq 4 (.tmp 38) (.tmp 41) t38 t41) w K) w fun t42 w =>
      Stp pg (sPick t35 (.bool true) t42) w fun t43 w =>
      Cnd t43
        (R (.bool false) w)
        (Stp pg (sBin .neq 29 (.tmp 44) (.const (.int .i64 0)) t29 (.int .i64 0)) w fun t45 w =>
        Cnd t45
          (Stp pg (sBin .eql 29 (.tmp 46) (.const (.int .i64 1)) t29 (.int .i64 1)) w fun t47 w =>
          Gd (isB t47 true) (fun K => K t28 w) w fun t49 w =>
          Gd (isB t47 true) (fun K => Stp pg (sBi .len #[52] 3 [t49]) w K) w fun t50 w =>
          Gd (isB t47 true) (fun K => Stp pg (sBin .eql 3 (.tmp 50) (.const (.int .i64 0)) t50 (.int .i64 0)) w K) w fun t51 w =>
          Stp pg (sPick t47 t51 (.bool false)) w fun t52 w =>
          R t52 w)
          (Stp pg (sCvt 52 9 t28) w fun t55 w =>
          Does pg F_ref06_Read #[t55, (.int .i64 15), (.int .i64 256)] w fun t56 w =>
          Stp pg (sExtr t56 0) w fun t57 w =>
          Stp pg (sExtr t56 1) w fun t58 w =>
          Stp pg (sExtr t56 2) w fun t59 w =>
          Stp pg (sAlloc 37) w fun d_9 w =>
          Stp pg (sStore 37 d_9 t57) w fun _u w =>
          Does pg F_normal_Read #[t28, (.int .i64 15), (.int .i64 256)] w fun t62 w =>
          Stp pg (sExtr t62 0) w fun t63 w =>
          Stp pg (sExtr t62 1) w fun t64 w =>
          Stp pg (sExtr t62 2) w fun t65 w =>
          Stp pg (sAlloc 24) w fun x_12 w =>
          Stp pg (sStore 24 x_12 t63) w fun _u w =>
          (dr w) = (dr w) ∧
          Stp pg (sBin .eql 29 (.tmp 66) (.const (.int .i64 0)) t59 (.int .i64 0)) (dr w) fun t67 w_ => w_ = (dr w) ∧
          (dr w) = (dr w) ∧
          Gd (isB t67 true) (fun K => K t58 (dr w)) (dr w) fun t69 w_ => w_ = (dr w) ∧
          Gd (isB t67 true) (fun K => K t28 (dr w)) (dr w) fun t70 w_ => w_ = (dr w) ∧
          Gd (isB t67 true) (fun K => Stp pg (sBi .len #[52] 3 [t70]) (dr w) K) (dr w) fun t71 w_ => w_ = (dr w) ∧
          Gd (isB t67 true) (fun K => Stp pg (sBin .eql 3 (.tmp 69) (.tmp 71) t69 t71) (dr w) K) (dr w) fun t72 w_ => w_ = (dr w) ∧
          Stp pg (sPick t67 t72 (.bool false)) (dr w) fun t73 w_ => w_ = (dr w) ∧
          (dr w) = (dr w) ∧
          Gd (isB t73 true) (fun K => Stp pg (sLoad 24 c_2) (dr w) K) (dr w) fun t75 w_ => w_ = (dr w) ∧
          Gd (isB t73 true) (fun K => Does pg F_law06_modelOf #[t75] (dr w) K) (dr w) fun t76 w14_10 =>
          Gd (isB t73 true) (fun K => Stp pg (sLoad 37 d_9) w14_10 K) w14_10 fun t77 w_ => w_ = w14_10 ∧
          (Gs (isB t73 true) (Same pg (sLoad 37 d_9) t77 (dr w)) ∧ True) ∧
          Gd (isB t73 true) (fun K => Does pg F_ref06_Same #[t76, t77] w14_10 K) w14_10 fun t78 w14_12 =>
          Stp pg (sPick t73 t78 (.bool false)) w14_12 fun t79 w_ => w_ = w14_12 ∧
          w14_12 = w14_12 ∧
          Gd (isB t79 true) (fun K => K t65 w14_12) w14_12 fun t81 w_ => w_ = w14_12 ∧
          Gd (isB t79 true) (fun K => Stp pg (sBin .eql 29 (.tmp 81) (.const (.int .i64 0)) t81 (.int .i64 0)) w14_12 K) w14_12 fun t82 w_ => w_ = w14_12 ∧
          Stp pg (sPick t79 t82 (.bool false)) w14_12 fun t83 w_ => w_ = w14_12 ∧
          w14_12 = w14_12 ∧
          Gd (isB t83 true) (fun K => K t64 w14_12) w14_12 fun t85 w_ => w_ = w14_12 ∧
          Gd (isB t83 true) (fun K => K t28 w14_12) w14_12 fun t86 w_ => w_ = w14_12 ∧
          Gd (isB t83 true) (fun K => Stp pg (sBi .len #[52] 3 [t86]) w14_12 K) w14_12 fun t87 w_ => w_ = w14_12 ∧
          Gd (isB t83 true) (fun K => Stp pg (sBin .eql 3 (.tmp 85) (.tmp 87) t85 t87) w14_12 K) w14_12 fun t88 w_ => w_ = w14_12 ∧
          Stp pg (sPick t83 t88 (.bool false)) w14_12 fun t89 w_ => w_ = w14_12 ∧
          w14_12 = w14_12 ∧
          Gd (isB t89 true) (fun K => Stp pg (sLoad 24 x_12) w14_12 K) w14_12 fun t91 w_ => w_ = w14_12 ∧
          Gd (isB t89 true) (fun K => Does pg F_law06_modelOf #[t91] w14_12 K) w14_12 fun t92 w14_26 =>
          Gd (isB t89 true) (fun K => Stp pg (sLoad 37 d_9) w14_26 K) w14_26 fun t93 w_ => w_ = w14_26 ∧
          (Gs (isB t89 true) (Same pg (sLoad 37 d_9) t93 w14_12) ∧ True) ∧
          Gd (isB t89 true) (fun K => Does pg F_ref06_Same #[t92, t93] w14_26 K) w14_26 fun t94 w14_28 =>
          Stp pg (sPick t89 t94 (.bool false)) w14_28 fun t95 w_ => w_ = w14_28 ∧
          w14_28 = w14_28 ∧
          R t95 w14_28))))
theorem law06_NormalWrites_p1_ok (R : K1) (hr : HR rs_law06_NormalWrites R Q) (h : law06_NormalWrites_p1 R (g 0) (g 1) w) : den pg ann_law06_NormalWrites code_law06_NormalWrites Q g w :=
  den_exQ (kn := no) (l := []) (by kernel_rfl) h noE hr trivial

def law06_NormalWrites (a0 a1 : Value) (w : World) (R : K1) : Prop :=
  law06_NormalWrites_p1 R a0 a1 w
theorem law06_NormalWrites_does {a0 a1 : Value} {w : World} {R : K1} (h : law06_NormalWrites a0 a1 w R) : Does pg F_law06_NormalWrites #[a0, a1] w R := by
  refine does_of_den (ann := ann_law06_NormalWrites) (fn := Try.f9) (c := code_law06_NormalWrites) (args := [a0, a1]) (rs := rs_law06_NormalWrites) (N := 96) TryM.mixed (by kernel_rfl) Try.func9 (by kernel_rfl) (by kernel_rfl) (by kernel_rfl) (of_decide_eq_true (by kernel_rfl)) (by kernel_rfl) ?_
  exact (law06_NormalWrites_p1_ok (retQ pg rs_law06_NormalWrites R) (envOf [a0, a1]) w R (fun _ _ h => h) h)
-- PIECES law06_NormalWrites/0 law06_NormalWrites_p1

/- lighterman/lightermanlaw06.NormalOf -/
def ann_law06_NormalOf : FA := ⟨F_law06_NormalOf, fun i => match Nat.beq i 25 with | true => .leaf ([], []) [(false, []), (false, []), (false, []), (false, []), (false, []), (false, []), (false, []), (false, []), (false, []), (false, []), (false, []), (false, [])] | false => .leaf ([], []) []⟩
def rs_law06_NormalOf : List ResultVar := [.tmp 4]
noncomputable def code_law06_NormalOf : Code := bodyOf Try.f10
def law06_NormalOf_p1 (R : K1)  (w : World) : Prop :=
  R (.bool true) w
theorem law06_NormalOf_p1_ok (R : K1) (hr : HR rs_law06_NormalOf R Q) (h : law06_NormalOf_p1 R w) : den pg ann_law06_NormalOf (dropS 1 (dropS 4 (dropS 1 (dropS 7 code_law06_NormalOf)))) Q g w :=
  den_exQ (kn := no) (l := []) (by kernel_rfl) h noE hr trivial

def law06_NormalOf_p2 (kn : K3) (k2 : K0) (R : K1) (often_0 c_11 i_13 : Value) (w : World) : Prop :=
  Stp pg (sFAddr 24 c_11 1) w fun t105 w =>
  Stp pg (sLoad 22 t105) w fun t106 w =>
  Stp pg (sBi .len #[22] 3 [t106]) w fun t107 w =>
  Stp pg (sBin .lss 3 (.tmp 104) (.tmp 107) i_13 t107) w fun t108 w =>
  Cnd t108
    (Stp pg (sFAddr 24 c_11 1) (dr w) fun t111 w_ => w_ = (dr w) ∧
    Stp pg (sLoad 22 t111) (dr w) fun t112 w_ => w_ = (dr w) ∧
    (dr w) = (dr w) ∧
    Stp pg (sIAddr 22 t112 i_13) (dr w) fun t114 w_ => w_ = (dr w) ∧
    Stp pg (sLoad 3 t114) (dr w) fun t115 w_ => w_ = (dr w) ∧
    Stp pg (sBin .neq 3 (.tmp 115) (.const (.int .i64 0)) t115 (.int .i64 0)) (dr w) fun t116 w_ => w_ = (dr w) ∧
    (dr w) = (dr w) ∧
    (dr w) = (dr w) ∧
    Stp pg (sIAddr 89 often_0 i_13) (dr w) fun t119 w_ => w_ = (dr w) ∧
    Stp pg (sLoad 90 t119) (dr w) fun t120 w_ => w_ = (dr w) ∧
    Stp pg (sBin .gtr 90 (.tmp 120) (.const (.int .u32 0)) t120 (.int .u32 0)) (dr w) fun t121 w_ => w_ = (dr w) ∧
    Stp pg (sBin .neq 4 (.tmp 116) (.tmp 121) t116 t121) (dr w) fun t122 w_ => w_ = (dr w) ∧
    Cnd t122
      (R (.bool false) (dr w))
      (Stp pg (sBin .add 3 (.tmp 109) (.const (.int .i64 1)) i_13 (.int .i64 1)) (dr w) fun t110 w =>
      kn often_0 c_11 t110 w))
    (k2 w)
theorem law06_NormalOf_p2_ok (kn : K3) (k2 : K0) (R : K1) (hn : ∀ g w, kn (g 0) (g 11) (g 13) w → Q .normal g w) (h2 : ∀ g w, k2 w → Q (.exit 2) g w) (hr : HR rs_law06_NormalOf R Q) (h : law06_NormalOf_p2 kn k2 R (g 0) (g 11) (g 13) w) : den pg ann_law06_NormalOf (bI (bI (dropS 1 (takeS 1 (dropS 4 (dropS 1 (dropS 7 code_law06_NormalOf))))))) Q g w :=
  den_exQ (l := [(2, fun g w => k2 w)]) (by kernel_rfl) h hn hr ⟨h2, trivial⟩

def law06_NormalOf_p3 (k2 : K0) (R : K1) (often_0 c_11 i_13 : Value) (w : World) : Prop :=
  LoopD (fun (X : Value → K0) (t : Value) (w : World) => law06_NormalOf_p2 (fun _ _ i_13 w => X i_13 w) k2 R often_0 c_11 t w) i_13 w
theorem law06_NormalOf_p3_ok (k2 : K0) (R : K1) (h2 : ∀ g w, k2 w → Q (.exit 2) g w) (hr : HR rs_law06_NormalOf R Q) (h : law06_NormalOf_p3 k2 R (g 0) (g 11) (g 13) w) : den pg ann_law06_NormalOf (bI (dropS 1 (takeS 1 (dropS 4 (dropS 1 (dropS 7 code_law06_NormalOf)))))) Q g w := by
  refine den_loops (T := Value) (fun g : Env => g 13) (fun X t w => law06_NormalOf_p2 (fun _ _ i_13 w => X i_13 w) k2 R (g 0) (g 11) t w) _ (by kernel_rfl) h (fun X g1 w1 ha h1 => ?_)
  rw [← agree_at (s := 0) ha (by kernel_rfl)] at h1
  rw [← agree_at (s := 11) ha (by kernel_rfl)] at h1
  exact (law06_NormalOf_p2_ok (thenE (fun g2 w2 => X ((fun g : Env => g 13) g2) w2) Q) g1 w1 (fun _ _ i_13 w => X i_13 w) k2 R (fun _ _ h => h) h2 hr h1)

def law06_NormalOf_p4 (kn : K0) (R : K1) (often_0 c_11 i_13 : Value) (w : World) : Prop :=
  law06_NormalOf_p3 kn R often_0 c_11 i_13 w
theorem law06_NormalOf_p4_ok (kn : K0) (R : K1) (hn : ∀ g w, kn w → Q .normal g w) (hr : HR rs_law06_NormalOf R Q) (h : law06_NormalOf_p4 kn R (g 0) (g 11) (g 13) w) : den pg ann_law06_NormalOf (dropS 1 (takeS 1 (dropS 4 (dropS 1 (dropS 7 code_law06_NormalOf))))) Q g w :=
  den_blk 2 _ g w (by kernel_rfl) (law06_NormalOf_p3_ok (blk 2 Q) g w kn R hn hr h)

def law06_NormalOf_p5 (kn : K3) (often_0 c_11 : Value) (w : World) : Prop :=
  kn often_0 c_11 (.int .i64 0) w
theorem law06_NormalOf_p5_ok (kn : K3) (hn : ∀ g w, kn (g 0) (g 11) (g 13) w → Q .normal g w) (h : law06_NormalOf_p5 kn (g 0) (g 11) w) : den pg ann_law06_NormalOf (takeS 1 (takeS 1 (dropS 4 (dropS 1 (dropS 7 code_law06_NormalOf))))) Q g w :=
  den_exQ (kr := no) (l := []) (by kernel_rfl) h hn noE trivial

def law06_NormalOf_p6 (kn : K0) (R : K1) (often_0 c_11 : Value) (w : World) : Prop :=
  law06_NormalOf_p5 (fun often_0 c_11 i_13 w => law06_NormalOf_p4 kn R often_0 c_11 i_13 w) often_0 c_11 w
theorem law06_NormalOf_p6_ok (kn : K0) (R : K1) (hn : ∀ g w, kn w → Q .normal g w) (hr : HR rs_law06_NormalOf R Q) (h : law06_NormalOf_p6 kn R (g 0) (g 11) w) : den pg ann_law06_NormalOf (takeS 1 (dropS 4 (dropS 1 (dropS 7 code_law06_NormalOf)))) Q g w :=
  den_seqs 1 _ g w (by kernel_rfl) (law06_NormalOf_p5_ok (thenE (fun g w => den pg ann_law06_NormalOf (dropS 1 (takeS 1 (dropS 4 (dropS 1 (dropS 7 code_law06_NormalOf))))) Q g w) Q) g w (fun often_0 c_11 i_13 w => law06_NormalOf_p4 kn R often_0 c_11 i_13 w) (fun g w h => thenE_n (K := fun g w => den pg ann_law06_NormalOf (dropS 1 (takeS 1 (dropS 4 (dropS 1 (dropS 7 code_law06_NormalOf))))) Q g w) (law06_NormalOf_p4_ok Q g w kn R hn hr h)) h)

def law06_NormalOf_p7 (R : K1) (often_0 c_11 : Value) (w : World) : Prop :=
  law06_NormalOf_p6 (fun  w => law06_NormalOf_p1 R w) R often_0 c_11 w
theorem law06_NormalOf_p7_ok (R : K1) (hr : HR rs_law06_NormalOf R Q) (h : law06_NormalOf_p7 R (g 0) (g 11) w) : den pg ann_law06_NormalOf (dropS 4 (dropS 1 (dropS 7 code_law06_NormalOf))) Q g w :=
  den_seqs 1 _ g w (by kernel_rfl) (law06_NormalOf_p6_ok (thenE (fun g w => den pg ann_law06_NormalOf (dropS 1 (dropS 4 (dropS 1 (dropS 7 code_law06_NormalOf)))) Q g w) Q) g w (fun  w => law06_NormalOf_p1 R w) R (fun g w h => thenE_n (K := fun g w => den pg ann_law06_NormalOf (dropS 1 (dropS 4 (dropS 1 (dropS 7 code_law06_NormalOf)))) Q g w) (law06_NormalOf_p1_ok Q g w R hr h)) hr h)

def law06_NormalOf_p8 (kn : K2) (R : K1) (often_0 log_1 sum_6 t7 last_8 : Value) (w : World) : Prop :=
  Stp pg (sBin .geq 3 (.tmp 41) (.const (.int .i64 5)) log_1 (.int .i64 5)) w fun t42 w =>
  Gd (isB t42 true) (fun K => K log_1 w) w fun t44 w =>
  Gd (isB t42 true) (fun K => Stp pg (sBin .leq 3 (.tmp 44) (.const (.int .i64 15)) t44 (.int .i64 15)) w K) w fun t45 w =>
  Stp pg (sPick t42 t45 (.bool false)) w fun t46 w =>
  Gd (isB t46 true) (fun K => K often_0 w) w fun t48 w =>
  Gd (isB t46 true) (fun K => Stp pg (sBi .len #[89] 3 [t48]) w K) w fun t49 w =>
  Gd (isB t46 true) (fun K => Stp pg (sBin .leq 3 (.tmp 49) (.const (.int .i64 256)) t49 (.int .i64 256)) w K) w fun t50 w =>
  Stp pg (sPick t46 t50 (.bool false)) w fun t51 w =>
  Gd (isB t51 true) (fun K => K t7 w) w fun t53 w =>
  Gd (isB t51 true) (fun K => Stp pg (sBin .geq 3 (.tmp 53) (.const (.int .i64 2)) t53 (.int .i64 2)) w K) w fun t54 w =>
  Stp pg (sPick t51 t54 (.bool false)) w fun t55 w =>
  Gd (isB t55 true) (fun K => K t7 w) w fun t57 w =>
  Gd (isB t55 true) (fun K => K log_1 w) w fun t58 w =>
  Gd (isB t55 true) (fun K => Does pg F_ref06_Power #[t58] w K) w fun t59 w =>
  Gd (isB t55 true) (fun K => Stp pg (sBin .leq 3 (.tmp 57) (.tmp 59) t57 t59) w K) w fun t60 w =>
  Stp pg (sPick t55 t60 (.bool false)) w fun t61 w =>
  Gd (isB t61 true) (fun K => K sum_6 w) w fun t63 w =>
  Gd (isB t61 true) (fun K => Stp pg (sBin .leq 45 (.tmp 63) (.const (.int .u64 2147483647)) t63 (.int .u64 2147483647)) w K) w fun t64 w =>
  Stp pg (sPick t61 t64 (.bool false)) w fun t65 w =>
  Does pg F_normal_Of #[often_0, log_1] w fun t69 w =>
  Stp pg (sExtr t69 0) w fun t70 w =>
  Stp pg (sExtr t69 1) w fun t71 w =>
  Stp pg (sAlloc 24) w fun c_11 w =>
  Stp pg (sStore 24 c_11 t70) w fun _u w =>
  Stp pg (sUn .not t65) w fun t73 w =>
  Cnd t73
    (Stp pg (sBin .eql 29 (.tmp 74) (.const (.int .i64 1)) t71 (.int .i64 1)) w fun t75 w =>
    Gd (isB t75 true) (fun K => Stp pg (sFAddr 24 c_11 1) w K) w fun t77 w =>
    Gd (isB t75 true) (fun K => Stp pg (sLoad 22 t77) w K) w fun t78 w =>
    Gd (isB t75 true) (fun K => Stp pg (sBi .len #[22] 3 [t78]) w K) w fun t79 w =>
    Gd (isB t75 true) (fun K => Stp pg (sBin .eql 3 (.tmp 79) (.const (.int .i64 0)) t79 (.int .i64 0)) w K) w fun t80 w =>
    Stp pg (sPick t75 t80 (.bool false)) w fun t81 w =>
    R t81 w)
    (Stp pg (sBin .neq 29 (.tmp 82) (.const (.int .i64 0)) t71 (.int .i64 0)) w fun t83 w =>
    Gd (isB t83 false) (fun K => Stp pg (sFAddr 24 c_11 0) w K) w fun t85 w =>
    Gd (isB t83 false) (fun K => Stp pg (sLoad 3 t85) w K) w fun t86 w =>
    Gd (isB t83 false) (fun K => K log_1 w) w fun t87 w =>
    Gd (isB t83 false) (fun K => Stp pg (sBin .neq 3 (.tmp 86) (.tmp 87) t86 t87) w K) w fun t88 w =>
    Stp pg (sPick t83 (.bool true) t88) w fun t89 w =>
    Gd (isB t89 false) (fun K => Stp pg (sFAddr 24 c_11 1) w K) w fun t91 w =>
    Gd (isB t89 false) (fun K => Stp pg (sLoad 22 t91) w K) w fun t92 w =>
    Gd (isB t89 false) (fun K => Stp pg (sBi .len #[22] 3 [t92]) w K) w fun t93 w =>
    Gd (isB t89 false) (fun K => K last_8 w) w fun t94 w =>
    Gd (isB t89 false) (fun K => Stp pg (sBin .add 3 (.tmp 94) (.const (.int .i64 1)) t94 (.int .i64 1)) w K) w fun t95 w =>
    Gd (isB t89 false) (fun K => Stp pg (sBin .neq 3 (.tmp 93) (.tmp 95) t93 t95) w K) w fun t96 w =>
    Stp pg (sPick t89 (.bool true) t96) w fun t97 w =>
    Gd (isB t97 false) (fun K => Stp pg (sLoad 24 c_11) w K) w fun t99 w =>
    Gd (isB t97 false) (fun K => Does pg F_law06_modelOf #[t99] w K) w fun t100 w =>
    Gd (isB t97 false) (fun K => Does pg F_ref06_May #[t100] w K) w fun t101 w =>
    Gd (isB t97 false) (fun K => Stp pg (sUn .not t101) w K) w fun t102 w =>
    Stp pg (sPick t97 (.bool true) t102) w fun t103 w =>
    Cnd t103
      (R (.bool false) w)
      (kn often_0 c_11 w))
theorem law06_NormalOf_p8_ok (kn : K2) (R : K1) (hn : ∀ g w, kn (g 0) (g 11) w → Q .normal g w) (hr : HR rs_law06_NormalOf R Q) (h : law06_NormalOf_p8 kn R (g 0) (g 1) (g 6) (g 7) (g 8) w) : den pg ann_law06_NormalOf (takeS 4 (dropS 1 (dropS 7 code_law06_NormalOf))) Q g w :=
  den_exQ (l := []) (by kernel_rfl) h hn hr trivial

def law06_NormalOf_p9 (R : K1) (often_0 log_1 sum_6 t7 last_8 : Value) (w : World) : Prop :=
  law06_NormalOf_p8 (fun often_0 c_11 w => law06_NormalOf_p7 R often_0 c_11 w) R often_0 log_1 sum_6 t7 last_8 w
theorem law06_NormalOf_p9_ok (R : K1) (hr : HR rs_law06_NormalOf R Q) (h : law06_NormalOf_p9 R (g 0) (g 1) (g 6) (g 7) (g 8) w) : den pg ann_law06_NormalOf (dropS 1 (dropS 7 code_law06_NormalOf)) Q g w :=
  den_seqs 4 _ g w (by kernel_rfl) (law06_NormalOf_p8_ok (thenE (fun g w => den pg ann_law06_NormalOf (dropS 4 (dropS 1 (dropS 7 code_law06_NormalOf))) Q g w) Q) g w (fun often_0 c_11 w => law06_NormalOf_p7 R often_0 c_11 w) R (fun g w h => thenE_n (K := fun g w => den pg ann_law06_NormalOf (dropS 4 (dropS 1 (dropS 7 code_law06_NormalOf))) Q g w) (law06_NormalOf_p7_ok Q g w R hr h)) hr h)

def law06_NormalOf_p10 (kn : K6) (often_0 log_1 sum_6 t7 last_8 i_9 : Value) (w : World) : Prop :=
  Stp pg (sBin .add 3 (.tmp 24) (.const (.int .i64 1)) i_9 (.int .i64 1)) w fun t25 w =>
  kn often_0 log_1 sum_6 t7 last_8 t25 w
theorem law06_NormalOf_p10_ok (kn : K6) (hn : ∀ g w, kn (g 0) (g 1) (g 6) (g 7) (g 8) (g 9) w → Q .normal g w) (h : law06_NormalOf_p10 kn (g 0) (g 1) (g 6) (g 7) (g 8) (g 9) w) : den pg ann_law06_NormalOf (dropS 2 (bI (bI (dropS 1 (takeS 1 (dropS 7 code_law06_NormalOf)))))) Q g w :=
  den_exQ (kr := no) (l := []) (by kernel_rfl) h hn noE trivial

def law06_NormalOf_p11 (kn : K6) (k0 : K5) (often_0 log_1 sum_6 t7 last_8 i_9 : Value) (w : World) : Prop :=
  Stp pg (sBi .len #[89] 3 [often_0]) w fun t22 w =>
  Stp pg (sBin .lss 3 (.tmp 20) (.tmp 22) i_9 t22) w fun t23 w =>
  Cnd t23
    (Stp pg (sIAddr 89 often_0 i_9) w fun t29 w =>
    Stp pg (sLoad 90 t29) w fun t30 w =>
    Stp pg (sCvt 90 45 t30) w fun t31 w =>
    Stp pg (sBin .add 45 (.tmp 26) (.tmp 31) sum_6 t31) w fun t32 w =>
    Stp pg (sIAddr 89 often_0 i_9) w fun t35 w =>
    Stp pg (sLoad 90 t35) w fun t36 w =>
    Stp pg (sBin .gtr 90 (.tmp 36) (.const (.int .u32 0)) t36 (.int .u32 0)) w fun t37 w =>
    Cnd t37
      (Stp pg (sBin .add 3 (.tmp 38) (.const (.int .i64 1)) t7 (.int .i64 1)) w fun t39 w =>
      kn often_0 log_1 t32 t39 i_9 i_9 w)
      (kn often_0 log_1 t32 t7 last_8 i_9 w))
    (k0 often_0 log_1 sum_6 t7 last_8 w)
theorem law06_NormalOf_p11_ok (kn : K6) (k0 : K5) (hn : ∀ g w, kn (g 0) (g 1) (g 6) (g 7) (g 8) (g 9) w → Q .normal g w) (h0 : ∀ g w, k0 (g 0) (g 1) (g 6) (g 7) (g 8) w → Q (.exit 0) g w) (h : law06_NormalOf_p11 kn k0 (g 0) (g 1) (g 6) (g 7) (g 8) (g 9) w) : den pg ann_law06_NormalOf (takeS 2 (bI (bI (dropS 1 (takeS 1 (dropS 7 code_law06_NormalOf)))))) Q g w :=
  den_exQ (kr := no) (l := [(0, fun g w => k0 (g 0) (g 1) (g 6) (g 7) (g 8) w)]) (by kernel_rfl) h hn noE ⟨h0, trivial⟩

def law06_NormalOf_p12 (kn : K6) (k0 : K5) (often_0 log_1 sum_6 t7 last_8 i_9 : Value) (w : World) : Prop :=
  law06_NormalOf_p11 (fun often_0 log_1 sum_6 t7 last_8 i_9 w => law06_NormalOf_p10 kn often_0 log_1 sum_6 t7 last_8 i_9 w) k0 often_0 log_1 sum_6 t7 last_8 i_9 w
theorem law06_NormalOf_p12_ok (kn : K6) (k0 : K5) (hn : ∀ g w, kn (g 0) (g 1) (g 6) (g 7) (g 8) (g 9) w → Q .normal g w) (h0 : ∀ g w, k0 (g 0) (g 1) (g 6) (g 7) (g 8) w → Q (.exit 0) g w) (h : law06_NormalOf_p12 kn k0 (g 0) (g 1) (g 6) (g 7) (g 8) (g 9) w) : den pg ann_law06_NormalOf (bI (bI (dropS 1 (takeS 1 (dropS 7 code_law06_NormalOf))))) Q g w :=
  den_seqs 2 _ g w (by kernel_rfl) (law06_NormalOf_p11_ok (thenE (fun g w => den pg ann_law06_NormalOf (dropS 2 (bI (bI (dropS 1 (takeS 1 (dropS 7 code_law06_NormalOf)))))) Q g w) Q) g w (fun often_0 log_1 sum_6 t7 last_8 i_9 w => law06_NormalOf_p10 kn often_0 log_1 sum_6 t7 last_8 i_9 w) k0 (fun g w h => thenE_n (K := fun g w => den pg ann_law06_NormalOf (dropS 2 (bI (bI (dropS 1 (takeS 1 (dropS 7 code_law06_NormalOf)))))) Q g w) (law06_NormalOf_p10_ok Q g w kn hn h)) h0 h)

def law06_NormalOf_p13 (k0 : K5) (often_0 log_1 sum_6 t7 last_8 i_9 : Value) (w : World) : Prop :=
  LoopD (fun (X : (Value × Value × Value × Value) → K0) (t : Value × Value × Value × Value) (w : World) => law06_NormalOf_p12 (fun _ _ sum_6 t7 last_8 i_9 w => X (sum_6, t7, last_8, i_9) w) k0 often_0 log_1 t.1 t.2.1 t.2.2.1 t.2.2.2 w) (sum_6, t7, last_8, i_9) w
theorem law06_NormalOf_p13_ok (k0 : K5) (h0 : ∀ g w, k0 (g 0) (g 1) (g 6) (g 7) (g 8) w → Q (.exit 0) g w) (h : law06_NormalOf_p13 k0 (g 0) (g 1) (g 6) (g 7) (g 8) (g 9) w) : den pg ann_law06_NormalOf (bI (dropS 1 (takeS 1 (dropS 7 code_law06_NormalOf)))) Q g w := by
  refine den_loops (T := Value × Value × Value × Value) (fun g : Env => (g 6, g 7, g 8, g 9)) (fun X t w => law06_NormalOf_p12 (fun _ _ sum_6 t7 last_8 i_9 w => X (sum_6, t7, last_8, i_9) w) k0 (g 0) (g 1) t.1 t.2.1 t.2.2.1 t.2.2.2 w) _ (by kernel_rfl) h (fun X g1 w1 ha h1 => ?_)
  rw [← agree_at (s := 0) ha (by kernel_rfl)] at h1
  rw [← agree_at (s := 1) ha (by kernel_rfl)] at h1
  exact (law06_NormalOf_p12_ok (thenE (fun g2 w2 => X ((fun g : Env => (g 6, g 7, g 8, g 9)) g2) w2) Q) g1 w1 (fun _ _ sum_6 t7 last_8 i_9 w => X (sum_6, t7, last_8, i_9) w) k0 (fun _ _ h => h) h0 h1)

def law06_NormalOf_p14 (kn : K5) (often_0 log_1 sum_6 t7 last_8 i_9 : Value) (w : World) : Prop :=
  law06_NormalOf_p13 kn often_0 log_1 sum_6 t7 last_8 i_9 w
theorem law06_NormalOf_p14_ok (kn : K5) (hn : ∀ g w, kn (g 0) (g 1) (g 6) (g 7) (g 8) w → Q .normal g w) (h : law06_NormalOf_p14 kn (g 0) (g 1) (g 6) (g 7) (g 8) (g 9) w) : den pg ann_law06_NormalOf (dropS 1 (takeS 1 (dropS 7 code_law06_NormalOf))) Q g w :=
  den_blk 0 _ g w (by kernel_rfl) (law06_NormalOf_p13_ok (blk 0 Q) g w kn hn h)

def law06_NormalOf_p15 (kn : K6) (often_0 log_1 sum_6 t7 last_8 : Value) (w : World) : Prop :=
  kn often_0 log_1 sum_6 t7 last_8 (.int .i64 0) w
theorem law06_NormalOf_p15_ok (kn : K6) (hn : ∀ g w, kn (g 0) (g 1) (g 6) (g 7) (g 8) (g 9) w → Q .normal g w) (h : law06_NormalOf_p15 kn (g 0) (g 1) (g 6) (g 7) (g 8) w) : den pg ann_law06_NormalOf (takeS 1 (takeS 1 (dropS 7 code_law06_NormalOf))) Q g w :=
  den_exQ (kr := no) (l := []) (by kernel_rfl) h hn noE trivial

def law06_NormalOf_p16 (kn : K5) (often_0 log_1 sum_6 t7 last_8 : Value) (w : World) : Prop :=
  law06_NormalOf_p15 (fun often_0 log_1 sum_6 t7 last_8 i_9 w => law06_NormalOf_p14 kn often_0 log_1 sum_6 t7 last_8 i_9 w) often_0 log_1 sum_6 t7 last_8 w
theorem law06_NormalOf_p16_ok (kn : K5) (hn : ∀ g w, kn (g 0) (g 1) (g 6) (g 7) (g 8) w → Q .normal g w) (h : law06_NormalOf_p16 kn (g 0) (g 1) (g 6) (g 7) (g 8) w) : den pg ann_law06_NormalOf (takeS 1 (dropS 7 code_law06_NormalOf)) Q g w :=
  den_seqs 1 _ g w (by kernel_rfl) (law06_NormalOf_p15_ok (thenE (fun g w => den pg ann_law06_NormalOf (dropS 1 (takeS 1 (dropS 7 code_law06_NormalOf))) Q g w) Q) g w (fun often_0 log_1 sum_6 t7 last_8 i_9 w => law06_NormalOf_p14 kn often_0 log_1 sum_6 t7 last_8 i_9 w) (fun g w h => thenE_n (K := fun g w => den pg ann_law06_NormalOf (dropS 1 (takeS 1 (dropS 7 code_law06_NormalOf))) Q g w) (law06_NormalOf_p14_ok Q g w kn hn h)) h)

def law06_NormalOf_p17 (R : K1) (often_0 log_1 sum_6 t7 last_8 : Value) (w : World) : Prop :=
  law06_NormalOf_p16 (fun often_0 log_1 sum_6 t7 last_8 w => law06_NormalOf_p9 R often_0 log_1 sum_6 t7 last_8 w) often_0 log_1 sum_6 t7 last_8 w
theorem law06_NormalOf_p17_ok (R : K1) (hr : HR rs_law06_NormalOf R Q) (h : law06_NormalOf_p17 R (g 0) (g 1) (g 6) (g 7) (g 8) w) : den pg ann_law06_NormalOf (dropS 7 code_law06_NormalOf) Q g w :=
  den_seqs 1 _ g w (by kernel_rfl) (law06_NormalOf_p16_ok (thenE (fun g w => den pg ann_law06_NormalOf (dropS 1 (dropS 7 code_law06_NormalOf)) Q g w) Q) g w (fun often_0 log_1 sum_6 t7 last_8 w => law06_NormalOf_p9 R often_0 log_1 sum_6 t7 last_8 w) (fun g w h => thenE_n (K := fun g w => den pg ann_law06_NormalOf (dropS 1 (dropS 7 code_law06_NormalOf)) Q g w) (law06_NormalOf_p9_ok Q g w R hr h)) h)

def law06_NormalOf_p18 (kn : K5) (R : K1) (often_0 log_1 : Value) (w : World) : Prop :=
  Does pg F_law06_awake #[] w fun t14 w =>
  Stp pg (sUn .not t14) w fun t16 w =>
  Cnd t16
    (R (.bool false) w)
    (Stp pg (sBi .len #[89] 3 [often_0]) w fun t18 w =>
    Stp pg (sBin .gtr 3 (.tmp 18) (.const (.int .i64 300)) t18 (.int .i64 300)) w fun t19 w =>
    Cnd t19
      (R (.bool true) w)
      (kn often_0 log_1 (.int .u64 0) (.int .i64 0) (.int .i64 0) w))
theorem law06_NormalOf_p18_ok (kn : K5) (R : K1) (hn : ∀ g w, kn (g 0) (g 1) (g 6) (g 7) (g 8) w → Q .normal g w) (hr : HR rs_law06_NormalOf R Q) (h : law06_NormalOf_p18 kn R (g 0) (g 1) w) : den pg ann_law06_NormalOf (takeS 7 code_law06_NormalOf) Q g w :=
  den_exQ (l := []) (by kernel_rfl) h hn hr trivial

def law06_NormalOf_p19 (R : K1) (often_0 log_1 : Value) (w : World) : Prop :=
  law06_NormalOf_p18 (fun often_0 log_1 sum_6 t7 last_8 w => law06_NormalOf_p17 R often_0 log_1 sum_6 t7 last_8 w) R often_0 log_1 w
theorem law06_NormalOf_p19_ok (R : K1) (hr : HR rs_law06_NormalOf R Q) (h : law06_NormalOf_p19 R (g 0) (g 1) w) : den pg ann_law06_NormalOf code_law06_NormalOf Q g w :=
  den_seqs 7 _ g w (by kernel_rfl) (law06_NormalOf_p18_ok (thenE (fun g w => den pg ann_law06_NormalOf (dropS 7 code_law06_NormalOf) Q g w) Q) g w (fun often_0 log_1 sum_6 t7 last_8 w => law06_NormalOf_p17 R often_0 log_1 sum_6 t7 last_8 w) R (fun g w h => thenE_n (K := fun g w => den pg ann_law06_NormalOf (dropS 7 code_law06_NormalOf) Q g w) (law06_NormalOf_p17_ok Q g w R hr h)) hr h)

def law06_NormalOf (a0 a1 : Value) (w : World) (R : K1) : Prop :=
  law06_NormalOf_p19 R a0 a1 w
theorem law06_NormalOf_does {a0 a1 : Value} {w : World} {R : K1} (h : law06_NormalOf a0 a1 w R) : Does pg F_law06_NormalOf #[a0, a1] w R := by
  refine does_of_den (ann := ann_law06_NormalOf) (fn := Try.f10) (c := code_law06_NormalOf) (args := [a0, a1]) (rs := rs_law06_NormalOf) (N := 123) TryM.mixed (by kernel_rfl) Try.func10 (by kernel_rfl) (by kernel_rfl) (by kernel_rfl) (of_decide_eq_true (by kernel_rfl)) (by kernel_rfl) ?_
  exact (law06_NormalOf_p19_ok (retQ pg rs_law06_NormalOf R) (envOf [a0, a1]) w R (fun _ _ h => h) h)
-- PIECES law06_NormalOf/0 law06_NormalOf_p1 law06_NormalOf_p3 law06_NormalOf_p4 law06_NormalOf_p5 law06_NormalOf_p6 law06_NormalOf_p7 law06_NormalOf_p8 law06_NormalOf_p9 law06_NormalOf_p13 law06_NormalOf_p14 law06_NormalOf_p15 law06_NormalOf_p16 law06_NormalOf_p17 law06_NormalOf_p18 law06_NormalOf_p19
-- PIECES law06_NormalOf/1 law06_NormalOf_p2
-- PIECES law06_NormalOf/2 law06_NormalOf_p10 law06_NormalOf_p11 law06_NormalOf_p12

/- lighterman/lightermanlaw06.NormalCut -/
def ann_law06_NormalCut : FA := ⟨F_law06_NormalCut, fun i => match Nat.beq i 14 with | true => .leaf ([14, 16, 17], [(14, 15)]) [(false, []), (false, []), (false, []), (false, []), (false, []), (false, []), (false, []), (false, []), (false, []), (false, []), (false, []), (false, []), (false, []), (false, []), (true, []), (false, [0]), (true, []), (true, []), (false, []), (false, [])] | false => .leaf ([], []) []⟩
def rs_law06_NormalCut : List ResultVar := [.tmp 8]
noncomputable def code_law06_NormalCut : Code := bodyOf Try.f11
def law06_NormalCut_p1 (R : K1) (often_0 log_1 at_2 more_3 : Value) (w : World) : Prop :=
  Does pg F_law06_awake #[] w fun t20 w =>
  Stp pg (sUn .not t20) w fun t22 w =>
  Cnd t22
    (R (.bool false) w)
    (Stp pg (sBi .len #[89] 3 [often_0]) w fun t24 w =>
    Stp pg (sBin .gtr 3 (.tmp 24) (.const (.int .i64 300)) t24 (.int .i64 300)) w fun t25 w =>
    Gd (isB t25 false) (fun K => K more_3 w) w fun t27 w =>
    Gd (isB t25 false) (fun K => Stp pg (sBi .len #[52] 3 [t27]) w K) w fun t28 w =>
    Gd (isB t25 false) (fun K => Stp pg (sBin .gtr 3 (.tmp 28) (.const (.int .i64 50)) t28 (.int .i64 50)) w K) w fun t29 w =>
    Stp pg (sPick t25 (.bool true) t29) w fun t30 w =>
    Cnd t30
      (R (.bool true) w)
      (Does pg F_normal_Of #[often_0, log_1] w fun t34 w =>
      Stp pg (sExtr t34 0) w fun t35 w =>
      Stp pg (sExtr t34 1) w fun t36 w =>
      Stp pg (sAlloc 24) w fun c_10 w =>
      Stp pg (sStore 24 c_10 t35) w fun _u w =>
      Stp pg (sBin .neq 29 (.tmp 37) (.const (.int .i64 0)) t36 (.int .i64 0)) w fun t38 w =>
      Cnd t38
        (Stp pg (sFAddr 24 c_10 1) w fun t39 w =>
        Stp pg (sLoad 22 t39) w fun t40 w =>
        Stp pg (sBi .len #[22] 3 [t40]) w fun t41 w =>
        Stp pg (sBin .eql 3 (.tmp 41) (.const (.int .i64 0)) t41 (.int .i64 0)) w fun t42 w =>
        R t42 w)
        (Stp pg (sLoad 24 c_10) w fun t44 w =>
        Does pg F_normal_Write #[t44] w fun t45 w =>
        Stp pg (sExtr t45 0) w fun t46 w =>
        Stp pg (sExtr t45 1) w fun t47 w =>
        Stp pg (sBin .neq 29 (.tmp 48) (.const (.int .i64 0)) t47 (.int .i64 0)) w fun t49 w =>
        Cnd t49
          (R (.bool false) w)
          (Stp pg (sCvt 44 3 at_2) w fun t53 w =>
          Stp pg (sBi .len #[52] 3 [t46]) w fun t55 w =>
          Stp pg (sBin .rem 3 (.tmp 53) (.tmp 55) t53 t55) w fun t56 w =>
          Stp pg (sSlice 52 t46 none (some t56) none) w fun t57 w =>
          Does pg F_normal_Read #[t57, (.int .i64 15), (.int .i64 256)] w fun t58 w =>
          Stp pg (sExtr t58 0) w fun t59 w =>
          Stp pg (sExtr t58 1) w fun t60 w =>
          Stp pg (sExtr t58 2) w fun t61 w =>
          Stp pg (sAlloc 24) w fun t14 w =>
          Stp pg (sStore 24 t14 t59) w fun _u w =>
          Stp pg (sBi .append #[52, 52] 52 [t46, more_3]) w fun t65 w =>
          Does pg F_normal_Read #[t65, (.int .i64 15), (.int .i64 256)] w fun t66 w =>
          Stp pg (sExtr t66 0) w fun t67 w =>
          Stp pg (sExtr t66 1) w fun t68 w =>
          Stp pg (sExtr t66 2) w fun t69 w =>
          Stp pg (sAlloc 24) w fun d_17 w =>
          Stp pg (sStore 24 d_17 t67) w fun _u w =>
          (dr w) = (dr w) ∧
          Stp pg (sBin .eql 29 (.tmp 70) (.const (.int .i64 10)) t61 (.int .i64 10)) (dr w) fun t71 w_ => w_ = (dr w) ∧
          (dr w) = (dr w) ∧
          Gd (isB t71 true) (fun K => K t69 (dr w)) (dr w) fun t73 w_ => w_ = (dr w) ∧
          Gd (isB t71 true) (fun K => Stp pg (sBin .eql 29 (.tmp 73) (.const (.int .i64 0)) t73 (.int .i64 0)) (dr w) K) (dr w) fun t74 w_ => w_ = (dr w) ∧
          Stp pg (sPick t71 t74 (.bool false)) (dr w) fun t75 w_ => w_ = (dr w) ∧
          (dr w) = (dr w) ∧
          Gd (isB t75 true) (fun K => K t68 (dr w)) (dr w) fun t77 w_ => w_ = (dr w) ∧
          Gd (isB t75 true) (fun K => K t46 (dr w)) (dr w) fun t78 w_ => w_ = (dr w) ∧
          Gd (isB t75 true) (fun K => Stp pg (sBi .len #[52] 3 [t78]) (dr w) K) (dr w) fun t79 w_ => w_ = (dr w) ∧
          Gd (isB t75 true) (fun K => Stp pg (sBin .eql 3 (.tmp 77) (.tmp 79) t77 t79) (dr w) K) (dr w) fun t80 w_ => w_ = (dr w) ∧
          Stp pg (sPick t75 t80 (.bool false)) (dr w) fun t81 w_ => w_ = (dr w) ∧
          (dr w) = (dr w) ∧
          Gd (isB t81 true) (fun K => Stp pg (sLoad 24 d_17) (dr w) K) (dr w) fun t83 w_ => w_ = (dr w) ∧
          Gd (isB t81 true) (fun K => Does pg F_law06_modelOf #[t83] (dr w) K) (dr w) fun t84 w14_14 =>
          Gd (isB t81 true) (fun K => Stp pg (sLoad 24 c_10) w14_14 K) w14_14 fun t85 w_ => w_ = w14_14 ∧
          (Gs (isB t81 true) (Same pg (sLoad 24 c_10) t85 (dr w)) ∧ True) ∧
          Gd (isB t81 true) (fun K => Does pg F_law06_modelOf #[t85] w14_14 K) w14_14 fun t86 w14_16 =>
          Gd (isB t81 true) (fun K => Does pg F_ref06_Same #[t84, t86] w14_16 K) w14_16 fun t87 w14_17 =>
          Stp pg (sPick t81 t87 (.bool false)) w14_17 fun t88 w_ => w_ = w14_17 ∧
          w14_17 = w14_17 ∧
          R t88 w14_17))))
theorem law06_NormalCut_p1_ok (R : K1) (hr : HR rs_law06_NormalCut R Q) (h : law06_NormalCut_p1 R (g 0) (g 1) (g 2) (g 3) w) : den pg ann_law06_NormalCut code_law06_NormalCut Q g w :=
  den_exQ (kn := no) (l := []) (by kernel_rfl) h noE hr trivial

def law06_NormalCut (a0 a1 a2 a3 : Value) (w : World) (R : K1) : Prop :=
  law06_NormalCut_p1 R a0 a1 a2 a3 w
theorem law06_NormalCut_does {a0 a1 a2 a3 : Value} {w : World} {R : K1} (h : law06_NormalCut a0 a1 a2 a3 w R) : Does pg F_law06_NormalCut #[a0, a1, a2, a3] w R := by
  refine does_of_den (ann := ann_law06_NormalCut) (fn := Try.f11) (c := code_law06_NormalCut) (args := [a0, a1, a2, a3]) (rs := rs_law06_NormalCut) (N := 89) TryM.mixed (by kernel_rfl) Try.func11 (by kernel_rfl) (by kernel_rfl) (by kernel_rfl) (of_decide_eq_true (by kernel_rfl)) (by kernel_rfl) ?_
  exact (law06_NormalCut_p1_ok (retQ pg rs_law06_NormalCut R) (envOf [a0, a1, a2, a3]) w R (fun _ _ h => h) h)
-- PIECES law06_NormalCut/0 law06_NormalCut_p1

/- lighterman/lightermanlaw06.NormalLast -/
def ann_law06_NormalLast : FA := ⟨F_law06_NormalLast, fun i => match Nat.beq i 20 with | true => .leaf ([18, 20, 21, 27], [(18, 19)]) [(false, []), (false, []), (false, []), (false, []), (false, []), (false, []), (false, []), (false, []), (false, []), (false, []), (false, []), (false, []), (false, []), (false, []), (false, []), (false, []), (false, []), (false, []), (true, []), (false, [0]), (true, []), (true, []), (false, []), (false, []), (false, []), (false, []), (false, []), (true, []), (false, []), (false, []), (false, [])] | false => .leaf ([], []) []⟩
def rs_law06_NormalLast : List ResultVar := [.tmp 6]
noncomputable def code_law06_NormalLast : Code := bodyOf Try.f12
def law06_NormalLast_p1 (R : K1) (k_8 c_9 : Value) (w : World) : Prop :=
  Stp pg (sLoad 24 c_9) w fun t61 w =>
  Does pg F_normal_Check #[t61, (.int .i64 15)] w fun t62 w =>
  Stp pg (sLoad 24 c_9) w fun t64 w =>
  Does pg F_normal_Write #[t64] w fun t65 w =>
  Stp pg (sExtr t65 0) w fun t66 w =>
  Stp pg (sExtr t65 1) w fun t67 w =>
  Does pg F_normal_Read #[t66, (.int .i64 15), (.int .i64 256)] w fun t70 w =>
  Stp pg (sExtr t70 0) w fun t71 w =>
  Stp pg (sExtr t70 1) w fun t72 w =>
  Stp pg (sExtr t70 2) w fun t73 w =>
  Stp pg (sAlloc 24) w fun d_15 w =>
  Stp pg (sStore 24 d_15 t71) w fun _u w =>
  (dr w) = (dr w) ∧
  Stp pg (sBin .eql 29 (.tmp 74) (.const (.int .i64 0)) t62 (.int .i64 0)) (dr w) fun t75 w_ => w_ = (dr w) ∧
  (dr w) = (dr w) ∧
  Gd (isB t75 true) (fun K => K t67 (dr w)) (dr w) fun t77 w_ => w_ = (dr w) ∧
  Gd (isB t75 true) (fun K => Stp pg (sBin .eql 29 (.tmp 77) (.const (.int .i64 0)) t77 (.int .i64 0)) (dr w) K) (dr w) fun t78 w_ => w_ = (dr w) ∧
  Stp pg (sPick t75 t78 (.bool false)) (dr w) fun t79 w_ => w_ = (dr w) ∧
  (dr w) = (dr w) ∧
  Gd (isB t79 true) (fun K => K t73 (dr w)) (dr w) fun t81 w_ => w_ = (dr w) ∧
  Gd (isB t79 true) (fun K => Stp pg (sBin .eql 29 (.tmp 81) (.const (.int .i64 0)) t81 (.int .i64 0)) (dr w) K) (dr w) fun t82 w_ => w_ = (dr w) ∧
  Stp pg (sPick t79 t82 (.bool false)) (dr w) fun t83 w_ => w_ = (dr w) ∧
  (dr w) = (dr w) ∧
  Gd (isB t83 true) (fun K => K t72 (dr w)) (dr w) fun t85 w_ => w_ = (dr w) ∧
  Gd (isB t83 true) (fun K => K t66 (dr w)) (dr w) fun t86 w_ => w_ = (dr w) ∧
  Gd (isB t83 true) (fun K => Stp pg (sBi .len #[52] 3 [t86]) (dr w) K) (dr w) fun t87 w_ => w_ = (dr w) ∧
  Gd (isB t83 true) (fun K => Stp pg (sBin .eql 3 (.tmp 85) (.tmp 87) t85 t87) (dr w) K) (dr w) fun t88 w_ => w_ = (dr w) ∧
  Stp pg (sPick t83 t88 (.bool false)) (dr w) fun t89 w_ => w_ = (dr w) ∧
  (dr w) = (dr w) ∧
  Gd (isB t89 true) (fun K => Stp pg (sLoad 24 c_9) (dr w) K) (dr w) fun t91 w_ => w_ = (dr w) ∧
  Gd (isB t89 true) (fun K => Does pg F_law06_modelOf #[t91] (dr w) K) (dr w) fun t92 w20_18 =>
  Gd (isB t89 true) (fun K => Stp pg (sLoad 24 d_15) w20_18 K) w20_18 fun t93 w_ => w_ = w20_18 ∧
  (Gs (isB t89 true) (Same pg (sLoad 24 d_15) t93 (dr w)) ∧ True) ∧
  Gd (isB t89 true) (fun K => Does pg F_law06_modelOf #[t93] w20_18 K) w20_18 fun t94 w20_20 =>
  Gd (isB t89 true) (fun K => Does pg F_ref06_Same #[t92, t94] w20_20 K) w20_20 fun t95 w20_21 =>
  Stp pg (sPick t89 t95 (.bool false)) w20_21 fun t96 w_ => w_ = w20_21 ∧
  w20_21 = w20_21 ∧
  Gd (isB t96 true) (fun K => Stp pg (sLoad 24 c_9) w20_21 K) w20_21 fun t98 w_ => w_ = w20_21 ∧
  Gd (isB t96 true) (fun K => K k_8 w20_21) w20_21 fun t99 w_ => w_ = w20_21 ∧
  Gd (isB t96 true) (fun K => Stp pg (sBin .sub 3 (.tmp 99) (.const (.int .i64 1)) t99 (.int .i64 1)) w20_21 K) w20_21 fun t100 w_ => w_ = w20_21 ∧
  Gd (isB t96 true) (fun K => Does pg F_normal_Check #[t98, t100] w20_21 K) w20_21 fun t101 w20_27 =>
  Gd (isB t96 true) (fun K => Stp pg (sBin .eql 29 (.tmp 101) (.const (.int .i64 12)) t101 (.int .i64 12)) w20_27 K) w20_27 fun t102 w_ => w_ = w20_27 ∧
  Stp pg (sPick t96 t102 (.bool false)) w20_27 fun t103 w_ => w_ = w20_27 ∧
  w20_27 = w20_27 ∧
  R t103 w20_27
theorem law06_NormalLast_p1_ok (R : K1) (hr : HR rs_law06_NormalLast R Q) (h : law06_NormalLast_p1 R (g 8) (g 9) w) : den pg ann_law06_NormalLast (dropS 1 (dropS 1 (dropS 5 code_law06_NormalLast))) Q g w :=
  den_exQ (kn := no) (l := []) (by kernel_rfl) h noE hr trivial

def law06_NormalLast_p2 (kn : K3) (k2 : K2) (k_8 c_9 i_11 : Value) (w : World) : Prop :=
  Stp pg (sCvt 3 50 k_8) w fun t43 w =>
  Stp pg (sBin .shl 3 (.const (.int .i64 1)) (.tmp 43) (.int .i64 1) t43) w fun t44 w =>
  Stp pg (sBin .lss 3 (.tmp 41) (.tmp 44) i_11 t44) w fun t45 w =>
  Cnd t45
    (Stp pg (sFAddr 24 c_9 1) w fun t48 w =>
    Stp pg (sLoad 22 t48) w fun t49 w =>
    Stp pg (sBuildSlice 22 1 [(0, (.int .i64 (-1)))]) w fun t50 w =>
    Stp pg (sBi .append #[22, 22] 22 [t49, t50]) w fun t51 w =>
    Stp pg (sFAddr 24 c_9 1) w fun t52 w =>
    Stp pg (sStore 22 t52 t51) w fun _u w =>
    Stp pg (sBin .add 3 (.tmp 46) (.const (.int .i64 1)) i_11 (.int .i64 1)) w fun t47 w =>
    kn k_8 c_9 t47 w)
    (k2 k_8 c_9 w)
theorem law06_NormalLast_p2_ok (kn : K3) (k2 : K2) (hn : ∀ g w, kn (g 8) (g 9) (g 11) w → Q .normal g w) (h2 : ∀ g w, k2 (g 8) (g 9) w → Q (.exit 2) g w) (h : law06_NormalLast_p2 kn k2 (g 8) (g 9) (g 11) w) : den pg ann_law06_NormalLast (bI (bI (dropS 2 (cT (dropS 1 (takeS 1 (dropS 1 (dropS 5 code_law06_NormalLast)))))))) Q g w :=
  den_exQ (kr := no) (l := [(2, fun g w => k2 (g 8) (g 9) w)]) (by kernel_rfl) h hn noE ⟨h2, trivial⟩

def law06_NormalLast_p3 (k2 : K2) (k_8 c_9 i_11 : Value) (w : World) : Prop :=
  LoopD (fun (X : Value → K0) (t : Value) (w : World) => law06_NormalLast_p2 (fun _ _ i_11 w => X i_11 w) k2 k_8 c_9 t w) i_11 w
theorem law06_NormalLast_p3_ok (k2 : K2) (h2 : ∀ g w, k2 (g 8) (g 9) w → Q (.exit 2) g w) (h : law06_NormalLast_p3 k2 (g 8) (g 9) (g 11) w) : den pg ann_law06_NormalLast (bI (dropS 2 (cT (dropS 1 (takeS 1 (dropS 1 (dropS 5 code_law06_NormalLast))))))) Q g w := by
  refine den_loops (T := Value) (fun g : Env => g 11) (fun X t w => law06_NormalLast_p2 (fun _ _ i_11 w => X i_11 w) k2 (g 8) (g 9) t w) _ (by kernel_rfl) h (fun X g1 w1 ha h1 => ?_)
  rw [← agree_at (s := 8) ha (by kernel_rfl)] at h1
  rw [← agree_at (s := 9) ha (by kernel_rfl)] at h1
  exact (law06_NormalLast_p2_ok (thenE (fun g2 w2 => X ((fun g : Env => g 11) g2) w2) Q) g1 w1 (fun _ _ i_11 w => X i_11 w) k2 (fun _ _ h => h) h2 h1)

def law06_NormalLast_p4 (kn : K2) (k_8 c_9 i_11 : Value) (w : World) : Prop :=
  law06_NormalLast_p3 kn k_8 c_9 i_11 w
theorem law06_NormalLast_p4_ok (kn : K2) (hn : ∀ g w, kn (g 8) (g 9) w → Q .normal g w) (h : law06_NormalLast_p4 kn (g 8) (g 9) (g 11) w) : den pg ann_law06_NormalLast (dropS 2 (cT (dropS 1 (takeS 1 (dropS 1 (dropS 5 code_law06_NormalLast)))))) Q g w :=
  den_blk 2 _ g w (by kernel_rfl) (law06_NormalLast_p3_ok (blk 2 Q) g w kn hn h)

def law06_NormalLast_p5 (kn : K3) (k_8 c_9 : Value) (w : World) : Prop :=
  Stp pg (sFAddr 24 c_9 1) w fun t40 w =>
  Stp pg (sStore 22 t40 (.slice none 0 0)) w fun _u w =>
  kn k_8 c_9 (.int .i64 0) w
theorem law06_NormalLast_p5_ok (kn : K3) (hn : ∀ g w, kn (g 8) (g 9) (g 11) w → Q .normal g w) (h : law06_NormalLast_p5 kn (g 8) (g 9) w) : den pg ann_law06_NormalLast (takeS 2 (cT (dropS 1 (takeS 1 (dropS 1 (dropS 5 code_law06_NormalLast)))))) Q g w :=
  den_exQ (kr := no) (l := []) (by kernel_rfl) h hn noE trivial

def law06_NormalLast_p6 (kn : K2) (k_8 c_9 : Value) (w : World) : Prop :=
  law06_NormalLast_p5 (fun k_8 c_9 i_11 w => law06_NormalLast_p4 kn k_8 c_9 i_11 w) k_8 c_9 w
theorem law06_NormalLast_p6_ok (kn : K2) (hn : ∀ g w, kn (g 8) (g 9) w → Q .normal g w) (h : law06_NormalLast_p6 kn (g 8) (g 9) w) : den pg ann_law06_NormalLast (cT (dropS 1 (takeS 1 (dropS 1 (dropS 5 code_law06_NormalLast))))) Q g w :=
  den_seqs 2 _ g w (by kernel_rfl) (law06_NormalLast_p5_ok (thenE (fun g w => den pg ann_law06_NormalLast (dropS 2 (cT (dropS 1 (takeS 1 (dropS 1 (dropS 5 code_law06_NormalLast)))))) Q g w) Q) g w (fun k_8 c_9 i_11 w => law06_NormalLast_p4 kn k_8 c_9 i_11 w) (fun g w h => thenE_n (K := fun g w => den pg ann_law06_NormalLast (dropS 2 (cT (dropS 1 (takeS 1 (dropS 1 (dropS 5 code_law06_NormalLast)))))) Q g w) (law06_NormalLast_p4_ok Q g w kn hn h)) h)

def law06_NormalLast_p7 (kn : K2) (k_8 c_9 : Value) (w : World) : Prop :=
  Stp pg (sFAddr 24 c_9 1) w fun t53 w =>
  Stp pg (sLoad 22 t53) w fun t54 w =>
  Stp pg (sCvt 3 50 k_8) w fun t56 w =>
  Stp pg (sBin .shl 3 (.const (.int .i64 1)) (.tmp 56) (.int .i64 1) t56) w fun t57 w =>
  Stp pg (sBuildSlice 22 1 [(0, t57)]) w fun t58 w =>
  Stp pg (sBi .append #[22, 22] 22 [t54, t58]) w fun t59 w =>
  Stp pg (sFAddr 24 c_9 1) w fun t60 w =>
  Stp pg (sStore 22 t60 t59) w fun _u w =>
  kn k_8 c_9 w
theorem law06_NormalLast_p7_ok (kn : K2) (hn : ∀ g w, kn (g 8) (g 9) w → Q .normal g w) (h : law06_NormalLast_p7 kn (g 8) (g 9) w) : den pg ann_law06_NormalLast (cE (dropS 1 (takeS 1 (dropS 1 (dropS 5 code_law06_NormalLast))))) Q g w :=
  den_exQ (kr := no) (l := []) (by kernel_rfl) h hn noE trivial

def law06_NormalLast_p8 (kn : K2) (k_8 c_9 t39 : Value) (w : World) : Prop :=
  Cnd t39 (law06_NormalLast_p6 kn k_8 c_9 w) (law06_NormalLast_p7 kn k_8 c_9 w)
theorem law06_NormalLast_p8_ok (kn : K2) (hn : ∀ g w, kn (g 8) (g 9) w → Q .normal g w) (h : law06_NormalLast_p8 kn (g 8) (g 9) (g 39) w) : den pg ann_law06_NormalLast (dropS 1 (takeS 1 (dropS 1 (dropS 5 code_law06_NormalLast)))) Q g w := by
  refine den_cnd (.tmp 39) _ g w (by kernel_rfl) ?_
  exact Cnd_mono (fun h => (law06_NormalLast_p6_ok Q g w kn hn h)) (fun h => (law06_NormalLast_p7_ok Q g w kn hn h)) h

def law06_NormalLast_p9 (kn : K3) (rare_2 k_8 c_9 : Value) (w : World) : Prop :=
  kn k_8 c_9 rare_2 w
theorem law06_NormalLast_p9_ok (kn : K3) (hn : ∀ g w, kn (g 8) (g 9) (g 39) w → Q .normal g w) (h : law06_NormalLast_p9 kn (g 2) (g 8) (g 9) w) : den pg ann_law06_NormalLast (takeS 1 (takeS 1 (dropS 1 (dropS 5 code_law06_NormalLast)))) Q g w :=
  den_exQ (kr := no) (l := []) (by kernel_rfl) h hn noE trivial

def law06_NormalLast_p10 (kn : K2) (rare_2 k_8 c_9 : Value) (w : World) : Prop :=
  law06_NormalLast_p9 (fun k_8 c_9 t39 w => law06_NormalLast_p8 kn k_8 c_9 t39 w) rare_2 k_8 c_9 w
theorem law06_NormalLast_p10_ok (kn : K2) (hn : ∀ g w, kn (g 8) (g 9) w → Q .normal g w) (h : law06_NormalLast_p10 kn (g 2) (g 8) (g 9) w) : den pg ann_law06_NormalLast (takeS 1 (dropS 1 (dropS 5 code_law06_NormalLast))) Q g w :=
  den_seqs 1 _ g w (by kernel_rfl) (law06_NormalLast_p9_ok (thenE (fun g w => den pg ann_law06_NormalLast (dropS 1 (takeS 1 (dropS 1 (dropS 5 code_law06_NormalLast)))) Q g w) Q) g w (fun k_8 c_9 t39 w => law06_NormalLast_p8 kn k_8 c_9 t39 w) (fun g w h => thenE_n (K := fun g w => den pg ann_law06_NormalLast (dropS 1 (takeS 1 (dropS 1 (dropS 5 code_law06_NormalLast)))) Q g w) (law06_NormalLast_p8_ok Q g w kn hn h)) h)

def law06_NormalLast_p11 (R : K1) (rare_2 k_8 c_9 : Value) (w : World) : Prop :=
  law06_NormalLast_p10 (fun k_8 c_9 w => law06_NormalLast_p1 R k_8 c_9 w) rare_2 k_8 c_9 w
theorem law06_NormalLast_p11_ok (R : K1) (hr : HR rs_law06_NormalLast R Q) (h : law06_NormalLast_p11 R (g 2) (g 8) (g 9) w) : den pg ann_law06_NormalLast (dropS 1 (dropS 5 code_law06_NormalLast)) Q g w :=
  den_seqs 1 _ g w (by kernel_rfl) (law06_NormalLast_p10_ok (thenE (fun g w => den pg ann_law06_NormalLast (dropS 1 (dropS 1 (dropS 5 code_law06_NormalLast))) Q g w) Q) g w (fun k_8 c_9 w => law06_NormalLast_p1 R k_8 c_9 w) (fun g w h => thenE_n (K := fun g w => den pg ann_law06_NormalLast (dropS 1 (dropS 1 (dropS 5 code_law06_NormalLast))) Q g w) (law06_NormalLast_p1_ok Q g w R hr h)) h)

def law06_NormalLast_p12 (kn : K5) (k0 : K3) (n_1 rare_2 k_8 c_9 i_10 : Value) (w : World) : Prop :=
  Stp pg (sBin .rem 5 (.tmp 28) (.const (.int .u8 20)) n_1 (.int .u8 20)) w fun t29 w =>
  Stp pg (sCvt 5 3 t29) w fun t30 w =>
  Stp pg (sBin .lss 3 (.tmp 27) (.tmp 30) i_10 t30) w fun t31 w =>
  Cnd t31
    (Stp pg (sFAddr 24 c_9 1) w fun t34 w =>
    Stp pg (sLoad 22 t34) w fun t35 w =>
    Stp pg (sBuildSlice 22 1 [(0, (.int .i64 0))]) w fun t36 w =>
    Stp pg (sBi .append #[22, 22] 22 [t35, t36]) w fun t37 w =>
    Stp pg (sFAddr 24 c_9 1) w fun t38 w =>
    Stp pg (sStore 22 t38 t37) w fun _u w =>
    Stp pg (sBin .add 3 (.tmp 32) (.const (.int .i64 1)) i_10 (.int .i64 1)) w fun t33 w =>
    kn n_1 rare_2 k_8 c_9 t33 w)
    (k0 rare_2 k_8 c_9 w)
theorem law06_NormalLast_p12_ok (kn : K5) (k0 : K3) (hn : ∀ g w, kn (g 1) (g 2) (g 8) (g 9) (g 10) w → Q .normal g w) (h0 : ∀ g w, k0 (g 2) (g 8) (g 9) w → Q (.exit 0) g w) (h : law06_NormalLast_p12 kn k0 (g 1) (g 2) (g 8) (g 9) (g 10) w) : den pg ann_law06_NormalLast (bI (bI (dropS 1 (takeS 1 (dropS 5 code_law06_NormalLast))))) Q g w :=
  den_exQ (kr := no) (l := [(0, fun g w => k0 (g 2) (g 8) (g 9) w)]) (by kernel_rfl) h hn noE ⟨h0, trivial⟩

def law06_NormalLast_p13 (k0 : K3) (n_1 rare_2 k_8 c_9 i_10 : Value) (w : World) : Prop :=
  LoopD (fun (X : Value → K0) (t : Value) (w : World) => law06_NormalLast_p12 (fun _ _ _ _ i_10 w => X i_10 w) k0 n_1 rare_2 k_8 c_9 t w) i_10 w
theorem law06_NormalLast_p13_ok (k0 : K3) (h0 : ∀ g w, k0 (g 2) (g 8) (g 9) w → Q (.exit 0) g w) (h : law06_NormalLast_p13 k0 (g 1) (g 2) (g 8) (g 9) (g 10) w) : den pg ann_law06_NormalLast (bI (dropS 1 (takeS 1 (dropS 5 code_law06_NormalLast)))) Q g w := by
  refine den_loops (T := Value) (fun g : Env => g 10) (fun X t w => law06_NormalLast_p12 (fun _ _ _ _ i_10 w => X i_10 w) k0 (g 1) (g 2) (g 8) (g 9) t w) _ (by kernel_rfl) h (fun X g1 w1 ha h1 => ?_)
  rw [← agree_at (s := 1) ha (by kernel_rfl)] at h1
  rw [← agree_at (s := 2) ha (by kernel_rfl)] at h1
  rw [← agree_at (s := 8) ha (by kernel_rfl)] at h1
  rw [← agree_at (s := 9) ha (by kernel_rfl)] at h1
  exact (law06_NormalLast_p12_ok (thenE (fun g2 w2 => X ((fun g : Env => g 10) g2) w2) Q) g1 w1 (fun _ _ _ _ i_10 w => X i_10 w) k0 (fun _ _ h => h) h0 h1)

def law06_NormalLast_p14 (kn : K3) (n_1 rare_2 k_8 c_9 i_10 : Value) (w : World) : Prop :=
  law06_NormalLast_p13 kn n_1 rare_2 k_8 c_9 i_10 w
theorem law06_NormalLast_p14_ok (kn : K3) (hn : ∀ g w, kn (g 2) (g 8) (g 9) w → Q .normal g w) (h : law06_NormalLast_p14 kn (g 1) (g 2) (g 8) (g 9) (g 10) w) : den pg ann_law06_NormalLast (dropS 1 (takeS 1 (dropS 5 code_law06_NormalLast))) Q g w :=
  den_blk 0 _ g w (by kernel_rfl) (law06_NormalLast_p13_ok (blk 0 Q) g w kn hn h)

def law06_NormalLast_p15 (kn : K5) (n_1 rare_2 k_8 c_9 : Value) (w : World) : Prop :=
  kn n_1 rare_2 k_8 c_9 (.int .i64 0) w
theorem law06_NormalLast_p15_ok (kn : K5) (hn : ∀ g w, kn (g 1) (g 2) (g 8) (g 9) (g 10) w → Q .normal g w) (h : law06_NormalLast_p15 kn (g 1) (g 2) (g 8) (g 9) w) : den pg ann_law06_NormalLast (takeS 1 (takeS 1 (dropS 5 code_law06_NormalLast))) Q g w :=
  den_exQ (kr := no) (l := []) (by kernel_rfl) h hn noE trivial

def law06_NormalLast_p16 (kn : K3) (n_1 rare_2 k_8 c_9 : Value) (w : World) : Prop :=
  law06_NormalLast_p15 (fun n_1 rare_2 k_8 c_9 i_10 w => law06_NormalLast_p14 kn n_1 rare_2 k_8 c_9 i_10 w) n_1 rare_2 k_8 c_9 w
theorem law06_NormalLast_p16_ok (kn : K3) (hn : ∀ g w, kn (g 2) (g 8) (g 9) w → Q .normal g w) (h : law06_NormalLast_p16 kn (g 1) (g 2) (g 8) (g 9) w) : den pg ann_law06_NormalLast (takeS 1 (dropS 5 code_law06_NormalLast)) Q g w :=
  den_seqs 1 _ g w (by kernel_rfl) (law06_NormalLast_p15_ok (thenE (fun g w => den pg ann_law06_NormalLast (dropS 1 (takeS 1 (dropS 5 code_law06_NormalLast))) Q g w) Q) g w (fun n_1 rare_2 k_8 c_9 i_10 w => law06_NormalLast_p14 kn n_1 rare_2 k_8 c_9 i_10 w) (fun g w h => thenE_n (K := fun g w => den pg ann_law06_NormalLast (dropS 1 (takeS 1 (dropS 5 code_law06_NormalLast))) Q g w) (law06_NormalLast_p14_ok Q g w kn hn h)) h)

def law06_NormalLast_p17 (R : K1) (n_1 rare_2 k_8 c_9 : Value) (w : World) : Prop :=
  law06_NormalLast_p16 (fun rare_2 k_8 c_9 w => law06_NormalLast_p11 R rare_2 k_8 c_9 w) n_1 rare_2 k_8 c_9 w
theorem law06_NormalLast_p17_ok (R : K1) (hr : HR rs_law06_NormalLast R Q) (h : law06_NormalLast_p17 R (g 1) (g 2) (g 8) (g 9) w) : den pg ann_law06_NormalLast (dropS 5 code_law06_NormalLast) Q g w :=
  den_seqs 1 _ g w (by kernel_rfl) (law06_NormalLast_p16_ok (thenE (fun g w => den pg ann_law06_NormalLast (dropS 1 (dropS 5 code_law06_NormalLast)) Q g w) Q) g w (fun rare_2 k_8 c_9 w => law06_NormalLast_p11 R rare_2 k_8 c_9 w) (fun g w h => thenE_n (K := fun g w => den pg ann_law06_NormalLast (dropS 1 (dropS 5 code_law06_NormalLast)) Q g w) (law06_NormalLast_p11_ok Q g w R hr h)) h)

def law06_NormalLast_p18 (kn : K4) (R : K1) (log_0 n_1 rare_2 : Value) (w : World) : Prop :=
  Does pg F_law06_awake #[] w fun t18 w =>
  Stp pg (sUn .not t18) w fun t20 w =>
  Cnd t20
    (R (.bool false) w)
    (Stp pg (sBin .rem 5 (.tmp 21) (.const (.int .u8 4)) log_0 (.int .u8 4)) w fun t22 w =>
    Stp pg (sCvt 5 3 t22) w fun t23 w =>
    Stp pg (sBin .add 3 (.const (.int .i64 5)) (.tmp 23) (.int .i64 5) t23) w fun t24 w =>
    Stp pg (sBuild 24 [(0, t24)]) w fun t26 w =>
    Stp pg (sAlloc 24) w fun c_9 w =>
    Stp pg (sStore 24 c_9 t26) w fun _u w =>
    kn n_1 rare_2 t24 c_9 w)
theorem law06_NormalLast_p18_ok (kn : K4) (R : K1) (hn : ∀ g w, kn (g 1) (g 2) (g 8) (g 9) w → Q .normal g w) (hr : HR rs_law06_NormalLast R Q) (h : law06_NormalLast_p18 kn R (g 0) (g 1) (g 2) w) : den pg ann_law06_NormalLast (takeS 5 code_law06_NormalLast) Q g w :=
  den_exQ (l := []) (by kernel_rfl) h hn hr trivial

def law06_NormalLast_p19 (R : K1) (log_0 n_1 rare_2 : Value) (w : World) : Prop :=
  law06_NormalLast_p18 (fun n_1 rare_2 k_8 c_9 w => law06_NormalLast_p17 R n_1 rare_2 k_8 c_9 w) R log_0 n_1 rare_2 w
theorem law06_NormalLast_p19_ok (R : K1) (hr : HR rs_law06_NormalLast R Q) (h : law06_NormalLast_p19 R (g 0) (g 1) (g 2) w) : den pg ann_law06_NormalLast code_law06_NormalLast Q g w :=
  den_seqs 5 _ g w (by kernel_rfl) (law06_NormalLast_p18_ok (thenE (fun g w => den pg ann_law06_NormalLast (dropS 5 code_law06_NormalLast) Q g w) Q) g w (fun n_1 rare_2 k_8 c_9 w => law06_NormalLast_p17 R n_1 rare_2 k_8 c_9 w) R (fun g w h => thenE_n (K := fun g w => den pg ann_law06_NormalLast (dropS 5 code_law06_NormalLast) Q g w) (law06_NormalLast_p17_ok Q g w R hr h)) hr h)

def law06_NormalLast (a0 a1 a2 : Value) (w : World) (R : K1) : Prop :=
  law06_NormalLast_p19 R a0 a1 a2 w
theorem law06_NormalLast_does {a0 a1 a2 : Value} {w : World} {R : K1} (h : law06_NormalLast a0 a1 a2 w R) : Does pg F_law06_NormalLast #[a0, a1, a2] w R := by
  refine does_of_den (ann := ann_law06_NormalLast) (fn := Try.f12) (c := code_law06_NormalLast) (args := [a0, a1, a2]) (rs := rs_law06_NormalLast) (N := 104) TryM.mixed (by kernel_rfl) Try.func12 (by kernel_rfl) (by kernel_rfl) (by kernel_rfl) (of_decide_eq_true (by kernel_rfl)) (by kernel_rfl) ?_
  exact (law06_NormalLast_p19_ok (retQ pg rs_law06_NormalLast R) (envOf [a0, a1, a2]) w R (fun _ _ h => h) h)
-- PIECES law06_NormalLast/0 law06_NormalLast_p1 law06_NormalLast_p3 law06_NormalLast_p4 law06_NormalLast_p5 law06_NormalLast_p6 law06_NormalLast_p7 law06_NormalLast_p8 law06_NormalLast_p9 law06_NormalLast_p10 law06_NormalLast_p11 law06_NormalLast_p13 law06_NormalLast_p14 law06_NormalLast_p15 law06_NormalLast_p16 law06_NormalLast_p17 law06_NormalLast_p18 law06_NormalLast_p19
-- PIECES law06_NormalLast/1 law06_NormalLast_p2
-- PIECES law06_NormalLast/2 law06_NormalLast_p12

/- lighterman/lightermanlaw06.awake -/
def ann_law06_awake : FA := ⟨F_law06_awake, fun i => .leaf ([], []) []⟩
def rs_law06_awake : List ResultVar := [.tmp 0]
noncomputable def code_law06_awake : Code := bodyOf Try.f33
def law06_awake_p1 (R : K1)  (w : World) : Prop :=
  Stp pg (sBuildSlice 22 2 [(0, (.int .i64 16)), (1, (.int .i64 16))]) w fun t9 w =>
  Stp pg (sBuild 24 [(0, (.int .i64 5)), (1, t9)]) w fun t10 w =>
  Does pg F_normal_Check #[t10, (.int .i64 9)] w fun t11 w =>
  Stp pg (sBuildSlice 22 5 [(0, (.int .i64 20)), (1, (.int .i64 0)), (2, (.int .i64 0)), (3, (.int .i64 (-1))), (4, (.int .i64 11))]) w fun t13 w =>
  Stp pg (sBuild 24 [(0, (.int .i64 5)), (1, t13)]) w fun t14 w =>
  Does pg F_normal_Write #[t14] w fun t15 w =>
  Stp pg (sExtr t15 0) w fun t16 w =>
  Stp pg (sExtr t15 1) w fun t17 w =>
  Does pg F_normal_Read #[t16, (.int .i64 9), (.int .i64 9)] w fun t20 w =>
  Stp pg (sExtr t20 0) w fun t21 w =>
  Stp pg (sExtr t20 1) w fun t22 w =>
  Stp pg (sExtr t20 2) w fun t23 w =>
  Stp pg (sAlloc 24) w fun c_4 w =>
  Stp pg (sStore 24 c_4 t21) w fun _u w =>
  Stp pg (sBuildSlice 89 3 [(0, (.int .u32 3)), (1, (.int .u32 0)), (2, (.int .u32 1))]) w fun t25 w =>
  Does pg F_normal_Of #[t25, (.int .i64 5)] w fun t26 w =>
  Stp pg (sExtr t26 0) w fun t27 w =>
  Stp pg (sExtr t26 1) w fun t28 w =>
  Stp pg (sAlloc 24) w fun o_7 w =>
  Stp pg (sStore 24 o_7 t27) w fun _u w =>
  Stp pg (sBin .eql 29 (.tmp 29) (.const (.int .i64 0)) t11 (.int .i64 0)) w fun t30 w =>
  Gd (isB t30 true) (fun K => K t17 w) w fun t32 w =>
  Gd (isB t30 true) (fun K => Stp pg (sBin .eql 29 (.tmp 32) (.const (.int .i64 0)) t32 (.int .i64 0)) w K) w fun t33 w =>
  Stp pg (sPick t30 t33 (.bool false)) w fun t34 w =>
  Gd (isB t34 true) (fun K => K t16 w) w fun t36 w =>
  Gd (isB t34 true) (fun K => Stp pg (sBi .len #[52] 3 [t36]) w K) w fun t37 w =>
  Gd (isB t34 true) (fun K => Stp pg (sBin .gtr 3 (.tmp 37) (.const (.int .i64 0)) t37 (.int .i64 0)) w K) w fun t38 w =>
  Stp pg (sPick t34 t38 (.bool false)) w fun t39 w =>
  Gd (isB t39 true) (fun K => K t23 w) w fun t41 w =>
  Gd (isB t39 true) (fun K => Stp pg (sBin .eql 29 (.tmp 41) (.const (.int .i64 0)) t41 (.int .i64 0)) w K) w fun t42 w =>
  Stp pg (sPick t39 t42 (.bool false)) w fun t43 w =>
  Gd (isB t43 true) (fun K => K t22 w) w fun t45 w =>
  Gd (isB t43 true) (fun K => K t16 w) w fun t46 w =>
  Gd (isB t43 true) (fun K => Stp pg (sBi .len #[52] 3 [t46]) w K) w fun t47 w =>
  Gd (isB t43 true) (fun K => Stp pg (sBin .eql 3 (.tmp 45) (.tmp 47) t45 t47) w K) w fun t48 w =>
  Stp pg (sPick t43 t48 (.bool false)) w fun t49 w =>
  Gd (isB t49 true) (fun K => Stp pg (sFAddr 24 c_4 0) w K) w fun t51 w =>
  Gd (isB t49 true) (fun K => Stp pg (sLoad 3 t51) w K) w fun t52 w =>
  Gd (isB t49 true) (fun K => Stp pg (sBin .eql 3 (.tmp 52) (.const (.int .i64 5)) t52 (.int .i64 5)) w K) w fun t53 w =>
  Stp pg (sPick t49 t53 (.bool false)) w fun t54 w =>
  Gd (isB t54 true) (fun K => Stp pg (sFAddr 24 c_4 1) w K) w fun t56 w =>
  Gd (isB t54 true) (fun K => Stp pg (sLoad 22 t56) w K) w fun t57 w =>
  Gd (isB t54 true) (fun K => Stp pg (sBi .len #[22] 3 [t57]) w K) w fun t58 w =>
  Gd (isB t54 true) (fun K => Stp pg (sBin .eql 3 (.tmp 58) (.const (.int .i64 5)) t58 (.int .i64 5)) w K) w fun t59 w =>
  Stp pg (sPick t54 t59 (.bool false)) w fun t60 w =>
  Gd (isB t60 true) (fun K => Stp pg (sFAddr 24 c_4 1) w K) w fun t62 w =>
  Gd (isB t60 true) (fun K => Stp pg (sLoad 22 t62) w K) w fun t63 w =>
  Gd (isB t60 true) (fun K => Stp pg (sIAddr 22 t63 (.int .i64 0)) w K) w fun t64 w =>
  Gd (isB t60 true) (fun K => Stp pg (sLoad 3 t64) w K) w fun t65 w =>
  Gd (isB t60 true) (fun K => Stp pg (sBin .eql 3 (.tmp 65) (.const (.int .i64 20)) t65 (.int .i64 20)) w K) w fun t66 w =>
  Stp pg (sPick t60 t66 (.bool false)) w fun t67 w =>
  Gd (isB t67 true) (fun K => Stp pg (sFAddr 24 c_4 1) w K) w fun t69 w =>
  Gd (isB t67 true) (fun K => Stp pg (sLoad 22 t69) w K) w fun t70 w =>
  Gd (isB t67 true) (fun K => Stp pg (sIAddr 22 t70 (.int .i64 3)) w K) w fun t71 w =>
  Gd (isB t67 true) (fun K => Stp pg (sLoad 3 t71) w K) w fun t72 w =>
  Gd (isB t67 true) (fun K => Stp pg (sBin .eql 3 (.tmp 72) (.const (.int .i64 (-1))) t72 (.int .i64 (-1))) w K) w fun t73 w =>
  Stp pg (sPick t67 t73 (.bool false)) w fun t74 w =>
  Gd (isB t74 true) (fun K => K t28 w) w fun t76 w =>
  Gd (isB t74 true) (fun K => Stp pg (sBin .eql 29 (.tmp 76) (.const (.int .i64 0)) t76 (.int .i64 0)) w K) w fun t77 w =>
  Stp pg (sPick t74 t77 (.bool false)) w fun t78 w =>
  Gd (isB t78 true) (fun K => Stp pg (sFAddr 24 o_7 1) w K) w fun t80 w =>
  Gd (isB t78 true) (fun K => Stp pg (sLoad 22 t80) w K) w fun t81 w =>
  Gd (isB t78 true) (fun K => Stp pg (sBi .len #[22] 3 [t81]) w K) w fun t82 w =>
  Gd (isB t78 true) (fun K => Stp pg (sBin .eql 3 (.tmp 82) (.const (.int .i64 3)) t82 (.int .i64 3)) w K) w fun t83 w =>
  Stp pg (sPick t78 t83 (.bool false)) w fun t84 w =>
  R t84 w
theorem law06_awake_p1_ok (R : K1) (hr : HR rs_law06_awake R Q) (h : law06_awake_p1 R w) : den pg ann_law06_awake code_law06_awake Q g w :=
  den_exQ (kn := no) (l := []) (by kernel_rfl) h noE hr trivial

def law06_awake (w : World) (R : K1) : Prop :=
  law06_awake_p1 R w
theorem law06_awake_does {w : World} {R : K1} (h : law06_awake w R) : Does pg F_law06_awake #[] w R := by
  refine does_of_den (ann := ann_law06_awake) (fn := Try.f33) (c := code_law06_awake) (args := []) (rs := rs_law06_awake) (N := 85) TryM.mixed (by kernel_rfl) Try.func33 (by kernel_rfl) (by kernel_rfl) (by kernel_rfl) (of_decide_eq_true (by kernel_rfl)) (by kernel_rfl) ?_
  exact (law06_awake_p1_ok (retQ pg rs_law06_awake R) (envOf []) w R (fun _ _ h => h) h)
-- PIECES law06_awake/0 law06_awake_p1

/- lighterman/normal.Read -/
def ann_normal_Read : FA := ⟨F_normal_Read, fun i => match Nat.beq i 25 with | true => .leaf ([2, 3], [(0, 2)]) [(false, []), (false, []), (true, [1]), (true, []), (false, []), (false, [])] | false => .leaf ([], []) []⟩
def rs_normal_Read : List ResultVar := [.cell 6 24, .tmp 7, .tmp 8]
noncomputable def code_normal_Read : Code := bodyOf Try.f34
def normal_Read_p1 (R : K1) (t6 f_9 c_12 : Value) (w : World) : Prop :=
  Stp pg (sLoad 24 c_12) (dr w) fun t101 w_ => w_ = (dr w) ∧
  (dr w) = (dr w) ∧
  Does pg F_bits_Forward_Used #[f_9] (dr w) fun t103 w25_2 =>
  (Same pg (sLoad 24 c_12) t101 w25_2 ∧ True) ∧
  Stp pg (sStore 24 t6 t101) w25_2 fun _u3 w25_3 =>
  w25_3 = w25_3 ∧
  w25_3 = w25_3 ∧
  LdR pg 24 t6 w25_3 fun r0 => R (.tuple #[r0, t103, (.int .i64 0)]) w25_3
theorem normal_Read_p1_ok (R : K1) (hr : HR rs_normal_Read R Q) (h : normal_Read_p1 R (g 6) (g 9) (g 12) w) : den pg ann_normal_Read (dropS 1 (dropS 7 code_normal_Read)) Q g w :=
  den_exQ (kn := no) (l := []) (by kernel_rfl) h noE hr trivial

def normal_Read_p2 (kn : K5) (R : K1) (symbols_2 t6 f_9 c_12 left_13 : Value) (w : World) : Prop :=
  Stp pg (sFAddr 24 c_12 1) w fun t91 w =>
  Stp pg (sLoad 22 t91) w fun t92 w =>
  Stp pg (sBi .len #[22] 3 [t92]) w fun t93 w =>
  Stp pg (sBin .gtr 3 (.tmp 93) (.tmp 94) t93 symbols_2) w fun t95 w =>
  Gd (isB t95 false) (fun K => K left_13 w) w fun t97 w =>
  Gd (isB t95 false) (fun K => Stp pg (sBin .lss 3 (.tmp 97) (.const (.int .i64 0)) t97 (.int .i64 0)) w K) w fun t98 w =>
  Stp pg (sPick t95 (.bool true) t98) w fun t99 w =>
  Cnd t99
    (Stp pg (sBuild 24 []) w fun t100 w =>
    Stp pg (sStore 24 t6 t100) w fun _u w =>
    LdR pg 24 t6 w fun r0 => R (.tuple #[r0, (.int .i64 0), (.int .i64 11)]) w)
    (kn symbols_2 t6 f_9 c_12 left_13 w)
theorem normal_Read_p2_ok (kn : K5) (R : K1) (hn : ∀ g w, kn (g 2) (g 6) (g 9) (g 12) (g 13) w → Q .normal g w) (hr : HR rs_normal_Read R Q) (h : normal_Read_p2 kn R (g 2) (g 6) (g 9) (g 12) (g 13) w) : den pg ann_normal_Read (dropS 6 (bI (dropS 1 (bI (bI (takeS 1 (dropS 7 code_normal_Read))))))) Q g w :=
  den_exQ (l := []) (by kernel_rfl) h hn hr trivial

def normal_Read_p3 (kn : K5) (R : K1) (symbols_2 t6 f_9 c_12 left_13 : Value) (w : World) : Prop :=
  Does pg F_normal_value #[f_9, left_13] w fun t52 w =>
  Stp pg (sExtr t52 0) w fun t53 w =>
  Stp pg (sExtr t52 1) w fun t54 w =>
  Stp pg (sBin .neq 29 (.tmp 55) (.const (.int .i64 0)) t54 (.int .i64 0)) w fun t56 w =>
  Cnd t56
    (Stp pg (sBuild 24 []) w fun t57 w =>
    Stp pg (sStore 24 t6 t57) w fun _u w =>
    LdR pg 24 t6 w fun r0 => R (.tuple #[r0, (.int .i64 0), t54]) w)
    (Stp pg (sBin .sub 3 (.tmp 59) (.const (.int .i64 1)) t53 (.int .i64 1)) w fun t60 w =>
    Does pg F_normal_parts #[t60] w fun t63 w =>
    Stp pg (sBin .sub 3 (.tmp 61) (.tmp 63) left_13 t63) w fun t64 w =>
    Stp pg (sFAddr 24 c_12 1) w fun t65 w =>
    Stp pg (sLoad 22 t65) w fun t66 w =>
    Stp pg (sBuildSlice 22 1 [(0, t60)]) w fun t68 w =>
    Stp pg (sBi .append #[22, 22] 22 [t66, t68]) w fun t69 w =>
    Stp pg (sFAddr 24 c_12 1) w fun t70 w =>
    Stp pg (sStore 22 t70 t69) w fun _u w =>
    Stp pg (sBin .eql 3 (.tmp 71) (.const (.int .i64 0)) t60 (.int .i64 0)) w fun t72 w =>
    Cnd t72
      (Does pg F_normal_noughts #[f_9] w fun t75 w =>
      Stp pg (sExtr t75 0) w fun t76 w =>
      Stp pg (sExtr t75 1) w fun t77 w =>
      Stp pg (sBin .neq 29 (.tmp 78) (.const (.int .i64 0)) t77 (.int .i64 0)) w fun t79 w =>
      Cnd t79
        (Stp pg (sBuild 24 []) w fun t80 w =>
        Stp pg (sStore 24 t6 t80) w fun _u w =>
        LdR pg 24 t6 w fun r0 => R (.tuple #[r0, (.int .i64 0), t77]) w)
        (Stp pg (sBin .gtr 3 (.tmp 82) (.tmp 83) t76 symbols_2) w fun t84 w =>
        Cnd t84
          (Stp pg (sBuild 24 []) w fun t85 w =>
          Stp pg (sStore 24 t6 t85) w fun _u w =>
          LdR pg 24 t6 w fun r0 => R (.tuple #[r0, (.int .i64 0), (.int .i64 11)]) w)
          (Stp pg (sFAddr 24 c_12 1) w fun t86 w =>
          Stp pg (sLoad 22 t86) w fun t87 w =>
          Stp pg (sBi .append #[22, 3] 22 [t87, t76]) w fun t89 w =>
          Stp pg (sFAddr 24 c_12 1) w fun t90 w =>
          Stp pg (sStore 22 t90 t89) w fun _u w =>
          kn symbols_2 t6 f_9 c_12 t64 w)))
      (kn symbols_2 t6 f_9 c_12 t64 w))
theorem normal_Read_p3_ok (kn : K5) (R : K1) (hn : ∀ g w, kn (g 2) (g 6) (g 9) (g 12) (g 13) w → Q .normal g w) (hr : HR rs_normal_Read R Q) (h : normal_Read_p3 kn R (g 2) (g 6) (g 9) (g 12) (g 13) w) : den pg ann_normal_Read (takeS 6 (bI (dropS 1 (bI (bI (takeS 1 (dropS 7 code_normal_Read))))))) Q g w :=
  den_exQ (l := []) (by kernel_rfl) h hn hr trivial

def normal_Read_p4 (kn : K5) (R : K1) (symbols_2 t6 f_9 c_12 left_13 : Value) (w : World) : Prop :=
  normal_Read_p3 (fun symbols_2 t6 f_9 c_12 left_13 w => normal_Read_p2 kn R symbols_2 t6 f_9 c_12 left_13 w) R symbols_2 t6 f_9 c_12 left_13 w
theorem normal_Read_p4_ok (kn : K5) (R : K1) (hn : ∀ g w, kn (g 2) (g 6) (g 9) (g 12) (g 13) w → Q .normal g w) (hr : HR rs_normal_Read R Q) (h : normal_Read_p4 kn R (g 2) (g 6) (g 9) (g 12) (g 13) w) : den pg ann_normal_Read (bI (dropS 1 (bI (bI (takeS 1 (dropS 7 code_normal_Read)))))) Q g w :=
  den_seqs 6 _ g w (by kernel_rfl) (normal_Read_p3_ok (thenE (fun g w => den pg ann_normal_Read (dropS 6 (bI (dropS 1 (bI (bI (takeS 1 (dropS 7 code_normal_Read))))))) Q g w) Q) g w (fun symbols_2 t6 f_9 c_12 left_13 w => normal_Read_p2 kn R symbols_2 t6 f_9 c_12 left_13 w) R (fun g w h => thenE_n (K := fun g w => den pg ann_normal_Read (dropS 6 (bI (dropS 1 (bI (bI (takeS 1 (dropS 7 code_normal_Read))))))) Q g w) (normal_Read_p2_ok Q g w kn R hn hr h)) hr h)

def normal_Read_p5 (kn : K5) (R : K1) (symbols_2 t6 f_9 c_12 left_13 : Value) (w : World) : Prop :=
  normal_Read_p4 kn R symbols_2 t6 f_9 c_12 left_13 w
theorem normal_Read_p5_ok (kn : K5) (R : K1) (hn : ∀ g w, kn (g 2) (g 6) (g 9) (g 12) (g 13) w → Q .normal g w) (hr : HR rs_normal_Read R Q) (h : normal_Read_p5 kn R (g 2) (g 6) (g 9) (g 12) (g 13) w) : den pg ann_normal_Read (dropS 1 (bI (bI (takeS 1 (dropS 7 code_normal_Read))))) Q g w :=
  den_blk 1 _ g w (by kernel_rfl) (normal_Read_p4_ok (blk 1 Q) g w kn R hn hr h)

def normal_Read_p6 (kn : K5) (k0 : K3) (symbols_2 t6 f_9 c_12 left_13 : Value) (w : World) : Prop :=
  Stp pg (sBin .gtr 3 (.tmp 47) (.const (.int .i64 0)) left_13 (.int .i64 0)) w fun t48 w =>
  Cnd t48
    (kn symbols_2 t6 f_9 c_12 left_13 w)
    (k0 t6 f_9 c_12 w)
theorem normal_Read_p6_ok (kn : K5) (k0 : K3) (hn : ∀ g w, kn (g 2) (g 6) (g 9) (g 12) (g 13) w → Q .normal g w) (h0 : ∀ g w, k0 (g 6) (g 9) (g 12) w → Q (.exit 0) g w) (h : normal_Read_p6 kn k0 (g 2) (g 6) (g 9) (g 12) (g 13) w) : den pg ann_normal_Read (takeS 1 (bI (bI (takeS 1 (dropS 7 code_normal_Read))))) Q g w :=
  den_exQ (kr := no) (l := [(0, fun g w => k0 (g 6) (g 9) (g 12) w)]) (by kernel_rfl) h hn noE ⟨h0, trivial⟩

def normal_Read_p7 (kn : K5) (k0 : K3) (R : K1) (symbols_2 t6 f_9 c_12 left_13 : Value) (w : World) : Prop :=
  normal_Read_p6 (fun symbols_2 t6 f_9 c_12 left_13 w => normal_Read_p5 kn R symbols_2 t6 f_9 c_12 left_13 w) k0 symbols_2 t6 f_9 c_12 left_13 w
theorem normal_Read_p7_ok (kn : K5) (k0 : K3) (R : K1) (hn : ∀ g w, kn (g 2) (g 6) (g 9) (g 12) (g 13) w → Q .normal g w) (h0 : ∀ g w, k0 (g 6) (g 9) (g 12) w → Q (.exit 0) g w) (hr : HR rs_normal_Read R Q) (h : normal_Read_p7 kn k0 R (g 2) (g 6) (g 9) (g 12) (g 13) w) : den pg ann_normal_Read (bI (bI (takeS 1 (dropS 7 code_normal_Read)))) Q g w :=
  den_seqs 1 _ g w (by kernel_rfl) (normal_Read_p6_ok (thenE (fun g w => den pg ann_normal_Read (dropS 1 (bI (bI (takeS 1 (dropS 7 code_normal_Read))))) Q g w) Q) g w (fun symbols_2 t6 f_9 c_12 left_13 w => normal_Read_p5 kn R symbols_2 t6 f_9 c_12 left_13 w) k0 (fun g w h => thenE_n (K := fun g w => den pg ann_normal_Read (dropS 1 (bI (bI (takeS 1 (dropS 7 code_normal_Read))))) Q g w) (normal_Read_p5_ok Q g w kn R hn hr h)) h0 h)

def normal_Read_p8 (k0 : K3) (R : K1) (symbols_2 t6 f_9 c_12 left_13 : Value) (w : World) : Prop :=
  LoopD (fun (X : Value → K0) (t : Value) (w : World) => normal_Read_p7 (fun _ _ _ _ left_13 w => X left_13 w) k0 R symbols_2 t6 f_9 c_12 t w) left_13 w
theorem normal_Read_p8_ok (k0 : K3) (R : K1) (h0 : ∀ g w, k0 (g 6) (g 9) (g 12) w → Q (.exit 0) g w) (hr : HR rs_normal_Read R Q) (h : normal_Read_p8 k0 R (g 2) (g 6) (g 9) (g 12) (g 13) w) : den pg ann_normal_Read (bI (takeS 1 (dropS 7 code_normal_Read))) Q g w := by
  refine den_loops (T := Value) (fun g : Env => g 13) (fun X t w => normal_Read_p7 (fun _ _ _ _ left_13 w => X left_13 w) k0 R (g 2) (g 6) (g 9) (g 12) t w) _ (by kernel_rfl) h (fun X g1 w1 ha h1 => ?_)
  rw [← agree_at (s := 2) ha (by kernel_rfl)] at h1
  rw [← agree_at (s := 6) ha (by kernel_rfl)] at h1
  rw [← agree_at (s := 9) ha (by kernel_rfl)] at h1
  rw [← agree_at (s := 12) ha (by kernel_rfl)] at h1
  exact (normal_Read_p7_ok (thenE (fun g2 w2 => X ((fun g : Env => g 13) g2) w2) Q) g1 w1 (fun _ _ _ _ left_13 w => X left_13 w) k0 R (fun _ _ h => h) h0 hr h1)

def normal_Read_p9 (kn : K3) (R : K1) (symbols_2 t6 f_9 c_12 left_13 : Value) (w : World) : Prop :=
  normal_Read_p8 kn R symbols_2 t6 f_9 c_12 left_13 w
theorem normal_Read_p9_ok (kn : K3) (R : K1) (hn : ∀ g w, kn (g 6) (g 9) (g 12) w → Q .normal g w) (hr : HR rs_normal_Read R Q) (h : normal_Read_p9 kn R (g 2) (g 6) (g 9) (g 12) (g 13) w) : den pg ann_normal_Read (takeS 1 (dropS 7 code_normal_Read)) Q g w :=
  den_blk 0 _ g w (by kernel_rfl) (normal_Read_p8_ok (blk 0 Q) g w kn R hn hr h)

def normal_Read_p10 (R : K1) (symbols_2 t6 f_9 c_12 left_13 : Value) (w : World) : Prop :=
  normal_Read_p9 (fun t6 f_9 c_12 w => normal_Read_p1 R t6 f_9 c_12 w) R symbols_2 t6 f_9 c_12 left_13 w
theorem normal_Read_p10_ok (R : K1) (hr : HR rs_normal_Read R Q) (h : normal_Read_p10 R (g 2) (g 6) (g 9) (g 12) (g 13) w) : den pg ann_normal_Read (dropS 7 code_normal_Read) Q g w :=
  den_seqs 1 _ g w (by kernel_rfl) (normal_Read_p9_ok (thenE (fun g w => den pg ann_normal_Read (dropS 1 (dropS 7 code_normal_Read)) Q g w) Q) g w (fun t6 f_9 c_12 w => normal_Read_p1 R t6 f_9 c_12 w) R (fun g w h => thenE_n (K := fun g w => den pg ann_normal_Read (dropS 1 (dropS 7 code_normal_Read)) Q g w) (normal_Read_p1_ok Q g w R hr h)) hr h)

def normal_Read_p11 (kn : K5) (R : K1) (b_0 most_1 symbols_2 : Value) (w : World) : Prop :=
  Stp pg (sAlloc 24) w fun t6 w =>
  Does pg F_bits_NewForward #[b_0] w fun t20 w =>
  Does pg F_bits_Forward_Read #[t20, (.int .i64 4)] w fun t23 w =>
  Stp pg (sExtr t23 0) w fun t24 w =>
  Stp pg (sExtr t23 1) w fun t25 w =>
  Stp pg (sBin .neq 29 (.tmp 26) (.const (.int .i64 0)) t25 (.int .i64 0)) w fun t27 w =>
  Cnd t27
    (Stp pg (sBuild 24 []) w fun t28 w =>
    Stp pg (sStore 24 t6 t28) w fun _u w =>
    LdR pg 24 t6 w fun r0 => R (.tuple #[r0, (.int .i64 0), t25]) w)
    (Stp pg (sCvt 45 3 t24) w fun t31 w =>
    Stp pg (sBin .add 3 (.tmp 31) (.const (.int .i64 5)) t31 (.int .i64 5)) w fun t32 w =>
    Stp pg (sBuild 24 [(0, t32)]) w fun t33 w =>
    Stp pg (sAlloc 24) w fun c_12 w =>
    Stp pg (sStore 24 c_12 t33) w fun _u w =>
    Stp pg (sFAddr 24 c_12 0) w fun t34 w =>
    Stp pg (sLoad 3 t34) w fun t35 w =>
    Stp pg (sBin .gtr 3 (.tmp 35) (.tmp 36) t35 most_1) w fun t37 w =>
    Gd (isB t37 false) (fun K => Stp pg (sFAddr 24 c_12 0) w K) w fun t39 w =>
    Gd (isB t37 false) (fun K => Stp pg (sLoad 3 t39) w K) w fun t40 w =>
    Gd (isB t37 false) (fun K => Stp pg (sBin .gtr 3 (.tmp 40) (.const (.int .i64 15)) t40 (.int .i64 15)) w K) w fun t41 w =>
    Stp pg (sPick t37 (.bool true) t41) w fun t42 w =>
    Cnd t42
      (Stp pg (sBuild 24 []) w fun t43 w =>
      Stp pg (sStore 24 t6 t43) w fun _u w =>
      LdR pg 24 t6 w fun r0 => R (.tuple #[r0, (.int .i64 0), (.int .i64 12)]) w)
      (Stp pg (sFAddr 24 c_12 0) w fun t44 w =>
      Stp pg (sLoad 3 t44) w fun t45 w =>
      Stp pg (sBin .shl 3 (.const (.int .i64 1)) (.tmp 45) (.int .i64 1) t45) w fun t46 w =>
      kn symbols_2 t6 t20 c_12 t46 w))
theorem normal_Read_p11_ok (kn : K5) (R : K1) (hn : ∀ g w, kn (g 2) (g 6) (g 9) (g 12) (g 13) w → Q .normal g w) (hr : HR rs_normal_Read R Q) (h : normal_Read_p11 kn R (g 0) (g 1) (g 2) w) : den pg ann_normal_Read (takeS 7 code_normal_Read) Q g w :=
  den_exQ (l := []) (by kernel_rfl) h hn hr trivial

def normal_Read_p12 (R : K1) (b_0 most_1 symbols_2 : Value) (w : World) : Prop :=
  normal_Read_p11 (fun symbols_2 t6 f_9 c_12 left_13 w => normal_Read_p10 R symbols_2 t6 f_9 c_12 left_13 w) R b_0 most_1 symbols_2 w
theorem normal_Read_p12_ok (R : K1) (hr : HR rs_normal_Read R Q) (h : normal_Read_p12 R (g 0) (g 1) (g 2) w) : den pg ann_normal_Read code_normal_Read Q g w :=
  den_seqs 7 _ g w (by kernel_rfl) (normal_Read_p11_ok (thenE (fun g w => den pg ann_normal_Read (dropS 7 code_normal_Read) Q g w) Q) g w (fun symbols_2 t6 f_9 c_12 left_13 w => normal_Read_p10 R symbols_2 t6 f_9 c_12 left_13 w) R (fun g w h => thenE_n (K := fun g w => den pg ann_normal_Read (dropS 7 code_normal_Read) Q g w) (normal_Read_p10_ok Q g w R hr h)) hr h)

def normal_Read (a0 a1 a2 : Value) (w : World) (R : K1) : Prop :=
  normal_Read_p12 R a0 a1 a2 w
theorem normal_Read_does {a0 a1 a2 : Value} {w : World} {R : K1} (h : normal_Read a0 a1 a2 w R) : Does pg F_normal_Read #[a0, a1, a2] w R := by
  refine does_of_den (ann := ann_normal_Read) (fn := Try.f34) (c := code_normal_Read) (args := [a0, a1, a2]) (rs := rs_normal_Read) (N := 104) TryM.mixed (by kernel_rfl) Try.func34 (by kernel_rfl) (by kernel_rfl) (by kernel_rfl) (of_decide_eq_true (by kernel_rfl)) (by kernel_rfl) ?_
  exact (normal_Read_p12_ok (retQ pg rs_normal_Read R) (envOf [a0, a1, a2]) w R (fun _ _ h => h) h)
-- PIECES normal_Read/0 normal_Read_p1 normal_Read_p8 normal_Read_p9 normal_Read_p10 normal_Read_p11 normal_Read_p12
-- PIECES normal_Read/1 normal_Read_p2 normal_Read_p3 normal_Read_p4 normal_Read_p5 normal_Read_p6 normal_Read_p7

/- lighterman/lightermanref06.Read -/
def ann_ref06_Read : FA := ⟨F_ref06_Read, fun i => match Nat.beq i 30 with | true => .leaf ([2, 3], [(0, 2)]) [(false, []), (false, []), (true, [1]), (true, []), (false, []), (false, [])] | false => .leaf ([], []) []⟩
def rs_ref06_Read : List ResultVar := [.cell 6 37, .tmp 7, .tmp 8]
noncomputable def code_ref06_Read : Code := bodyOf Try.f35
def ref06_Read_p1 (R : K1) (t6 f_9 c_12 : Value) (w : World) : Prop :=
  Stp pg (sLoad 37 c_12) (dr w) fun t111 w_ => w_ = (dr w) ∧
  Stp pg (sLoad 119 f_9) (dr w) fun t112 w_ => w_ = (dr w) ∧
  Does pg F_ref05_Used #[t112] (dr w) fun t113 w30_2 =>
  (Same pg (sLoad 37 c_12) t111 w30_2 ∧ True) ∧
  Stp pg (sStore 37 t6 t111) w30_2 fun _u3 w30_3 =>
  w30_3 = w30_3 ∧
  w30_3 = w30_3 ∧
  LdR pg 37 t6 w30_3 fun r0 => R (.tuple #[r0, t113, (.int .i64 0)]) w30_3
theorem ref06_Read_p1_ok (R : K1) (hr : HR rs_ref06_Read R Q) (h : ref06_Read_p1 R (g 6) (g 9) (g 12) w) : den pg ann_ref06_Read (dropS 1 (dropS 7 code_ref06_Read)) Q g w :=
  den_exQ (kn := no) (l := []) (by kernel_rfl) h noE hr trivial

def ref06_Read_p2 (kn : K5) (R : K1) (symbols_2 t6 f_9 c_12 left_13 : Value) (w : World) : Prop :=
  Stp pg (sFAddr 37 c_12 1) w fun t101 w =>
  Stp pg (sLoad 22 t101) w fun t102 w =>
  Stp pg (sBi .len #[22] 3 [t102]) w fun t103 w =>
  Stp pg (sBin .gtr 3 (.tmp 103) (.tmp 104) t103 symbols_2) w fun t105 w =>
  Gd (isB t105 false) (fun K => K left_13 w) w fun t107 w =>
  Gd (isB t105 false) (fun K => Stp pg (sBin .lss 3 (.tmp 107) (.const (.int .i64 0)) t107 (.int .i64 0)) w K) w fun t108 w =>
  Stp pg (sPick t105 (.bool true) t108) w fun t109 w =>
  Cnd t109
    (Stp pg (sBuild 37 []) w fun t110 w =>
    Stp pg (sStore 37 t6 t110) w fun _u w =>
    LdR pg 37 t6 w fun r0 => R (.tuple #[r0, (.int .i64 0), (.int .i64 11)]) w)
    (kn symbols_2 t6 f_9 c_12 left_13 w)
theorem ref06_Read_p2_ok (kn : K5) (R : K1) (hn : ∀ g w, kn (g 2) (g 6) (g 9) (g 12) (g 13) w → Q .normal g w) (hr : HR rs_ref06_Read R Q) (h : ref06_Read_p2 kn R (g 2) (g 6) (g 9) (g 12) (g 13) w) : den pg ann_ref06_Read (dropS 1 (dropS 1 (dropS 5 (bI (dropS 1 (bI (bI (takeS 1 (dropS 7 code_ref06_Read))))))))) Q g w :=
  den_exQ (l := []) (by kernel_rfl) h hn hr trivial

def ref06_Read_p3 (kn : K6) (symbols_2 t6 f_9 x_10 c_12 left_13 : Value) (w : World) : Prop :=
  Stp pg (sBin .eql 45 (.tmp 99) (.const (.int .u64 3)) x_10 (.int .u64 3)) w fun t100 w =>
  kn symbols_2 t6 f_9 c_12 left_13 t100 w
theorem ref06_Read_p3_ok (kn : K6) (hn : ∀ g w, kn (g 2) (g 6) (g 9) (g 12) (g 13) (g 15) w → Q .normal g w) (h : ref06_Read_p3 kn (g 2) (g 6) (g 9) (g 10) (g 12) (g 13) w) : den pg ann_ref06_Read (dropS 1 (dropS 2 (bI (dropS 1 (bI (bI (takeS 1 (dropS 1 (dropS 5 (bI (dropS 1 (bI (bI (takeS 1 (dropS 7 code_ref06_Read))))))))))))))) Q g w :=
  den_exQ (kr := no) (l := []) (by kernel_rfl) h hn noE trivial

def ref06_Read_p4 (kn : K7) (k4 : K6) (symbols_2 t6 f_9 x_10 c_12 left_13 i_16 : Value) (w : World) : Prop :=
  Stp pg (sCvt 45 3 x_10) w fun t90 w =>
  Stp pg (sBin .lss 3 (.tmp 88) (.tmp 90) i_16 t90) w fun t91 w =>
  Cnd t91
    (Stp pg (sFAddr 37 c_12 1) w fun t94 w =>
    Stp pg (sLoad 22 t94) w fun t95 w =>
    Stp pg (sBuildSlice 22 1 [(0, (.int .i64 0))]) w fun t96 w =>
    Stp pg (sBi .append #[22, 22] 22 [t95, t96]) w fun t97 w =>
    Stp pg (sFAddr 37 c_12 1) w fun t98 w =>
    Stp pg (sStore 22 t98 t97) w fun _u w =>
    Stp pg (sBin .add 3 (.tmp 92) (.const (.int .i64 1)) i_16 (.int .i64 1)) w fun t93 w =>
    kn symbols_2 t6 f_9 x_10 c_12 left_13 t93 w)
    (k4 symbols_2 t6 f_9 x_10 c_12 left_13 w)
theorem ref06_Read_p4_ok (kn : K7) (k4 : K6) (hn : ∀ g w, kn (g 2) (g 6) (g 9) (g 10) (g 12) (g 13) (g 16) w → Q .normal g w) (h4 : ∀ g w, k4 (g 2) (g 6) (g 9) (g 10) (g 12) (g 13) w → Q (.exit 4) g w) (h : ref06_Read_p4 kn k4 (g 2) (g 6) (g 9) (g 10) (g 12) (g 13) (g 16) w) : den pg ann_ref06_Read (bI (bI (dropS 1 (takeS 1 (dropS 2 (bI (dropS 1 (bI (bI (takeS 1 (dropS 1 (dropS 5 (bI (dropS 1 (bI (bI (takeS 1 (dropS 7 code_ref06_Read)))))))))))))))))) Q g w :=
  den_exQ (kr := no) (l := [(4, fun g w => k4 (g 2) (g 6) (g 9) (g 10) (g 12) (g 13) w)]) (by kernel_rfl) h hn noE ⟨h4, trivial⟩

def ref06_Read_p5 (k4 : K6) (symbols_2 t6 f_9 x_10 c_12 left_13 i_16 : Value) (w : World) : Prop :=
  LoopD (fun (X : Value → K0) (t : Value) (w : World) => ref06_Read_p4 (fun _ _ _ _ _ _ i_16 w => X i_16 w) k4 symbols_2 t6 f_9 x_10 c_12 left_13 t w) i_16 w
theorem ref06_Read_p5_ok (k4 : K6) (h4 : ∀ g w, k4 (g 2) (g 6) (g 9) (g 10) (g 12) (g 13) w → Q (.exit 4) g w) (h : ref06_Read_p5 k4 (g 2) (g 6) (g 9) (g 10) (g 12) (g 13) (g 16) w) : den pg ann_ref06_Read (bI (dropS 1 (takeS 1 (dropS 2 (bI (dropS 1 (bI (bI (takeS 1 (dropS 1 (dropS 5 (bI (dropS 1 (bI (bI (takeS 1 (dropS 7 code_ref06_Read))))))))))))))))) Q g w := by
  refine den_loops (T := Value) (fun g : Env => g 16) (fun X t w => ref06_Read_p4 (fun _ _ _ _ _ _ i_16 w => X i_16 w) k4 (g 2) (g 6) (g 9) (g 10) (g 12) (g 13) t w) _ (by kernel_rfl) h (fun X g1 w1 ha h1 => ?_)
  rw [← agree_at (s := 2) ha (by kernel_rfl)] at h1
  rw [← agree_at (s := 6) ha (by kernel_rfl)] at h1
  rw [← agree_at (s := 9) ha (by kernel_rfl)] at h1
  rw [← agree_at (s := 10) ha (by kernel_rfl)] at h1
  rw [← agree_at (s := 12) ha (by kernel_rfl)] at h1
  rw [← agree_at (s := 13) ha (by kernel_rfl)] at h1
  exact (ref06_Read_p4_ok (thenE (fun g2 w2 => X ((fun g : Env => g 16) g2) w2) Q) g1 w1 (fun _ _ _ _ _ _ i_16 w => X i_16 w) k4 (fun _ _ h => h) h4 h1)

def ref06_Read_p6 (kn : K6) (symbols_2 t6 f_9 x_10 c_12 left_13 i_16 : Value) (w : World) : Prop :=
  ref06_Read_p5 kn symbols_2 t6 f_9 x_10 c_12 left_13 i_16 w
theorem ref06_Read_p6_ok (kn : K6) (hn : ∀ g w, kn (g 2) (g 6) (g 9) (g 10) (g 12) (g 13) w → Q .normal g w) (h : ref06_Read_p6 kn (g 2) (g 6) (g 9) (g 10) (g 12) (g 13) (g 16) w) : den pg ann_ref06_Read (dropS 1 (takeS 1 (dropS 2 (bI (dropS 1 (bI (bI (takeS 1 (dropS 1 (dropS 5 (bI (dropS 1 (bI (bI (takeS 1 (dropS 7 code_ref06_Read)))))))))))))))) Q g w :=
  den_blk 4 _ g w (by kernel_rfl) (ref06_Read_p5_ok (blk 4 Q) g w kn hn h)

def ref06_Read_p7 (kn : K7) (symbols_2 t6 f_9 x_10 c_12 left_13 : Value) (w : World) : Prop :=
  kn symbols_2 t6 f_9 x_10 c_12 left_13 (.int .i64 0) w
theorem ref06_Read_p7_ok (kn : K7) (hn : ∀ g w, kn (g 2) (g 6) (g 9) (g 10) (g 12) (g 13) (g 16) w → Q .normal g w) (h : ref06_Read_p7 kn (g 2) (g 6) (g 9) (g 10) (g 12) (g 13) w) : den pg ann_ref06_Read (takeS 1 (takeS 1 (dropS 2 (bI (dropS 1 (bI (bI (takeS 1 (dropS 1 (dropS 5 (bI (dropS 1 (bI (bI (takeS 1 (dropS 7 code_ref06_Read)))))))))))))))) Q g w :=
  den_exQ (kr := no) (l := []) (by kernel_rfl) h hn noE trivial

def ref06_Read_p8 (kn : K6) (symbols_2 t6 f_9 x_10 c_12 left_13 : Value) (w : World) : Prop :=
  ref06_Read_p7 (fun symbols_2 t6 f_9 x_10 c_12 left_13 i_16 w => ref06_Read_p6 kn symbols_2 t6 f_9 x_10 c_12 left_13 i_16 w) symbols_2 t6 f_9 x_10 c_12 left_13 w
theorem ref06_Read_p8_ok (kn : K6) (hn : ∀ g w, kn (g 2) (g 6) (g 9) (g 10) (g 12) (g 13) w → Q .normal g w) (h : ref06_Read_p8 kn (g 2) (g 6) (g 9) (g 10) (g 12) (g 13) w) : den pg ann_ref06_Read (takeS 1 (dropS 2 (bI (dropS 1 (bI (bI (takeS 1 (dropS 1 (dropS 5 (bI (dropS 1 (bI (bI (takeS 1 (dropS 7 code_ref06_Read))))))))))))))) Q g w :=
  den_seqs 1 _ g w (by kernel_rfl) (ref06_Read_p7_ok (thenE (fun g w => den pg ann_ref06_Read (dropS 1 (takeS 1 (dropS 2 (bI (dropS 1 (bI (bI (takeS 1 (dropS 1 (dropS 5 (bI (dropS 1 (bI (bI (takeS 1 (dropS 7 code_ref06_Read)))))))))))))))) Q g w) Q) g w (fun symbols_2 t6 f_9 x_10 c_12 left_13 i_16 w => ref06_Read_p6 kn symbols_2 t6 f_9 x_10 c_12 left_13 i_16 w) (fun g w h => thenE_n (K := fun g w => den pg ann_ref06_Read (dropS 1 (takeS 1 (dropS 2 (bI (dropS 1 (bI (bI (takeS 1 (dropS 1 (dropS 5 (bI (dropS 1 (bI (bI (takeS 1 (dropS 7 code_ref06_Read)))))))))))))))) Q g w) (ref06_Read_p6_ok Q g w kn hn h)) h)

def ref06_Read_p9 (kn : K6) (symbols_2 t6 f_9 x_10 c_12 left_13 : Value) (w : World) : Prop :=
  ref06_Read_p8 (fun symbols_2 t6 f_9 x_10 c_12 left_13 w => ref06_Read_p3 kn symbols_2 t6 f_9 x_10 c_12 left_13 w) symbols_2 t6 f_9 x_10 c_12 left_13 w
theorem ref06_Read_p9_ok (kn : K6) (hn : ∀ g w, kn (g 2) (g 6) (g 9) (g 12) (g 13) (g 15) w → Q .normal g w) (h : ref06_Read_p9 kn (g 2) (g 6) (g 9) (g 10) (g 12) (g 13) w) : den pg ann_ref06_Read (dropS 2 (bI (dropS 1 (bI (bI (takeS 1 (dropS 1 (dropS 5 (bI (dropS 1 (bI (bI (takeS 1 (dropS 7 code_ref06_Read)))))))))))))) Q g w :=
  den_seqs 1 _ g w (by kernel_rfl) (ref06_Read_p8_ok (thenE (fun g w => den pg ann_ref06_Read (dropS 1 (dropS 2 (bI (dropS 1 (bI (bI (takeS 1 (dropS 1 (dropS 5 (bI (dropS 1 (bI (bI (takeS 1 (dropS 7 code_ref06_Read))))))))))))))) Q g w) Q) g w (fun symbols_2 t6 f_9 x_10 c_12 left_13 w => ref06_Read_p3 kn symbols_2 t6 f_9 x_10 c_12 left_13 w) (fun g w h => thenE_n (K := fun g w => den pg ann_ref06_Read (dropS 1 (dropS 2 (bI (dropS 1 (bI (bI (takeS 1 (dropS 1 (dropS 5 (bI (dropS 1 (bI (bI (takeS 1 (dropS 7 code_ref06_Read))))))))))))))) Q g w) (ref06_Read_p3_ok Q g w kn hn h)) h)

def ref06_Read_p10 (kn : K6) (R : K1) (symbols_2 t6 f_9 c_12 left_13 : Value) (w : World) : Prop :=
  Stp pg (sLoad 119 f_9) w fun t79 w =>
  Does pg F_ref05_Read #[t79, (.int .i64 2)] w fun t80 w =>
  Stp pg (sExtr t80 0) w fun t81 w =>
  Stp pg (sExtr t80 1) w fun t82 w =>
  Stp pg (sExtr t80 2) w fun t83 w =>
  Stp pg (sStore 119 f_9 t81) w fun _u w =>
  Stp pg (sBin .neq 29 (.tmp 84) (.const (.int .i64 0)) t83 (.int .i64 0)) w fun t85 w =>
  Cnd t85
    (Stp pg (sBuild 37 []) w fun t86 w =>
    Stp pg (sStore 37 t6 t86) w fun _u w =>
    LdR pg 37 t6 w fun r0 => R (.tuple #[r0, (.int .i64 0), t83]) w)
    (kn symbols_2 t6 f_9 t82 c_12 left_13 w)
theorem ref06_Read_p10_ok (kn : K6) (R : K1) (hn : ∀ g w, kn (g 2) (g 6) (g 9) (g 10) (g 12) (g 13) w → Q .normal g w) (hr : HR rs_ref06_Read R Q) (h : ref06_Read_p10 kn R (g 2) (g 6) (g 9) (g 12) (g 13) w) : den pg ann_ref06_Read (takeS 2 (bI (dropS 1 (bI (bI (takeS 1 (dropS 1 (dropS 5 (bI (dropS 1 (bI (bI (takeS 1 (dropS 7 code_ref06_Read)))))))))))))) Q g w :=
  den_exQ (l := []) (by kernel_rfl) h hn hr trivial

def ref06_Read_p11 (kn : K6) (R : K1) (symbols_2 t6 f_9 c_12 left_13 : Value) (w : World) : Prop :=
  ref06_Read_p10 (fun symbols_2 t6 f_9 x_10 c_12 left_13 w => ref06_Read_p9 kn symbols_2 t6 f_9 x_10 c_12 left_13 w) R symbols_2 t6 f_9 c_12 left_13 w
theorem ref06_Read_p11_ok (kn : K6) (R : K1) (hn : ∀ g w, kn (g 2) (g 6) (g 9) (g 12) (g 13) (g 15) w → Q .normal g w) (hr : HR rs_ref06_Read R Q) (h : ref06_Read_p11 kn R (g 2) (g 6) (g 9) (g 12) (g 13) w) : den pg ann_ref06_Read (bI (dropS 1 (bI (bI (takeS 1 (dropS 1 (dropS 5 (bI (dropS 1 (bI (bI (takeS 1 (dropS 7 code_ref06_Read))))))))))))) Q g w :=
  den_seqs 2 _ g w (by kernel_rfl) (ref06_Read_p10_ok (thenE (fun g w => den pg ann_ref06_Read (dropS 2 (bI (dropS 1 (bI (bI (takeS 1 (dropS 1 (dropS 5 (bI (dropS 1 (bI (bI (takeS 1 (dropS 7 code_ref06_Read)))))))))))))) Q g w) Q) g w (fun symbols_2 t6 f_9 x_10 c_12 left_13 w => ref06_Read_p9 kn symbols_2 t6 f_9 x_10 c_12 left_13 w) R (fun g w h => thenE_n (K := fun g w => den pg ann_ref06_Read (dropS 2 (bI (dropS 1 (bI (bI (takeS 1 (dropS 1 (dropS 5 (bI (dropS 1 (bI (bI (takeS 1 (dropS 7 code_ref06_Read)))))))))))))) Q g w) (ref06_Read_p9_ok Q g w kn hn h)) hr h)

def ref06_Read_p12 (kn : K6) (R : K1) (symbols_2 t6 f_9 c_12 left_13 : Value) (w : World) : Prop :=
  ref06_Read_p11 kn R symbols_2 t6 f_9 c_12 left_13 w
theorem ref06_Read_p12_ok (kn : K6) (R : K1) (hn : ∀ g w, kn (g 2) (g 6) (g 9) (g 12) (g 13) (g 15) w → Q .normal g w) (hr : HR rs_ref06_Read R Q) (h : ref06_Read_p12 kn R (g 2) (g 6) (g 9) (g 12) (g 13) w) : den pg ann_ref06_Read (dropS 1 (bI (bI (takeS 1 (dropS 1 (dropS 5 (bI (dropS 1 (bI (bI (takeS 1 (dropS 7 code_ref06_Read)))))))))))) Q g w :=
  den_blk 3 _ g w (by kernel_rfl) (ref06_Read_p11_ok (blk 3 Q) g w kn R hn hr h)

def ref06_Read_p13 (kn : K5) (k2 : K5) (symbols_2 t6 f_9 c_12 left_13 t15 : Value) (w : World) : Prop :=
  Cnd t15
    (kn symbols_2 t6 f_9 c_12 left_13 w)
    (k2 symbols_2 t6 f_9 c_12 left_13 w)
theorem ref06_Read_p13_ok (kn : K5) (k2 : K5) (hn : ∀ g w, kn (g 2) (g 6) (g 9) (g 12) (g 13) w → Q .normal g w) (h2 : ∀ g w, k2 (g 2) (g 6) (g 9) (g 12) (g 13) w → Q (.exit 2) g w) (h : ref06_Read_p13 kn k2 (g 2) (g 6) (g 9) (g 12) (g 13) (g 15) w) : den pg ann_ref06_Read (takeS 1 (bI (bI (takeS 1 (dropS 1 (dropS 5 (bI (dropS 1 (bI (bI (takeS 1 (dropS 7 code_ref06_Read)))))))))))) Q g w :=
  den_exQ (kr := no) (l := [(2, fun g w => k2 (g 2) (g 6) (g 9) (g 12) (g 13) w)]) (by kernel_rfl) h hn noE ⟨h2, trivial⟩

def ref06_Read_p14 (kn : K6) (k2 : K5) (R : K1) (symbols_2 t6 f_9 c_12 left_13 t15 : Value) (w : World) : Prop :=
  ref06_Read_p13 (fun symbols_2 t6 f_9 c_12 left_13 w => ref06_Read_p12 kn R symbols_2 t6 f_9 c_12 left_13 w) k2 symbols_2 t6 f_9 c_12 left_13 t15 w
theorem ref06_Read_p14_ok (kn : K6) (k2 : K5) (R : K1) (hn : ∀ g w, kn (g 2) (g 6) (g 9) (g 12) (g 13) (g 15) w → Q .normal g w) (h2 : ∀ g w, k2 (g 2) (g 6) (g 9) (g 12) (g 13) w → Q (.exit 2) g w) (hr : HR rs_ref06_Read R Q) (h : ref06_Read_p14 kn k2 R (g 2) (g 6) (g 9) (g 12) (g 13) (g 15) w) : den pg ann_ref06_Read (bI (bI (takeS 1 (dropS 1 (dropS 5 (bI (dropS 1 (bI (bI (takeS 1 (dropS 7 code_ref06_Read))))))))))) Q g w :=
  den_seqs 1 _ g w (by kernel_rfl) (ref06_Read_p13_ok (thenE (fun g w => den pg ann_ref06_Read (dropS 1 (bI (bI (takeS 1 (dropS 1 (dropS 5 (bI (dropS 1 (bI (bI (takeS 1 (dropS 7 code_ref06_Read)))))))))))) Q g w) Q) g w (fun symbols_2 t6 f_9 c_12 left_13 w => ref06_Read_p12 kn R symbols_2 t6 f_9 c_12 left_13 w) k2 (fun g w h => thenE_n (K := fun g w => den pg ann_ref06_Read (dropS 1 (bI (bI (takeS 1 (dropS 1 (dropS 5 (bI (dropS 1 (bI (bI (takeS 1 (dropS 7 code_ref06_Read)))))))))))) Q g w) (ref06_Read_p12_ok Q g w kn R hn hr h)) h2 h)

def ref06_Read_p15 (k2 : K5) (R : K1) (symbols_2 t6 f_9 c_12 left_13 t15 : Value) (w : World) : Prop :=
  LoopD (fun (X : Value → K0) (t : Value) (w : World) => ref06_Read_p14 (fun _ _ _ _ _ t15 w => X t15 w) k2 R symbols_2 t6 f_9 c_12 left_13 t w) t15 w
theorem ref06_Read_p15_ok (k2 : K5) (R : K1) (h2 : ∀ g w, k2 (g 2) (g 6) (g 9) (g 12) (g 13) w → Q (.exit 2) g w) (hr : HR rs_ref06_Read R Q) (h : ref06_Read_p15 k2 R (g 2) (g 6) (g 9) (g 12) (g 13) (g 15) w) : den pg ann_ref06_Read (bI (takeS 1 (dropS 1 (dropS 5 (bI (dropS 1 (bI (bI (takeS 1 (dropS 7 code_ref06_Read)))))))))) Q g w := by
  refine den_loops (T := Value) (fun g : Env => g 15) (fun X t w => ref06_Read_p14 (fun _ _ _ _ _ t15 w => X t15 w) k2 R (g 2) (g 6) (g 9) (g 12) (g 13) t w) _ (by kernel_rfl) h (fun X g1 w1 ha h1 => ?_)
  rw [← agree_at (s := 2) ha (by kernel_rfl)] at h1
  rw [← agree_at (s := 6) ha (by kernel_rfl)] at h1
  rw [← agree_at (s := 9) ha (by kernel_rfl)] at h1
  rw [← agree_at (s := 12) ha (by kernel_rfl)] at h1
  rw [← agree_at (s := 13) ha (by kernel_rfl)] at h1
  exact (ref06_Read_p14_ok (thenE (fun g2 w2 => X ((fun g : Env => g 15) g2) w2) Q) g1 w1 (fun _ _ _ _ _ t15 w => X t15 w) k2 R (fun _ _ h => h) h2 hr h1)

def ref06_Read_p16 (kn : K5) (R : K1) (symbols_2 t6 f_9 c_12 left_13 t15 : Value) (w : World) : Prop :=
  ref06_Read_p15 kn R symbols_2 t6 f_9 c_12 left_13 t15 w
theorem ref06_Read_p16_ok (kn : K5) (R : K1) (hn : ∀ g w, kn (g 2) (g 6) (g 9) (g 12) (g 13) w → Q .normal g w) (hr : HR rs_ref06_Read R Q) (h : ref06_Read_p16 kn R (g 2) (g 6) (g 9) (g 12) (g 13) (g 15) w) : den pg ann_ref06_Read (takeS 1 (dropS 1 (dropS 5 (bI (dropS 1 (bI (bI (takeS 1 (dropS 7 code_ref06_Read))))))))) Q g w :=
  den_blk 2 _ g w (by kernel_rfl) (ref06_Read_p15_ok (blk 2 Q) g w kn R hn hr h)

def ref06_Read_p17 (kn : K5) (R : K1) (symbols_2 t6 f_9 c_12 left_13 t15 : Value) (w : World) : Prop :=
  ref06_Read_p16 (fun symbols_2 t6 f_9 c_12 left_13 w => ref06_Read_p2 kn R symbols_2 t6 f_9 c_12 left_13 w) R symbols_2 t6 f_9 c_12 left_13 t15 w
theorem ref06_Read_p17_ok (kn : K5) (R : K1) (hn : ∀ g w, kn (g 2) (g 6) (g 9) (g 12) (g 13) w → Q .normal g w) (hr : HR rs_ref06_Read R Q) (h : ref06_Read_p17 kn R (g 2) (g 6) (g 9) (g 12) (g 13) (g 15) w) : den pg ann_ref06_Read (dropS 1 (dropS 5 (bI (dropS 1 (bI (bI (takeS 1 (dropS 7 code_ref06_Read)))))))) Q g w :=
  den_seqs 1 _ g w (by kernel_rfl) (ref06_Read_p16_ok (thenE (fun g w => den pg ann_ref06_Read (dropS 1 (dropS 1 (dropS 5 (bI (dropS 1 (bI (bI (takeS 1 (dropS 7 code_ref06_Read))))))))) Q g w) Q) g w (fun symbols_2 t6 f_9 c_12 left_13 w => ref06_Read_p2 kn R symbols_2 t6 f_9 c_12 left_13 w) R (fun g w h => thenE_n (K := fun g w => den pg ann_ref06_Read (dropS 1 (dropS 1 (dropS 5 (bI (dropS 1 (bI (bI (takeS 1 (dropS 7 code_ref06_Read))))))))) Q g w) (ref06_Read_p2_ok Q g w kn R hn hr h)) hr h)

def ref06_Read_p18 (kn : K6) (symbols_2 t6 f_9 c_12 left_13 v_14 : Value) (w : World) : Prop :=
  Stp pg (sBin .eql 3 (.tmp 75) (.const (.int .i64 1)) v_14 (.int .i64 1)) w fun t76 w =>
  kn symbols_2 t6 f_9 c_12 left_13 t76 w
theorem ref06_Read_p18_ok (kn : K6) (hn : ∀ g w, kn (g 2) (g 6) (g 9) (g 12) (g 13) (g 15) w → Q .normal g w) (h : ref06_Read_p18 kn (g 2) (g 6) (g 9) (g 12) (g 13) (g 14) w) : den pg ann_ref06_Read (takeS 1 (dropS 5 (bI (dropS 1 (bI (bI (takeS 1 (dropS 7 code_ref06_Read)))))))) Q g w :=
  den_exQ (kr := no) (l := []) (by kernel_rfl) h hn noE trivial

def ref06_Read_p19 (kn : K5) (R : K1) (symbols_2 t6 f_9 c_12 left_13 v_14 : Value) (w : World) : Prop :=
  ref06_Read_p18 (fun symbols_2 t6 f_9 c_12 left_13 t15 w => ref06_Read_p17 kn R symbols_2 t6 f_9 c_12 left_13 t15 w) symbols_2 t6 f_9 c_12 left_13 v_14 w
theorem ref06_Read_p19_ok (kn : K5) (R : K1) (hn : ∀ g w, kn (g 2) (g 6) (g 9) (g 12) (g 13) w → Q .normal g w) (hr : HR rs_ref06_Read R Q) (h : ref06_Read_p19 kn R (g 2) (g 6) (g 9) (g 12) (g 13) (g 14) w) : den pg ann_ref06_Read (dropS 5 (bI (dropS 1 (bI (bI (takeS 1 (dropS 7 code_ref06_Read))))))) Q g w :=
  den_seqs 1 _ g w (by kernel_rfl) (ref06_Read_p18_ok (thenE (fun g w => den pg ann_ref06_Read (dropS 1 (dropS 5 (bI (dropS 1 (bI (bI (takeS 1 (dropS 7 code_ref06_Read)))))))) Q g w) Q) g w (fun symbols_2 t6 f_9 c_12 left_13 t15 w => ref06_Read_p17 kn R symbols_2 t6 f_9 c_12 left_13 t15 w) (fun g w h => thenE_n (K := fun g w => den pg ann_ref06_Read (dropS 1 (dropS 5 (bI (dropS 1 (bI (bI (takeS 1 (dropS 7 code_ref06_Read)))))))) Q g w) (ref06_Read_p17_ok Q g w kn R hn hr h)) h)

def ref06_Read_p20 (kn : K6) (R : K1) (symbols_2 t6 f_9 c_12 left_13 : Value) (w : World) : Prop :=
  Stp pg (sLoad 119 f_9) w fun t50 w =>
  Does pg F_ref06_next #[t50, left_13] w fun t52 w =>
  Stp pg (sExtr t52 0) w fun t53 w =>
  Stp pg (sExtr t52 1) w fun t54 w =>
  Stp pg (sExtr t52 2) w fun t55 w =>
  Stp pg (sStore 119 f_9 t53) w fun _u w =>
  Stp pg (sBin .neq 29 (.tmp 56) (.const (.int .i64 0)) t55 (.int .i64 0)) w fun t57 w =>
  Cnd t57
    (Stp pg (sBuild 37 []) w fun t58 w =>
    Stp pg (sStore 37 t6 t58) w fun _u w =>
    LdR pg 37 t6 w fun r0 => R (.tuple #[r0, (.int .i64 0), t55]) w)
    (Stp pg (sFAddr 37 c_12 1) w fun t60 w =>
    Stp pg (sLoad 22 t60) w fun t61 w =>
    Stp pg (sBin .sub 3 (.tmp 62) (.const (.int .i64 1)) t54 (.int .i64 1)) w fun t63 w =>
    Stp pg (sBuildSlice 22 1 [(0, t63)]) w fun t64 w =>
    Stp pg (sBi .append #[22, 22] 22 [t61, t64]) w fun t65 w =>
    Stp pg (sFAddr 37 c_12 1) w fun t66 w =>
    Stp pg (sStore 22 t66 t65) w fun _u w =>
    Stp pg (sBin .eql 3 (.tmp 67) (.const (.int .i64 0)) t54 (.int .i64 0)) w fun t68 w =>
    Cnd t68
      (Stp pg (sBin .sub 3 (.tmp 69) (.const (.int .i64 1)) left_13 (.int .i64 1)) w fun t70 w =>
      kn symbols_2 t6 f_9 c_12 t70 t54 w)
      (Stp pg (sBin .sub 3 (.tmp 72) (.const (.int .i64 1)) t54 (.int .i64 1)) w fun t73 w =>
      Stp pg (sBin .sub 3 (.tmp 71) (.tmp 73) left_13 t73) w fun t74 w =>
      kn symbols_2 t6 f_9 c_12 t74 t54 w))
theorem ref06_Read_p20_ok (kn : K6) (R : K1) (hn : ∀ g w, kn (g 2) (g 6) (g 9) (g 12) (g 13) (g 14) w → Q .normal g w) (hr : HR rs_ref06_Read R Q) (h : ref06_Read_p20 kn R (g 2) (g 6) (g 9) (g 12) (g 13) w) : den pg ann_ref06_Read (takeS 5 (bI (dropS 1 (bI (bI (takeS 1 (dropS 7 code_ref06_Read))))))) Q g w :=
  den_exQ (l := []) (by kernel_rfl) h hn hr trivial

def ref06_Read_p21 (kn : K5) (R : K1) (symbols_2 t6 f_9 c_12 left_13 : Value) (w : World) : Prop :=
  ref06_Read_p20 (fun symbols_2 t6 f_9 c_12 left_13 v_14 w => ref06_Read_p19 kn R symbols_2 t6 f_9 c_12 left_13 v_14 w) R symbols_2 t6 f_9 c_12 left_13 w
theorem ref06_Read_p21_ok (kn : K5) (R : K1) (hn : ∀ g w, kn (g 2) (g 6) (g 9) (g 12) (g 13) w → Q .normal g w) (hr : HR rs_ref06_Read R Q) (h : ref06_Read_p21 kn R (g 2) (g 6) (g 9) (g 12) (g 13) w) : den pg ann_ref06_Read (bI (dropS 1 (bI (bI (takeS 1 (dropS 7 code_ref06_Read)))))) Q g w :=
  den_seqs 5 _ g w (by kernel_rfl) (ref06_Read_p20_ok (thenE (fun g w => den pg ann_ref06_Read (dropS 5 (bI (dropS 1 (bI (bI (takeS 1 (dropS 7 code_ref06_Read))))))) Q g w) Q) g w (fun symbols_2 t6 f_9 c_12 left_13 v_14 w => ref06_Read_p19 kn R symbols_2 t6 f_9 c_12 left_13 v_14 w) R (fun g w h => thenE_n (K := fun g w => den pg ann_ref06_Read (dropS 5 (bI (dropS 1 (bI (bI (takeS 1 (dropS 7 code_ref06_Read))))))) Q g w) (ref06_Read_p19_ok Q g w kn R hn hr h)) hr h)

def ref06_Read_p22 (kn : K5) (R : K1) (symbols_2 t6 f_9 c_12 left_13 : Value) (w : World) : Prop :=
  ref06_Read_p21 kn R symbols_2 t6 f_9 c_12 left_13 w
theorem ref06_Read_p22_ok (kn : K5) (R : K1) (hn : ∀ g w, kn (g 2) (g 6) (g 9) (g 12) (g 13) w → Q .normal g w) (hr : HR rs_ref06_Read R Q) (h : ref06_Read_p22 kn R (g 2) (g 6) (g 9) (g 12) (g 13) w) : den pg ann_ref06_Read (dropS 1 (bI (bI (takeS 1 (dropS 7 code_ref06_Read))))) Q g w :=
  den_blk 1 _ g w (by kernel_rfl) (ref06_Read_p21_ok (blk 1 Q) g w kn R hn hr h)

def ref06_Read_p23 (kn : K5) (k0 : K3) (symbols_2 t6 f_9 c_12 left_13 : Value) (w : World) : Prop :=
  Stp pg (sBin .gtr 3 (.tmp 47) (.const (.int .i64 0)) left_13 (.int .i64 0)) w fun t48 w =>
  Cnd t48
    (kn symbols_2 t6 f_9 c_12 left_13 w)
    (k0 t6 f_9 c_12 w)
theorem ref06_Read_p23_ok (kn : K5) (k0 : K3) (hn : ∀ g w, kn (g 2) (g 6) (g 9) (g 12) (g 13) w → Q .normal g w) (h0 : ∀ g w, k0 (g 6) (g 9) (g 12) w → Q (.exit 0) g w) (h : ref06_Read_p23 kn k0 (g 2) (g 6) (g 9) (g 12) (g 13) w) : den pg ann_ref06_Read (takeS 1 (bI (bI (takeS 1 (dropS 7 code_ref06_Read))))) Q g w :=
  den_exQ (kr := no) (l := [(0, fun g w => k0 (g 6) (g 9) (g 12) w)]) (by kernel_rfl) h hn noE ⟨h0, trivial⟩

def ref06_Read_p24 (kn : K5) (k0 : K3) (R : K1) (symbols_2 t6 f_9 c_12 left_13 : Value) (w : World) : Prop :=
  ref06_Read_p23 (fun symbols_2 t6 f_9 c_12 left_13 w => ref06_Read_p22 kn R symbols_2 t6 f_9 c_12 left_13 w) k0 symbols_2 t6 f_9 c_12 left_13 w
theorem ref06_Read_p24_ok (kn : K5) (k0 : K3) (R : K1) (hn : ∀ g w, kn (g 2) (g 6) (g 9) (g 12) (g 13) w → Q .normal g w) (h0 : ∀ g w, k0 (g 6) (g 9) (g 12) w → Q (.exit 0) g w) (hr : HR rs_ref06_Read R Q) (h : ref06_Read_p24 kn k0 R (g 2) (g 6) (g 9) (g 12) (g 13) w) : den pg ann_ref06_Read (bI (bI (takeS 1 (dropS 7 code_ref06_Read)))) Q g w :=
  den_seqs 1 _ g w (by kernel_rfl) (ref06_Read_p23_ok (thenE (fun g w => den pg ann_ref06_Read (dropS 1 (bI (bI (takeS 1 (dropS 7 code_ref06_Read))))) Q g w) Q) g w (fun symbols_2 t6 f_9 c_12 left_13 w => ref06_Read_p22 kn R symbols_2 t6 f_9 c_12 left_13 w) k0 (fun g w h => thenE_n (K := fun g w => den pg ann_ref06_Read (dropS 1 (bI (bI (takeS 1 (dropS 7 code_ref06_Read))))) Q g w) (ref06_Read_p22_ok Q g w kn R hn hr h)) h0 h)

def ref06_Read_p25 (k0 : K3) (R : K1) (symbols_2 t6 f_9 c_12 left_13 : Value) (w : World) : Prop :=
  LoopD (fun (X : Value → K0) (t : Value) (w : World) => ref06_Read_p24 (fun _ _ _ _ left_13 w => X left_13 w) k0 R symbols_2 t6 f_9 c_12 t w) left_13 w
theorem ref06_Read_p25_ok (k0 : K3) (R : K1) (h0 : ∀ g w, k0 (g 6) (g 9) (g 12) w → Q (.exit 0) g w) (hr : HR rs_ref06_Read R Q) (h : ref06_Read_p25 k0 R (g 2) (g 6) (g 9) (g 12) (g 13) w) : den pg ann_ref06_Read (bI (takeS 1 (dropS 7 code_ref06_Read))) Q g w := by
  refine den_loops (T := Value) (fun g : Env => g 13) (fun X t w => ref06_Read_p24 (fun _ _ _ _ left_13 w => X left_13 w) k0 R (g 2) (g 6) (g 9) (g 12) t w) _ (by kernel_rfl) h (fun X g1 w1 ha h1 => ?_)
  rw [← agree_at (s := 2) ha (by kernel_rfl)] at h1
  rw [← agree_at (s := 6) ha (by kernel_rfl)] at h1
  rw [← agree_at (s := 9) ha (by kernel_rfl)] at h1
  rw [← agree_at (s := 12) ha (by kernel_rfl)] at h1
  exact (ref06_Read_p24_ok (thenE (fun g2 w2 => X ((fun g : Env => g 13) g2) w2) Q) g1 w1 (fun _ _ _ _ left_13 w => X left_13 w) k0 R (fun _ _ h => h) h0 hr h1)

def ref06_Read_p26 (kn : K3) (R : K1) (symbols_2 t6 f_9 c_12 left_13 : Value) (w : World) : Prop :=
  ref06_Read_p25 kn R symbols_2 t6 f_9 c_12 left_13 w
theorem ref06_Read_p26_ok (kn : K3) (R : K1) (hn : ∀ g w, kn (g 6) (g 9) (g 12) w → Q .normal g w) (hr : HR rs_ref06_Read R Q) (h : ref06_Read_p26 kn R (g 2) (g 6) (g 9) (g 12) (g 13) w) : den pg ann_ref06_Read (takeS 1 (dropS 7 code_ref06_Read)) Q g w :=
  den_blk 0 _ g w (by kernel_rfl) (ref06_Read_p25_ok (blk 0 Q) g w kn R hn hr h)

def ref06_Read_p27 (R : K1) (symbols_2 t6 f_9 c_12 left_13 : Value) (w : World) : Prop :=
  ref06_Read_p26 (fun t6 f_9 c_12 w => ref06_Read_p1 R t6 f_9 c_12 w) R symbols_2 t6 f_9 c_12 left_13 w
theorem ref06_Read_p27_ok (R : K1) (hr : HR rs_ref06_Read R Q) (h : ref06_Read_p27 R (g 2) (g 6) (g 9) (g 12) (g 13) w) : den pg ann_ref06_Read (dropS 7 code_ref06_Read) Q g w :=
  den_seqs 1 _ g w (by kernel_rfl) (ref06_Read_p26_ok (thenE (fun g w => den pg ann_ref06_Read (dropS 1 (dropS 7 code_ref06_Read)) Q g w) Q) g w (fun t6 f_9 c_12 w => ref06_Read_p1 R t6 f_9 c_12 w) R (fun g w h => thenE_n (K := fun g w => den pg ann_ref06_Read (dropS 1 (dropS 7 code_ref06_Read)) Q g w) (ref06_Read_p1_ok Q g w R hr h)) hr h)

def ref06_Read_p28 (kn : K5) (R : K1) (b_0 most_1 symbols_2 : Value) (w : World) : Prop :=
  Stp pg (sAlloc 37) w fun t6 w =>
  Does pg F_ref05_Bits #[b_0] w fun t18 w =>
  Stp pg (sBuild 119 [(0, t18)]) w fun t19 w =>
  Stp pg (sAlloc 119) w fun f_9 w =>
  Stp pg (sStore 119 f_9 t19) w fun _u w =>
  Stp pg (sLoad 119 f_9) w fun t21 w =>
  Does pg F_ref05_Read #[t21, (.int .i64 4)] w fun t22 w =>
  Stp pg (sExtr t22 0) w fun t23 w =>
  Stp pg (sExtr t22 1) w fun t24 w =>
  Stp pg (sExtr t22 2) w fun t25 w =>
  Stp pg (sStore 119 f_9 t23) w fun _u w =>
  Stp pg (sBin .neq 29 (.tmp 26) (.const (.int .i64 0)) t25 (.int .i64 0)) w fun t27 w =>
  Cnd t27
    (Stp pg (sBuild 37 []) w fun t28 w =>
    Stp pg (sStore 37 t6 t28) w fun _u w =>
    LdR pg 37 t6 w fun r0 => R (.tuple #[r0, (.int .i64 0), t25]) w)
    (Stp pg (sCvt 45 3 t24) w fun t31 w =>
    Stp pg (sBin .add 3 (.tmp 31) (.const (.int .i64 5)) t31 (.int .i64 5)) w fun t32 w =>
    Stp pg (sBuild 37 [(0, t32)]) w fun t33 w =>
    Stp pg (sAlloc 37) w fun c_12 w =>
    Stp pg (sStore 37 c_12 t33) w fun _u w =>
    Stp pg (sFAddr 37 c_12 0) w fun t34 w =>
    Stp pg (sLoad 3 t34) w fun t35 w =>
    Stp pg (sBin .gtr 3 (.tmp 35) (.tmp 36) t35 most_1) w fun t37 w =>
    Gd (isB t37 false) (fun K => Stp pg (sFAddr 37 c_12 0) w K) w fun t39 w =>
    Gd (isB t37 false) (fun K => Stp pg (sLoad 3 t39) w K) w fun t40 w =>
    Gd (isB t37 false) (fun K => Stp pg (sBin .gtr 3 (.tmp 40) (.const (.int .i64 15)) t40 (.int .i64 15)) w K) w fun t41 w =>
    Stp pg (sPick t37 (.bool true) t41) w fun t42 w =>
    Cnd t42
      (Stp pg (sBuild 37 []) w fun t43 w =>
      Stp pg (sStore 37 t6 t43) w fun _u w =>
      LdR pg 37 t6 w fun r0 => R (.tuple #[r0, (.int .i64 0), (.int .i64 12)]) w)
      (Stp pg (sFAddr 37 c_12 0) w fun t44 w =>
      Stp pg (sLoad 3 t44) w fun t45 w =>
      Does pg F_ref06_Power #[t45] w fun t46 w =>
      kn symbols_2 t6 f_9 c_12 t46 w))
theorem ref06_Read_p28_ok (kn : K5) (R : K1) (hn : ∀ g w, kn (g 2) (g 6) (g 9) (g 12) (g 13) w → Q .normal g w) (hr : HR rs_ref06_Read R Q) (h : ref06_Read_p28 kn R (g 0) (g 1) (g 2) w) : den pg ann_ref06_Read (takeS 7 code_ref06_Read) Q g w :=
  den_exQ (l := []) (by kernel_rfl) h hn hr trivial

def ref06_Read_p29 (R : K1) (b_0 most_1 symbols_2 : Value) (w : World) : Prop :=
  ref06_Read_p28 (fun symbols_2 t6 f_9 c_12 left_13 w => ref06_Read_p27 R symbols_2 t6 f_9 c_12 left_13 w) R b_0 most_1 symbols_2 w
theorem ref06_Read_p29_ok (R : K1) (hr : HR rs_ref06_Read R Q) (h : ref06_Read_p29 R (g 0) (g 1) (g 2) w) : den pg ann_ref06_Read code_ref06_Read Q g w :=
  den_seqs 7 _ g w (by kernel_rfl) (ref06_Read_p28_ok (thenE (fun g w => den pg ann_ref06_Read (dropS 7 code_ref06_Read) Q g w) Q) g w (fun symbols_2 t6 f_9 c_12 left_13 w => ref06_Read_p27 R symbols_2 t6 f_9 c_12 left_13 w) R (fun g w h => thenE_n (K := fun g w => den pg ann_ref06_Read (dropS 7 code_ref06_Read) Q g w) (ref06_Read_p27_ok Q g w R hr h)) hr h)

def ref06_Read (a0 a1 a2 : Value) (w : World) (R : K1) : Prop :=
  ref06_Read_p29 R a0 a1 a2 w
theorem ref06_Read_does {a0 a1 a2 : Value} {w : World} {R : K1} (h : ref06_Read a0 a1 a2 w R) : Does pg F_ref06_Read #[a0, a1, a2] w R := by
  refine does_of_den (ann := ann_ref06_Read) (fn := Try.f35) (c := code_ref06_Read) (args := [a0, a1, a2]) (rs := rs_ref06_Read) (N := 114) TryM.mixed (by kernel_rfl) Try.func35 (by kernel_rfl) (by kernel_rfl) (by kernel_rfl) (of_decide_eq_true (by kernel_rfl)) (by kernel_rfl) ?_
  exact (ref06_Read_p29_ok (retQ pg rs_ref06_Read R) (envOf [a0, a1, a2]) w R (fun _ _ h => h) h)
-- PIECES ref06_Read/0 ref06_Read_p1 ref06_Read_p25 ref06_Read_p26 ref06_Read_p27 ref06_Read_p28 ref06_Read_p29
-- PIECES ref06_Read/1 ref06_Read_p2 ref06_Read_p15 ref06_Read_p16 ref06_Read_p17 ref06_Read_p18 ref06_Read_p19 ref06_Read_p20 ref06_Read_p21 ref06_Read_p22 ref06_Read_p23 ref06_Read_p24
-- PIECES ref06_Read/2 ref06_Read_p3 ref06_Read_p5 ref06_Read_p6 ref06_Read_p7 ref06_Read_p8 ref06_Read_p9 ref06_Read_p10 ref06_Read_p11 ref06_Read_p12 ref06_Read_p13 ref06_Read_p14
-- PIECES ref06_Read/3 ref06_Read_p4

/- lighterman/lightermanref06.Same -/
def ann_ref06_Same : FA := ⟨F_ref06_Same, fun i => match Nat.beq i 6 with | true => .leaf ([], []) [(false, []), (false, []), (false, []), (false, []), (false, []), (false, []), (false, []), (false, []), (false, []), (false, []), (false, [])] | false => .leaf ([], []) []⟩
def rs_ref06_Same : List ResultVar := [.tmp 4]
noncomputable def code_ref06_Same : Code := bodyOf Try.f36
def ref06_Same_p1 (R : K1)  (w : World) : Prop :=
  R (.bool true) w
theorem ref06_Same_p1_ok (R : K1) (hr : HR rs_ref06_Same R Q) (h : ref06_Same_p1 R w) : den pg ann_ref06_Same (dropS 1 (dropS 2 code_ref06_Same)) Q g w :=
  den_exQ (kn := no) (l := []) (by kernel_rfl) h noE hr trivial

def ref06_Same_p2 (kn : K3) (k0 : K0) (R : K1) (a_2 b_3 i_5 : Value) (w : World) : Prop :=
  Stp pg (sFAddr 37 a_2 1) w fun t21 w =>
  Stp pg (sLoad 22 t21) w fun t22 w =>
  Stp pg (sBi .len #[22] 3 [t22]) w fun t23 w =>
  Stp pg (sBin .lss 3 (.tmp 20) (.tmp 23) i_5 t23) w fun t24 w =>
  Cnd t24
    (Stp pg (sFAddr 37 a_2 1) (dr w) fun t27 w_ => w_ = (dr w) ∧
    Stp pg (sLoad 22 t27) (dr w) fun t28 w_ => w_ = (dr w) ∧
    (dr w) = (dr w) ∧
    Stp pg (sIAddr 22 t28 i_5) (dr w) fun t30 w_ => w_ = (dr w) ∧
    Stp pg (sLoad 3 t30) (dr w) fun t31 w_ => w_ = (dr w) ∧
    Stp pg (sFAddr 37 b_3 1) (dr w) fun t32 w_ => w_ = (dr w) ∧
    Stp pg (sLoad 22 t32) (dr w) fun t33 w_ => w_ = (dr w) ∧
    (dr w) = (dr w) ∧
    Stp pg (sIAddr 22 t33 i_5) (dr w) fun t35 w_ => w_ = (dr w) ∧
    Stp pg (sLoad 3 t35) (dr w) fun t36 w_ => w_ = (dr w) ∧
    Stp pg (sBin .neq 3 (.tmp 31) (.tmp 36) t31 t36) (dr w) fun t37 w_ => w_ = (dr w) ∧
    Cnd t37
      (R (.bool false) (dr w))
      (Stp pg (sBin .add 3 (.tmp 25) (.const (.int .i64 1)) i_5 (.int .i64 1)) (dr w) fun t26 w =>
      kn a_2 b_3 t26 w))
    (k0 w)
theorem ref06_Same_p2_ok (kn : K3) (k0 : K0) (R : K1) (hn : ∀ g w, kn (g 2) (g 3) (g 5) w → Q .normal g w) (h0 : ∀ g w, k0 w → Q (.exit 0) g w) (hr : HR rs_ref06_Same R Q) (h : ref06_Same_p2 kn k0 R (g 2) (g 3) (g 5) w) : den pg ann_ref06_Same (bI (bI (dropS 1 (takeS 1 (dropS 2 code_ref06_Same))))) Q g w :=
  den_exQ (l := [(0, fun g w => k0 w)]) (by kernel_rfl) h hn hr ⟨h0, trivial⟩

def ref06_Same_p3 (k0 : K0) (R : K1) (a_2 b_3 i_5 : Value) (w : World) : Prop :=
  LoopD (fun (X : Value → K0) (t : Value) (w : World) => ref06_Same_p2 (fun _ _ i_5 w => X i_5 w) k0 R a_2 b_3 t w) i_5 w
theorem ref06_Same_p3_ok (k0 : K0) (R : K1) (h0 : ∀ g w, k0 w → Q (.exit 0) g w) (hr : HR rs_ref06_Same R Q) (h : ref06_Same_p3 k0 R (g 2) (g 3) (g 5) w) : den pg ann_ref06_Same (bI (dropS 1 (takeS 1 (dropS 2 code_ref06_Same)))) Q g w := by
  refine den_loops (T := Value) (fun g : Env => g 5) (fun X t w => ref06_Same_p2 (fun _ _ i_5 w => X i_5 w) k0 R (g 2) (g 3) t w) _ (by kernel_rfl) h (fun X g1 w1 ha h1 => ?_)
  rw [← agree_at (s := 2) ha (by kernel_rfl)] at h1
  rw [← agree_at (s := 3) ha (by kernel_rfl)] at h1
  exact (ref06_Same_p2_ok (thenE (fun g2 w2 => X ((fun g : Env => g 5) g2) w2) Q) g1 w1 (fun _ _ i_5 w => X i_5 w) k0 R (fun _ _ h => h) h0 hr h1)

def ref06_Same_p4 (kn : K0) (R : K1) (a_2 b_3 i_5 : Value) (w : World) : Prop :=
  ref06_Same_p3 kn R a_2 b_3 i_5 w
theorem ref06_Same_p4_ok (kn : K0) (R : K1) (hn : ∀ g w, kn w → Q .normal g w) (hr : HR rs_ref06_Same R Q) (h : ref06_Same_p4 kn R (g 2) (g 3) (g 5) w) : den pg ann_ref06_Same (dropS 1 (takeS 1 (dropS 2 code_ref06_Same))) Q g w :=
  den_blk 0 _ g w (by kernel_rfl) (ref06_Same_p3_ok (blk 0 Q) g w kn R hn hr h)

def ref06_Same_p5 (kn : K3) (a_2 b_3 : Value) (w : World) : Prop :=
  kn a_2 b_3 (.int .i64 0) w
theorem ref06_Same_p5_ok (kn : K3) (hn : ∀ g w, kn (g 2) (g 3) (g 5) w → Q .normal g w) (h : ref06_Same_p5 kn (g 2) (g 3) w) : den pg ann_ref06_Same (takeS 1 (takeS 1 (dropS 2 code_ref06_Same))) Q g w :=
  den_exQ (kr := no) (l := []) (by kernel_rfl) h hn noE trivial

def ref06_Same_p6 (kn : K0) (R : K1) (a_2 b_3 : Value) (w : World) : Prop :=
  ref06_Same_p5 (fun a_2 b_3 i_5 w => ref06_Same_p4 kn R a_2 b_3 i_5 w) a_2 b_3 w
theorem ref06_Same_p6_ok (kn : K0) (R : K1) (hn : ∀ g w, kn w → Q .normal g w) (hr : HR rs_ref06_Same R Q) (h : ref06_Same_p6 kn R (g 2) (g 3) w) : den pg ann_ref06_Same (takeS 1 (dropS 2 code_ref06_Same)) Q g w :=
  den_seqs 1 _ g w (by kernel_rfl) (ref06_Same_p5_ok (thenE (fun g w => den pg ann_ref06_Same (dropS 1 (takeS 1 (dropS 2 code_ref06_Same))) Q g w) Q) g w (fun a_2 b_3 i_5 w => ref06_Same_p4 kn R a_2 b_3 i_5 w) (fun g w h => thenE_n (K := fun g w => den pg ann_ref06_Same (dropS 1 (takeS 1 (dropS 2 code_ref06_Same))) Q g w) (ref06_Same_p4_ok Q g w kn R hn hr h)) h)

def ref06_Same_p7 (R : K1) (a_2 b_3 : Value) (w : World) : Prop :=
  ref06_Same_p6 (fun  w => ref06_Same_p1 R w) R a_2 b_3 w
theorem ref06_Same_p7_ok (R : K1) (hr : HR rs_ref06_Same R Q) (h : ref06_Same_p7 R (g 2) (g 3) w) : den pg ann_ref06_Same (dropS 2 code_ref06_Same) Q g w :=
  den_seqs 1 _ g w (by kernel_rfl) (ref06_Same_p6_ok (thenE (fun g w => den pg ann_ref06_Same (dropS 1 (dropS 2 code_ref06_Same)) Q g w) Q) g w (fun  w => ref06_Same_p1 R w) R (fun g w h => thenE_n (K := fun g w => den pg ann_ref06_Same (dropS 1 (dropS 2 code_ref06_Same)) Q g w) (ref06_Same_p1_ok Q g w R hr h)) hr h)

def ref06_Same_p8 (kn : K2) (R : K1) (a_0 b_1 : Value) (w : World) : Prop :=
  Stp pg (sBox 37 a_0) w fun a_2 w =>
  Stp pg (sBox 37 b_1) w fun b_3 w =>
  Stp pg (sFAddr 37 a_2 0) w fun t6 w =>
  Stp pg (sLoad 3 t6) w fun t7 w =>
  Stp pg (sFAddr 37 b_3 0) w fun t8 w =>
  Stp pg (sLoad 3 t8) w fun t9 w =>
  Stp pg (sBin .neq 3 (.tmp 7) (.tmp 9) t7 t9) w fun t10 w =>
  Gd (isB t10 false) (fun K => Stp pg (sFAddr 37 a_2 1) w K) w fun t12 w =>
  Gd (isB t10 false) (fun K => Stp pg (sLoad 22 t12) w K) w fun t13 w =>
  Gd (isB t10 false) (fun K => Stp pg (sBi .len #[22] 3 [t13]) w K) w fun t14 w =>
  Gd (isB t10 false) (fun K => Stp pg (sFAddr 37 b_3 1) w K) w fun t15 w =>
  Gd (isB t10 false) (fun K => Stp pg (sLoad 22 t15) w K) w fun t16 w =>
  Gd (isB t10 false) (fun K => Stp pg (sBi .len #[22] 3 [t16]) w K) w fun t17 w =>
  Gd (isB t10 false) (fun K => Stp pg (sBin .neq 3 (.tmp 14) (.tmp 17) t14 t17) w K) w fun t18 w =>
  Stp pg (sPick t10 (.bool true) t18) w fun t19 w =>
  Cnd t19
    (R (.bool false) w)
    (kn a_2 b_3 w)
theorem ref06_Same_p8_ok (kn : K2) (R : K1) (hn : ∀ g w, kn (g 2) (g 3) w → Q .normal g w) (hr : HR rs_ref06_Same R Q) (h : ref06_Same_p8 kn R (g 0) (g 1) w) : den pg ann_ref06_Same (takeS 2 code_ref06_Same) Q g w :=
  den_exQ (l := []) (by kernel_rfl) h hn hr trivial

def ref06_Same_p9 (R : K1) (a_0 b_1 : Value) (w : World) : Prop :=
  ref06_Same_p8 (fun a_2 b_3 w => ref06_Same_p7 R a_2 b_3 w) R a_0 b_1 w
theorem ref06_Same_p9_ok (R : K1) (hr : HR rs_ref06_Same R Q) (h : ref06_Same_p9 R (g 0) (g 1) w) : den pg ann_ref06_Same code_ref06_Same Q g w :=
  den_seqs 2 _ g w (by kernel_rfl) (ref06_Same_p8_ok (thenE (fun g w => den pg ann_ref06_Same (dropS 2 code_ref06_Same) Q g w) Q) g w (fun a_2 b_3 w => ref06_Same_p7 R a_2 b_3 w) R (fun g w h => thenE_n (K := fun g w => den pg ann_ref06_Same (dropS 2 code_ref06_Same) Q g w) (ref06_Same_p7_ok Q g w R hr h)) hr h)

def ref06_Same (a0 a1 : Value) (w : World) (R : K1) : Prop :=
  ref06_Same_p9 R a0 a1 w
theorem ref06_Same_does {a0 a1 : Value} {w : World} {R : K1} (h : ref06_Same a0 a1 w R) : Does pg F_ref06_Same #[a0, a1] w R := by
  refine does_of_den (ann := ann_ref06_Same) (fn := Try.f36) (c := code_ref06_Same) (args := [a0, a1]) (rs := rs_ref06_Same) (N := 38) TryM.mixed (by kernel_rfl) Try.func36 (by kernel_rfl) (by kernel_rfl) (by kernel_rfl) (of_decide_eq_true (by kernel_rfl)) (by kernel_rfl) ?_
  exact (ref06_Same_p9_ok (retQ pg rs_ref06_Same R) (envOf [a0, a1]) w R (fun _ _ h => h) h)
-- PIECES ref06_Same/0 ref06_Same_p1 ref06_Same_p3 ref06_Same_p4 ref06_Same_p5 ref06_Same_p6 ref06_Same_p7 ref06_Same_p8 ref06_Same_p9
-- PIECES ref06_Same/1 ref06_Same_p2

/- lighterman/lightermanlaw06.modelOf -/
def ann_law06_modelOf : FA := ⟨F_law06_modelOf, fun i => .leaf ([], []) []⟩
def rs_law06_modelOf : List ResultVar := [.cell 2 37]
noncomputable def code_law06_modelOf : Code := bodyOf Try.f37
def law06_modelOf_p1 (R : K1) (c_0 : Value) (w : World) : Prop :=
  Stp pg (sBox 24 c_0) w fun c_1 w =>
  Stp pg (sAlloc 37) w fun t2 w =>
  Stp pg (sFAddr 24 c_1 0) w fun t3 w =>
  Stp pg (sLoad 3 t3) w fun t4 w =>
  Stp pg (sFAddr 24 c_1 1) w fun t5 w =>
  Stp pg (sLoad 22 t5) w fun t6 w =>
  Stp pg (sBuild 37 [(0, t4), (1, t6)]) w fun t7 w =>
  Stp pg (sStore 37 t2 t7) w fun _u w =>
  LdR pg 37 t2 w fun r0 => R r0 w
theorem law06_modelOf_p1_ok (R : K1) (hr : HR rs_law06_modelOf R Q) (h : law06_modelOf_p1 R (g 0) w) : den pg ann_law06_modelOf code_law06_modelOf Q g w :=
  den_exQ (kn := no) (l := []) (by kernel_rfl) h noE hr trivial

def law06_modelOf (a0 : Value) (w : World) (R : K1) : Prop :=
  law06_modelOf_p1 R a0 w
theorem law06_modelOf_does {a0 : Value} {w : World} {R : K1} (h : law06_modelOf a0 w R) : Does pg F_law06_modelOf #[a0] w R := by
  refine does_of_den (ann := ann_law06_modelOf) (fn := Try.f37) (c := code_law06_modelOf) (args := [a0]) (rs := rs_law06_modelOf) (N := 8) TryM.mixed (by kernel_rfl) Try.func37 (by kernel_rfl) (by kernel_rfl) (by kernel_rfl) (of_decide_eq_true (by kernel_rfl)) (by kernel_rfl) ?_
  exact (law06_modelOf_p1_ok (retQ pg rs_law06_modelOf R) (envOf [a0]) w R (fun _ _ h => h) h)
-- PIECES law06_modelOf/0 law06_modelOf_p1

/- lighterman/normal.Write -/
def ann_normal_Write : FA := ⟨F_normal_Write, fun i => .leaf ([], []) []⟩
def rs_normal_Write : List ResultVar := [.tmp 2, .tmp 3]
noncomputable def code_normal_Write : Code := bodyOf Try.f39
def normal_Write_p1 (R : K1) (w_4 : Value) (w : World) : Prop :=
  Does pg F_bits_Writer_Out #[w_4] w fun t107 w =>
  R (.tuple #[t107, (.int .i64 0)]) w
theorem normal_Write_p1_ok (R : K1) (hr : HR rs_normal_Write R Q) (h : normal_Write_p1 R (g 4) w) : den pg ann_normal_Write (dropS 1 (dropS 5 code_normal_Write)) Q g w :=
  den_exQ (kn := no) (l := []) (by kernel_rfl) h noE hr trivial

def normal_Write_p2 (kn : K4) (c_1 w_4 left_5 i_6 : Value) (w : World) : Prop :=
  Stp pg (sBin .add 3 (.tmp 30) (.const (.int .i64 1)) i_6 (.int .i64 1)) w fun t31 w =>
  kn c_1 w_4 left_5 t31 w
theorem normal_Write_p2_ok (kn : K4) (hn : ∀ g w, kn (g 1) (g 4) (g 5) (g 6) w → Q .normal g w) (h : normal_Write_p2 kn (g 1) (g 4) (g 5) (g 6) w) : den pg ann_normal_Write (dropS 1 (dropS 1 (bI (bI (dropS 1 (takeS 1 (dropS 5 code_normal_Write))))))) Q g w :=
  den_exQ (kr := no) (l := []) (by kernel_rfl) h hn noE trivial

def normal_Write_p3 (kn : K4) (c_1 w_4 left_5 i_6 run_11 : Value) (w : World) : Prop :=
  Stp pg (sCvt 3 45 run_11) w fun t104 w =>
  Does pg F_bits_Writer_Write #[w_4, t104, (.int .i64 2)] w fun t105 w =>
  kn c_1 w_4 left_5 i_6 w
theorem normal_Write_p3_ok (kn : K4) (hn : ∀ g w, kn (g 1) (g 4) (g 5) (g 6) w → Q .normal g w) (h : normal_Write_p3 kn (g 1) (g 4) (g 5) (g 6) (g 11) w) : den pg ann_normal_Write (dropS 1 (dropS 1 (dropS 1 (dropS 3 (dropS 5 (bI (takeS 1 (dropS 1 (bI (bI (dropS 1 (takeS 1 (dropS 5 code_normal_Write))))))))))))) Q g w :=
  den_exQ (kr := no) (l := []) (by kernel_rfl) h hn noE trivial

def normal_Write_p4 (kn : K5) (k5 : K5) (c_1 w_4 left_5 i_6 run_11 : Value) (w : World) : Prop :=
  Stp pg (sBin .geq 3 (.tmp 96) (.const (.int .i64 3)) run_11 (.int .i64 3)) w fun t97 w =>
  Cnd t97
    (Does pg F_bits_Writer_Write #[w_4, (.int .u64 3), (.int .i64 2)] w fun t101 w =>
    Stp pg (sBin .sub 3 (.tmp 98) (.const (.int .i64 3)) run_11 (.int .i64 3)) w fun t99 w =>
    kn c_1 w_4 left_5 i_6 t99 w)
    (k5 c_1 w_4 left_5 i_6 run_11 w)
theorem normal_Write_p4_ok (kn : K5) (k5 : K5) (hn : ∀ g w, kn (g 1) (g 4) (g 5) (g 6) (g 11) w → Q .normal g w) (h5 : ∀ g w, k5 (g 1) (g 4) (g 5) (g 6) (g 11) w → Q (.exit 5) g w) (h : normal_Write_p4 kn k5 (g 1) (g 4) (g 5) (g 6) (g 11) w) : den pg ann_normal_Write (bI (bI (takeS 1 (dropS 1 (dropS 1 (dropS 3 (dropS 5 (bI (takeS 1 (dropS 1 (bI (bI (dropS 1 (takeS 1 (dropS 5 code_normal_Write))))))))))))))) Q g w :=
  den_exQ (kr := no) (l := [(5, fun g w => k5 (g 1) (g 4) (g 5) (g 6) (g 11) w)]) (by kernel_rfl) h hn noE ⟨h5, trivial⟩

def normal_Write_p5 (k5 : K5) (c_1 w_4 left_5 i_6 run_11 : Value) (w : World) : Prop :=
  LoopD (fun (X : Value → K0) (t : Value) (w : World) => normal_Write_p4 (fun _ _ _ _ run_11 w => X run_11 w) k5 c_1 w_4 left_5 i_6 t w) run_11 w
theorem normal_Write_p5_ok (k5 : K5) (h5 : ∀ g w, k5 (g 1) (g 4) (g 5) (g 6) (g 11) w → Q (.exit 5) g w) (h : normal_Write_p5 k5 (g 1) (g 4) (g 5) (g 6) (g 11) w) : den pg ann_normal_Write (bI (takeS 1 (dropS 1 (dropS 1 (dropS 3 (dropS 5 (bI (takeS 1 (dropS 1 (bI (bI (dropS 1 (takeS 1 (dropS 5 code_normal_Write)))))))))))))) Q g w := by
  refine den_loops (T := Value) (fun g : Env => g 11) (fun X t w => normal_Write_p4 (fun _ _ _ _ run_11 w => X run_11 w) k5 (g 1) (g 4) (g 5) (g 6) t w) _ (by kernel_rfl) h (fun X g1 w1 ha h1 => ?_)
  rw [← agree_at (s := 1) ha (by kernel_rfl)] at h1
  rw [← agree_at (s := 4) ha (by kernel_rfl)] at h1
  rw [← agree_at (s := 5) ha (by kernel_rfl)] at h1
  rw [← agree_at (s := 6) ha (by kernel_rfl)] at h1
  exact (normal_Write_p4_ok (thenE (fun g2 w2 => X ((fun g : Env => g 11) g2) w2) Q) g1 w1 (fun _ _ _ _ run_11 w => X run_11 w) k5 (fun _ _ h => h) h5 h1)

def normal_Write_p6 (kn : K5) (c_1 w_4 left_5 i_6 run_11 : Value) (w : World) : Prop :=
  normal_Write_p5 kn c_1 w_4 left_5 i_6 run_11 w
theorem normal_Write_p6_ok (kn : K5) (hn : ∀ g w, kn (g 1) (g 4) (g 5) (g 6) (g 11) w → Q .normal g w) (h : normal_Write_p6 kn (g 1) (g 4) (g 5) (g 6) (g 11) w) : den pg ann_normal_Write (takeS 1 (dropS 1 (dropS 1 (dropS 3 (dropS 5 (bI (takeS 1 (dropS 1 (bI (bI (dropS 1 (takeS 1 (dropS 5 code_normal_Write))))))))))))) Q g w :=
  den_blk 5 _ g w (by kernel_rfl) (normal_Write_p5_ok (blk 5 Q) g w kn hn h)

def normal_Write_p7 (kn : K4) (c_1 w_4 left_5 i_6 run_11 : Value) (w : World) : Prop :=
  normal_Write_p6 (fun c_1 w_4 left_5 i_6 run_11 w => normal_Write_p3 kn c_1 w_4 left_5 i_6 run_11 w) c_1 w_4 left_5 i_6 run_11 w
theorem normal_Write_p7_ok (kn : K4) (hn : ∀ g w, kn (g 1) (g 4) (g 5) (g 6) w → Q .normal g w) (h : normal_Write_p7 kn (g 1) (g 4) (g 5) (g 6) (g 11) w) : den pg ann_normal_Write (dropS 1 (dropS 1 (dropS 3 (dropS 5 (bI (takeS 1 (dropS 1 (bI (bI (dropS 1 (takeS 1 (dropS 5 code_normal_Write)))))))))))) Q g w :=
  den_seqs 1 _ g w (by kernel_rfl) (normal_Write_p6_ok (thenE (fun g w => den pg ann_normal_Write (dropS 1 (dropS 1 (dropS 1 (dropS 3 (dropS 5 (bI (takeS 1 (dropS 1 (bI (bI (dropS 1 (takeS 1 (dropS 5 code_normal_Write))))))))))))) Q g w) Q) g w (fun c_1 w_4 left_5 i_6 run_11 w => normal_Write_p3 kn c_1 w_4 left_5 i_6 run_11 w) (fun g w h => thenE_n (K := fun g w => den pg ann_normal_Write (dropS 1 (dropS 1 (dropS 1 (dropS 3 (dropS 5 (bI (takeS 1 (dropS 1 (bI (bI (dropS 1 (takeS 1 (dropS 5 code_normal_Write))))))))))))) Q g w) (normal_Write_p3_ok Q g w kn hn h)) h)

def normal_Write_p8 (kn : K5) (c_1 w_4 left_5 i_6 run_11 : Value) (w : World) : Prop :=
  Stp pg (sBin .add 3 (.tmp 93) (.tmp 94) i_6 run_11) w fun t95 w =>
  kn c_1 w_4 left_5 t95 run_11 w
theorem normal_Write_p8_ok (kn : K5) (hn : ∀ g w, kn (g 1) (g 4) (g 5) (g 6) (g 11) w → Q .normal g w) (h : normal_Write_p8 kn (g 1) (g 4) (g 5) (g 6) (g 11) w) : den pg ann_normal_Write (takeS 1 (dropS 1 (dropS 3 (dropS 5 (bI (takeS 1 (dropS 1 (bI (bI (dropS 1 (takeS 1 (dropS 5 code_normal_Write)))))))))))) Q g w :=
  den_exQ (kr := no) (l := []) (by kernel_rfl) h hn noE trivial

def normal_Write_p9 (kn : K4) (c_1 w_4 left_5 i_6 run_11 : Value) (w : World) : Prop :=
  normal_Write_p8 (fun c_1 w_4 left_5 i_6 run_11 w => normal_Write_p7 kn c_1 w_4 left_5 i_6 run_11 w) c_1 w_4 left_5 i_6 run_11 w
theorem normal_Write_p9_ok (kn : K4) (hn : ∀ g w, kn (g 1) (g 4) (g 5) (g 6) w → Q .normal g w) (h : normal_Write_p9 kn (g 1) (g 4) (g 5) (g 6) (g 11) w) : den pg ann_normal_Write (dropS 1 (dropS 3 (dropS 5 (bI (takeS 1 (dropS 1 (bI (bI (dropS 1 (takeS 1 (dropS 5 code_normal_Write))))))))))) Q g w :=
  den_seqs 1 _ g w (by kernel_rfl) (normal_Write_p8_ok (thenE (fun g w => den pg ann_normal_Write (dropS 1 (dropS 1 (dropS 3 (dropS 5 (bI (takeS 1 (dropS 1 (bI (bI (dropS 1 (takeS 1 (dropS 5 code_normal_Write)))))))))))) Q g w) Q) g w (fun c_1 w_4 left_5 i_6 run_11 w => normal_Write_p7 kn c_1 w_4 left_5 i_6 run_11 w) (fun g w h => thenE_n (K := fun g w => den pg ann_normal_Write (dropS 1 (dropS 1 (dropS 3 (dropS 5 (bI (takeS 1 (dropS 1 (bI (bI (dropS 1 (takeS 1 (dropS 5 code_normal_Write)))))))))))) Q g w) (normal_Write_p7_ok Q g w kn hn h)) h)

def normal_Write_p10 (kn : K5) (k3 : K5) (c_1 w_4 left_5 i_6 run_11 : Value) (w : World) : Prop :=
  Stp pg (sFAddr 24 c_1 1) w fun t82 w =>
  Stp pg (sLoad 22 t82) w fun t83 w =>
  Stp pg (sBin .add 3 (.tmp 84) (.const (.int .i64 1)) i_6 (.int .i64 1)) w fun t85 w =>
  Stp pg (sBin .add 3 (.tmp 85) (.tmp 86) t85 run_11) w fun t87 w =>
  Stp pg (sIAddr 22 t83 t87) w fun t88 w =>
  Stp pg (sLoad 3 t88) w fun t89 w =>
  Stp pg (sBin .eql 3 (.tmp 89) (.const (.int .i64 0)) t89 (.int .i64 0)) w fun t90 w =>
  Cnd t90
    (Stp pg (sBin .add 3 (.tmp 91) (.const (.int .i64 1)) run_11 (.int .i64 1)) w fun t92 w =>
    kn c_1 w_4 left_5 i_6 t92 w)
    (k3 c_1 w_4 left_5 i_6 run_11 w)
theorem normal_Write_p10_ok (kn : K5) (k3 : K5) (hn : ∀ g w, kn (g 1) (g 4) (g 5) (g 6) (g 11) w → Q .normal g w) (h3 : ∀ g w, k3 (g 1) (g 4) (g 5) (g 6) (g 11) w → Q (.exit 3) g w) (h : normal_Write_p10 kn k3 (g 1) (g 4) (g 5) (g 6) (g 11) w) : den pg ann_normal_Write (bI (bI (takeS 1 (dropS 3 (dropS 5 (bI (takeS 1 (dropS 1 (bI (bI (dropS 1 (takeS 1 (dropS 5 code_normal_Write))))))))))))) Q g w :=
  den_exQ (kr := no) (l := [(3, fun g w => k3 (g 1) (g 4) (g 5) (g 6) (g 11) w)]) (by kernel_rfl) h hn noE ⟨h3, trivial⟩

def normal_Write_p11 (k3 : K5) (c_1 w_4 left_5 i_6 run_11 : Value) (w : World) : Prop :=
  LoopD (fun (X : Value → K0) (t : Value) (w : World) => normal_Write_p10 (fun _ _ _ _ run_11 w => X run_11 w) k3 c_1 w_4 left_5 i_6 t w) run_11 w
theorem normal_Write_p11_ok (k3 : K5) (h3 : ∀ g w, k3 (g 1) (g 4) (g 5) (g 6) (g 11) w → Q (.exit 3) g w) (h : normal_Write_p11 k3 (g 1) (g 4) (g 5) (g 6) (g 11) w) : den pg ann_normal_Write (bI (takeS 1 (dropS 3 (dropS 5 (bI (takeS 1 (dropS 1 (bI (bI (dropS 1 (takeS 1 (dropS 5 code_normal_Write)))))))))))) Q g w := by
  refine den_loops (T := Value) (fun g : Env => g 11) (fun X t w => normal_Write_p10 (fun _ _ _ _ run_11 w => X run_11 w) k3 (g 1) (g 4) (g 5) (g 6) t w) _ (by kernel_rfl) h (fun X g1 w1 ha h1 => ?_)
  rw [← agree_at (s := 1) ha (by kernel_rfl)] at h1
  rw [← agree_at (s := 4) ha (by kernel_rfl)] at h1
  rw [← agree_at (s := 5) ha (by kernel_rfl)] at h1
  rw [← agree_at (s := 6) ha (by kernel_rfl)] at h1
  exact (normal_Write_p10_ok (thenE (fun g2 w2 => X ((fun g : Env => g 11) g2) w2) Q) g1 w1 (fun _ _ _ _ run_11 w => X run_11 w) k3 (fun _ _ h => h) h3 h1)

def normal_Write_p12 (kn : K5) (c_1 w_4 left_5 i_6 run_11 : Value) (w : World) : Prop :=
  normal_Write_p11 kn c_1 w_4 left_5 i_6 run_11 w
theorem normal_Write_p12_ok (kn : K5) (hn : ∀ g w, kn (g 1) (g 4) (g 5) (g 6) (g 11) w → Q .normal g w) (h : normal_Write_p12 kn (g 1) (g 4) (g 5) (g 6) (g 11) w) : den pg ann_normal_Write (takeS 1 (dropS 3 (dropS 5 (bI (takeS 1 (dropS 1 (bI (bI (dropS 1 (takeS 1 (dropS 5 code_normal_Write))))))))))) Q g w :=
  den_blk 3 _ g w (by kernel_rfl) (normal_Write_p11_ok (blk 3 Q) g w kn hn h)

def normal_Write_p13 (kn : K4) (c_1 w_4 left_5 i_6 run_11 : Value) (w : World) : Prop :=
  normal_Write_p12 (fun c_1 w_4 left_5 i_6 run_11 w => normal_Write_p9 kn c_1 w_4 left_5 i_6 run_11 w) c_1 w_4 left_5 i_6 run_11 w
theorem normal_Write_p13_ok (kn : K4) (hn : ∀ g w, kn (g 1) (g 4) (g 5) (g 6) w → Q .normal g w) (h : normal_Write_p13 kn (g 1) (g 4) (g 5) (g 6) (g 11) w) : den pg ann_normal_Write (dropS 3 (dropS 5 (bI (takeS 1 (dropS 1 (bI (bI (dropS 1 (takeS 1 (dropS 5 code_normal_Write)))))))))) Q g w :=
  den_seqs 1 _ g w (by kernel_rfl) (normal_Write_p12_ok (thenE (fun g w => den pg ann_normal_Write (dropS 1 (dropS 3 (dropS 5 (bI (takeS 1 (dropS 1 (bI (bI (dropS 1 (takeS 1 (dropS 5 code_normal_Write))))))))))) Q g w) Q) g w (fun c_1 w_4 left_5 i_6 run_11 w => normal_Write_p9 kn c_1 w_4 left_5 i_6 run_11 w) (fun g w h => thenE_n (K := fun g w => den pg ann_normal_Write (dropS 1 (dropS 3 (dropS 5 (bI (takeS 1 (dropS 1 (bI (bI (dropS 1 (takeS 1 (dropS 5 code_normal_Write))))))))))) Q g w) (normal_Write_p9_ok Q g w kn hn h)) h)

def normal_Write_p14 (kn : K5) (k1 : K4) (c_1 w_4 left_5 i_6 p_7 : Value) (w : World) : Prop :=
  Does pg F_normal_parts #[p_7] w fun t78 w =>
  Stp pg (sBin .sub 3 (.tmp 76) (.tmp 78) left_5 t78) w fun t79 w =>
  Stp pg (sBin .neq 3 (.tmp 80) (.const (.int .i64 0)) p_7 (.int .i64 0)) w fun t81 w =>
  Cnd t81
    (k1 c_1 w_4 t79 i_6 w)
    (kn c_1 w_4 t79 i_6 (.int .i64 0) w)
theorem normal_Write_p14_ok (kn : K5) (k1 : K4) (hn : ∀ g w, kn (g 1) (g 4) (g 5) (g 6) (g 11) w → Q .normal g w) (h1 : ∀ g w, k1 (g 1) (g 4) (g 5) (g 6) w → Q (.exit 1) g w) (h : normal_Write_p14 kn k1 (g 1) (g 4) (g 5) (g 6) (g 7) w) : den pg ann_normal_Write (takeS 3 (dropS 5 (bI (takeS 1 (dropS 1 (bI (bI (dropS 1 (takeS 1 (dropS 5 code_normal_Write)))))))))) Q g w :=
  den_exQ (kr := no) (l := [(1, fun g w => k1 (g 1) (g 4) (g 5) (g 6) w)]) (by kernel_rfl) h hn noE ⟨h1, trivial⟩

def normal_Write_p15 (kn : K4) (k1 : K4) (c_1 w_4 left_5 i_6 p_7 : Value) (w : World) : Prop :=
  normal_Write_p14 (fun c_1 w_4 left_5 i_6 run_11 w => normal_Write_p13 kn c_1 w_4 left_5 i_6 run_11 w) k1 c_1 w_4 left_5 i_6 p_7 w
theorem normal_Write_p15_ok (kn : K4) (k1 : K4) (hn : ∀ g w, kn (g 1) (g 4) (g 5) (g 6) w → Q .normal g w) (h1 : ∀ g w, k1 (g 1) (g 4) (g 5) (g 6) w → Q (.exit 1) g w) (h : normal_Write_p15 kn k1 (g 1) (g 4) (g 5) (g 6) (g 7) w) : den pg ann_normal_Write (dropS 5 (bI (takeS 1 (dropS 1 (bI (bI (dropS 1 (takeS 1 (dropS 5 code_normal_Write))))))))) Q g w :=
  den_seqs 3 _ g w (by kernel_rfl) (normal_Write_p14_ok (thenE (fun g w => den pg ann_normal_Write (dropS 3 (dropS 5 (bI (takeS 1 (dropS 1 (bI (bI (dropS 1 (takeS 1 (dropS 5 code_normal_Write)))))))))) Q g w) Q) g w (fun c_1 w_4 left_5 i_6 run_11 w => normal_Write_p13 kn c_1 w_4 left_5 i_6 run_11 w) k1 (fun g w h => thenE_n (K := fun g w => den pg ann_normal_Write (dropS 3 (dropS 5 (bI (takeS 1 (dropS 1 (bI (bI (dropS 1 (takeS 1 (dropS 5 code_normal_Write)))))))))) Q g w) (normal_Write_p13_ok Q g w kn hn h)) h1 h)

def normal_Write_p16 (kn : K5) (c_1 w_4 left_5 i_6 : Value) (w : World) : Prop :=
  Stp pg (sFAddr 24 c_1 1) w fun t32 w =>
  Stp pg (sLoad 22 t32) w fun t33 w =>
  Stp pg (sIAddr 22 t33 i_6) w fun t35 w =>
  Stp pg (sLoad 3 t35) w fun t36 w =>
  Stp pg (sBin .add 3 (.tmp 37) (.const (.int .i64 1)) left_5 (.int .i64 1)) w fun t38 w =>
  Stp pg (sCvt 3 50 t38) w fun t39 w =>
  Does pg F_math_bits_Len #[t39] w fun t40 w =>
  Stp pg (sBin .shl 3 (.const (.int .i64 1)) (.tmp 41) (.int .i64 1) t40) w fun t42 w =>
  Stp pg (sBin .sub 3 (.tmp 42) (.const (.int .i64 2)) t42 (.int .i64 2)) w fun t43 w =>
  Stp pg (sBin .sub 3 (.tmp 43) (.tmp 44) t43 left_5) w fun t45 w =>
  Stp pg (sBin .add 3 (.tmp 46) (.const (.int .i64 1)) t36 (.int .i64 1)) w fun t47 w =>
  Stp pg (sBin .lss 3 (.tmp 56) (.tmp 57) t47 t45) w fun t58 w =>
  Cnd t58
    (Stp pg (sCvt 3 45 t47) w fun t61 w =>
    Stp pg (sBin .sub 3 (.tmp 62) (.const (.int .i64 1)) t40 (.int .i64 1)) w fun t63 w =>
    Does pg F_bits_Writer_Write #[w_4, t61, t63] w fun t64 w =>
    kn c_1 w_4 left_5 i_6 t36 w)
    (Stp pg (sBin .sub 3 (.tmp 67) (.const (.int .i64 1)) t40 (.int .i64 1)) w fun t68 w =>
    Stp pg (sBin .shl 3 (.const (.int .i64 1)) (.tmp 68) (.int .i64 1) t68) w fun t69 w =>
    Stp pg (sBin .lss 3 (.tmp 66) (.tmp 69) t47 t69) w fun t70 w =>
    Cnd t70
      (Stp pg (sCvt 3 45 t47) w fun t73 w =>
      Does pg F_bits_Writer_Write #[w_4, t73, t40] w fun t75 w =>
      kn c_1 w_4 left_5 i_6 t36 w)
      (Stp pg (sBin .add 3 (.tmp 49) (.tmp 50) t47 t45) w fun t51 w =>
      Stp pg (sCvt 3 45 t51) w fun t52 w =>
      Does pg F_bits_Writer_Write #[w_4, t52, t40] w fun t54 w =>
      kn c_1 w_4 left_5 i_6 t36 w))
theorem normal_Write_p16_ok (kn : K5) (hn : ∀ g w, kn (g 1) (g 4) (g 5) (g 6) (g 7) w → Q .normal g w) (h : normal_Write_p16 kn (g 1) (g 4) (g 5) (g 6) w) : den pg ann_normal_Write (takeS 5 (bI (takeS 1 (dropS 1 (bI (bI (dropS 1 (takeS 1 (dropS 5 code_normal_Write))))))))) Q g w :=
  den_exQ (kr := no) (l := []) (by kernel_rfl) h hn noE trivial

def normal_Write_p17 (kn : K4) (k1 : K4) (c_1 w_4 left_5 i_6 : Value) (w : World) : Prop :=
  normal_Write_p16 (fun c_1 w_4 left_5 i_6 p_7 w => normal_Write_p15 kn k1 c_1 w_4 left_5 i_6 p_7 w) c_1 w_4 left_5 i_6 w
theorem normal_Write_p17_ok (kn : K4) (k1 : K4) (hn : ∀ g w, kn (g 1) (g 4) (g 5) (g 6) w → Q .normal g w) (h1 : ∀ g w, k1 (g 1) (g 4) (g 5) (g 6) w → Q (.exit 1) g w) (h : normal_Write_p17 kn k1 (g 1) (g 4) (g 5) (g 6) w) : den pg ann_normal_Write (bI (takeS 1 (dropS 1 (bI (bI (dropS 1 (takeS 1 (dropS 5 code_normal_Write)))))))) Q g w :=
  den_seqs 5 _ g w (by kernel_rfl) (normal_Write_p16_ok (thenE (fun g w => den pg ann_normal_Write (dropS 5 (bI (takeS 1 (dropS 1 (bI (bI (dropS 1 (takeS 1 (dropS 5 code_normal_Write))))))))) Q g w) Q) g w (fun c_1 w_4 left_5 i_6 p_7 w => normal_Write_p15 kn k1 c_1 w_4 left_5 i_6 p_7 w) (fun g w h => thenE_n (K := fun g w => den pg ann_normal_Write (dropS 5 (bI (takeS 1 (dropS 1 (bI (bI (dropS 1 (takeS 1 (dropS 5 code_normal_Write))))))))) Q g w) (normal_Write_p15_ok Q g w kn k1 hn h1 h)) h)

def normal_Write_p18 (kn : K4) (c_1 w_4 left_5 i_6 : Value) (w : World) : Prop :=
  normal_Write_p17 kn kn c_1 w_4 left_5 i_6 w
theorem normal_Write_p18_ok (kn : K4) (hn : ∀ g w, kn (g 1) (g 4) (g 5) (g 6) w → Q .normal g w) (h : normal_Write_p18 kn (g 1) (g 4) (g 5) (g 6) w) : den pg ann_normal_Write (takeS 1 (dropS 1 (bI (bI (dropS 1 (takeS 1 (dropS 5 code_normal_Write))))))) Q g w :=
  den_blk 1 _ g w (by kernel_rfl) (normal_Write_p17_ok (blk 1 Q) g w kn kn hn hn h)

def normal_Write_p19 (kn : K4) (c_1 w_4 left_5 i_6 : Value) (w : World) : Prop :=
  normal_Write_p18 (fun c_1 w_4 left_5 i_6 w => normal_Write_p2 kn c_1 w_4 left_5 i_6 w) c_1 w_4 left_5 i_6 w
theorem normal_Write_p19_ok (kn : K4) (hn : ∀ g w, kn (g 1) (g 4) (g 5) (g 6) w → Q .normal g w) (h : normal_Write_p19 kn (g 1) (g 4) (g 5) (g 6) w) : den pg ann_normal_Write (dropS 1 (bI (bI (dropS 1 (takeS 1 (dropS 5 code_normal_Write)))))) Q g w :=
  den_seqs 1 _ g w (by kernel_rfl) (normal_Write_p18_ok (thenE (fun g w => den pg ann_normal_Write (dropS 1 (dropS 1 (bI (bI (dropS 1 (takeS 1 (dropS 5 code_normal_Write))))))) Q g w) Q) g w (fun c_1 w_4 left_5 i_6 w => normal_Write_p2 kn c_1 w_4 left_5 i_6 w) (fun g w h => thenE_n (K := fun g w => den pg ann_normal_Write (dropS 1 (dropS 1 (bI (bI (dropS 1 (takeS 1 (dropS 5 code_normal_Write))))))) Q g w) (normal_Write_p2_ok Q g w kn hn h)) h)

def normal_Write_p20 (kn : K4) (k0 : K1) (c_1 w_4 left_5 i_6 : Value) (w : World) : Prop :=
  Stp pg (sFAddr 24 c_1 1) w fun t26 w =>
  Stp pg (sLoad 22 t26) w fun t27 w =>
  Stp pg (sBi .len #[22] 3 [t27]) w fun t28 w =>
  Stp pg (sBin .lss 3 (.tmp 25) (.tmp 28) i_6 t28) w fun t29 w =>
  Cnd t29
    (kn c_1 w_4 left_5 i_6 w)
    (k0 w_4 w)
theorem normal_Write_p20_ok (kn : K4) (k0 : K1) (hn : ∀ g w, kn (g 1) (g 4) (g 5) (g 6) w → Q .normal g w) (h0 : ∀ g w, k0 (g 4) w → Q (.exit 0) g w) (h : normal_Write_p20 kn k0 (g 1) (g 4) (g 5) (g 6) w) : den pg ann_normal_Write (takeS 1 (bI (bI (dropS 1 (takeS 1 (dropS 5 code_normal_Write)))))) Q g w :=
  den_exQ (kr := no) (l := [(0, fun g w => k0 (g 4) w)]) (by kernel_rfl) h hn noE ⟨h0, trivial⟩

def normal_Write_p21 (kn : K4) (k0 : K1) (c_1 w_4 left_5 i_6 : Value) (w : World) : Prop :=
  normal_Write_p20 (fun c_1 w_4 left_5 i_6 w => normal_Write_p19 kn c_1 w_4 left_5 i_6 w) k0 c_1 w_4 left_5 i_6 w
theorem normal_Write_p21_ok (kn : K4) (k0 : K1) (hn : ∀ g w, kn (g 1) (g 4) (g 5) (g 6) w → Q .normal g w) (h0 : ∀ g w, k0 (g 4) w → Q (.exit 0) g w) (h : normal_Write_p21 kn k0 (g 1) (g 4) (g 5) (g 6) w) : den pg ann_normal_Write (bI (bI (dropS 1 (takeS 1 (dropS 5 code_normal_Write))))) Q g w :=
  den_seqs 1 _ g w (by kernel_rfl) (normal_Write_p20_ok (thenE (fun g w => den pg ann_normal_Write (dropS 1 (bI (bI (dropS 1 (takeS 1 (dropS 5 code_normal_Write)))))) Q g w) Q) g w (fun c_1 w_4 left_5 i_6 w => normal_Write_p19 kn c_1 w_4 left_5 i_6 w) k0 (fun g w h => thenE_n (K := fun g w => den pg ann_normal_Write (dropS 1 (bI (bI (dropS 1 (takeS 1 (dropS 5 code_normal_Write)))))) Q g w) (normal_Write_p19_ok Q g w kn hn h)) h0 h)

def normal_Write_p22 (k0 : K1) (c_1 w_4 left_5 i_6 : Value) (w : World) : Prop :=
  LoopD (fun (X : (Value × Value) → K0) (t : Value × Value) (w : World) => normal_Write_p21 (fun _ _ left_5 i_6 w => X (left_5, i_6) w) k0 c_1 w_4 t.1 t.2 w) (left_5, i_6) w
theorem normal_Write_p22_ok (k0 : K1) (h0 : ∀ g w, k0 (g 4) w → Q (.exit 0) g w) (h : normal_Write_p22 k0 (g 1) (g 4) (g 5) (g 6) w) : den pg ann_normal_Write (bI (dropS 1 (takeS 1 (dropS 5 code_normal_Write)))) Q g w := by
  refine den_loops (T := Value × Value) (fun g : Env => (g 5, g 6)) (fun X t w => normal_Write_p21 (fun _ _ left_5 i_6 w => X (left_5, i_6) w) k0 (g 1) (g 4) t.1 t.2 w) _ (by kernel_rfl) h (fun X g1 w1 ha h1 => ?_)
  rw [← agree_at (s := 1) ha (by kernel_rfl)] at h1
  rw [← agree_at (s := 4) ha (by kernel_rfl)] at h1
  exact (normal_Write_p21_ok (thenE (fun g2 w2 => X ((fun g : Env => (g 5, g 6)) g2) w2) Q) g1 w1 (fun _ _ left_5 i_6 w => X (left_5, i_6) w) k0 (fun _ _ h => h) h0 h1)

def normal_Write_p23 (kn : K1) (c_1 w_4 left_5 i_6 : Value) (w : World) : Prop :=
  normal_Write_p22 kn c_1 w_4 left_5 i_6 w
theorem normal_Write_p23_ok (kn : K1) (hn : ∀ g w, kn (g 4) w → Q .normal g w) (h : normal_Write_p23 kn (g 1) (g 4) (g 5) (g 6) w) : den pg ann_normal_Write (dropS 1 (takeS 1 (dropS 5 code_normal_Write))) Q g w :=
  den_blk 0 _ g w (by kernel_rfl) (normal_Write_p22_ok (blk 0 Q) g w kn hn h)

def normal_Write_p24 (kn : K4) (c_1 w_4 left_5 : Value) (w : World) : Prop :=
  kn c_1 w_4 left_5 (.int .i64 0) w
theorem normal_Write_p24_ok (kn : K4) (hn : ∀ g w, kn (g 1) (g 4) (g 5) (g 6) w → Q .normal g w) (h : normal_Write_p24 kn (g 1) (g 4) (g 5) w) : den pg ann_normal_Write (takeS 1 (takeS 1 (dropS 5 code_normal_Write))) Q g w :=
  den_exQ (kr := no) (l := []) (by kernel_rfl) h hn noE trivial

def normal_Write_p25 (kn : K1) (c_1 w_4 left_5 : Value) (w : World) : Prop :=
  normal_Write_p24 (fun c_1 w_4 left_5 i_6 w => normal_Write_p23 kn c_1 w_4 left_5 i_6 w) c_1 w_4 left_5 w
theorem normal_Write_p25_ok (kn : K1) (hn : ∀ g w, kn (g 4) w → Q .normal g w) (h : normal_Write_p25 kn (g 1) (g 4) (g 5) w) : den pg ann_normal_Write (takeS 1 (dropS 5 code_normal_Write)) Q g w :=
  den_seqs 1 _ g w (by kernel_rfl) (normal_Write_p24_ok (thenE (fun g w => den pg ann_normal_Write (dropS 1 (takeS 1 (dropS 5 code_normal_Write))) Q g w) Q) g w (fun c_1 w_4 left_5 i_6 w => normal_Write_p23 kn c_1 w_4 left_5 i_6 w) (fun g w h => thenE_n (K := fun g w => den pg ann_normal_Write (dropS 1 (takeS 1 (dropS 5 code_normal_Write))) Q g w) (normal_Write_p23_ok Q g w kn hn h)) h)

def normal_Write_p26 (R : K1) (c_1 w_4 left_5 : Value) (w : World) : Prop :=
  normal_Write_p25 (fun w_4 w => normal_Write_p1 R w_4 w) c_1 w_4 left_5 w
theorem normal_Write_p26_ok (R : K1) (hr : HR rs_normal_Write R Q) (h : normal_Write_p26 R (g 1) (g 4) (g 5) w) : den pg ann_normal_Write (dropS 5 code_normal_Write) Q g w :=
  den_seqs 1 _ g w (by kernel_rfl) (normal_Write_p25_ok (thenE (fun g w => den pg ann_normal_Write (dropS 1 (dropS 5 code_normal_Write)) Q g w) Q) g w (fun w_4 w => normal_Write_p1 R w_4 w) (fun g w h => thenE_n (K := fun g w => den pg ann_normal_Write (dropS 1 (dropS 5 code_normal_Write)) Q g w) (normal_Write_p1_ok Q g w R hr h)) h)

def normal_Write_p27 (kn : K3) (R : K1) (c_0 : Value) (w : World) : Prop :=
  Stp pg (sBox 24 c_0) w fun c_1 w =>
  Stp pg (sLoad 24 c_1) w fun t12 w =>
  Does pg F_normal_may #[t12] w fun t13 w =>
  Stp pg (sUn .not t13) w fun t14 w =>
  Cnd t14
    (R (.tuple #[(.slice none 0 0), (.int .i64 1)]) w)
    (Does pg F_bits_NewWriter #[] w fun t15 w =>
    Stp pg (sFAddr 24 c_1 0) w fun t17 w =>
    Stp pg (sLoad 3 t17) w fun t18 w =>
    Stp pg (sBin .sub 3 (.tmp 18) (.const (.int .i64 5)) t18 (.int .i64 5)) w fun t19 w =>
    Stp pg (sCvt 3 45 t19) w fun t20 w =>
    Does pg F_bits_Writer_Write #[t15, t20, (.int .i64 4)] w fun t21 w =>
    Stp pg (sFAddr 24 c_1 0) w fun t22 w =>
    Stp pg (sLoad 3 t22) w fun t23 w =>
    Stp pg (sBin .shl 3 (.const (.int .i64 1)) (.tmp 23) (.int .i64 1) t23) w fun t24 w =>
    kn c_1 t15 t24 w)
theorem normal_Write_p27_ok (kn : K3) (R : K1) (hn : ∀ g w, kn (g 1) (g 4) (g 5) w → Q .normal g w) (hr : HR rs_normal_Write R Q) (h : normal_Write_p27 kn R (g 0) w) : den pg ann_normal_Write (takeS 5 code_normal_Write) Q g w :=
  den_exQ (l := []) (by kernel_rfl) h hn hr trivial

def normal_Write_p28 (R : K1) (c_0 : Value) (w : World) : Prop :=
  normal_Write_p27 (fun c_1 w_4 left_5 w => normal_Write_p26 R c_1 w_4 left_5 w) R c_0 w
theorem normal_Write_p28_ok (R : K1) (hr : HR rs_normal_Write R Q) (h : normal_Write_p28 R (g 0) w) : den pg ann_normal_Write code_normal_Write Q g w :=
  den_seqs 5 _ g w (by kernel_rfl) (normal_Write_p27_ok (thenE (fun g w => den pg ann_normal_Write (dropS 5 code_normal_Write) Q g w) Q) g w (fun c_1 w_4 left_5 w => normal_Write_p26 R c_1 w_4 left_5 w) R (fun g w h => thenE_n (K := fun g w => den pg ann_normal_Write (dropS 5 code_normal_Write) Q g w) (normal_Write_p26_ok Q g w R hr h)) hr h)

def normal_Write (a0 : Value) (w : World) (R : K1) : Prop :=
  normal_Write_p28 R a0 w
theorem normal_Write_does {a0 : Value} {w : World} {R : K1} (h : normal_Write a0 w R) : Does pg F_normal_Write #[a0] w R := by
  refine does_of_den (ann := ann_normal_Write) (fn := Try.f39) (c := code_normal_Write) (args := [a0]) (rs := rs_normal_Write) (N := 108) TryM.mixed (by kernel_rfl) Try.func39 (by kernel_rfl) (by kernel_rfl) (by kernel_rfl) (of_decide_eq_true (by kernel_rfl)) (by kernel_rfl) ?_
  exact (normal_Write_p28_ok (retQ pg rs_normal_Write R) (envOf [a0]) w R (fun _ _ h => h) h)
-- PIECES normal_Write/0 normal_Write_p1 normal_Write_p22 normal_Write_p23 normal_Write_p24 normal_Write_p25 normal_Write_p26 normal_Write_p27 normal_Write_p28
-- PIECES normal_Write/1 normal_Write_p2 normal_Write_p3 normal_Write_p5 normal_Write_p6 normal_Write_p7 normal_Write_p8 normal_Write_p9 normal_Write_p11 normal_Write_p12 normal_Write_p13 normal_Write_p14 normal_Write_p15 normal_Write_p16 normal_Write_p17 normal_Write_p18 normal_Write_p19 normal_Write_p20 normal_Write_p21
-- PIECES normal_Write/2 normal_Write_p4
-- PIECES normal_Write/3 normal_Write_p10

/- lighterman/normal.Of -/
def ann_normal_Of : FA := ⟨F_normal_Of, fun i => match Nat.beq i 22 with | true => .leaf ([], []) [(false, []), (false, []), (false, []), (false, []), (false, []), (false, []), (false, []), (false, []), (false, []), (false, []), (false, [])] | false => .leaf ([], []) []⟩
def rs_normal_Of : List ResultVar := [.cell 4 24, .tmp 5]
noncomputable def code_normal_Of : Code := bodyOf Try.f43
def normal_Of_p1 (R : K1) (t4 c_11 left_12 greatest_13 : Value) (w : World) : Prop :=
  Stp pg (sFAddr 24 c_11 1) w fun t120 w =>
  Stp pg (sLoad 22 t120) w fun t121 w =>
  Stp pg (sIAddr 22 t121 greatest_13) w fun t123 w =>
  Stp pg (sLoad 3 t123) w fun t124 w =>
  Stp pg (sBin .add 3 (.tmp 124) (.tmp 125) t124 left_12) w fun t126 w =>
  Stp pg (sIAddr 22 t121 greatest_13) w fun t127 w =>
  Stp pg (sStore 3 t127 t126) w fun _u w =>
  Stp pg (sLoad 24 c_11) w fun t128 w =>
  Stp pg (sStore 24 t4 t128) w fun _u w =>
  LdR pg 24 t4 w fun r0 => R (.tuple #[r0, (.int .i64 0)]) w
theorem normal_Of_p1_ok (R : K1) (hr : HR rs_normal_Of R Q) (h : normal_Of_p1 R (g 4) (g 11) (g 12) (g 13) w) : den pg ann_normal_Of (dropS 1 (dropS 4 (dropS 1 (dropS 3 code_normal_Of)))) Q g w :=
  den_exQ (kn := no) (l := []) (by kernel_rfl) h noE hr trivial

def normal_Of_p2 (kn : K10) (log_1 t4 sum_6 t7 c_11 left_12 greatest_13 t78 t79 t80 : Value) (w : World) : Prop :=
  Stp pg (sBin .add 3 (.tmp 80) (.const (.int .i64 1)) t80 (.int .i64 1)) w fun t119 w =>
  kn log_1 t4 sum_6 t7 c_11 left_12 greatest_13 t78 t79 t119 w
theorem normal_Of_p2_ok (kn : K10) (hn : ∀ g w, kn (g 1) (g 4) (g 6) (g 7) (g 11) (g 12) (g 13) (g 78) (g 79) (g 80) w → Q .normal g w) (h : normal_Of_p2 kn (g 1) (g 4) (g 6) (g 7) (g 11) (g 12) (g 13) (g 78) (g 79) (g 80) w) : den pg ann_normal_Of (dropS 3 (bI (bI (dropS 1 (takeS 1 (dropS 4 (dropS 1 (dropS 3 code_normal_Of)))))))) Q g w :=
  den_exQ (kr := no) (l := []) (by kernel_rfl) h hn noE trivial

def normal_Of_p3 (kn : K10) (k2 : K4) (log_1 t4 sum_6 t7 c_11 left_12 greatest_13 t78 t79 t80 : Value) (w : World) : Prop :=
  Stp pg (sBin .lss 3 (.tmp 80) (.tmp 79) t80 t79) w fun t81 w =>
  Cnd t81
    (Stp pg (sIAddr 89 t78 t80) w fun t83 w =>
    Stp pg (sLoad 90 t83) w fun t84 w =>
    Stp pg (sBin .eql 90 (.tmp 85) (.const (.int .u32 0)) t84 (.int .u32 0)) w fun t86 w =>
    Cnd t86
      (kn log_1 t4 sum_6 t7 c_11 left_12 greatest_13 t78 t79 t80 w)
      (Stp pg (sCvt 90 45 t84) w fun t88 w =>
      Stp pg (sBin .shl 3 (.const (.int .i64 1)) (.tmp 89) (.int .i64 1) log_1) w fun t90 w =>
      Stp pg (sBin .sub 3 (.tmp 90) (.tmp 91) t90 t7) w fun t92 w =>
      Stp pg (sCvt 3 45 t92) w fun t93 w =>
      Stp pg (sBin .mul 45 (.tmp 88) (.tmp 93) t88 t93) w fun t94 w =>
      Stp pg (sBin .quo 45 (.tmp 94) (.tmp 95) t94 sum_6) w fun t96 w =>
      Stp pg (sCvt 45 3 t96) w fun t97 w =>
      Stp pg (sFAddr 24 c_11 1) w fun t98 w =>
      Stp pg (sLoad 22 t98) w fun t99 w =>
      Stp pg (sBin .add 3 (.const (.int .i64 1)) (.tmp 101) (.int .i64 1) t97) w fun t102 w =>
      Stp pg (sIAddr 22 t99 t80) w fun t103 w =>
      Stp pg (sStore 3 t103 t102) w fun _u w =>
      Stp pg (sBin .sub 3 (.tmp 104) (.tmp 105) left_12 t97) w fun t106 w =>
      Stp pg (sFAddr 24 c_11 1) (dr w) fun t107 w_ => w_ = (dr w) ∧
      Stp pg (sLoad 22 t107) (dr w) fun t108 w_ => w_ = (dr w) ∧
      (dr w) = (dr w) ∧
      Stp pg (sIAddr 22 t108 t80) (dr w) fun t110 w_ => w_ = (dr w) ∧
      Stp pg (sLoad 3 t110) (dr w) fun t111 w_ => w_ = (dr w) ∧
      Stp pg (sFAddr 24 c_11 1) (dr w) fun t112 w_ => w_ = (dr w) ∧
      Stp pg (sLoad 22 t112) (dr w) fun t113 w_ => w_ = (dr w) ∧
      (dr w) = (dr w) ∧
      Stp pg (sIAddr 22 t113 greatest_13) (dr w) fun t115 w_ => w_ = (dr w) ∧
      Stp pg (sLoad 3 t115) (dr w) fun t116 w_ => w_ = (dr w) ∧
      Stp pg (sBin .gtr 3 (.tmp 111) (.tmp 116) t111 t116) (dr w) fun t117 w_ => w_ = (dr w) ∧
      Cnd t117
        (kn log_1 t4 sum_6 t7 c_11 t106 t80 t78 t79 t80 (dr w))
        (kn log_1 t4 sum_6 t7 c_11 t106 greatest_13 t78 t79 t80 (dr w))))
    (k2 t4 c_11 left_12 greatest_13 w)
theorem normal_Of_p3_ok (kn : K10) (k2 : K4) (hn : ∀ g w, kn (g 1) (g 4) (g 6) (g 7) (g 11) (g 12) (g 13) (g 78) (g 79) (g 80) w → Q .normal g w) (h2 : ∀ g w, k2 (g 4) (g 11) (g 12) (g 13) w → Q (.exit 2) g w) (h : normal_Of_p3 kn k2 (g 1) (g 4) (g 6) (g 7) (g 11) (g 12) (g 13) (g 78) (g 79) (g 80) w) : den pg ann_normal_Of (takeS 3 (bI (bI (dropS 1 (takeS 1 (dropS 4 (dropS 1 (dropS 3 code_normal_Of)))))))) Q g w :=
  den_exQ (kr := no) (l := [(2, fun g w => k2 (g 4) (g 11) (g 12) (g 13) w)]) (by kernel_rfl) h hn noE ⟨h2, trivial⟩

def normal_Of_p4 (kn : K10) (k2 : K4) (log_1 t4 sum_6 t7 c_11 left_12 greatest_13 t78 t79 t80 : Value) (w : World) : Prop :=
  normal_Of_p3 (fun log_1 t4 sum_6 t7 c_11 left_12 greatest_13 t78 t79 t80 w => normal_Of_p2 kn log_1 t4 sum_6 t7 c_11 left_12 greatest_13 t78 t79 t80 w) k2 log_1 t4 sum_6 t7 c_11 left_12 greatest_13 t78 t79 t80 w
theorem normal_Of_p4_ok (kn : K10) (k2 : K4) (hn : ∀ g w, kn (g 1) (g 4) (g 6) (g 7) (g 11) (g 12) (g 13) (g 78) (g 79) (g 80) w → Q .normal g w) (h2 : ∀ g w, k2 (g 4) (g 11) (g 12) (g 13) w → Q (.exit 2) g w) (h : normal_Of_p4 kn k2 (g 1) (g 4) (g 6) (g 7) (g 11) (g 12) (g 13) (g 78) (g 79) (g 80) w) : den pg ann_normal_Of (bI (bI (dropS 1 (takeS 1 (dropS 4 (dropS 1 (dropS 3 code_normal_Of))))))) Q g w :=
  den_seqs 3 _ g w (by kernel_rfl) (normal_Of_p3_ok (thenE (fun g w => den pg ann_normal_Of (dropS 3 (bI (bI (dropS 1 (takeS 1 (dropS 4 (dropS 1 (dropS 3 code_normal_Of)))))))) Q g w) Q) g w (fun log_1 t4 sum_6 t7 c_11 left_12 greatest_13 t78 t79 t80 w => normal_Of_p2 kn log_1 t4 sum_6 t7 c_11 left_12 greatest_13 t78 t79 t80 w) k2 (fun g w h => thenE_n (K := fun g w => den pg ann_normal_Of (dropS 3 (bI (bI (dropS 1 (takeS 1 (dropS 4 (dropS 1 (dropS 3 code_normal_Of)))))))) Q g w) (normal_Of_p2_ok Q g w kn hn h)) h2 h)

def normal_Of_p5 (k2 : K4) (log_1 t4 sum_6 t7 c_11 left_12 greatest_13 t78 t79 t80 : Value) (w : World) : Prop :=
  LoopD (fun (X : (Value × Value × Value) → K0) (t : Value × Value × Value) (w : World) => normal_Of_p4 (fun _ _ _ _ _ left_12 greatest_13 _ _ t80 w => X (left_12, greatest_13, t80) w) k2 log_1 t4 sum_6 t7 c_11 t.1 t.2.1 t78 t79 t.2.2 w) (left_12, greatest_13, t80) w
theorem normal_Of_p5_ok (k2 : K4) (h2 : ∀ g w, k2 (g 4) (g 11) (g 12) (g 13) w → Q (.exit 2) g w) (h : normal_Of_p5 k2 (g 1) (g 4) (g 6) (g 7) (g 11) (g 12) (g 13) (g 78) (g 79) (g 80) w) : den pg ann_normal_Of (bI (dropS 1 (takeS 1 (dropS 4 (dropS 1 (dropS 3 code_normal_Of)))))) Q g w := by
  refine den_loops (T := Value × Value × Value) (fun g : Env => (g 12, g 13, g 80)) (fun X t w => normal_Of_p4 (fun _ _ _ _ _ left_12 greatest_13 _ _ t80 w => X (left_12, greatest_13, t80) w) k2 (g 1) (g 4) (g 6) (g 7) (g 11) t.1 t.2.1 (g 78) (g 79) t.2.2 w) _ (by kernel_rfl) h (fun X g1 w1 ha h1 => ?_)
  rw [← agree_at (s := 1) ha (by kernel_rfl)] at h1
  rw [← agree_at (s := 4) ha (by kernel_rfl)] at h1
  rw [← agree_at (s := 6) ha (by kernel_rfl)] at h1
  rw [← agree_at (s := 7) ha (by kernel_rfl)] at h1
  rw [← agree_at (s := 11) ha (by kernel_rfl)] at h1
  rw [← agree_at (s := 78) ha (by kernel_rfl)] at h1
  rw [← agree_at (s := 79) ha (by kernel_rfl)] at h1
  exact (normal_Of_p4_ok (thenE (fun g2 w2 => X ((fun g : Env => (g 12, g 13, g 80)) g2) w2) Q) g1 w1 (fun _ _ _ _ _ left_12 greatest_13 _ _ t80 w => X (left_12, greatest_13, t80) w) k2 (fun _ _ h => h) h2 h1)

def normal_Of_p6 (kn : K4) (log_1 t4 sum_6 t7 c_11 left_12 greatest_13 t78 t79 t80 : Value) (w : World) : Prop :=
  normal_Of_p5 kn log_1 t4 sum_6 t7 c_11 left_12 greatest_13 t78 t79 t80 w
theorem normal_Of_p6_ok (kn : K4) (hn : ∀ g w, kn (g 4) (g 11) (g 12) (g 13) w → Q .normal g w) (h : normal_Of_p6 kn (g 1) (g 4) (g 6) (g 7) (g 11) (g 12) (g 13) (g 78) (g 79) (g 80) w) : den pg ann_normal_Of (dropS 1 (takeS 1 (dropS 4 (dropS 1 (dropS 3 code_normal_Of))))) Q g w :=
  den_blk 2 _ g w (by kernel_rfl) (normal_Of_p5_ok (blk 2 Q) g w kn hn h)

def normal_Of_p7 (kn : K10) (often_0 log_1 t4 sum_6 t7 last_8 c_11 left_12 greatest_13 : Value) (w : World) : Prop :=
  Stp pg (sBin .add 3 (.tmp 76) (.const (.int .i64 1)) last_8 (.int .i64 1)) w fun t77 w =>
  Stp pg (sSlice 89 often_0 none (some t77) none) w fun t78 w =>
  Stp pg (sBi .len #[89] 3 [t78]) w fun t79 w =>
  kn log_1 t4 sum_6 t7 c_11 left_12 greatest_13 t78 t79 (.int .i64 0) w
theorem normal_Of_p7_ok (kn : K10) (hn : ∀ g w, kn (g 1) (g 4) (g 6) (g 7) (g 11) (g 12) (g 13) (g 78) (g 79) (g 80) w → Q .normal g w) (h : normal_Of_p7 kn (g 0) (g 1) (g 4) (g 6) (g 7) (g 8) (g 11) (g 12) (g 13) w) : den pg ann_normal_Of (takeS 1 (takeS 1 (dropS 4 (dropS 1 (dropS 3 code_normal_Of))))) Q g w :=
  den_exQ (kr := no) (l := []) (by kernel_rfl) h hn noE trivial

def normal_Of_p8 (kn : K4) (often_0 log_1 t4 sum_6 t7 last_8 c_11 left_12 greatest_13 : Value) (w : World) : Prop :=
  normal_Of_p7 (fun log_1 t4 sum_6 t7 c_11 left_12 greatest_13 t78 t79 t80 w => normal_Of_p6 kn log_1 t4 sum_6 t7 c_11 left_12 greatest_13 t78 t79 t80 w) often_0 log_1 t4 sum_6 t7 last_8 c_11 left_12 greatest_13 w
theorem normal_Of_p8_ok (kn : K4) (hn : ∀ g w, kn (g 4) (g 11) (g 12) (g 13) w → Q .normal g w) (h : normal_Of_p8 kn (g 0) (g 1) (g 4) (g 6) (g 7) (g 8) (g 11) (g 12) (g 13) w) : den pg ann_normal_Of (takeS 1 (dropS 4 (dropS 1 (dropS 3 code_normal_Of)))) Q g w :=
  den_seqs 1 _ g w (by kernel_rfl) (normal_Of_p7_ok (thenE (fun g w => den pg ann_normal_Of (dropS 1 (takeS 1 (dropS 4 (dropS 1 (dropS 3 code_normal_Of))))) Q g w) Q) g w (fun log_1 t4 sum_6 t7 c_11 left_12 greatest_13 t78 t79 t80 w => normal_Of_p6 kn log_1 t4 sum_6 t7 c_11 left_12 greatest_13 t78 t79 t80 w) (fun g w h => thenE_n (K := fun g w => den pg ann_normal_Of (dropS 1 (takeS 1 (dropS 4 (dropS 1 (dropS 3 code_normal_Of))))) Q g w) (normal_Of_p6_ok Q g w kn hn h)) h)

def normal_Of_p9 (R : K1) (often_0 log_1 t4 sum_6 t7 last_8 c_11 left_12 greatest_13 : Value) (w : World) : Prop :=
  normal_Of_p8 (fun t4 c_11 left_12 greatest_13 w => normal_Of_p1 R t4 c_11 left_12 greatest_13 w) often_0 log_1 t4 sum_6 t7 last_8 c_11 left_12 greatest_13 w
theorem normal_Of_p9_ok (R : K1) (hr : HR rs_normal_Of R Q) (h : normal_Of_p9 R (g 0) (g 1) (g 4) (g 6) (g 7) (g 8) (g 11) (g 12) (g 13) w) : den pg ann_normal_Of (dropS 4 (dropS 1 (dropS 3 code_normal_Of))) Q g w :=
  den_seqs 1 _ g w (by kernel_rfl) (normal_Of_p8_ok (thenE (fun g w => den pg ann_normal_Of (dropS 1 (dropS 4 (dropS 1 (dropS 3 code_normal_Of)))) Q g w) Q) g w (fun t4 c_11 left_12 greatest_13 w => normal_Of_p1 R t4 c_11 left_12 greatest_13 w) (fun g w h => thenE_n (K := fun g w => den pg ann_normal_Of (dropS 1 (dropS 4 (dropS 1 (dropS 3 code_normal_Of)))) Q g w) (normal_Of_p1_ok Q g w R hr h)) h)

def normal_Of_p10 (kn : K9) (R : K1) (often_0 log_1 t4 sum_6 t7 last_8 : Value) (w : World) : Prop :=
  Stp pg (sBin .lss 3 (.tmp 34) (.const (.int .i64 5)) log_1 (.int .i64 5)) w fun t35 w =>
  Gd (isB t35 false) (fun K => K log_1 w) w fun t37 w =>
  Gd (isB t35 false) (fun K => Stp pg (sBin .gtr 3 (.tmp 37) (.const (.int .i64 15)) t37 (.int .i64 15)) w K) w fun t38 w =>
  Stp pg (sPick t35 (.bool true) t38) w fun t39 w =>
  Gd (isB t39 false) (fun K => K often_0 w) w fun t41 w =>
  Gd (isB t39 false) (fun K => Stp pg (sBi .len #[89] 3 [t41]) w K) w fun t42 w =>
  Gd (isB t39 false) (fun K => Stp pg (sBin .lss 3 (.tmp 42) (.const (.int .i64 1)) t42 (.int .i64 1)) w K) w fun t43 w =>
  Stp pg (sPick t39 (.bool true) t43) w fun t44 w =>
  Gd (isB t44 false) (fun K => K often_0 w) w fun t46 w =>
  Gd (isB t44 false) (fun K => Stp pg (sBi .len #[89] 3 [t46]) w K) w fun t47 w =>
  Gd (isB t44 false) (fun K => Stp pg (sBin .gtr 3 (.tmp 47) (.const (.int .i64 256)) t47 (.int .i64 256)) w K) w fun t48 w =>
  Stp pg (sPick t44 (.bool true) t48) w fun t49 w =>
  Gd (isB t49 false) (fun K => K t7 w) w fun t51 w =>
  Gd (isB t49 false) (fun K => Stp pg (sBin .lss 3 (.tmp 51) (.const (.int .i64 2)) t51 (.int .i64 2)) w K) w fun t52 w =>
  Stp pg (sPick t49 (.bool true) t52) w fun t53 w =>
  Gd (isB t53 false) (fun K => K t7 w) w fun t55 w =>
  Gd (isB t53 false) (fun K => K log_1 w) w fun t56 w =>
  Gd (isB t53 false) (fun K => Stp pg (sBin .shl 3 (.const (.int .i64 1)) (.tmp 56) (.int .i64 1) t56) w K) w fun t57 w =>
  Gd (isB t53 false) (fun K => Stp pg (sBin .gtr 3 (.tmp 55) (.tmp 57) t55 t57) w K) w fun t58 w =>
  Stp pg (sPick t53 (.bool true) t58) w fun t59 w =>
  Gd (isB t59 false) (fun K => K sum_6 w) w fun t61 w =>
  Gd (isB t59 false) (fun K => Stp pg (sBin .gtr 45 (.tmp 61) (.const (.int .u64 2147483647)) t61 (.int .u64 2147483647)) w K) w fun t62 w =>
  Stp pg (sPick t59 (.bool true) t62) w fun t63 w =>
  Cnd t63
    (Stp pg (sBuild 24 []) w fun t64 w =>
    Stp pg (sStore 24 t4 t64) w fun _u w =>
    LdR pg 24 t4 w fun r0 => R (.tuple #[r0, (.int .i64 1)]) w)
    (Stp pg (sBin .add 3 (.tmp 66) (.const (.int .i64 1)) last_8 (.int .i64 1)) w fun t67 w =>
    Stp pg (sMkSlice 22 t67 t67) w fun t68 w =>
    Stp pg (sBuild 24 [(0, log_1), (1, t68)]) w fun t69 w =>
    Stp pg (sAlloc 24) w fun c_11 w =>
    Stp pg (sStore 24 c_11 t69) w fun _u w =>
    Stp pg (sBin .shl 3 (.const (.int .i64 1)) (.tmp 70) (.int .i64 1) log_1) w fun t71 w =>
    Stp pg (sBin .sub 3 (.tmp 71) (.tmp 72) t71 t7) w fun t73 w =>
    kn often_0 log_1 t4 sum_6 t7 last_8 c_11 t73 last_8 w)
theorem normal_Of_p10_ok (kn : K9) (R : K1) (hn : ∀ g w, kn (g 0) (g 1) (g 4) (g 6) (g 7) (g 8) (g 11) (g 12) (g 13) w → Q .normal g w) (hr : HR rs_normal_Of R Q) (h : normal_Of_p10 kn R (g 0) (g 1) (g 4) (g 6) (g 7) (g 8) w) : den pg ann_normal_Of (takeS 4 (dropS 1 (dropS 3 code_normal_Of))) Q g w :=
  den_exQ (l := []) (by kernel_rfl) h hn hr trivial

def normal_Of_p11 (R : K1) (often_0 log_1 t4 sum_6 t7 last_8 : Value) (w : World) : Prop :=
  normal_Of_p10 (fun often_0 log_1 t4 sum_6 t7 last_8 c_11 left_12 greatest_13 w => normal_Of_p9 R often_0 log_1 t4 sum_6 t7 last_8 c_11 left_12 greatest_13 w) R often_0 log_1 t4 sum_6 t7 last_8 w
theorem normal_Of_p11_ok (R : K1) (hr : HR rs_normal_Of R Q) (h : normal_Of_p11 R (g 0) (g 1) (g 4) (g 6) (g 7) (g 8) w) : den pg ann_normal_Of (dropS 1 (dropS 3 code_normal_Of)) Q g w :=
  den_seqs 4 _ g w (by kernel_rfl) (normal_Of_p10_ok (thenE (fun g w => den pg ann_normal_Of (dropS 4 (dropS 1 (dropS 3 code_normal_Of))) Q g w) Q) g w (fun often_0 log_1 t4 sum_6 t7 last_8 c_11 left_12 greatest_13 w => normal_Of_p9 R often_0 log_1 t4 sum_6 t7 last_8 c_11 left_12 greatest_13 w) R (fun g w h => thenE_n (K := fun g w => den pg ann_normal_Of (dropS 4 (dropS 1 (dropS 3 code_normal_Of))) Q g w) (normal_Of_p9_ok Q g w R hr h)) hr h)

def normal_Of_p12 (kn : K9) (often_0 log_1 t4 sum_6 t7 last_8 t17 t18 t19 : Value) (w : World) : Prop :=
  Stp pg (sBin .add 3 (.tmp 19) (.const (.int .i64 1)) t19 (.int .i64 1)) w fun t33 w =>
  kn often_0 log_1 t4 sum_6 t7 last_8 t17 t18 t33 w
theorem normal_Of_p12_ok (kn : K9) (hn : ∀ g w, kn (g 0) (g 1) (g 4) (g 6) (g 7) (g 8) (g 17) (g 18) (g 19) w → Q .normal g w) (h : normal_Of_p12 kn (g 0) (g 1) (g 4) (g 6) (g 7) (g 8) (g 17) (g 18) (g 19) w) : den pg ann_normal_Of (dropS 3 (bI (bI (dropS 1 (takeS 1 (dropS 3 code_normal_Of)))))) Q g w :=
  den_exQ (kr := no) (l := []) (by kernel_rfl) h hn noE trivial

def normal_Of_p13 (kn : K9) (k0 : K6) (often_0 log_1 t4 sum_6 t7 last_8 t17 t18 t19 : Value) (w : World) : Prop :=
  Stp pg (sBin .lss 3 (.tmp 19) (.tmp 18) t19 t18) w fun t20 w =>
  Cnd t20
    (Stp pg (sIAddr 89 t17 t19) w fun t22 w =>
    Stp pg (sLoad 90 t22) w fun t23 w =>
    Stp pg (sCvt 90 45 t23) w fun t26 w =>
    Stp pg (sBin .add 45 (.tmp 24) (.tmp 26) sum_6 t26) w fun t27 w =>
    Stp pg (sBin .gtr 90 (.tmp 28) (.const (.int .u32 0)) t23 (.int .u32 0)) w fun t29 w =>
    Cnd t29
      (Stp pg (sBin .add 3 (.tmp 30) (.const (.int .i64 1)) t7 (.int .i64 1)) w fun t31 w =>
      kn often_0 log_1 t4 t27 t31 t19 t17 t18 t19 w)
      (kn often_0 log_1 t4 t27 t7 last_8 t17 t18 t19 w))
    (k0 often_0 log_1 t4 sum_6 t7 last_8 w)
theorem normal_Of_p13_ok (kn : K9) (k0 : K6) (hn : ∀ g w, kn (g 0) (g 1) (g 4) (g 6) (g 7) (g 8) (g 17) (g 18) (g 19) w → Q .normal g w) (h0 : ∀ g w, k0 (g 0) (g 1) (g 4) (g 6) (g 7) (g 8) w → Q (.exit 0) g w) (h : normal_Of_p13 kn k0 (g 0) (g 1) (g 4) (g 6) (g 7) (g 8) (g 17) (g 18) (g 19) w) : den pg ann_normal_Of (takeS 3 (bI (bI (dropS 1 (takeS 1 (dropS 3 code_normal_Of)))))) Q g w :=
  den_exQ (kr := no) (l := [(0, fun g w => k0 (g 0) (g 1) (g 4) (g 6) (g 7) (g 8) w)]) (by kernel_rfl) h hn noE ⟨h0, trivial⟩

def normal_Of_p14 (kn : K9) (k0 : K6) (often_0 log_1 t4 sum_6 t7 last_8 t17 t18 t19 : Value) (w : World) : Prop :=
  normal_Of_p13 (fun often_0 log_1 t4 sum_6 t7 last_8 t17 t18 t19 w => normal_Of_p12 kn often_0 log_1 t4 sum_6 t7 last_8 t17 t18 t19 w) k0 often_0 log_1 t4 sum_6 t7 last_8 t17 t18 t19 w
theorem normal_Of_p14_ok (kn : K9) (k0 : K6) (hn : ∀ g w, kn (g 0) (g 1) (g 4) (g 6) (g 7) (g 8) (g 17) (g 18) (g 19) w → Q .normal g w) (h0 : ∀ g w, k0 (g 0) (g 1) (g 4) (g 6) (g 7) (g 8) w → Q (.exit 0) g w) (h : normal_Of_p14 kn k0 (g 0) (g 1) (g 4) (g 6) (g 7) (g 8) (g 17) (g 18) (g 19) w) : den pg ann_normal_Of (bI (bI (dropS 1 (takeS 1 (dropS 3 code_normal_Of))))) Q g w :=
  den_seqs 3 _ g w (by kernel_rfl) (normal_Of_p13_ok (thenE (fun g w => den pg ann_normal_Of (dropS 3 (bI (bI (dropS 1 (takeS 1 (dropS 3 code_normal_Of)))))) Q g w) Q) g w (fun often_0 log_1 t4 sum_6 t7 last_8 t17 t18 t19 w => normal_Of_p12 kn often_0 log_1 t4 sum_6 t7 last_8 t17 t18 t19 w) k0 (fun g w h => thenE_n (K := fun g w => den pg ann_normal_Of (dropS 3 (bI (bI (dropS 1 (takeS 1 (dropS 3 code_normal_Of)))))) Q g w) (normal_Of_p12_ok Q g w kn hn h)) h0 h)

def normal_Of_p15 (k0 : K6) (often_0 log_1 t4 sum_6 t7 last_8 t17 t18 t19 : Value) (w : World) : Prop :=
  LoopD (fun (X : (Value × Value × Value × Value) → K0) (t : Value × Value × Value × Value) (w : World) => normal_Of_p14 (fun _ _ _ sum_6 t7 last_8 _ _ t19 w => X (sum_6, t7, last_8, t19) w) k0 often_0 log_1 t4 t.1 t.2.1 t.2.2.1 t17 t18 t.2.2.2 w) (sum_6, t7, last_8, t19) w
theorem normal_Of_p15_ok (k0 : K6) (h0 : ∀ g w, k0 (g 0) (g 1) (g 4) (g 6) (g 7) (g 8) w → Q (.exit 0) g w) (h : normal_Of_p15 k0 (g 0) (g 1) (g 4) (g 6) (g 7) (g 8) (g 17) (g 18) (g 19) w) : den pg ann_normal_Of (bI (dropS 1 (takeS 1 (dropS 3 code_normal_Of)))) Q g w := by
  refine den_loops (T := Value × Value × Value × Value) (fun g : Env => (g 6, g 7, g 8, g 19)) (fun X t w => normal_Of_p14 (fun _ _ _ sum_6 t7 last_8 _ _ t19 w => X (sum_6, t7, last_8, t19) w) k0 (g 0) (g 1) (g 4) t.1 t.2.1 t.2.2.1 (g 17) (g 18) t.2.2.2 w) _ (by kernel_rfl) h (fun X g1 w1 ha h1 => ?_)
  rw [← agree_at (s := 0) ha (by kernel_rfl)] at h1
  rw [← agree_at (s := 1) ha (by kernel_rfl)] at h1
  rw [← agree_at (s := 4) ha (by kernel_rfl)] at h1
  rw [← agree_at (s := 17) ha (by kernel_rfl)] at h1
  rw [← agree_at (s := 18) ha (by kernel_rfl)] at h1
  exact (normal_Of_p14_ok (thenE (fun g2 w2 => X ((fun g : Env => (g 6, g 7, g 8, g 19)) g2) w2) Q) g1 w1 (fun _ _ _ sum_6 t7 last_8 _ _ t19 w => X (sum_6, t7, last_8, t19) w) k0 (fun _ _ h => h) h0 h1)

def normal_Of_p16 (kn : K6) (often_0 log_1 t4 sum_6 t7 last_8 t17 t18 t19 : Value) (w : World) : Prop :=
  normal_Of_p15 kn often_0 log_1 t4 sum_6 t7 last_8 t17 t18 t19 w
theorem normal_Of_p16_ok (kn : K6) (hn : ∀ g w, kn (g 0) (g 1) (g 4) (g 6) (g 7) (g 8) w → Q .normal g w) (h : normal_Of_p16 kn (g 0) (g 1) (g 4) (g 6) (g 7) (g 8) (g 17) (g 18) (g 19) w) : den pg ann_normal_Of (dropS 1 (takeS 1 (dropS 3 code_normal_Of))) Q g w :=
  den_blk 0 _ g w (by kernel_rfl) (normal_Of_p15_ok (blk 0 Q) g w kn hn h)

def normal_Of_p17 (kn : K9) (often_0 log_1 t4 sum_6 t7 last_8 : Value) (w : World) : Prop :=
  Stp pg (sBi .len #[89] 3 [often_0]) w fun t18 w =>
  kn often_0 log_1 t4 sum_6 t7 last_8 often_0 t18 (.int .i64 0) w
theorem normal_Of_p17_ok (kn : K9) (hn : ∀ g w, kn (g 0) (g 1) (g 4) (g 6) (g 7) (g 8) (g 17) (g 18) (g 19) w → Q .normal g w) (h : normal_Of_p17 kn (g 0) (g 1) (g 4) (g 6) (g 7) (g 8) w) : den pg ann_normal_Of (takeS 1 (takeS 1 (dropS 3 code_normal_Of))) Q g w :=
  den_exQ (kr := no) (l := []) (by kernel_rfl) h hn noE trivial

def normal_Of_p18 (kn : K6) (often_0 log_1 t4 sum_6 t7 last_8 : Value) (w : World) : Prop :=
  normal_Of_p17 (fun often_0 log_1 t4 sum_6 t7 last_8 t17 t18 t19 w => normal_Of_p16 kn often_0 log_1 t4 sum_6 t7 last_8 t17 t18 t19 w) often_0 log_1 t4 sum_6 t7 last_8 w
theorem normal_Of_p18_ok (kn : K6) (hn : ∀ g w, kn (g 0) (g 1) (g 4) (g 6) (g 7) (g 8) w → Q .normal g w) (h : normal_Of_p18 kn (g 0) (g 1) (g 4) (g 6) (g 7) (g 8) w) : den pg ann_normal_Of (takeS 1 (dropS 3 code_normal_Of)) Q g w :=
  den_seqs 1 _ g w (by kernel_rfl) (normal_Of_p17_ok (thenE (fun g w => den pg ann_normal_Of (dropS 1 (takeS 1 (dropS 3 code_normal_Of))) Q g w) Q) g w (fun often_0 log_1 t4 sum_6 t7 last_8 t17 t18 t19 w => normal_Of_p16 kn often_0 log_1 t4 sum_6 t7 last_8 t17 t18 t19 w) (fun g w h => thenE_n (K := fun g w => den pg ann_normal_Of (dropS 1 (takeS 1 (dropS 3 code_normal_Of))) Q g w) (normal_Of_p16_ok Q g w kn hn h)) h)

def normal_Of_p19 (R : K1) (often_0 log_1 t4 sum_6 t7 last_8 : Value) (w : World) : Prop :=
  normal_Of_p18 (fun often_0 log_1 t4 sum_6 t7 last_8 w => normal_Of_p11 R often_0 log_1 t4 sum_6 t7 last_8 w) often_0 log_1 t4 sum_6 t7 last_8 w
theorem normal_Of_p19_ok (R : K1) (hr : HR rs_normal_Of R Q) (h : normal_Of_p19 R (g 0) (g 1) (g 4) (g 6) (g 7) (g 8) w) : den pg ann_normal_Of (dropS 3 code_normal_Of) Q g w :=
  den_seqs 1 _ g w (by kernel_rfl) (normal_Of_p18_ok (thenE (fun g w => den pg ann_normal_Of (dropS 1 (dropS 3 code_normal_Of)) Q g w) Q) g w (fun often_0 log_1 t4 sum_6 t7 last_8 w => normal_Of_p11 R often_0 log_1 t4 sum_6 t7 last_8 w) (fun g w h => thenE_n (K := fun g w => den pg ann_normal_Of (dropS 1 (dropS 3 code_normal_Of)) Q g w) (normal_Of_p11_ok Q g w R hr h)) h)

def normal_Of_p20 (kn : K6) (often_0 log_1 : Value) (w : World) : Prop :=
  Stp pg (sAlloc 24) w fun t4 w =>
  kn often_0 log_1 t4 (.int .u64 0) (.int .i64 0) (.int .i64 0) w
theorem normal_Of_p20_ok (kn : K6) (hn : ∀ g w, kn (g 0) (g 1) (g 4) (g 6) (g 7) (g 8) w → Q .normal g w) (h : normal_Of_p20 kn (g 0) (g 1) w) : den pg ann_normal_Of (takeS 3 code_normal_Of) Q g w :=
  den_exQ (kr := no) (l := []) (by kernel_rfl) h hn noE trivial

def normal_Of_p21 (R : K1) (often_0 log_1 : Value) (w : World) : Prop :=
  normal_Of_p20 (fun often_0 log_1 t4 sum_6 t7 last_8 w => normal_Of_p19 R often_0 log_1 t4 sum_6 t7 last_8 w) often_0 log_1 w
theorem normal_Of_p21_ok (R : K1) (hr : HR rs_normal_Of R Q) (h : normal_Of_p21 R (g 0) (g 1) w) : den pg ann_normal_Of code_normal_Of Q g w :=
  den_seqs 3 _ g w (by kernel_rfl) (normal_Of_p20_ok (thenE (fun g w => den pg ann_normal_Of (dropS 3 code_normal_Of) Q g w) Q) g w (fun often_0 log_1 t4 sum_6 t7 last_8 w => normal_Of_p19 R often_0 log_1 t4 sum_6 t7 last_8 w) (fun g w h => thenE_n (K := fun g w => den pg ann_normal_Of (dropS 3 code_normal_Of) Q g w) (normal_Of_p19_ok Q g w R hr h)) h)

def normal_Of (a0 a1 : Value) (w : World) (R : K1) : Prop :=
  normal_Of_p21 R a0 a1 w
theorem normal_Of_does {a0 a1 : Value} {w : World} {R : K1} (h : normal_Of a0 a1 w R) : Does pg F_normal_Of #[a0, a1] w R := by
  refine does_of_den (ann := ann_normal_Of) (fn := Try.f43) (c := code_normal_Of) (args := [a0, a1]) (rs := rs_normal_Of) (N := 129) TryM.mixed (by kernel_rfl) Try.func43 (by kernel_rfl) (by kernel_rfl) (by kernel_rfl) (of_decide_eq_true (by kernel_rfl)) (by kernel_rfl) ?_
  exact (normal_Of_p21_ok (retQ pg rs_normal_Of R) (envOf [a0, a1]) w R (fun _ _ h => h) h)
-- PIECES normal_Of/0 normal_Of_p1 normal_Of_p5 normal_Of_p6 normal_Of_p7 normal_Of_p8 normal_Of_p9 normal_Of_p10 normal_Of_p11 normal_Of_p15 normal_Of_p16 normal_Of_p17 normal_Of_p18 normal_Of_p19 normal_Of_p20 normal_Of_p21
-- PIECES normal_Of/1 normal_Of_p2 normal_Of_p3 normal_Of_p4
-- PIECES normal_Of/2 normal_Of_p12 normal_Of_p13 normal_Of_p14

/- lighterman/normal.value -/
def ann_normal_value : FA := ⟨F_normal_value, fun i => .leaf ([], []) []⟩
def rs_normal_value : List ResultVar := [.tmp 4, .tmp 5]
noncomputable def code_normal_value : Code := bodyOf Try.f53
def normal_value_p1 (R : K1) (f_0 left_1 : Value) (w : World) : Prop :=
  Stp pg (sBin .add 3 (.tmp 11) (.const (.int .i64 1)) left_1 (.int .i64 1)) w fun t12 w =>
  Stp pg (sCvt 3 50 t12) w fun t13 w =>
  Does pg F_math_bits_Len #[t13] w fun t14 w =>
  Stp pg (sBin .sub 3 (.tmp 17) (.const (.int .i64 1)) t14 (.int .i64 1)) w fun t18 w =>
  Does pg F_bits_Forward_Read #[f_0, t18] w fun t19 w =>
  Stp pg (sExtr t19 0) w fun t20 w =>
  Stp pg (sExtr t19 1) w fun t21 w =>
  Stp pg (sBin .neq 29 (.tmp 22) (.const (.int .i64 0)) t21 (.int .i64 0)) w fun t23 w =>
  Cnd t23
    (R (.tuple #[(.int .i64 0), t21]) w)
    (Stp pg (sBin .shl 3 (.const (.int .i64 1)) (.tmp 25) (.int .i64 1) t14) w fun t26 w =>
    Stp pg (sBin .sub 3 (.tmp 26) (.const (.int .i64 2)) t26 (.int .i64 2)) w fun t27 w =>
    Stp pg (sBin .sub 3 (.tmp 27) (.tmp 28) t27 left_1) w fun t29 w =>
    Stp pg (sCvt 45 3 t20) w fun t31 w =>
    Stp pg (sBin .lss 3 (.tmp 31) (.tmp 32) t31 t29) w fun t33 w =>
    Cnd t33
      (Stp pg (sCvt 45 3 t20) w fun t35 w =>
      R (.tuple #[t35, (.int .i64 0)]) w)
      (Does pg F_bits_Forward_Read #[f_0, (.int .i64 1)] w fun t38 w =>
      Stp pg (sExtr t38 0) w fun t39 w =>
      Stp pg (sExtr t38 1) w fun t40 w =>
      Stp pg (sBin .neq 29 (.tmp 42) (.const (.int .i64 0)) t40 (.int .i64 0)) w fun t43 w =>
      Cnd t43
        (R (.tuple #[(.int .i64 0), t40]) w)
        (Stp pg (sBin .eql 45 (.tmp 46) (.const (.int .u64 0)) t39 (.int .u64 0)) w fun t47 w =>
        Cnd t47
          (Stp pg (sCvt 45 3 t20) w fun t49 w =>
          R (.tuple #[t49, (.int .i64 0)]) w)
          (Stp pg (sCvt 45 3 t20) w fun t51 w =>
          Stp pg (sBin .sub 3 (.tmp 52) (.const (.int .i64 1)) t14 (.int .i64 1)) w fun t53 w =>
          Stp pg (sBin .shl 3 (.const (.int .i64 1)) (.tmp 53) (.int .i64 1) t53) w fun t54 w =>
          Stp pg (sBin .add 3 (.tmp 51) (.tmp 54) t51 t54) w fun t55 w =>
          Stp pg (sBin .sub 3 (.tmp 55) (.tmp 56) t55 t29) w fun t57 w =>
          R (.tuple #[t57, (.int .i64 0)]) w))))
theorem normal_value_p1_ok (R : K1) (hr : HR rs_normal_value R Q) (h : normal_value_p1 R (g 0) (g 1) w) : den pg ann_normal_value code_normal_value Q g w :=
  den_exQ (kn := no) (l := []) (by kernel_rfl) h noE hr trivial

def normal_value (a0 a1 : Value) (w : World) (R : K1) : Prop :=
  normal_value_p1 R a0 a1 w
theorem normal_value_does {a0 a1 : Value} {w : World} {R : K1} (h : normal_value a0 a1 w R) : Does pg F_normal_value #[a0, a1] w R := by
  refine does_of_den (ann := ann_normal_value) (fn := Try.f53) (c := code_normal_value) (args := [a0, a1]) (rs := rs_normal_value) (N := 58) TryM.mixed (by kernel_rfl) Try.func53 (by kernel_rfl) (by kernel_rfl) (by kernel_rfl) (of_decide_eq_true (by kernel_rfl)) (by kernel_rfl) ?_
  exact (normal_value_p1_ok (retQ pg rs_normal_value R) (envOf [a0, a1]) w R (fun _ _ h => h) h)
-- PIECES normal_value/0 normal_value_p1

/- lighterman/normal.noughts -/
def ann_normal_noughts : FA := ⟨F_normal_noughts, fun i => .leaf ([], []) []⟩
def rs_normal_noughts : List ResultVar := [.tmp 2, .tmp 3]
noncomputable def code_normal_noughts : Code := bodyOf Try.f55
def normal_noughts_p1 (R : K1) (n_4 : Value) (w : World) : Prop :=
  R (.tuple #[n_4, (.int .i64 0)]) w
theorem normal_noughts_p1_ok (R : K1) (hr : HR rs_normal_noughts R Q) (h : normal_noughts_p1 R (g 4) w) : den pg ann_normal_noughts (dropS 1 (dropS 2 (bI (dropS 1 code_normal_noughts)))) Q g w :=
  den_exQ (kn := no) (l := []) (by kernel_rfl) h noE hr trivial

def normal_noughts_p2 (kn : K2) (k0 : K1) (R : K1) (f_0 n_4 : Value) (w : World) : Prop :=
  Does pg F_bits_Forward_Read #[f_0, (.int .i64 2)] w fun t9 w =>
  Stp pg (sExtr t9 0) w fun t10 w =>
  Stp pg (sExtr t9 1) w fun t11 w =>
  Stp pg (sBin .neq 29 (.tmp 12) (.const (.int .i64 0)) t11 (.int .i64 0)) w fun t13 w =>
  Cnd t13
    (R (.tuple #[(.int .i64 0), t11]) w)
    (Stp pg (sCvt 45 3 t10) w fun t17 w =>
    Stp pg (sBin .add 3 (.tmp 15) (.tmp 17) n_4 t17) w fun t18 w =>
    Stp pg (sBin .lss 45 (.tmp 19) (.const (.int .u64 3)) t10 (.int .u64 3)) w fun t20 w =>
    Cnd t20
      (k0 t18 w)
      (kn f_0 t18 w))
theorem normal_noughts_p2_ok (kn : K2) (k0 : K1) (R : K1) (hn : ∀ g w, kn (g 0) (g 4) w → Q .normal g w) (h0 : ∀ g w, k0 (g 4) w → Q (.exit 0) g w) (hr : HR rs_normal_noughts R Q) (h : normal_noughts_p2 kn k0 R (g 0) (g 4) w) : den pg ann_normal_noughts (bI (bI (takeS 1 (dropS 2 (bI (dropS 1 code_normal_noughts)))))) Q g w :=
  den_exQ (l := [(0, fun g w => k0 (g 4) w)]) (by kernel_rfl) h hn hr ⟨h0, trivial⟩

def normal_noughts_p3 (k0 : K1) (R : K1) (f_0 n_4 : Value) (w : World) : Prop :=
  LoopD (fun (X : Value → K0) (t : Value) (w : World) => normal_noughts_p2 (fun _ n_4 w => X n_4 w) k0 R f_0 t w) n_4 w
theorem normal_noughts_p3_ok (k0 : K1) (R : K1) (h0 : ∀ g w, k0 (g 4) w → Q (.exit 0) g w) (hr : HR rs_normal_noughts R Q) (h : normal_noughts_p3 k0 R (g 0) (g 4) w) : den pg ann_normal_noughts (bI (takeS 1 (dropS 2 (bI (dropS 1 code_normal_noughts))))) Q g w := by
  refine den_loops (T := Value) (fun g : Env => g 4) (fun X t w => normal_noughts_p2 (fun _ n_4 w => X n_4 w) k0 R (g 0) t w) _ (by kernel_rfl) h (fun X g1 w1 ha h1 => ?_)
  rw [← agree_at (s := 0) ha (by kernel_rfl)] at h1
  exact (normal_noughts_p2_ok (thenE (fun g2 w2 => X ((fun g : Env => g 4) g2) w2) Q) g1 w1 (fun _ n_4 w => X n_4 w) k0 R (fun _ _ h => h) h0 hr h1)

def normal_noughts_p4 (kn : K1) (R : K1) (f_0 n_4 : Value) (w : World) : Prop :=
  normal_noughts_p3 kn R f_0 n_4 w
theorem normal_noughts_p4_ok (kn : K1) (R : K1) (hn : ∀ g w, kn (g 4) w → Q .normal g w) (hr : HR rs_normal_noughts R Q) (h : normal_noughts_p4 kn R (g 0) (g 4) w) : den pg ann_normal_noughts (takeS 1 (dropS 2 (bI (dropS 1 code_normal_noughts)))) Q g w :=
  den_blk 0 _ g w (by kernel_rfl) (normal_noughts_p3_ok (blk 0 Q) g w kn R hn hr h)

def normal_noughts_p5 (R : K1) (f_0 n_4 : Value) (w : World) : Prop :=
  normal_noughts_p4 (fun n_4 w => normal_noughts_p1 R n_4 w) R f_0 n_4 w
theorem normal_noughts_p5_ok (R : K1) (hr : HR rs_normal_noughts R Q) (h : normal_noughts_p5 R (g 0) (g 4) w) : den pg ann_normal_noughts (dropS 2 (bI (dropS 1 code_normal_noughts))) Q g w :=
  den_seqs 1 _ g w (by kernel_rfl) (normal_noughts_p4_ok (thenE (fun g w => den pg ann_normal_noughts (dropS 1 (dropS 2 (bI (dropS 1 code_normal_noughts)))) Q g w) Q) g w (fun n_4 w => normal_noughts_p1 R n_4 w) R (fun g w h => thenE_n (K := fun g w => den pg ann_normal_noughts (dropS 1 (dropS 2 (bI (dropS 1 code_normal_noughts)))) Q g w) (normal_noughts_p1_ok Q g w R hr h)) hr h)

def normal_noughts_p6 (kn : K2) (f_0 : Value) (w : World) : Prop :=
  kn f_0 (.int .i64 0) w
theorem normal_noughts_p6_ok (kn : K2) (hn : ∀ g w, kn (g 0) (g 4) w → Q .normal g w) (h : normal_noughts_p6 kn (g 0) w) : den pg ann_normal_noughts (takeS 2 (bI (dropS 1 code_normal_noughts))) Q g w :=
  den_exQ (kr := no) (l := []) (by kernel_rfl) h hn noE trivial

def normal_noughts_p7 (R : K1) (f_0 : Value) (w : World) : Prop :=
  normal_noughts_p6 (fun f_0 n_4 w => normal_noughts_p5 R f_0 n_4 w) f_0 w
theorem normal_noughts_p7_ok (R : K1) (hr : HR rs_normal_noughts R Q) (h : normal_noughts_p7 R (g 0) w) : den pg ann_normal_noughts (bI (dropS 1 code_normal_noughts)) Q g w :=
  den_seqs 2 _ g w (by kernel_rfl) (normal_noughts_p6_ok (thenE (fun g w => den pg ann_normal_noughts (dropS 2 (bI (dropS 1 code_normal_noughts))) Q g w) Q) g w (fun f_0 n_4 w => normal_noughts_p5 R f_0 n_4 w) (fun g w h => thenE_n (K := fun g w => den pg ann_normal_noughts (dropS 2 (bI (dropS 1 code_normal_noughts))) Q g w) (normal_noughts_p5_ok Q g w R hr h)) h)

def normal_noughts_p8 (R : K1) (f_0 : Value) (w : World) : Prop :=
  normal_noughts_p7 R f_0 w
theorem normal_noughts_p8_ok (R : K1) (hr : HR rs_normal_noughts R Q) (h : normal_noughts_p8 R (g 0) w) : den pg ann_normal_noughts (dropS 1 code_normal_noughts) Q g w :=
  den_scp _ g w (by kernel_rfl) (normal_noughts_p7_ok Q g w R hr h)

def normal_noughts_p9 (kn : K1) (f_0 : Value) (w : World) : Prop :=
  kn f_0 w
theorem normal_noughts_p9_ok (kn : K1) (hn : ∀ g w, kn (g 0) w → Q .normal g w) (h : normal_noughts_p9 kn (g 0) w) : den pg ann_normal_noughts (takeS 1 code_normal_noughts) Q g w :=
  den_exQ (kr := no) (l := []) (by kernel_rfl) h hn noE trivial

def normal_noughts_p10 (R : K1) (f_0 : Value) (w : World) : Prop :=
  normal_noughts_p9 (fun f_0 w => normal_noughts_p8 R f_0 w) f_0 w
theorem normal_noughts_p10_ok (R : K1) (hr : HR rs_normal_noughts R Q) (h : normal_noughts_p10 R (g 0) w) : den pg ann_normal_noughts code_normal_noughts Q g w :=
  den_seqs 1 _ g w (by kernel_rfl) (normal_noughts_p9_ok (thenE (fun g w => den pg ann_normal_noughts (dropS 1 code_normal_noughts) Q g w) Q) g w (fun f_0 w => normal_noughts_p8 R f_0 w) (fun g w h => thenE_n (K := fun g w => den pg ann_normal_noughts (dropS 1 code_normal_noughts) Q g w) (normal_noughts_p8_ok Q g w R hr h)) h)

def normal_noughts (a0 : Value) (w : World) (R : K1) : Prop :=
  normal_noughts_p10 R a0 w
theorem normal_noughts_does {a0 : Value} {w : World} {R : K1} (h : normal_noughts a0 w R) : Does pg F_normal_noughts #[a0] w R := by
  refine does_of_den (ann := ann_normal_noughts) (fn := Try.f55) (c := code_normal_noughts) (args := [a0]) (rs := rs_normal_noughts) (N := 22) TryM.mixed (by kernel_rfl) Try.func55 (by kernel_rfl) (by kernel_rfl) (by kernel_rfl) (of_decide_eq_true (by kernel_rfl)) (by kernel_rfl) ?_
  exact (normal_noughts_p10_ok (retQ pg rs_normal_noughts R) (envOf [a0]) w R (fun _ _ h => h) h)
-- PIECES normal_noughts/0 normal_noughts_p1 normal_noughts_p3 normal_noughts_p4 normal_noughts_p5 normal_noughts_p6 normal_noughts_p7 normal_noughts_p8 normal_noughts_p9 normal_noughts_p10
-- PIECES normal_noughts/1 normal_noughts_p2

/- lighterman/lightermanref05.Read -/
def ann_ref05_Read : FA := ⟨F_ref05_Read, fun i => .leaf ([], []) []⟩
def rs_ref05_Read : List ResultVar := [.cell 4 119, .tmp 5, .tmp 6]
noncomputable def code_ref05_Read : Code := bodyOf Try.f57
def ref05_Read_p1 (R : K1) (f_0 n_1 : Value) (w : World) : Prop :=
  Stp pg (sBox 119 f_0) w fun f_2 w =>
  Stp pg (sAlloc 119) w fun t4 w =>
  Stp pg (sBin .lss 3 (.tmp 8) (.const (.int .i64 0)) n_1 (.int .i64 0)) w fun t9 w =>
  Gd (isB t9 false) (fun K => K n_1 w) w fun t11 w =>
  Gd (isB t9 false) (fun K => Stp pg (sBin .gtr 3 (.tmp 11) (.const (.int .i64 32)) t11 (.int .i64 32)) w K) w fun t12 w =>
  Stp pg (sPick t9 (.bool true) t12) w fun t13 w =>
  Cnd t13
    (Stp pg (sLoad 119 f_2) w fun t14 w =>
    Stp pg (sStore 119 t4 t14) w fun _u w =>
    LdR pg 119 t4 w fun r0 => R (.tuple #[r0, (.int .u64 0), (.int .i64 1)]) w)
    (Stp pg (sFAddr 119 f_2 0) w fun t15 w =>
    Stp pg (sLoad 58 t15) w fun t16 w =>
    Stp pg (sBi .len #[58] 3 [t16]) w fun t17 w =>
    Stp pg (sFAddr 119 f_2 1) w fun t18 w =>
    Stp pg (sLoad 3 t18) w fun t19 w =>
    Stp pg (sBin .sub 3 (.tmp 17) (.tmp 19) t17 t19) w fun t20 w =>
    Stp pg (sBin .lss 3 (.tmp 20) (.tmp 21) t20 n_1) w fun t22 w =>
    Cnd t22
      (Stp pg (sLoad 119 f_2) w fun t23 w =>
      Stp pg (sStore 119 t4 t23) w fun _u w =>
      LdR pg 119 t4 w fun r0 => R (.tuple #[r0, (.int .u64 0), (.int .i64 10)]) w)
      (Stp pg (sFAddr 119 f_2 0) w fun t24 w =>
      Stp pg (sLoad 58 t24) w fun t25 w =>
      Stp pg (sFAddr 119 f_2 1) w fun t26 w =>
      Stp pg (sLoad 3 t26) w fun t27 w =>
      Stp pg (sFAddr 119 f_2 1) w fun t28 w =>
      Stp pg (sLoad 3 t28) w fun t29 w =>
      Stp pg (sBin .add 3 (.tmp 29) (.tmp 30) t29 n_1) w fun t31 w =>
      Stp pg (sSlice 58 t25 (some t27) (some t31) none) w fun t32 w =>
      Does pg F_ref05_Number #[t32] w fun t33 w =>
      Stp pg (sFAddr 119 f_2 1) w fun t34 w =>
      Stp pg (sLoad 3 t34) w fun t35 w =>
      Stp pg (sBin .add 3 (.tmp 35) (.tmp 36) t35 n_1) w fun t37 w =>
      Stp pg (sFAddr 119 f_2 1) w fun t38 w =>
      Stp pg (sStore 3 t38 t37) w fun _u w =>
      Stp pg (sLoad 119 f_2) w fun t39 w =>
      Stp pg (sStore 119 t4 t39) w fun _u w =>
      LdR pg 119 t4 w fun r0 => R (.tuple #[r0, t33, (.int .i64 0)]) w))
theorem ref05_Read_p1_ok (R : K1) (hr : HR rs_ref05_Read R Q) (h : ref05_Read_p1 R (g 0) (g 1) w) : den pg ann_ref05_Read code_ref05_Read Q g w :=
  den_exQ (kn := no) (l := []) (by kernel_rfl) h noE hr trivial

def ref05_Read (a0 a1 : Value) (w : World) (R : K1) : Prop :=
  ref05_Read_p1 R a0 a1 w
theorem ref05_Read_does {a0 a1 : Value} {w : World} {R : K1} (h : ref05_Read a0 a1 w R) : Does pg F_ref05_Read #[a0, a1] w R := by
  refine does_of_den (ann := ann_ref05_Read) (fn := Try.f57) (c := code_ref05_Read) (args := [a0, a1]) (rs := rs_ref05_Read) (N := 41) TryM.mixed (by kernel_rfl) Try.func57 (by kernel_rfl) (by kernel_rfl) (by kernel_rfl) (of_decide_eq_true (by kernel_rfl)) (by kernel_rfl) ?_
  exact (ref05_Read_p1_ok (retQ pg rs_ref05_Read R) (envOf [a0, a1]) w R (fun _ _ h => h) h)
-- PIECES ref05_Read/0 ref05_Read_p1

/- lighterman/lightermanref06.next -/
def ann_ref06_next : FA := ⟨F_ref06_next, fun i => .leaf ([], []) []⟩
def rs_ref06_next : List ResultVar := [.cell 4 119, .tmp 5, .tmp 6]
noncomputable def code_ref06_next : Code := bodyOf Try.f58
def ref06_next_p1 (R : K1) (f_0 left_1 : Value) (w : World) : Prop :=
  Stp pg (sBox 119 f_0) w fun f_2 w =>
  Stp pg (sAlloc 119) w fun t4 w =>
  Stp pg (sBin .add 3 (.tmp 13) (.const (.int .i64 1)) left_1 (.int .i64 1)) w fun t14 w =>
  Does pg F_ref06_width #[t14] w fun t15 w =>
  Stp pg (sLoad 119 f_2) w fun t17 w =>
  Stp pg (sBin .sub 3 (.tmp 18) (.const (.int .i64 1)) t15 (.int .i64 1)) w fun t19 w =>
  Does pg F_ref05_Read #[t17, t19] w fun t20 w =>
  Stp pg (sExtr t20 0) w fun t21 w =>
  Stp pg (sExtr t20 1) w fun t22 w =>
  Stp pg (sExtr t20 2) w fun t23 w =>
  Stp pg (sStore 119 f_2 t21) w fun _u w =>
  Stp pg (sBin .neq 29 (.tmp 24) (.const (.int .i64 0)) t23 (.int .i64 0)) w fun t25 w =>
  Cnd t25
    (Stp pg (sLoad 119 f_2) w fun t26 w =>
    Stp pg (sStore 119 t4 t26) w fun _u w =>
    LdR pg 119 t4 w fun r0 => R (.tuple #[r0, (.int .i64 0), t23]) w)
    (Stp pg (sBin .sub 3 (.tmp 28) (.const (.int .i64 1)) t15 (.int .i64 1)) w fun t29 w =>
    Does pg F_ref06_Power #[t29] w fun t30 w =>
    Stp pg (sBin .mul 3 (.const (.int .i64 2)) (.tmp 31) (.int .i64 2) t30) w fun t32 w =>
    Stp pg (sBin .sub 3 (.tmp 32) (.const (.int .i64 2)) t32 (.int .i64 2)) w fun t33 w =>
    Stp pg (sBin .sub 3 (.tmp 33) (.tmp 34) t33 left_1) w fun t35 w =>
    Stp pg (sCvt 45 3 t22) w fun t37 w =>
    Stp pg (sBin .lss 3 (.tmp 37) (.tmp 38) t37 t35) w fun t39 w =>
    Cnd t39
      (Stp pg (sLoad 119 f_2) w fun t40 w =>
      Stp pg (sCvt 45 3 t22) w fun t42 w =>
      Stp pg (sStore 119 t4 t40) w fun _u w =>
      LdR pg 119 t4 w fun r0 => R (.tuple #[r0, t42, (.int .i64 0)]) w)
      (Stp pg (sLoad 119 f_2) w fun t44 w =>
      Does pg F_ref05_Read #[t44, (.int .i64 1)] w fun t45 w =>
      Stp pg (sExtr t45 0) w fun t46 w =>
      Stp pg (sExtr t45 1) w fun t47 w =>
      Stp pg (sExtr t45 2) w fun t48 w =>
      Stp pg (sStore 119 f_2 t46) w fun _u w =>
      Stp pg (sBin .neq 29 (.tmp 49) (.const (.int .i64 0)) t48 (.int .i64 0)) w fun t50 w =>
      Cnd t50
        (Stp pg (sLoad 119 f_2) w fun t51 w =>
        Stp pg (sStore 119 t4 t51) w fun _u w =>
        LdR pg 119 t4 w fun r0 => R (.tuple #[r0, (.int .i64 0), t48]) w)
        (Stp pg (sBin .eql 45 (.tmp 53) (.const (.int .u64 1)) t47 (.int .u64 1)) w fun t54 w =>
        Cnd t54
          (Stp pg (sLoad 119 f_2) w fun t55 w =>
          Stp pg (sCvt 45 3 t22) w fun t57 w =>
          Stp pg (sBin .add 3 (.tmp 57) (.tmp 58) t57 t30) w fun t59 w =>
          Stp pg (sBin .sub 3 (.tmp 59) (.tmp 60) t59 t35) w fun t61 w =>
          Stp pg (sStore 119 t4 t55) w fun _u w =>
          LdR pg 119 t4 w fun r0 => R (.tuple #[r0, t61, (.int .i64 0)]) w)
          (Stp pg (sLoad 119 f_2) w fun t62 w =>
          Stp pg (sCvt 45 3 t22) w fun t64 w =>
          Stp pg (sStore 119 t4 t62) w fun _u w =>
          LdR pg 119 t4 w fun r0 => R (.tuple #[r0, t64, (.int .i64 0)]) w))))
theorem ref06_next_p1_ok (R : K1) (hr : HR rs_ref06_next R Q) (h : ref06_next_p1 R (g 0) (g 1) w) : den pg ann_ref06_next code_ref06_next Q g w :=
  den_exQ (kn := no) (l := []) (by kernel_rfl) h noE hr trivial

def ref06_next (a0 a1 : Value) (w : World) (R : K1) : Prop :=
  ref06_next_p1 R a0 a1 w
theorem ref06_next_does {a0 a1 : Value} {w : World} {R : K1} (h : ref06_next a0 a1 w R) : Does pg F_ref06_next #[a0, a1] w R := by
  refine does_of_den (ann := ann_ref06_next) (fn := Try.f58) (c := code_ref06_next) (args := [a0, a1]) (rs := rs_ref06_next) (N := 65) TryM.mixed (by kernel_rfl) Try.func58 (by kernel_rfl) (by kernel_rfl) (by kernel_rfl) (of_decide_eq_true (by kernel_rfl)) (by kernel_rfl) ?_
  exact (ref06_next_p1_ok (retQ pg rs_ref06_next R) (envOf [a0, a1]) w R (fun _ _ h => h) h)
-- PIECES ref06_next/0 ref06_next_p1

/- lighterman/lightermanref05.Used -/
def ann_ref05_Used : FA := ⟨F_ref05_Used, fun i => .leaf ([], []) []⟩
def rs_ref05_Used : List ResultVar := [.tmp 2]
noncomputable def code_ref05_Used : Code := bodyOf Try.f59
def ref05_Used_p1 (R : K1) (f_0 : Value) (w : World) : Prop :=
  Stp pg (sBox 119 f_0) w fun f_1 w =>
  Stp pg (sFAddr 119 f_1 1) w fun t3 w =>
  Stp pg (sLoad 3 t3) w fun t4 w =>
  Stp pg (sBin .add 3 (.tmp 4) (.const (.int .i64 7)) t4 (.int .i64 7)) w fun t5 w =>
  Stp pg (sBin .quo 3 (.tmp 5) (.const (.int .i64 8)) t5 (.int .i64 8)) w fun t6 w =>
  R t6 w
theorem ref05_Used_p1_ok (R : K1) (hr : HR rs_ref05_Used R Q) (h : ref05_Used_p1 R (g 0) w) : den pg ann_ref05_Used code_ref05_Used Q g w :=
  den_exQ (kn := no) (l := []) (by kernel_rfl) h noE hr trivial

def ref05_Used (a0 : Value) (w : World) (R : K1) : Prop :=
  ref05_Used_p1 R a0 w
theorem ref05_Used_does {a0 : Value} {w : World} {R : K1} (h : ref05_Used a0 w R) : Does pg F_ref05_Used #[a0] w R := by
  refine does_of_den (ann := ann_ref05_Used) (fn := Try.f59) (c := code_ref05_Used) (args := [a0]) (rs := rs_ref05_Used) (N := 7) TryM.mixed (by kernel_rfl) Try.func59 (by kernel_rfl) (by kernel_rfl) (by kernel_rfl) (of_decide_eq_true (by kernel_rfl)) (by kernel_rfl) ?_
  exact (ref05_Used_p1_ok (retQ pg rs_ref05_Used R) (envOf [a0]) w R (fun _ _ h => h) h)
-- PIECES ref05_Used/0 ref05_Used_p1

/- lighterman/lightermanref06.width -/
def ann_ref06_width : FA := ⟨F_ref06_width, fun i => .leaf ([], []) []⟩
def rs_ref06_width : List ResultVar := [.tmp 2]
noncomputable def code_ref06_width : Code := bodyOf Try.f66
def ref06_width_p1 (R : K1) (n_3 : Value) (w : World) : Prop :=
  R n_3 w
theorem ref06_width_p1_ok (R : K1) (hr : HR rs_ref06_width R Q) (h : ref06_width_p1 R (g 3) w) : den pg ann_ref06_width (dropS 1 (dropS 2 code_ref06_width)) Q g w :=
  den_exQ (kn := no) (l := []) (by kernel_rfl) h noE hr trivial

def ref06_width_p2 (kn : K2) (k0 : K1) (x_0 n_3 : Value) (w : World) : Prop :=
  Stp pg (sBin .gtr 3 (.tmp 4) (.const (.int .i64 0)) x_0 (.int .i64 0)) w fun t5 w =>
  Cnd t5
    (Stp pg (sBin .quo 3 (.tmp 6) (.const (.int .i64 2)) x_0 (.int .i64 2)) w fun t7 w =>
    Stp pg (sBin .add 3 (.tmp 8) (.const (.int .i64 1)) n_3 (.int .i64 1)) w fun t9 w =>
    kn t7 t9 w)
    (k0 n_3 w)
theorem ref06_width_p2_ok (kn : K2) (k0 : K1) (hn : ∀ g w, kn (g 0) (g 3) w → Q .normal g w) (h0 : ∀ g w, k0 (g 3) w → Q (.exit 0) g w) (h : ref06_width_p2 kn k0 (g 0) (g 3) w) : den pg ann_ref06_width (bI (bI (takeS 1 (dropS 2 code_ref06_width)))) Q g w :=
  den_exQ (kr := no) (l := [(0, fun g w => k0 (g 3) w)]) (by kernel_rfl) h hn noE ⟨h0, trivial⟩

def ref06_width_p3 (k0 : K1) (x_0 n_3 : Value) (w : World) : Prop :=
  LoopD (fun (X : (Value × Value) → K0) (t : Value × Value) (w : World) => ref06_width_p2 (fun x_0 n_3 w => X (x_0, n_3) w) k0 t.1 t.2 w) (x_0, n_3) w
theorem ref06_width_p3_ok (k0 : K1) (h0 : ∀ g w, k0 (g 3) w → Q (.exit 0) g w) (h : ref06_width_p3 k0 (g 0) (g 3) w) : den pg ann_ref06_width (bI (takeS 1 (dropS 2 code_ref06_width))) Q g w := by
  refine den_loops (T := Value × Value) (fun g : Env => (g 0, g 3)) (fun X t w => ref06_width_p2 (fun x_0 n_3 w => X (x_0, n_3) w) k0 t.1 t.2 w) _ (by kernel_rfl) h (fun X g1 w1 ha h1 => ?_)
  exact (ref06_width_p2_ok (thenE (fun g2 w2 => X ((fun g : Env => (g 0, g 3)) g2) w2) Q) g1 w1 (fun x_0 n_3 w => X (x_0, n_3) w) k0 (fun _ _ h => h) h0 h1)

def ref06_width_p4 (kn : K1) (x_0 n_3 : Value) (w : World) : Prop :=
  ref06_width_p3 kn x_0 n_3 w
theorem ref06_width_p4_ok (kn : K1) (hn : ∀ g w, kn (g 3) w → Q .normal g w) (h : ref06_width_p4 kn (g 0) (g 3) w) : den pg ann_ref06_width (takeS 1 (dropS 2 code_ref06_width)) Q g w :=
  den_blk 0 _ g w (by kernel_rfl) (ref06_width_p3_ok (blk 0 Q) g w kn hn h)

def ref06_width_p5 (R : K1) (x_0 n_3 : Value) (w : World) : Prop :=
  ref06_width_p4 (fun n_3 w => ref06_width_p1 R n_3 w) x_0 n_3 w
theorem ref06_width_p5_ok (R : K1) (hr : HR rs_ref06_width R Q) (h : ref06_width_p5 R (g 0) (g 3) w) : den pg ann_ref06_width (dropS 2 code_ref06_width) Q g w :=
  den_seqs 1 _ g w (by kernel_rfl) (ref06_width_p4_ok (thenE (fun g w => den pg ann_ref06_width (dropS 1 (dropS 2 code_ref06_width)) Q g w) Q) g w (fun n_3 w => ref06_width_p1 R n_3 w) (fun g w h => thenE_n (K := fun g w => den pg ann_ref06_width (dropS 1 (dropS 2 code_ref06_width)) Q g w) (ref06_width_p1_ok Q g w R hr h)) h)

def ref06_width_p6 (kn : K2) (x_0 : Value) (w : World) : Prop :=
  kn x_0 (.int .i64 0) w
theorem ref06_width_p6_ok (kn : K2) (hn : ∀ g w, kn (g 0) (g 3) w → Q .normal g w) (h : ref06_width_p6 kn (g 0) w) : den pg ann_ref06_width (takeS 2 code_ref06_width) Q g w :=
  den_exQ (kr := no) (l := []) (by kernel_rfl) h hn noE trivial

def ref06_width_p7 (R : K1) (x_0 : Value) (w : World) : Prop :=
  ref06_width_p6 (fun x_0 n_3 w => ref06_width_p5 R x_0 n_3 w) x_0 w
theorem ref06_width_p7_ok (R : K1) (hr : HR rs_ref06_width R Q) (h : ref06_width_p7 R (g 0) w) : den pg ann_ref06_width code_ref06_width Q g w :=
  den_seqs 2 _ g w (by kernel_rfl) (ref06_width_p6_ok (thenE (fun g w => den pg ann_ref06_width (dropS 2 code_ref06_width) Q g w) Q) g w (fun x_0 n_3 w => ref06_width_p5 R x_0 n_3 w) (fun g w h => thenE_n (K := fun g w => den pg ann_ref06_width (dropS 2 code_ref06_width) Q g w) (ref06_width_p5_ok Q g w R hr h)) h)

def ref06_width (a0 : Value) (w : World) (R : K1) : Prop :=
  ref06_width_p7 R a0 w
theorem ref06_width_does {a0 : Value} {w : World} {R : K1} (h : ref06_width a0 w R) : Does pg F_ref06_width #[a0] w R := by
  refine does_of_den (ann := ann_ref06_width) (fn := Try.f66) (c := code_ref06_width) (args := [a0]) (rs := rs_ref06_width) (N := 11) TryM.mixed (by kernel_rfl) Try.func66 (by kernel_rfl) (by kernel_rfl) (by kernel_rfl) (of_decide_eq_true (by kernel_rfl)) (by kernel_rfl) ?_
  exact (ref06_width_p7_ok (retQ pg rs_ref06_width R) (envOf [a0]) w R (fun _ _ h => h) h)
-- PIECES ref06_width/0 ref06_width_p1 ref06_width_p3 ref06_width_p4 ref06_width_p5 ref06_width_p6 ref06_width_p7
-- PIECES ref06_width/1 ref06_width_p2

end Go.Proofs.Ytcbkdccobhkbpaa

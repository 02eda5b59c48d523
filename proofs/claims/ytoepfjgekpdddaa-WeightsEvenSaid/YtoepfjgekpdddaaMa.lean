/- The pieces of bodies, written by a program of ours off the loaded code, each with its proof. -/
import Derived.Test.YtoepfjgekpdddaaF
namespace Go.Proofs.Ytoepfjgekpdddaa
open Go Go.En
set_option linter.unusedVariables false
set_option maxRecDepth 20000
attribute [local irreducible] Go.En.den
variable (Q : Exit → Env → World → Prop) (g : Env) (w : World)
/- lighterman/lightermanlaw08.WeightsWhole -/
def ann_law08_WeightsWhole : FA := ⟨F_law08_WeightsWhole, fun i => match Nat.beq i 15 with | true => .leaf ([], []) [(false, []), (false, []), (false, []), (false, []), (false, []), (false, []), (false, []), (false, []), (false, []), (false, []), (false, []), (false, []), (false, []), (false, []), (false, []), (false, []), (false, []), (false, []), (false, []), (false, []), (false, []), (false, []), (false, []), (false, [])] | false => .leaf ([], []) []⟩
def rs_law08_WeightsWhole : List ResultVar := [.tmp 2]
noncomputable def code_law08_WeightsWhole : Code := bodyOf Try.f3
def law08_WeightsWhole_p1 (R : K1) (a_4 e_5 : Value) (w : World) : Prop :=
  Stp pg (sBin .neq 24 (.tmp 94) (.const (.int .i64 0)) e_5 (.int .i64 0)) w fun t95 w =>
  Cnd t95
    (R (.bool true) w)
    (Does pg F_weights_Codes #[a_4] w fun t98 w =>
    Stp pg (sExtr t98 0) w fun t99 w =>
    Stp pg (sExtr t98 1) w fun t100 w =>
    Stp pg (sBin .eql 24 (.tmp 101) (.const (.int .i64 0)) t100 (.int .i64 0)) w fun t102 w =>
    R t102 w)
theorem law08_WeightsWhole_p1_ok (R : K1) (hr : HR rs_law08_WeightsWhole R Q) (h : law08_WeightsWhole_p1 R (g 4) (g 5) w) : den pg ann_law08_WeightsWhole (dropS 1 (dropS 9 code_law08_WeightsWhole)) Q g w :=
  den_exQ (kn := no) (l := []) (by kernel_rfl) h noE hr trivial

def law08_WeightsWhole_p2 (kn : K5) (k0 : K2) (R : K1) (a_4 e_5 c_8 d_10 i_12 : Value) (w : World) : Prop :=
  Stp pg (sBi .len #[29] 3 [c_8]) w fun t66 w =>
  Stp pg (sBin .lss 3 (.tmp 64) (.tmp 66) i_12 t66) w fun t67 w =>
  Cnd t67
    ((dr w) = (dr w) ∧
    (dr w) = (dr w) ∧
    Stp pg (sIAddr 29 c_8 i_12) (dr w) fun t72 w_ => w_ = (dr w) ∧
    Stp pg (sFAddr 36 t72 0) (dr w) fun t73 w_ => w_ = (dr w) ∧
    Stp pg (sLoad 3 t73) (dr w) fun t74 w_ => w_ = (dr w) ∧
    (dr w) = (dr w) ∧
    (dr w) = (dr w) ∧
    Stp pg (sIAddr 32 d_10 i_12) (dr w) fun t77 w_ => w_ = (dr w) ∧
    Stp pg (sFAddr 37 t77 0) (dr w) fun t78 w_ => w_ = (dr w) ∧
    Stp pg (sLoad 3 t78) (dr w) fun t79 w_ => w_ = (dr w) ∧
    Stp pg (sBin .neq 3 (.tmp 74) (.tmp 79) t74 t79) (dr w) fun t80 w_ => w_ = (dr w) ∧
    (dr w) = (dr w) ∧
    Gd (isB t80 false) (fun K => K c_8 (dr w)) (dr w) fun t82 w_ => w_ = (dr w) ∧
    Gd (isB t80 false) (fun K => K i_12 (dr w)) (dr w) fun t83 w_ => w_ = (dr w) ∧
    Gd (isB t80 false) (fun K => Stp pg (sIAddr 29 t82 t83) (dr w) K) (dr w) fun t84 w_ => w_ = (dr w) ∧
    Gd (isB t80 false) (fun K => Stp pg (sFAddr 36 t84 1) (dr w) K) (dr w) fun t85 w_ => w_ = (dr w) ∧
    Gd (isB t80 false) (fun K => Stp pg (sLoad 3 t85) (dr w) K) (dr w) fun t86 w_ => w_ = (dr w) ∧
    Gd (isB t80 false) (fun K => K d_10 (dr w)) (dr w) fun t87 w_ => w_ = (dr w) ∧
    Gd (isB t80 false) (fun K => K i_12 (dr w)) (dr w) fun t88 w_ => w_ = (dr w) ∧
    Gd (isB t80 false) (fun K => Stp pg (sIAddr 32 t87 t88) (dr w) K) (dr w) fun t89 w_ => w_ = (dr w) ∧
    Gd (isB t80 false) (fun K => Stp pg (sFAddr 37 t89 1) (dr w) K) (dr w) fun t90 w_ => w_ = (dr w) ∧
    Gd (isB t80 false) (fun K => Stp pg (sLoad 3 t90) (dr w) K) (dr w) fun t91 w_ => w_ = (dr w) ∧
    Gd (isB t80 false) (fun K => Stp pg (sBin .neq 3 (.tmp 86) (.tmp 91) t86 t91) (dr w) K) (dr w) fun t92 w_ => w_ = (dr w) ∧
    Stp pg (sPick t80 (.bool true) t92) (dr w) fun t93 w_ => w_ = (dr w) ∧
    Cnd t93
      (R (.bool false) (dr w))
      (Stp pg (sBin .add 3 (.tmp 68) (.const (.int .i64 1)) i_12 (.int .i64 1)) (dr w) fun t69 w =>
      kn a_4 e_5 c_8 d_10 t69 w))
    (k0 a_4 e_5 w)
theorem law08_WeightsWhole_p2_ok (kn : K5) (k0 : K2) (R : K1) (hn : ∀ g w, kn (g 4) (g 5) (g 8) (g 10) (g 12) w → Q .normal g w) (h0 : ∀ g w, k0 (g 4) (g 5) w → Q (.exit 0) g w) (hr : HR rs_law08_WeightsWhole R Q) (h : law08_WeightsWhole_p2 kn k0 R (g 4) (g 5) (g 8) (g 10) (g 12) w) : den pg ann_law08_WeightsWhole (bI (bI (dropS 1 (takeS 1 (dropS 9 code_law08_WeightsWhole))))) Q g w :=
  den_exQ (l := [(0, fun g w => k0 (g 4) (g 5) w)]) (by kernel_rfl) h hn hr ⟨h0, trivial⟩

def law08_WeightsWhole_p3 (k0 : K2) (R : K1) (a_4 e_5 c_8 d_10 i_12 : Value) (w : World) : Prop :=
  LoopD (fun (X : Value → K0) (t : Value) (w : World) => law08_WeightsWhole_p2 (fun _ _ _ _ i_12 w => X i_12 w) k0 R a_4 e_5 c_8 d_10 t w) i_12 w
theorem law08_WeightsWhole_p3_ok (k0 : K2) (R : K1) (h0 : ∀ g w, k0 (g 4) (g 5) w → Q (.exit 0) g w) (hr : HR rs_law08_WeightsWhole R Q) (h : law08_WeightsWhole_p3 k0 R (g 4) (g 5) (g 8) (g 10) (g 12) w) : den pg ann_law08_WeightsWhole (bI (dropS 1 (takeS 1 (dropS 9 code_law08_WeightsWhole)))) Q g w := by
  refine den_loops (T := Value) (fun g : Env => g 12) (fun X t w => law08_WeightsWhole_p2 (fun _ _ _ _ i_12 w => X i_12 w) k0 R (g 4) (g 5) (g 8) (g 10) t w) _ (by kernel_rfl) h (fun X g1 w1 ha hL => ?_)
  rw [← agree_at (s := 4) ha (by kernel_rfl)] at hL
  rw [← agree_at (s := 5) ha (by kernel_rfl)] at hL
  rw [← agree_at (s := 8) ha (by kernel_rfl)] at hL
  rw [← agree_at (s := 10) ha (by kernel_rfl)] at hL
  exact (law08_WeightsWhole_p2_ok (thenE (fun g2 w2 => X ((fun g : Env => g 12) g2) w2) Q) g1 w1 (fun _ _ _ _ i_12 w => X i_12 w) k0 R (fun _ _ h => h) h0 hr hL)

def law08_WeightsWhole_p4 (kn : K2) (R : K1) (a_4 e_5 c_8 d_10 i_12 : Value) (w : World) : Prop :=
  law08_WeightsWhole_p3 kn R a_4 e_5 c_8 d_10 i_12 w
theorem law08_WeightsWhole_p4_ok (kn : K2) (R : K1) (hn : ∀ g w, kn (g 4) (g 5) w → Q .normal g w) (hr : HR rs_law08_WeightsWhole R Q) (h : law08_WeightsWhole_p4 kn R (g 4) (g 5) (g 8) (g 10) (g 12) w) : den pg ann_law08_WeightsWhole (dropS 1 (takeS 1 (dropS 9 code_law08_WeightsWhole))) Q g w :=
  den_blk 0 _ g w (by kernel_rfl) (law08_WeightsWhole_p3_ok (blk 0 Q) g w kn R hn hr h)

def law08_WeightsWhole_p5 (kn : K5) (a_4 e_5 c_8 d_10 : Value) (w : World) : Prop :=
  kn a_4 e_5 c_8 d_10 (.int .i64 0) w
theorem law08_WeightsWhole_p5_ok (kn : K5) (hn : ∀ g w, kn (g 4) (g 5) (g 8) (g 10) (g 12) w → Q .normal g w) (h : law08_WeightsWhole_p5 kn (g 4) (g 5) (g 8) (g 10) w) : den pg ann_law08_WeightsWhole (takeS 1 (takeS 1 (dropS 9 code_law08_WeightsWhole))) Q g w :=
  den_exQ (kr := no) (l := []) (by kernel_rfl) h hn noE trivial

def law08_WeightsWhole_p6 (kn : K2) (R : K1) (a_4 e_5 c_8 d_10 : Value) (w : World) : Prop :=
  law08_WeightsWhole_p5 (fun a_4 e_5 c_8 d_10 i_12 w => law08_WeightsWhole_p4 kn R a_4 e_5 c_8 d_10 i_12 w) a_4 e_5 c_8 d_10 w
theorem law08_WeightsWhole_p6_ok (kn : K2) (R : K1) (hn : ∀ g w, kn (g 4) (g 5) w → Q .normal g w) (hr : HR rs_law08_WeightsWhole R Q) (h : law08_WeightsWhole_p6 kn R (g 4) (g 5) (g 8) (g 10) w) : den pg ann_law08_WeightsWhole (takeS 1 (dropS 9 code_law08_WeightsWhole)) Q g w :=
  den_seqs 1 _ g w (by kernel_rfl) (law08_WeightsWhole_p5_ok (thenE (fun g w => den pg ann_law08_WeightsWhole (dropS 1 (takeS 1 (dropS 9 code_law08_WeightsWhole))) Q g w) Q) g w (fun a_4 e_5 c_8 d_10 i_12 w => law08_WeightsWhole_p4 kn R a_4 e_5 c_8 d_10 i_12 w) (fun g w h => thenE_n (K := fun g w => den pg ann_law08_WeightsWhole (dropS 1 (takeS 1 (dropS 9 code_law08_WeightsWhole))) Q g w) (law08_WeightsWhole_p4_ok Q g w kn R hn hr h)) h)

def law08_WeightsWhole_p7 (R : K1) (a_4 e_5 c_8 d_10 : Value) (w : World) : Prop :=
  law08_WeightsWhole_p6 (fun a_4 e_5 w => law08_WeightsWhole_p1 R a_4 e_5 w) R a_4 e_5 c_8 d_10 w
theorem law08_WeightsWhole_p7_ok (R : K1) (hr : HR rs_law08_WeightsWhole R Q) (h : law08_WeightsWhole_p7 R (g 4) (g 5) (g 8) (g 10) w) : den pg ann_law08_WeightsWhole (dropS 9 code_law08_WeightsWhole) Q g w :=
  den_seqs 1 _ g w (by kernel_rfl) (law08_WeightsWhole_p6_ok (thenE (fun g w => den pg ann_law08_WeightsWhole (dropS 1 (dropS 9 code_law08_WeightsWhole)) Q g w) Q) g w (fun a_4 e_5 w => law08_WeightsWhole_p1 R a_4 e_5 w) R (fun g w h => thenE_n (K := fun g w => den pg ann_law08_WeightsWhole (dropS 1 (dropS 9 code_law08_WeightsWhole)) Q g w) (law08_WeightsWhole_p1_ok Q g w R hr h)) hr h)

def law08_WeightsWhole_p8 (kn : K4) (R : K1) (l_0 : Value) (w : World) : Prop :=
  Does pg F_law08_awake #[] w fun t15 w =>
  Stp pg (sUn .not t15) w fun t17 w =>
  Cnd t17
    (R (.bool false) w)
    (Stp pg (sBi .len #[22] 3 [l_0]) w fun t19 w =>
    Stp pg (sBin .gtr 3 (.tmp 19) (.const (.int .i64 300)) t19 (.int .i64 300)) w fun t20 w =>
    Cnd t20
      (R (.bool true) w)
      (Does pg F_weights_Whole #[l_0] w fun t23 w =>
      Stp pg (sExtr t23 0) w fun t24 w =>
      Stp pg (sExtr t23 1) w fun t25 w =>
      Stp pg (sCvt 22 9 l_0) w fun t28 w =>
      Does pg F_ref08_Whole #[t28] w fun t29 w =>
      Stp pg (sExtr t29 0) w fun t30 w =>
      Stp pg (sExtr t29 1) w fun t31 w =>
      Does pg F_weights_Codes #[l_0] w fun t34 w =>
      Stp pg (sExtr t34 0) w fun t35 w =>
      Stp pg (sExtr t34 1) w fun t36 w =>
      Stp pg (sCvt 22 9 l_0) w fun t39 w =>
      Does pg F_ref08_Codes #[t39] w fun t40 w =>
      Stp pg (sExtr t40 0) w fun t41 w =>
      Stp pg (sExtr t40 1) w fun t42 w =>
      Stp pg (sCvt 22 9 t24) w fun t44 w =>
      Stp pg (sBin .neq 9 (.tmp 44) (.tmp 45) t44 t30) w fun t46 w =>
      Gd (isB t46 false) (fun K => K t25 w) w fun t48 w =>
      Gd (isB t46 false) (fun K => K t31 w) w fun t49 w =>
      Gd (isB t46 false) (fun K => Stp pg (sBin .neq 24 (.tmp 48) (.tmp 49) t48 t49) w K) w fun t50 w =>
      Stp pg (sPick t46 (.bool true) t50) w fun t51 w =>
      Gd (isB t51 false) (fun K => K t36 w) w fun t53 w =>
      Gd (isB t51 false) (fun K => K t42 w) w fun t54 w =>
      Gd (isB t51 false) (fun K => Stp pg (sBin .neq 24 (.tmp 53) (.tmp 54) t53 t54) w K) w fun t55 w =>
      Stp pg (sPick t51 (.bool true) t55) w fun t56 w =>
      Gd (isB t56 false) (fun K => K t35 w) w fun t58 w =>
      Gd (isB t56 false) (fun K => Stp pg (sBi .len #[29] 3 [t58]) w K) w fun t59 w =>
      Gd (isB t56 false) (fun K => K t41 w) w fun t60 w =>
      Gd (isB t56 false) (fun K => Stp pg (sBi .len #[32] 3 [t60]) w K) w fun t61 w =>
      Gd (isB t56 false) (fun K => Stp pg (sBin .neq 3 (.tmp 59) (.tmp 61) t59 t61) w K) w fun t62 w =>
      Stp pg (sPick t56 (.bool true) t62) w fun t63 w =>
      Cnd t63
        (R (.bool false) w)
        (kn t24 t25 t35 t41 w)))
theorem law08_WeightsWhole_p8_ok (kn : K4) (R : K1) (hn : ∀ g w, kn (g 4) (g 5) (g 8) (g 10) w → Q .normal g w) (hr : HR rs_law08_WeightsWhole R Q) (h : law08_WeightsWhole_p8 kn R (g 0) w) : den pg ann_law08_WeightsWhole (takeS 9 code_law08_WeightsWhole) Q g w :=
  den_exQ (l := []) (by kernel_rfl) h hn hr trivial

def law08_WeightsWhole_p9 (R : K1) (l_0 : Value) (w : World) : Prop :=
  law08_WeightsWhole_p8 (fun a_4 e_5 c_8 d_10 w => law08_WeightsWhole_p7 R a_4 e_5 c_8 d_10 w) R l_0 w
theorem law08_WeightsWhole_p9_ok (R : K1) (hr : HR rs_law08_WeightsWhole R Q) (h : law08_WeightsWhole_p9 R (g 0) w) : den pg ann_law08_WeightsWhole code_law08_WeightsWhole Q g w :=
  den_seqs 9 _ g w (by kernel_rfl) (law08_WeightsWhole_p8_ok (thenE (fun g w => den pg ann_law08_WeightsWhole (dropS 9 code_law08_WeightsWhole) Q g w) Q) g w (fun a_4 e_5 c_8 d_10 w => law08_WeightsWhole_p7 R a_4 e_5 c_8 d_10 w) R (fun g w h => thenE_n (K := fun g w => den pg ann_law08_WeightsWhole (dropS 9 code_law08_WeightsWhole) Q g w) (law08_WeightsWhole_p7_ok Q g w R hr h)) hr h)

def law08_WeightsWhole (a0 : Value) (w : World) (R : K1) : Prop :=
  law08_WeightsWhole_p9 R a0 w
theorem law08_WeightsWhole_does {a0 : Value} {w : World} {R : K1} (h : law08_WeightsWhole a0 w R) : Does pg F_law08_WeightsWhole #[a0] w R := by
  refine does_of_den (ann := ann_law08_WeightsWhole) (fn := Try.f3) (c := code_law08_WeightsWhole) (args := [a0]) (rs := rs_law08_WeightsWhole) (N := 103) TryM.mixed (by kernel_rfl) Try.func3 (by kernel_rfl) (by kernel_rfl) (by kernel_rfl) (of_decide_eq_true (by kernel_rfl)) (by kernel_rfl) ?_
  exact (law08_WeightsWhole_p9_ok (retQ pg rs_law08_WeightsWhole R) (envOf [a0]) w R (fun _ _ h => h) h)
-- PIECES law08_WeightsWhole/0 law08_WeightsWhole_p1 law08_WeightsWhole_p3 law08_WeightsWhole_p4 law08_WeightsWhole_p5 law08_WeightsWhole_p6 law08_WeightsWhole_p7 law08_WeightsWhole_p8 law08_WeightsWhole_p9
-- PIECES law08_WeightsWhole/1 law08_WeightsWhole_p2

end Go.Proofs.Ytoepfjgekpdddaa

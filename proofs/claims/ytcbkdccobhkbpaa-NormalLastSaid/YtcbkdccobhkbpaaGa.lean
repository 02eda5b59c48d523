/- The pieces of bodies, written by a program of ours off the loaded code, each with its proof. -/
import Derived.Test.YtcbkdccobhkbpaaF
namespace Go.Proofs.Ytcbkdccobhkbpaa
open Go Go.En
set_option linter.unusedVariables false
set_option maxRecDepth 20000
attribute [local irreducible] Go.En.den
variable (Q : Exit → Env → World → Prop) (g : Env) (w : World)
/- lighterman/lightermanlaw07.FseReads -/
def ann_law07_FseReads : FA := ⟨F_law07_FseReads, fun i => match Nat.beq i 24 with | true => .leaf ([5, 7], [(5, 6)]) [(false, []), (false, []), (false, []), (false, []), (false, []), (true, []), (false, [0]), (true, []), (false, []), (false, [])] | false => match Nat.beq i 28 with | true => .leaf ([5, 7], [(5, 6)]) [(false, []), (false, []), (false, []), (false, []), (false, []), (true, []), (false, [0]), (true, []), (false, []), (false, []), (false, [])] | false => .leaf ([], []) []⟩
def rs_law07_FseReads : List ResultVar := [.tmp 8]
noncomputable def code_law07_FseReads : Code := bodyOf Try.f6
def law07_FseReads_p1 (R : K1) (r_14 v_16 s_18 z_19 : Value) (w : World) : Prop :=
  (dr w) = (dr w) ∧
  (dr w) = (dr w) ∧
  Stp pg (sBin .eql 3 (.tmp 113) (.tmp 114) s_18 z_19) (dr w) fun t115 w_ => w_ = (dr w) ∧
  (dr w) = (dr w) ∧
  Gd (isB t115 true) (fun K => K r_14 (dr w)) (dr w) fun t117 w_ => w_ = (dr w) ∧
  Gd (isB t115 true) (fun K => Does pg F_bits_Backward_Left #[t117] (dr w) K) (dr w) fun t118 w28_5 =>
  Gd (isB t115 true) (fun K => Stp pg (sLoad 60 v_16) w28_5 K) w28_5 fun t119 w_ => w_ = w28_5 ∧
  (Gs (isB t115 true) (Same pg (sLoad 60 v_16) t119 (dr w)) ∧ True) ∧
  Gd (isB t115 true) (fun K => Does pg F_ref05_Left #[t119] w28_5 K) w28_5 fun t120 w28_7 =>
  Gd (isB t115 true) (fun K => Stp pg (sBin .eql 3 (.tmp 118) (.tmp 120) t118 t120) w28_7 K) w28_7 fun t121 w_ => w_ = w28_7 ∧
  Stp pg (sPick t115 t121 (.bool false)) w28_7 fun t122 w_ => w_ = w28_7 ∧
  w28_7 = w28_7 ∧
  R t122 w28_7
theorem law07_FseReads_p1_ok (R : K1) (hr : HR rs_law07_FseReads R Q) (h : law07_FseReads_p1 R (g 14) (g 16) (g 18) (g 19) w) : den pg ann_law07_FseReads (dropS 1 (dropS 6 (dropS 7 code_law07_FseReads))) Q g w :=
  den_exQ (kn := no) (l := []) (by kernel_rfl) h noE hr trivial

def law07_FseReads_p2 (kn : K8) (k0 : K4) (R : K1) (n_2 t10 w_12 r_14 v_16 s_18 z_19 i_20 : Value) (w : World) : Prop :=
  Stp pg (sBin .rem 5 (.tmp 86) (.const (.int .u8 40)) n_2 (.int .u8 40)) w fun t87 w =>
  Stp pg (sCvt 5 3 t87) w fun t88 w =>
  Stp pg (sBin .lss 3 (.tmp 85) (.tmp 88) i_20 t88) w fun t89 w =>
  Cnd t89
    ((dr w) = (dr w) ∧
    (dr w) = (dr w) ∧
    Stp pg (sBin .neq 3 (.tmp 92) (.tmp 93) s_18 z_19) (dr w) fun t94 w_ => w_ = (dr w) ∧
    (dr w) = (dr w) ∧
    Gd (isB t94 false) (fun K => K r_14 (dr w)) (dr w) fun t96 w_ => w_ = (dr w) ∧
    Gd (isB t94 false) (fun K => Does pg F_bits_Backward_Left #[t96] (dr w) K) (dr w) fun t97 w24_5 =>
    Gd (isB t94 false) (fun K => Stp pg (sLoad 60 v_16) w24_5 K) w24_5 fun t98 w_ => w_ = w24_5 ∧
    (Gs (isB t94 false) (Same pg (sLoad 60 v_16) t98 (dr w)) ∧ True) ∧
    Gd (isB t94 false) (fun K => Does pg F_ref05_Left #[t98] w24_5 K) w24_5 fun t99 w24_7 =>
    Gd (isB t94 false) (fun K => Stp pg (sBin .neq 3 (.tmp 97) (.tmp 99) t97 t99) w24_7 K) w24_7 fun t100 w_ => w_ = w24_7 ∧
    Stp pg (sPick t94 (.bool true) t100) w24_7 fun t101 w_ => w_ = w24_7 ∧
    Cnd t101
      (R (.bool false) w24_7)
      (Stp pg (sLoad 28 t10) w24_7 fun t102 w =>
      Does pg F_fse_Next #[t102, s_18, r_14] w fun t105 w =>
      Stp pg (sLoad 34 w_12) w fun t107 w =>
      Stp pg (sLoad 60 v_16) w fun t109 w =>
      Does pg F_ref07_Next #[t107, z_19, t109] w fun t110 w =>
      Stp pg (sExtr t110 0) w fun t111 w =>
      Stp pg (sExtr t110 1) w fun t112 w =>
      Stp pg (sStore 60 v_16 t111) w fun _u w =>
      Stp pg (sBin .add 3 (.tmp 90) (.const (.int .i64 1)) i_20 (.int .i64 1)) w fun t91 w =>
      kn n_2 t10 w_12 r_14 v_16 t105 t112 t91 w))
    (k0 r_14 v_16 s_18 z_19 w)
theorem law07_FseReads_p2_ok (kn : K8) (k0 : K4) (R : K1) (hn : ∀ g w, kn (g 2) (g 10) (g 12) (g 14) (g 16) (g 18) (g 19) (g 20) w → Q .normal g w) (h0 : ∀ g w, k0 (g 14) (g 16) (g 18) (g 19) w → Q (.exit 0) g w) (hr : HR rs_law07_FseReads R Q) (h : law07_FseReads_p2 kn k0 R (g 2) (g 10) (g 12) (g 14) (g 16) (g 18) (g 19) (g 20) w) : den pg ann_law07_FseReads (bI (bI (dropS 1 (takeS 1 (dropS 6 (dropS 7 code_law07_FseReads)))))) Q g w :=
  den_exQ (l := [(0, fun g w => k0 (g 14) (g 16) (g 18) (g 19) w)]) (by kernel_rfl) h hn hr ⟨h0, trivial⟩

def law07_FseReads_p3 (k0 : K4) (R : K1) (n_2 t10 w_12 r_14 v_16 s_18 z_19 i_20 : Value) (w : World) : Prop :=
  LoopD (fun (X : (Value × Value × Value) → K0) (t : Value × Value × Value) (w : World) => law07_FseReads_p2 (fun _ _ _ _ _ s_18 z_19 i_20 w => X (s_18, z_19, i_20) w) k0 R n_2 t10 w_12 r_14 v_16 t.1 t.2.1 t.2.2 w) (s_18, z_19, i_20) w
theorem law07_FseReads_p3_ok (k0 : K4) (R : K1) (h0 : ∀ g w, k0 (g 14) (g 16) (g 18) (g 19) w → Q (.exit 0) g w) (hr : HR rs_law07_FseReads R Q) (h : law07_FseReads_p3 k0 R (g 2) (g 10) (g 12) (g 14) (g 16) (g 18) (g 19) (g 20) w) : den pg ann_law07_FseReads (bI (dropS 1 (takeS 1 (dropS 6 (dropS 7 code_law07_FseReads))))) Q g w := by
  refine den_loops (T := Value × Value × Value) (fun g : Env => (g 18, g 19, g 20)) (fun X t w => law07_FseReads_p2 (fun _ _ _ _ _ s_18 z_19 i_20 w => X (s_18, z_19, i_20) w) k0 R (g 2) (g 10) (g 12) (g 14) (g 16) t.1 t.2.1 t.2.2 w) _ (by kernel_rfl) h (fun X g1 w1 ha h1 => ?_)
  rw [← agree_at (s := 2) ha (by kernel_rfl)] at h1
  rw [← agree_at (s := 10) ha (by kernel_rfl)] at h1
  rw [← agree_at (s := 12) ha (by kernel_rfl)] at h1
  rw [← agree_at (s := 14) ha (by kernel_rfl)] at h1
  rw [← agree_at (s := 16) ha (by kernel_rfl)] at h1
  exact (law07_FseReads_p2_ok (thenE (fun g2 w2 => X ((fun g : Env => (g 18, g 19, g 20)) g2) w2) Q) g1 w1 (fun _ _ _ _ _ s_18 z_19 i_20 w => X (s_18, z_19, i_20) w) k0 R (fun _ _ h => h) h0 hr h1)

def law07_FseReads_p4 (kn : K4) (R : K1) (n_2 t10 w_12 r_14 v_16 s_18 z_19 i_20 : Value) (w : World) : Prop :=
  law07_FseReads_p3 kn R n_2 t10 w_12 r_14 v_16 s_18 z_19 i_20 w
theorem law07_FseReads_p4_ok (kn : K4) (R : K1) (hn : ∀ g w, kn (g 14) (g 16) (g 18) (g 19) w → Q .normal g w) (hr : HR rs_law07_FseReads R Q) (h : law07_FseReads_p4 kn R (g 2) (g 10) (g 12) (g 14) (g 16) (g 18) (g 19) (g 20) w) : den pg ann_law07_FseReads (dropS 1 (takeS 1 (dropS 6 (dropS 7 code_law07_FseReads)))) Q g w :=
  den_blk 0 _ g w (by kernel_rfl) (law07_FseReads_p3_ok (blk 0 Q) g w kn R hn hr h)

def law07_FseReads_p5 (kn : K8) (n_2 t10 w_12 r_14 v_16 s_18 z_19 : Value) (w : World) : Prop :=
  kn n_2 t10 w_12 r_14 v_16 s_18 z_19 (.int .i64 0) w
theorem law07_FseReads_p5_ok (kn : K8) (hn : ∀ g w, kn (g 2) (g 10) (g 12) (g 14) (g 16) (g 18) (g 19) (g 20) w → Q .normal g w) (h : law07_FseReads_p5 kn (g 2) (g 10) (g 12) (g 14) (g 16) (g 18) (g 19) w) : den pg ann_law07_FseReads (takeS 1 (takeS 1 (dropS 6 (dropS 7 code_law07_FseReads)))) Q g w :=
  den_exQ (kr := no) (l := []) (by kernel_rfl) h hn noE trivial

def law07_FseReads_p6 (kn : K4) (R : K1) (n_2 t10 w_12 r_14 v_16 s_18 z_19 : Value) (w : World) : Prop :=
  law07_FseReads_p5 (fun n_2 t10 w_12 r_14 v_16 s_18 z_19 i_20 w => law07_FseReads_p4 kn R n_2 t10 w_12 r_14 v_16 s_18 z_19 i_20 w) n_2 t10 w_12 r_14 v_16 s_18 z_19 w
theorem law07_FseReads_p6_ok (kn : K4) (R : K1) (hn : ∀ g w, kn (g 14) (g 16) (g 18) (g 19) w → Q .normal g w) (hr : HR rs_law07_FseReads R Q) (h : law07_FseReads_p6 kn R (g 2) (g 10) (g 12) (g 14) (g 16) (g 18) (g 19) w) : den pg ann_law07_FseReads (takeS 1 (dropS 6 (dropS 7 code_law07_FseReads))) Q g w :=
  den_seqs 1 _ g w (by kernel_rfl) (law07_FseReads_p5_ok (thenE (fun g w => den pg ann_law07_FseReads (dropS 1 (takeS 1 (dropS 6 (dropS 7 code_law07_FseReads)))) Q g w) Q) g w (fun n_2 t10 w_12 r_14 v_16 s_18 z_19 i_20 w => law07_FseReads_p4 kn R n_2 t10 w_12 r_14 v_16 s_18 z_19 i_20 w) (fun g w h => thenE_n (K := fun g w => den pg ann_law07_FseReads (dropS 1 (takeS 1 (dropS 6 (dropS 7 code_law07_FseReads)))) Q g w) (law07_FseReads_p4_ok Q g w kn R hn hr h)) h)

def law07_FseReads_p7 (R : K1) (n_2 t10 w_12 r_14 v_16 s_18 z_19 : Value) (w : World) : Prop :=
  law07_FseReads_p6 (fun r_14 v_16 s_18 z_19 w => law07_FseReads_p1 R r_14 v_16 s_18 z_19 w) R n_2 t10 w_12 r_14 v_16 s_18 z_19 w
theorem law07_FseReads_p7_ok (R : K1) (hr : HR rs_law07_FseReads R Q) (h : law07_FseReads_p7 R (g 2) (g 10) (g 12) (g 14) (g 16) (g 18) (g 19) w) : den pg ann_law07_FseReads (dropS 6 (dropS 7 code_law07_FseReads)) Q g w :=
  den_seqs 1 _ g w (by kernel_rfl) (law07_FseReads_p6_ok (thenE (fun g w => den pg ann_law07_FseReads (dropS 1 (dropS 6 (dropS 7 code_law07_FseReads))) Q g w) Q) g w (fun r_14 v_16 s_18 z_19 w => law07_FseReads_p1 R r_14 v_16 s_18 z_19 w) R (fun g w h => thenE_n (K := fun g w => den pg ann_law07_FseReads (dropS 1 (dropS 6 (dropS 7 code_law07_FseReads))) Q g w) (law07_FseReads_p1_ok Q g w R hr h)) hr h)

def law07_FseReads_p8 (kn : K7) (R : K1) (b_1 n_2 t10 w_12 : Value) (w : World) : Prop :=
  Does pg F_bits_NewBackward #[b_1] w fun t62 w =>
  Stp pg (sExtr t62 0) w fun t63 w =>
  Stp pg (sExtr t62 1) w fun t64 w =>
  Stp pg (sCvt 52 9 b_1) w fun t67 w =>
  Does pg F_ref05_New #[t67] w fun t68 w =>
  Stp pg (sExtr t68 0) w fun t69 w =>
  Stp pg (sExtr t68 1) w fun t70 w =>
  Stp pg (sAlloc 60) w fun v_16 w =>
  Stp pg (sStore 60 v_16 t69) w fun _u w =>
  Stp pg (sBin .neq 29 (.tmp 71) (.tmp 72) t64 t70) w fun t73 w =>
  Cnd t73
    (R (.bool false) w)
    (Stp pg (sBin .neq 29 (.tmp 74) (.const (.int .i64 0)) t64 (.int .i64 0)) w fun t75 w =>
    Cnd t75
      (R (.bool true) w)
      (Stp pg (sLoad 28 t10) w fun t76 w =>
      Does pg F_fse_Start #[t76, t63] w fun t78 w =>
      Stp pg (sLoad 34 w_12) w fun t80 w =>
      Stp pg (sLoad 60 v_16) w fun t81 w =>
      Does pg F_ref07_Start #[t80, t81] w fun t82 w =>
      Stp pg (sExtr t82 0) w fun t83 w =>
      Stp pg (sExtr t82 1) w fun t84 w =>
      Stp pg (sStore 60 v_16 t83) w fun _u w =>
      kn n_2 t10 w_12 t63 v_16 t78 t84 w))
theorem law07_FseReads_p8_ok (kn : K7) (R : K1) (hn : ∀ g w, kn (g 2) (g 10) (g 12) (g 14) (g 16) (g 18) (g 19) w → Q .normal g w) (hr : HR rs_law07_FseReads R Q) (h : law07_FseReads_p8 kn R (g 1) (g 2) (g 10) (g 12) w) : den pg ann_law07_FseReads (takeS 6 (dropS 7 code_law07_FseReads)) Q g w :=
  den_exQ (l := []) (by kernel_rfl) h hn hr trivial

def law07_FseReads_p9 (R : K1) (b_1 n_2 t10 w_12 : Value) (w : World) : Prop :=
  law07_FseReads_p8 (fun n_2 t10 w_12 r_14 v_16 s_18 z_19 w => law07_FseReads_p7 R n_2 t10 w_12 r_14 v_16 s_18 z_19 w) R b_1 n_2 t10 w_12 w
theorem law07_FseReads_p9_ok (R : K1) (hr : HR rs_law07_FseReads R Q) (h : law07_FseReads_p9 R (g 1) (g 2) (g 10) (g 12) w) : den pg ann_law07_FseReads (dropS 7 code_law07_FseReads) Q g w :=
  den_seqs 6 _ g w (by kernel_rfl) (law07_FseReads_p8_ok (thenE (fun g w => den pg ann_law07_FseReads (dropS 6 (dropS 7 code_law07_FseReads)) Q g w) Q) g w (fun n_2 t10 w_12 r_14 v_16 s_18 z_19 w => law07_FseReads_p7 R n_2 t10 w_12 r_14 v_16 s_18 z_19 w) R (fun g w h => thenE_n (K := fun g w => den pg ann_law07_FseReads (dropS 6 (dropS 7 code_law07_FseReads)) Q g w) (law07_FseReads_p7_ok Q g w R hr h)) hr h)

def law07_FseReads_p10 (kn : K4) (R : K1) (c_0 b_1 n_2 one_3 : Value) (w : World) : Prop :=
  Stp pg (sBox 24 c_0) w fun c_4 w =>
  Does pg F_law07_awake #[] w fun t21 w =>
  Stp pg (sUn .not t21) w fun t23 w =>
  Cnd t23
    (R (.bool false) w)
    (Stp pg (sFAddr 24 c_4 1) w fun t24 w =>
    Stp pg (sLoad 22 t24) w fun t25 w =>
    Stp pg (sBi .len #[22] 3 [t25]) w fun t26 w =>
    Stp pg (sBin .gtr 3 (.tmp 26) (.const (.int .i64 300)) t26 (.int .i64 300)) w fun t27 w =>
    Gd (isB t27 false) (fun K => Stp pg (sFAddr 24 c_4 0) w K) w fun t29 w =>
    Gd (isB t27 false) (fun K => Stp pg (sLoad 3 t29) w K) w fun t30 w =>
    Gd (isB t27 false) (fun K => Stp pg (sBin .gtr 3 (.tmp 30) (.const (.int .i64 9)) t30 (.int .i64 9)) w K) w fun t31 w =>
    Stp pg (sPick t27 (.bool true) t31) w fun t32 w =>
    Gd (isB t32 false) (fun K => K b_1 w) w fun t34 w =>
    Gd (isB t32 false) (fun K => Stp pg (sBi .len #[52] 3 [t34]) w K) w fun t35 w =>
    Gd (isB t32 false) (fun K => Stp pg (sBin .gtr 3 (.tmp 35) (.const (.int .i64 100)) t35 (.int .i64 100)) w K) w fun t36 w =>
    Stp pg (sPick t32 (.bool true) t36) w fun t37 w =>
    Cnd t37
      (R (.bool true) w)
      (Stp pg (sLoad 24 c_4) w fun t39 w =>
      Does pg F_fse_Build #[t39] w fun t40 w =>
      Stp pg (sExtr t40 0) w fun t41 w =>
      Stp pg (sExtr t40 1) w fun t42 w =>
      Stp pg (sAlloc 28) w fun t10 w =>
      Stp pg (sStore 28 t10 t41) w fun _u w =>
      Stp pg (sLoad 24 c_4) w fun t44 w =>
      Does pg F_law07_modelOf #[t44] w fun t45 w =>
      Does pg F_ref07_Build #[t45] w fun t46 w =>
      Stp pg (sExtr t46 0) w fun t47 w =>
      Stp pg (sExtr t46 1) w fun t48 w =>
      Stp pg (sAlloc 34) w fun w_12 w =>
      Stp pg (sStore 34 w_12 t47) w fun _u w =>
      Cnd one_3
        (Does pg F_fse_One #[n_2] w fun t51 w =>
        Stp pg (sStore 28 t10 t51) w fun _u w =>
        Stp pg (sCvt 5 3 n_2) w fun t53 w =>
        Does pg F_ref07_One #[t53] w fun t54 w =>
        Stp pg (sStore 34 w_12 t54) w fun _u w =>
        kn b_1 n_2 t10 w_12 w)
        (Stp pg (sBin .neq 29 (.tmp 55) (.const (.int .i64 0)) t42 (.int .i64 0)) w fun t56 w =>
        Cnd t56
          (Stp pg (sBin .eql 29 (.tmp 57) (.tmp 58) t42 t48) w fun t59 w =>
          R t59 w)
          (kn b_1 n_2 t10 w_12 w))))
theorem law07_FseReads_p10_ok (kn : K4) (R : K1) (hn : ∀ g w, kn (g 1) (g 2) (g 10) (g 12) w → Q .normal g w) (hr : HR rs_law07_FseReads R Q) (h : law07_FseReads_p10 kn R (g 0) (g 1) (g 2) (g 3) w) : den pg ann_law07_FseReads (takeS 7 code_law07_FseReads) Q g w :=
  den_exQ (l := []) (by kernel_rfl) h hn hr trivial

def law07_FseReads_p11 (R : K1) (c_0 b_1 n_2 one_3 : Value) (w : World) : Prop :=
  law07_FseReads_p10 (fun b_1 n_2 t10 w_12 w => law07_FseReads_p9 R b_1 n_2 t10 w_12 w) R c_0 b_1 n_2 one_3 w
theorem law07_FseReads_p11_ok (R : K1) (hr : HR rs_law07_FseReads R Q) (h : law07_FseReads_p11 R (g 0) (g 1) (g 2) (g 3) w) : den pg ann_law07_FseReads code_law07_FseReads Q g w :=
  den_seqs 7 _ g w (by kernel_rfl) (law07_FseReads_p10_ok (thenE (fun g w => den pg ann_law07_FseReads (dropS 7 code_law07_FseReads) Q g w) Q) g w (fun b_1 n_2 t10 w_12 w => law07_FseReads_p9 R b_1 n_2 t10 w_12 w) R (fun g w h => thenE_n (K := fun g w => den pg ann_law07_FseReads (dropS 7 code_law07_FseReads) Q g w) (law07_FseReads_p9_ok Q g w R hr h)) hr h)

def law07_FseReads (a0 a1 a2 a3 : Value) (w : World) (R : K1) : Prop :=
  law07_FseReads_p11 R a0 a1 a2 a3 w
theorem law07_FseReads_does {a0 a1 a2 a3 : Value} {w : World} {R : K1} (h : law07_FseReads a0 a1 a2 a3 w R) : Does pg F_law07_FseReads #[a0, a1, a2, a3] w R := by
  refine does_of_den (ann := ann_law07_FseReads) (fn := Try.f6) (c := code_law07_FseReads) (args := [a0, a1, a2, a3]) (rs := rs_law07_FseReads) (N := 123) TryM.mixed (by kernel_rfl) Try.func6 (by kernel_rfl) (by kernel_rfl) (by kernel_rfl) (of_decide_eq_true (by kernel_rfl)) (by kernel_rfl) ?_
  exact (law07_FseReads_p11_ok (retQ pg rs_law07_FseReads R) (envOf [a0, a1, a2, a3]) w R (fun _ _ h => h) h)
-- PIECES law07_FseReads/0 law07_FseReads_p1 law07_FseReads_p3 law07_FseReads_p4 law07_FseReads_p5 law07_FseReads_p6 law07_FseReads_p7 law07_FseReads_p8 law07_FseReads_p9 law07_FseReads_p10 law07_FseReads_p11
-- PIECES law07_FseReads/1 law07_FseReads_p2

/- lighterman/lightermanref07.One -/
def ann_ref07_One : FA := ⟨F_ref07_One, fun i => .leaf ([], []) []⟩
def rs_ref07_One : List ResultVar := [.cell 2 34]
noncomputable def code_ref07_One : Code := bodyOf Try.f21
def ref07_One_p1 (R : K1) (symbol_0 : Value) (w : World) : Prop :=
  Stp pg (sAlloc 34) w fun t2 w =>
  Stp pg (sBuild 101 [(0, symbol_0)]) w fun t4 w =>
  Stp pg (sBuildSlice 32 1 [(0, t4)]) w fun t5 w =>
  Stp pg (sBuild 34 [(1, t5)]) w fun t6 w =>
  Stp pg (sStore 34 t2 t6) w fun _u w =>
  LdR pg 34 t2 w fun r0 => R r0 w
theorem ref07_One_p1_ok (R : K1) (hr : HR rs_ref07_One R Q) (h : ref07_One_p1 R (g 0) w) : den pg ann_ref07_One code_ref07_One Q g w :=
  den_exQ (kn := no) (l := []) (by kernel_rfl) h noE hr trivial

def ref07_One (a0 : Value) (w : World) (R : K1) : Prop :=
  ref07_One_p1 R a0 w
theorem ref07_One_does {a0 : Value} {w : World} {R : K1} (h : ref07_One a0 w R) : Does pg F_ref07_One #[a0] w R := by
  refine does_of_den (ann := ann_ref07_One) (fn := Try.f21) (c := code_ref07_One) (args := [a0]) (rs := rs_ref07_One) (N := 7) TryM.mixed (by kernel_rfl) Try.func21 (by kernel_rfl) (by kernel_rfl) (by kernel_rfl) (of_decide_eq_true (by kernel_rfl)) (by kernel_rfl) ?_
  exact (ref07_One_p1_ok (retQ pg rs_ref07_One R) (envOf [a0]) w R (fun _ _ h => h) h)
-- PIECES ref07_One/0 ref07_One_p1

/- lighterman/bits.NewBackward -/
def ann_bits_NewBackward : FA := ⟨F_bits_NewBackward, fun i => match Nat.beq i 3 with | true => .leaf ([1, 12, 16], [(1, 3), (1, 4), (1, 5), (1, 8), (1, 9), (1, 10), (1, 11), (3, 12), (4, 12), (5, 12)]) [(false, []), (true, []), (false, []), (false, [1]), (false, [2]), (false, [3]), (false, []), (false, []), (false, [6]), (false, [7]), (false, [8]), (false, [9]), (true, [6, 7, 8]), (false, []), (false, []), (false, []), (true, []), (false, []), (false, [])] | false => .leaf ([], []) []⟩
def rs_bits_NewBackward : List ResultVar := [.tmp 2, .tmp 3]
noncomputable def code_bits_NewBackward : Code := bodyOf Try.f22
def bits_NewBackward_p1 (R : K1) (b_0 : Value) (w : World) : Prop :=
  Stp pg (sBi .len #[52] 3 [b_0]) w fun t5 w =>
  Stp pg (sBin .eql 3 (.tmp 5) (.const (.int .i64 0)) t5 (.int .i64 0)) w fun t6 w =>
  Gd (isB t6 false) (fun K => K b_0 w) w fun t8 w =>
  Gd (isB t6 false) (fun K => K b_0 w) w fun t9 w =>
  Gd (isB t6 false) (fun K => Stp pg (sBi .len #[52] 3 [t9]) w K) w fun t10 w =>
  Gd (isB t6 false) (fun K => Stp pg (sBin .sub 3 (.tmp 10) (.const (.int .i64 1)) t10 (.int .i64 1)) w K) w fun t11 w =>
  Gd (isB t6 false) (fun K => Stp pg (sIAddr 52 t8 t11) w K) w fun t12 w =>
  Gd (isB t6 false) (fun K => Stp pg (sLoad 5 t12) w K) w fun t13 w =>
  Gd (isB t6 false) (fun K => Stp pg (sBin .eql 5 (.tmp 13) (.const (.int .u8 0)) t13 (.int .u8 0)) w K) w fun t14 w =>
  Stp pg (sPick t6 (.bool true) t14) w fun t15 w =>
  Cnd t15
    (R (.tuple #[(.pointer none), (.int .i64 11)]) w)
    ((dr w) = (dr w) ∧
    Does pg F_slices_Clone_inst #[b_0] (dr w) fun t17 w3_1 =>
    w3_1 = w3_1 ∧
    Stp pg (sBi .len #[52] 3 [b_0]) w3_1 fun t19 w_ => w_ = w3_1 ∧
    (Same pg (sBi .len #[52] 3 [b_0]) t19 (dr w) ∧ True) ∧
    Stp pg (sBin .sub 3 (.tmp 19) (.const (.int .i64 1)) t19 (.int .i64 1)) w3_1 fun t20 w_ => w_ = w3_1 ∧
    (Same pg (sBin .sub 3 (.tmp 19) (.const (.int .i64 1)) t19 (.int .i64 1)) t20 (dr w) ∧ True) ∧
    Stp pg (sBin .mul 3 (.const (.int .i64 8)) (.tmp 20) (.int .i64 8) t20) w3_1 fun t21 w_ => w_ = w3_1 ∧
    (Same pg (sBin .mul 3 (.const (.int .i64 8)) (.tmp 20) (.int .i64 8) t20) t21 (dr w) ∧ True) ∧
    w3_1 = w3_1 ∧
    w3_1 = w3_1 ∧
    Stp pg (sBi .len #[52] 3 [b_0]) w3_1 fun t24 w_ => w_ = w3_1 ∧
    (Same pg (sBi .len #[52] 3 [b_0]) t24 (dr w) ∧ True) ∧
    Stp pg (sBin .sub 3 (.tmp 24) (.const (.int .i64 1)) t24 (.int .i64 1)) w3_1 fun t25 w_ => w_ = w3_1 ∧
    (Same pg (sBin .sub 3 (.tmp 24) (.const (.int .i64 1)) t24 (.int .i64 1)) t25 (dr w) ∧ True) ∧
    Stp pg (sIAddr 52 b_0 t25) w3_1 fun t26 w_ => w_ = w3_1 ∧
    (Same pg (sIAddr 52 b_0 t25) t26 (dr w) ∧ True) ∧
    Stp pg (sLoad 5 t26) w3_1 fun t27 w_ => w_ = w3_1 ∧
    (Same pg (sLoad 5 t26) t27 (dr w) ∧ True) ∧
    Does pg F_math_bits_Len8 #[t27] w3_1 fun t28 w3_12 =>
    (Same pg (sBin .mul 3 (.const (.int .i64 8)) (.tmp 20) (.int .i64 8) t20) t21 w3_12 ∧ Same pg (sBin .sub 3 (.tmp 19) (.const (.int .i64 1)) t19 (.int .i64 1)) t20 w3_12 ∧ Same pg (sBi .len #[52] 3 [b_0]) t19 w3_12 ∧ True) ∧
    Stp pg (sBin .add 3 (.tmp 21) (.tmp 28) t21 t28) w3_12 fun t29 w_ => w_ = w3_12 ∧
    Stp pg (sBin .sub 3 (.tmp 29) (.const (.int .i64 1)) t29 (.int .i64 1)) w3_12 fun t30 w_ => w_ = w3_12 ∧
    Stp pg (sBuild 105 [(0, t17), (1, t30)]) w3_12 fun t31 w_ => w_ = w3_12 ∧
    Stp pg (sBox 105 t31) w3_12 fun t32 w3_16 =>
    w3_16 = w3_16 ∧
    w3_16 = w3_16 ∧
    R (.tuple #[t32, (.int .i64 0)]) w3_16)
theorem bits_NewBackward_p1_ok (R : K1) (hr : HR rs_bits_NewBackward R Q) (h : bits_NewBackward_p1 R (g 0) w) : den pg ann_bits_NewBackward code_bits_NewBackward Q g w :=
  den_exQ (kn := no) (l := []) (by kernel_rfl) h noE hr trivial

def bits_NewBackward (a0 : Value) (w : World) (R : K1) : Prop :=
  bits_NewBackward_p1 R a0 w
theorem bits_NewBackward_does {a0 : Value} {w : World} {R : K1} (h : bits_NewBackward a0 w R) : Does pg F_bits_NewBackward #[a0] w R := by
  refine does_of_den (ann := ann_bits_NewBackward) (fn := Try.f22) (c := code_bits_NewBackward) (args := [a0]) (rs := rs_bits_NewBackward) (N := 33) TryM.mixed (by kernel_rfl) Try.func22 (by kernel_rfl) (by kernel_rfl) (by kernel_rfl) (of_decide_eq_true (by kernel_rfl)) (by kernel_rfl) ?_
  exact (bits_NewBackward_p1_ok (retQ pg rs_bits_NewBackward R) (envOf [a0]) w R (fun _ _ h => h) h)
-- PIECES bits_NewBackward/0 bits_NewBackward_p1

/- lighterman/lightermanref05.New -/
def ann_ref05_New : FA := ⟨F_ref05_New, fun i => .leaf ([], []) []⟩
def rs_ref05_New : List ResultVar := [.cell 2 60, .tmp 3]
noncomputable def code_ref05_New : Code := bodyOf Try.f23
def ref05_New_p1 (R : K1) (t2 l_4 n_5 : Value) (w : World) : Prop :=
  Stp pg (sSlice 58 l_4 none (some n_5) none) w fun t31 w =>
  Stp pg (sBuild 60 [(0, t31)]) w fun t32 w =>
  Stp pg (sStore 60 t2 t32) w fun _u w =>
  LdR pg 60 t2 w fun r0 => R (.tuple #[r0, (.int .i64 0)]) w
theorem ref05_New_p1_ok (R : K1) (hr : HR rs_ref05_New R Q) (h : ref05_New_p1 R (g 2) (g 4) (g 5) w) : den pg ann_ref05_New (dropS 1 (dropS 4 code_ref05_New)) Q g w :=
  den_exQ (kn := no) (l := []) (by kernel_rfl) h noE hr trivial

def ref05_New_p2 (kn : K3) (k0 : K3) (t2 l_4 n_5 : Value) (w : World) : Prop :=
  Stp pg (sIAddr 58 l_4 n_5) w fun t24 w =>
  Stp pg (sLoad 4 t24) w fun t25 w =>
  Stp pg (sUn .not t25) w fun t26 w =>
  Cnd t26
    (Stp pg (sBin .sub 3 (.tmp 27) (.const (.int .i64 1)) n_5 (.int .i64 1)) w fun t28 w =>
    kn t2 l_4 t28 w)
    (k0 t2 l_4 n_5 w)
theorem ref05_New_p2_ok (kn : K3) (k0 : K3) (hn : ∀ g w, kn (g 2) (g 4) (g 5) w → Q .normal g w) (h0 : ∀ g w, k0 (g 2) (g 4) (g 5) w → Q (.exit 0) g w) (h : ref05_New_p2 kn k0 (g 2) (g 4) (g 5) w) : den pg ann_ref05_New (bI (bI (takeS 1 (dropS 4 code_ref05_New)))) Q g w :=
  den_exQ (kr := no) (l := [(0, fun g w => k0 (g 2) (g 4) (g 5) w)]) (by kernel_rfl) h hn noE ⟨h0, trivial⟩

def ref05_New_p3 (k0 : K3) (t2 l_4 n_5 : Value) (w : World) : Prop :=
  LoopD (fun (X : Value → K0) (t : Value) (w : World) => ref05_New_p2 (fun _ _ n_5 w => X n_5 w) k0 t2 l_4 t w) n_5 w
theorem ref05_New_p3_ok (k0 : K3) (h0 : ∀ g w, k0 (g 2) (g 4) (g 5) w → Q (.exit 0) g w) (h : ref05_New_p3 k0 (g 2) (g 4) (g 5) w) : den pg ann_ref05_New (bI (takeS 1 (dropS 4 code_ref05_New))) Q g w := by
  refine den_loops (T := Value) (fun g : Env => g 5) (fun X t w => ref05_New_p2 (fun _ _ n_5 w => X n_5 w) k0 (g 2) (g 4) t w) _ (by kernel_rfl) h (fun X g1 w1 ha h1 => ?_)
  rw [← agree_at (s := 2) ha (by kernel_rfl)] at h1
  rw [← agree_at (s := 4) ha (by kernel_rfl)] at h1
  exact (ref05_New_p2_ok (thenE (fun g2 w2 => X ((fun g : Env => g 5) g2) w2) Q) g1 w1 (fun _ _ n_5 w => X n_5 w) k0 (fun _ _ h => h) h0 h1)

def ref05_New_p4 (kn : K3) (t2 l_4 n_5 : Value) (w : World) : Prop :=
  ref05_New_p3 kn t2 l_4 n_5 w
theorem ref05_New_p4_ok (kn : K3) (hn : ∀ g w, kn (g 2) (g 4) (g 5) w → Q .normal g w) (h : ref05_New_p4 kn (g 2) (g 4) (g 5) w) : den pg ann_ref05_New (takeS 1 (dropS 4 code_ref05_New)) Q g w :=
  den_blk 0 _ g w (by kernel_rfl) (ref05_New_p3_ok (blk 0 Q) g w kn hn h)

def ref05_New_p5 (R : K1) (t2 l_4 n_5 : Value) (w : World) : Prop :=
  ref05_New_p4 (fun t2 l_4 n_5 w => ref05_New_p1 R t2 l_4 n_5 w) t2 l_4 n_5 w
theorem ref05_New_p5_ok (R : K1) (hr : HR rs_ref05_New R Q) (h : ref05_New_p5 R (g 2) (g 4) (g 5) w) : den pg ann_ref05_New (dropS 4 code_ref05_New) Q g w :=
  den_seqs 1 _ g w (by kernel_rfl) (ref05_New_p4_ok (thenE (fun g w => den pg ann_ref05_New (dropS 1 (dropS 4 code_ref05_New)) Q g w) Q) g w (fun t2 l_4 n_5 w => ref05_New_p1 R t2 l_4 n_5 w) (fun g w h => thenE_n (K := fun g w => den pg ann_ref05_New (dropS 1 (dropS 4 code_ref05_New)) Q g w) (ref05_New_p1_ok Q g w R hr h)) h)

def ref05_New_p6 (kn : K3) (R : K1) (s_0 : Value) (w : World) : Prop :=
  Stp pg (sAlloc 60) w fun t2 w =>
  Stp pg (sBin .eql 9 (.tmp 6) (.const (.string ⟨#[]⟩)) s_0 (.string ⟨#[]⟩)) w fun t7 w =>
  Gd (isB t7 false) (fun K => K s_0 w) w fun t9 w =>
  Gd (isB t7 false) (fun K => K s_0 w) w fun t10 w =>
  Gd (isB t7 false) (fun K => Stp pg (sBi .len #[9] 3 [t10]) w K) w fun t11 w =>
  Gd (isB t7 false) (fun K => Stp pg (sBin .sub 3 (.tmp 11) (.const (.int .i64 1)) t11 (.int .i64 1)) w K) w fun t12 w =>
  Gd (isB t7 false) (fun K => Stp pg (sIdx 9 t9 t12) w K) w fun t13 w =>
  Gd (isB t7 false) (fun K => Stp pg (sBin .eql 5 (.tmp 13) (.const (.int .u8 0)) t13 (.int .u8 0)) w K) w fun t14 w =>
  Stp pg (sPick t7 (.bool true) t14) w fun t15 w =>
  Cnd t15
    (Stp pg (sBuild 60 []) w fun t16 w =>
    Stp pg (sStore 60 t2 t16) w fun _u w =>
    LdR pg 60 t2 w fun r0 => R (.tuple #[r0, (.int .i64 11)]) w)
    (Does pg F_ref05_Bits #[s_0] w fun t18 w =>
    Stp pg (sBi .len #[58] 3 [t18]) w fun t20 w =>
    Stp pg (sBin .sub 3 (.tmp 20) (.const (.int .i64 1)) t20 (.int .i64 1)) w fun t21 w =>
    kn t2 t18 t21 w)
theorem ref05_New_p6_ok (kn : K3) (R : K1) (hn : ∀ g w, kn (g 2) (g 4) (g 5) w → Q .normal g w) (hr : HR rs_ref05_New R Q) (h : ref05_New_p6 kn R (g 0) w) : den pg ann_ref05_New (takeS 4 code_ref05_New) Q g w :=
  den_exQ (l := []) (by kernel_rfl) h hn hr trivial

def ref05_New_p7 (R : K1) (s_0 : Value) (w : World) : Prop :=
  ref05_New_p6 (fun t2 l_4 n_5 w => ref05_New_p5 R t2 l_4 n_5 w) R s_0 w
theorem ref05_New_p7_ok (R : K1) (hr : HR rs_ref05_New R Q) (h : ref05_New_p7 R (g 0) w) : den pg ann_ref05_New code_ref05_New Q g w :=
  den_seqs 4 _ g w (by kernel_rfl) (ref05_New_p6_ok (thenE (fun g w => den pg ann_ref05_New (dropS 4 code_ref05_New) Q g w) Q) g w (fun t2 l_4 n_5 w => ref05_New_p5 R t2 l_4 n_5 w) R (fun g w h => thenE_n (K := fun g w => den pg ann_ref05_New (dropS 4 code_ref05_New) Q g w) (ref05_New_p5_ok Q g w R hr h)) hr h)

def ref05_New (a0 : Value) (w : World) (R : K1) : Prop :=
  ref05_New_p7 R a0 w
theorem ref05_New_does {a0 : Value} {w : World} {R : K1} (h : ref05_New a0 w R) : Does pg F_ref05_New #[a0] w R := by
  refine does_of_den (ann := ann_ref05_New) (fn := Try.f23) (c := code_ref05_New) (args := [a0]) (rs := rs_ref05_New) (N := 33) TryM.mixed (by kernel_rfl) Try.func23 (by kernel_rfl) (by kernel_rfl) (by kernel_rfl) (of_decide_eq_true (by kernel_rfl)) (by kernel_rfl) ?_
  exact (ref05_New_p7_ok (retQ pg rs_ref05_New R) (envOf [a0]) w R (fun _ _ h => h) h)
-- PIECES ref05_New/0 ref05_New_p1 ref05_New_p3 ref05_New_p4 ref05_New_p5 ref05_New_p6 ref05_New_p7
-- PIECES ref05_New/1 ref05_New_p2

/- lighterman/fse.Start -/
def ann_fse_Start : FA := ⟨F_fse_Start, fun i => .leaf ([], []) []⟩
def rs_fse_Start : List ResultVar := [.tmp 4]
noncomputable def code_fse_Start : Code := bodyOf Try.f24
def fse_Start_p1 (R : K1) (t0 r_1 : Value) (w : World) : Prop :=
  Stp pg (sBox 28 t0) w fun t2 w =>
  Stp pg (sFAddr 28 t2 0) w fun t6 w =>
  Stp pg (sLoad 3 t6) w fun t7 w =>
  Does pg F_bits_Backward_Read #[r_1, t7] w fun t8 w =>
  Stp pg (sCvt 45 3 t8) w fun t9 w =>
  R t9 w
theorem fse_Start_p1_ok (R : K1) (hr : HR rs_fse_Start R Q) (h : fse_Start_p1 R (g 0) (g 1) w) : den pg ann_fse_Start code_fse_Start Q g w :=
  den_exQ (kn := no) (l := []) (by kernel_rfl) h noE hr trivial

def fse_Start (a0 a1 : Value) (w : World) (R : K1) : Prop :=
  fse_Start_p1 R a0 a1 w
theorem fse_Start_does {a0 a1 : Value} {w : World} {R : K1} (h : fse_Start a0 a1 w R) : Does pg F_fse_Start #[a0, a1] w R := by
  refine does_of_den (ann := ann_fse_Start) (fn := Try.f24) (c := code_fse_Start) (args := [a0, a1]) (rs := rs_fse_Start) (N := 10) TryM.mixed (by kernel_rfl) Try.func24 (by kernel_rfl) (by kernel_rfl) (by kernel_rfl) (of_decide_eq_true (by kernel_rfl)) (by kernel_rfl) ?_
  exact (fse_Start_p1_ok (retQ pg rs_fse_Start R) (envOf [a0, a1]) w R (fun _ _ h => h) h)
-- PIECES fse_Start/0 fse_Start_p1

/- lighterman/lightermanref07.Start -/
def ann_ref07_Start : FA := ⟨F_ref07_Start, fun i => .leaf ([], []) []⟩
def rs_ref07_Start : List ResultVar := [.cell 4 60, .tmp 5]
noncomputable def code_ref07_Start : Code := bodyOf Try.f25
def ref07_Start_p1 (R : K1) (t0 b_1 : Value) (w : World) : Prop :=
  Stp pg (sBox 34 t0) w fun t2 w =>
  Stp pg (sBox 60 b_1) w fun b_3 w =>
  Stp pg (sAlloc 60) w fun t4 w =>
  Stp pg (sLoad 60 b_3) w fun t8 w =>
  Stp pg (sFAddr 34 t2 0) w fun t9 w =>
  Stp pg (sLoad 3 t9) w fun t10 w =>
  Does pg F_ref05_Last #[t8, t10] w fun t11 w =>
  Stp pg (sExtr t11 0) w fun t12 w =>
  Stp pg (sExtr t11 1) w fun t13 w =>
  Stp pg (sStore 60 b_3 t12) w fun _u w =>
  Stp pg (sLoad 60 b_3) w fun t14 w =>
  Stp pg (sCvt 45 3 t13) w fun t16 w =>
  Stp pg (sStore 60 t4 t14) w fun _u w =>
  LdR pg 60 t4 w fun r0 => R (.tuple #[r0, t16]) w
theorem ref07_Start_p1_ok (R : K1) (hr : HR rs_ref07_Start R Q) (h : ref07_Start_p1 R (g 0) (g 1) w) : den pg ann_ref07_Start code_ref07_Start Q g w :=
  den_exQ (kn := no) (l := []) (by kernel_rfl) h noE hr trivial

def ref07_Start (a0 a1 : Value) (w : World) (R : K1) : Prop :=
  ref07_Start_p1 R a0 a1 w
theorem ref07_Start_does {a0 a1 : Value} {w : World} {R : K1} (h : ref07_Start a0 a1 w R) : Does pg F_ref07_Start #[a0, a1] w R := by
  refine does_of_den (ann := ann_ref07_Start) (fn := Try.f25) (c := code_ref07_Start) (args := [a0, a1]) (rs := rs_ref07_Start) (N := 17) TryM.mixed (by kernel_rfl) Try.func25 (by kernel_rfl) (by kernel_rfl) (by kernel_rfl) (of_decide_eq_true (by kernel_rfl)) (by kernel_rfl) ?_
  exact (ref07_Start_p1_ok (retQ pg rs_ref07_Start R) (envOf [a0, a1]) w R (fun _ _ h => h) h)
-- PIECES ref07_Start/0 ref07_Start_p1

/- (*lighterman/bits.Backward).Left -/
def ann_bits_Backward_Left : FA := ⟨F_bits_Backward_Left, fun i => .leaf ([], []) []⟩
def rs_bits_Backward_Left : List ResultVar := [.tmp 2]
noncomputable def code_bits_Backward_Left : Code := bodyOf Try.f26
def bits_Backward_Left_p1 (R : K1) (r_0 : Value) (w : World) : Prop :=
  Stp pg (sBin .eql 55 (.tmp 3) (.const (.pointer none)) r_0 (.pointer none)) w fun t4 w =>
  Cnd t4
    (R (.int .i64 0) w)
    (Stp pg (sNil r_0) w fun t6 w =>
    Stp pg (sFAddr 105 t6 1) w fun t7 w =>
    Stp pg (sLoad 3 t7) w fun t8 w =>
    R t8 w)
theorem bits_Backward_Left_p1_ok (R : K1) (hr : HR rs_bits_Backward_Left R Q) (h : bits_Backward_Left_p1 R (g 0) w) : den pg ann_bits_Backward_Left code_bits_Backward_Left Q g w :=
  den_exQ (kn := no) (l := []) (by kernel_rfl) h noE hr trivial

def bits_Backward_Left (a0 : Value) (w : World) (R : K1) : Prop :=
  bits_Backward_Left_p1 R a0 w
theorem bits_Backward_Left_does {a0 : Value} {w : World} {R : K1} (h : bits_Backward_Left a0 w R) : Does pg F_bits_Backward_Left #[a0] w R := by
  refine does_of_den (ann := ann_bits_Backward_Left) (fn := Try.f26) (c := code_bits_Backward_Left) (args := [a0]) (rs := rs_bits_Backward_Left) (N := 9) TryM.mixed (by kernel_rfl) Try.func26 (by kernel_rfl) (by kernel_rfl) (by kernel_rfl) (of_decide_eq_true (by kernel_rfl)) (by kernel_rfl) ?_
  exact (bits_Backward_Left_p1_ok (retQ pg rs_bits_Backward_Left R) (envOf [a0]) w R (fun _ _ h => h) h)
-- PIECES bits_Backward_Left/0 bits_Backward_Left_p1

/- lighterman/lightermanref05.Left -/
def ann_ref05_Left : FA := ⟨F_ref05_Left, fun i => .leaf ([], []) []⟩
def rs_ref05_Left : List ResultVar := [.tmp 2]
noncomputable def code_ref05_Left : Code := bodyOf Try.f27
def ref05_Left_p1 (R : K1) (b_0 : Value) (w : World) : Prop :=
  Stp pg (sBox 60 b_0) w fun b_1 w =>
  Stp pg (sFAddr 60 b_1 0) w fun t3 w =>
  Stp pg (sLoad 58 t3) w fun t4 w =>
  Stp pg (sBi .len #[58] 3 [t4]) w fun t5 w =>
  Stp pg (sFAddr 60 b_1 1) w fun t6 w =>
  Stp pg (sLoad 3 t6) w fun t7 w =>
  Stp pg (sBin .sub 3 (.tmp 5) (.tmp 7) t5 t7) w fun t8 w =>
  R t8 w
theorem ref05_Left_p1_ok (R : K1) (hr : HR rs_ref05_Left R Q) (h : ref05_Left_p1 R (g 0) w) : den pg ann_ref05_Left code_ref05_Left Q g w :=
  den_exQ (kn := no) (l := []) (by kernel_rfl) h noE hr trivial

def ref05_Left (a0 : Value) (w : World) (R : K1) : Prop :=
  ref05_Left_p1 R a0 w
theorem ref05_Left_does {a0 : Value} {w : World} {R : K1} (h : ref05_Left a0 w R) : Does pg F_ref05_Left #[a0] w R := by
  refine does_of_den (ann := ann_ref05_Left) (fn := Try.f27) (c := code_ref05_Left) (args := [a0]) (rs := rs_ref05_Left) (N := 9) TryM.mixed (by kernel_rfl) Try.func27 (by kernel_rfl) (by kernel_rfl) (by kernel_rfl) (of_decide_eq_true (by kernel_rfl)) (by kernel_rfl) ?_
  exact (ref05_Left_p1_ok (retQ pg rs_ref05_Left R) (envOf [a0]) w R (fun _ _ h => h) h)
-- PIECES ref05_Left/0 ref05_Left_p1

/- lighterman/fse.Next -/
def ann_fse_Next : FA := ⟨F_fse_Next, fun i => match Nat.beq i 4 with | true => .leaf ([5], [(0, 5), (1, 5)]) [(false, []), (false, []), (false, []), (false, []), (false, []), (true, [3, 4]), (false, []), (false, []), (false, [])] | false => .leaf ([], []) []⟩
def rs_fse_Next : List ResultVar := [.tmp 6]
noncomputable def code_fse_Next : Code := bodyOf Try.f28
def fse_Next_p1 (R : K1) (t0 state_1 r_2 : Value) (w : World) : Prop :=
  Stp pg (sBox 28 t0) w fun t3 w =>
  Stp pg (sBin .lss 3 (.tmp 8) (.const (.int .i64 0)) state_1 (.int .i64 0)) w fun t9 w =>
  Gd (isB t9 false) (fun K => K state_1 w) w fun t11 w =>
  Gd (isB t9 false) (fun K => Stp pg (sFAddr 28 t3 1) w K) w fun t12 w =>
  Gd (isB t9 false) (fun K => Stp pg (sLoad 26 t12) w K) w fun t13 w =>
  Gd (isB t9 false) (fun K => Stp pg (sBi .len #[26] 3 [t13]) w K) w fun t14 w =>
  Gd (isB t9 false) (fun K => Stp pg (sBin .geq 3 (.tmp 11) (.tmp 14) t11 t14) w K) w fun t15 w =>
  Stp pg (sPick t9 (.bool true) t15) w fun t16 w =>
  Cnd t16
    (R (.int .i64 0) w)
    (Stp pg (sFAddr 28 t3 1) w fun t17 w =>
    Stp pg (sLoad 26 t17) w fun t18 w =>
    Stp pg (sIAddr 26 t18 state_1) w fun t20 w =>
    Stp pg (sLoad 43 t20) w fun t21 w =>
    Stp pg (sAlloc 43) w fun x_7 w =>
    Stp pg (sStore 43 x_7 t21) w fun _u w =>
    Stp pg (sFAddr 43 x_7 2) (dr w) fun t22 w_ => w_ = (dr w) ∧
    Stp pg (sLoad 3 t22) (dr w) fun t23 w_ => w_ = (dr w) ∧
    (dr w) = (dr w) ∧
    Stp pg (sFAddr 43 x_7 1) (dr w) fun t25 w_ => w_ = (dr w) ∧
    Stp pg (sLoad 3 t25) (dr w) fun t26 w_ => w_ = (dr w) ∧
    Does pg F_bits_Backward_Read #[r_2, t26] (dr w) fun t27 w4_5 =>
    (Same pg (sLoad 3 t22) t23 w4_5 ∧ Same pg (sFAddr 43 x_7 2) t22 w4_5 ∧ True) ∧
    Stp pg (sCvt 45 3 t27) w4_5 fun t28 w_ => w_ = w4_5 ∧
    Stp pg (sBin .add 3 (.tmp 23) (.tmp 28) t23 t28) w4_5 fun t29 w_ => w_ = w4_5 ∧
    w4_5 = w4_5 ∧
    R t29 w4_5)
theorem fse_Next_p1_ok (R : K1) (hr : HR rs_fse_Next R Q) (h : fse_Next_p1 R (g 0) (g 1) (g 2) w) : den pg ann_fse_Next code_fse_Next Q g w :=
  den_exQ (kn := no) (l := []) (by kernel_rfl) h noE hr trivial

def fse_Next (a0 a1 a2 : Value) (w : World) (R : K1) : Prop :=
  fse_Next_p1 R a0 a1 a2 w
theorem fse_Next_does {a0 a1 a2 : Value} {w : World} {R : K1} (h : fse_Next a0 a1 a2 w R) : Does pg F_fse_Next #[a0, a1, a2] w R := by
  refine does_of_den (ann := ann_fse_Next) (fn := Try.f28) (c := code_fse_Next) (args := [a0, a1, a2]) (rs := rs_fse_Next) (N := 30) TryM.mixed (by kernel_rfl) Try.func28 (by kernel_rfl) (by kernel_rfl) (by kernel_rfl) (of_decide_eq_true (by kernel_rfl)) (by kernel_rfl) ?_
  exact (fse_Next_p1_ok (retQ pg rs_fse_Next R) (envOf [a0, a1, a2]) w R (fun _ _ h => h) h)
-- PIECES fse_Next/0 fse_Next_p1

/- lighterman/lightermanref07.Next -/
def ann_ref07_Next : FA := ⟨F_ref07_Next, fun i => match Nat.beq i 3 with | true => .leaf ([7, 11], [(10, 11)]) [(false, []), (false, []), (false, []), (false, []), (false, []), (false, []), (false, []), (true, []), (false, []), (false, []), (false, []), (true, [0]), (false, [])] | false => match Nat.beq i 4 with | true => .leaf ([10], [(1, 10), (2, 10), (4, 10), (5, 10), (6, 10), (8, 10), (9, 10)]) [(false, []), (false, []), (false, []), (false, []), (false, []), (false, []), (false, []), (false, []), (false, []), (false, []), (true, [0, 1, 3, 4, 5, 7, 8]), (false, [])] | false => .leaf ([], []) []⟩
def rs_ref07_Next : List ResultVar := [.cell 6 60, .tmp 7]
noncomputable def code_ref07_Next : Code := bodyOf Try.f29
def ref07_Next_p1 (R : K1) (t0 state_1 b_2 : Value) (w : World) : Prop :=
  Stp pg (sBox 34 t0) w fun t3 w =>
  Stp pg (sBox 60 b_2) w fun b_5 w =>
  Stp pg (sAlloc 60) w fun t6 w =>
  Stp pg (sBin .lss 3 (.tmp 9) (.const (.int .i64 0)) state_1 (.int .i64 0)) w fun t10 w =>
  Gd (isB t10 false) (fun K => K state_1 w) w fun t12 w =>
  Gd (isB t10 false) (fun K => Stp pg (sFAddr 34 t3 1) w K) w fun t13 w =>
  Gd (isB t10 false) (fun K => Stp pg (sLoad 32 t13) w K) w fun t14 w =>
  Gd (isB t10 false) (fun K => Stp pg (sBi .len #[32] 3 [t14]) w K) w fun t15 w =>
  Gd (isB t10 false) (fun K => Stp pg (sBin .geq 3 (.tmp 12) (.tmp 15) t12 t15) w K) w fun t16 w =>
  Stp pg (sPick t10 (.bool true) t16) w fun t17 w =>
  Cnd t17
    (Stp pg (sLoad 60 b_5) w fun t18 w =>
    Stp pg (sStore 60 t6 t18) w fun _u w =>
    LdR pg 60 t6 w fun r0 => R (.tuple #[r0, (.int .i64 0)]) w)
    (Stp pg (sLoad 60 b_5) (dr w) fun t20 w_ => w_ = (dr w) ∧
    Stp pg (sFAddr 34 t3 1) (dr w) fun t21 w_ => w_ = (dr w) ∧
    Stp pg (sLoad 32 t21) (dr w) fun t22 w_ => w_ = (dr w) ∧
    (dr w) = (dr w) ∧
    Stp pg (sIAddr 32 t22 state_1) (dr w) fun t24 w_ => w_ = (dr w) ∧
    Stp pg (sFAddr 101 t24 1) (dr w) fun t25 w_ => w_ = (dr w) ∧
    Stp pg (sLoad 3 t25) (dr w) fun t26 w_ => w_ = (dr w) ∧
    Does pg F_ref05_Last #[t20, t26] (dr w) fun t27 w3_7 =>
    w3_7 = w3_7 ∧
    Stp pg (sExtr t27 0) w3_7 fun t28 w_ => w_ = w3_7 ∧
    Stp pg (sExtr t27 1) w3_7 fun t29 w_ => w_ = w3_7 ∧
    Stp pg (sStore 60 b_5 t28) w3_7 fun _u11 w3_11 =>
    (Same pg (sExtr t27 1) t29 w3_11 ∧ True) ∧
    w3_11 = w3_11 ∧
    Stp pg (sLoad 60 b_5) (dr w3_11) fun t30 w_ => w_ = (dr w3_11) ∧
    Stp pg (sFAddr 34 t3 1) (dr w3_11) fun t31 w_ => w_ = (dr w3_11) ∧
    Stp pg (sLoad 32 t31) (dr w3_11) fun t32 w_ => w_ = (dr w3_11) ∧
    (dr w3_11) = (dr w3_11) ∧
    Stp pg (sIAddr 32 t32 state_1) (dr w3_11) fun t34 w_ => w_ = (dr w3_11) ∧
    Stp pg (sFAddr 101 t34 2) (dr w3_11) fun t35 w_ => w_ = (dr w3_11) ∧
    Stp pg (sLoad 3 t35) (dr w3_11) fun t36 w_ => w_ = (dr w3_11) ∧
    (dr w3_11) = (dr w3_11) ∧
    Stp pg (sCvt 45 3 t29) (dr w3_11) fun t38 w_ => w_ = (dr w3_11) ∧
    Stp pg (sBin .add 3 (.tmp 36) (.tmp 38) t36 t38) (dr w3_11) fun t39 w_ => w_ = (dr w3_11) ∧
    Stp pg (sStore 60 t6 t30) (dr w3_11) fun _u10 w4_10 =>
    (Same pg (sBin .add 3 (.tmp 36) (.tmp 38) t36 t38) t39 w4_10 ∧ Same pg (sCvt 45 3 t29) t38 w4_10 ∧ Same pg (sLoad 3 t35) t36 w4_10 ∧ Same pg (sFAddr 101 t34 2) t35 w4_10 ∧ Same pg (sIAddr 32 t32 state_1) t34 w4_10 ∧ Same pg (sLoad 32 t31) t32 w4_10 ∧ Same pg (sFAddr 34 t3 1) t31 w4_10 ∧ True) ∧
    w4_10 = w4_10 ∧
    LdR pg 60 t6 w4_10 fun r0 => R (.tuple #[r0, t39]) w4_10)
theorem ref07_Next_p1_ok (R : K1) (hr : HR rs_ref07_Next R Q) (h : ref07_Next_p1 R (g 0) (g 1) (g 2) w) : den pg ann_ref07_Next code_ref07_Next Q g w :=
  den_exQ (kn := no) (l := []) (by kernel_rfl) h noE hr trivial

def ref07_Next (a0 a1 a2 : Value) (w : World) (R : K1) : Prop :=
  ref07_Next_p1 R a0 a1 a2 w
theorem ref07_Next_does {a0 a1 a2 : Value} {w : World} {R : K1} (h : ref07_Next a0 a1 a2 w R) : Does pg F_ref07_Next #[a0, a1, a2] w R := by
  refine does_of_den (ann := ann_ref07_Next) (fn := Try.f29) (c := code_ref07_Next) (args := [a0, a1, a2]) (rs := rs_ref07_Next) (N := 40) TryM.mixed (by kernel_rfl) Try.func29 (by kernel_rfl) (by kernel_rfl) (by kernel_rfl) (of_decide_eq_true (by kernel_rfl)) (by kernel_rfl) ?_
  exact (ref07_Next_p1_ok (retQ pg rs_ref07_Next R) (envOf [a0, a1, a2]) w R (fun _ _ h => h) h)
-- PIECES ref07_Next/0 ref07_Next_p1

/- slices.Clone[[]byte,byte] -/
def ann_slices_Clone_inst : FA := ⟨F_slices_Clone_inst, fun i => .leaf ([], []) []⟩
def rs_slices_Clone_inst : List ResultVar := [.tmp 2]
noncomputable def code_slices_Clone_inst : Code := bodyOf Try.f46
def slices_Clone_inst_p1 (R : K1) (s_0 : Value) (w : World) : Prop :=
  Stp pg (sBin .eql 52 (.tmp 3) (.const (.slice none 0 0)) s_0 (.slice none 0 0)) w fun t4 w =>
  Cnd t4
    (R (.slice none 0 0) w)
    (Stp pg (sBuildSlice 52 0 []) w fun t5 w =>
    Stp pg (sBi .append #[52, 52] 52 [t5, s_0]) w fun t7 w =>
    R t7 w)
theorem slices_Clone_inst_p1_ok (R : K1) (hr : HR rs_slices_Clone_inst R Q) (h : slices_Clone_inst_p1 R (g 0) w) : den pg ann_slices_Clone_inst code_slices_Clone_inst Q g w :=
  den_exQ (kn := no) (l := []) (by kernel_rfl) h noE hr trivial

def slices_Clone_inst (a0 : Value) (w : World) (R : K1) : Prop :=
  slices_Clone_inst_p1 R a0 w
theorem slices_Clone_inst_does {a0 : Value} {w : World} {R : K1} (h : slices_Clone_inst a0 w R) : Does pg F_slices_Clone_inst #[a0] w R := by
  refine does_of_den (ann := ann_slices_Clone_inst) (fn := Try.f46) (c := code_slices_Clone_inst) (args := [a0]) (rs := rs_slices_Clone_inst) (N := 8) TryM.mixed (by kernel_rfl) Try.func46 (by kernel_rfl) (by kernel_rfl) (by kernel_rfl) (of_decide_eq_true (by kernel_rfl)) (by kernel_rfl) ?_
  exact (slices_Clone_inst_p1_ok (retQ pg rs_slices_Clone_inst R) (envOf [a0]) w R (fun _ _ h => h) h)
-- PIECES slices_Clone_inst/0 slices_Clone_inst_p1

/- math/bits.Len8 -/
def ann_math_bits_Len8 : FA := ⟨F_math_bits_Len8, fun i => .leaf ([], []) []⟩
def rs_math_bits_Len8 : List ResultVar := [.tmp 2]
noncomputable def code_math_bits_Len8 : Code := bodyOf Try.f47
def math_bits_Len8_p1 (R : K1) (x_0 : Value) (w : World) : Prop :=
  Stp pg (sIdx 9 (.string ⟨#[0, 1, 2, 2, 3, 3, 3, 3, 4, 4, 4, 4, 4, 4, 4, 4, 5, 5, 5, 5, 5, 5, 5, 5, 5, 5, 5, 5, 5, 5, 5, 5, 6, 6, 6, 6, 6, 6, 6, 6, 6, 6, 6, 6, 6, 6, 6, 6, 6, 6, 6, 6, 6, 6, 6, 6, 6, 6, 6, 6, 6, 6, 6, 6, 7, 7, 7, 7, 7, 7, 7, 7, 7, 7, 7, 7, 7, 7, 7, 7, 7, 7, 7, 7, 7, 7, 7, 7, 7, 7, 7, 7, 7, 7, 7, 7, 7, 7, 7, 7, 7, 7, 7, 7, 7, 7, 7, 7, 7, 7, 7, 7, 7, 7, 7, 7, 7, 7, 7, 7, 7, 7, 7, 7, 7, 7, 7, 7, 8, 8, 8, 8, 8, 8, 8, 8, 8, 8, 8, 8, 8, 8, 8, 8, 8, 8, 8, 8, 8, 8, 8, 8, 8, 8, 8, 8, 8, 8, 8, 8, 8, 8, 8, 8, 8, 8, 8, 8, 8, 8, 8, 8, 8, 8, 8, 8, 8, 8, 8, 8, 8, 8, 8, 8, 8, 8, 8, 8, 8, 8, 8, 8, 8, 8, 8, 8, 8, 8, 8, 8, 8, 8, 8, 8, 8, 8, 8, 8, 8, 8, 8, 8, 8, 8, 8, 8, 8, 8, 8, 8, 8, 8, 8, 8, 8, 8, 8, 8, 8, 8, 8, 8, 8, 8, 8, 8, 8, 8, 8, 8, 8, 8, 8, 8, 8, 8, 8, 8, 8, 8, 8, 8, 8, 8, 8, 8]⟩) x_0) w fun t4 w =>
  Stp pg (sCvt 5 3 t4) w fun t5 w =>
  R t5 w
theorem math_bits_Len8_p1_ok (R : K1) (hr : HR rs_math_bits_Len8 R Q) (h : math_bits_Len8_p1 R (g 0) w) : den pg ann_math_bits_Len8 code_math_bits_Len8 Q g w :=
  den_exQ (kn := no) (l := []) (by kernel_rfl) h noE hr trivial

def math_bits_Len8 (a0 : Value) (w : World) (R : K1) : Prop :=
  math_bits_Len8_p1 R a0 w
theorem math_bits_Len8_does {a0 : Value} {w : World} {R : K1} (h : math_bits_Len8 a0 w R) : Does pg F_math_bits_Len8 #[a0] w R := by
  refine does_of_den (ann := ann_math_bits_Len8) (fn := Try.f47) (c := code_math_bits_Len8) (args := [a0]) (rs := rs_math_bits_Len8) (N := 6) TryM.mixed (by kernel_rfl) Try.func47 (by kernel_rfl) (by kernel_rfl) (by kernel_rfl) (of_decide_eq_true (by kernel_rfl)) (by kernel_rfl) ?_
  exact (math_bits_Len8_p1_ok (retQ pg rs_math_bits_Len8 R) (envOf [a0]) w R (fun _ _ h => h) h)
-- PIECES math_bits_Len8/0 math_bits_Len8_p1

/- lighterman/lightermanref05.Bits -/
def ann_ref05_Bits : FA := ⟨F_ref05_Bits, fun i => .leaf ([], []) []⟩
def rs_ref05_Bits : List ResultVar := [.tmp 2]
noncomputable def code_ref05_Bits : Code := bodyOf Try.f48
def ref05_Bits_p1 (R : K1) (out_3 : Value) (w : World) : Prop :=
  R out_3 w
theorem ref05_Bits_p1_ok (R : K1) (hr : HR rs_ref05_Bits R Q) (h : ref05_Bits_p1 R (g 3) w) : den pg ann_ref05_Bits (dropS 1 (dropS 2 code_ref05_Bits)) Q g w :=
  den_exQ (kn := no) (l := []) (by kernel_rfl) h noE hr trivial

def ref05_Bits_p2 (kn : K3) (s_0 out_3 i_4 : Value) (w : World) : Prop :=
  Stp pg (sBin .add 3 (.tmp 11) (.const (.int .i64 1)) i_4 (.int .i64 1)) w fun t12 w =>
  kn s_0 out_3 t12 w
theorem ref05_Bits_p2_ok (kn : K3) (hn : ∀ g w, kn (g 0) (g 3) (g 4) w → Q .normal g w) (h : ref05_Bits_p2 kn (g 0) (g 3) (g 4) w) : den pg ann_ref05_Bits (dropS 1 (dropS 1 (bI (bI (dropS 1 (takeS 1 (dropS 2 code_ref05_Bits))))))) Q g w :=
  den_exQ (kr := no) (l := []) (by kernel_rfl) h hn noE trivial

def ref05_Bits_p3 (kn : K5) (k2 : K3) (s_0 out_3 i_4 c_5 k_6 : Value) (w : World) : Prop :=
  Stp pg (sBin .lss 3 (.tmp 16) (.const (.int .i64 8)) k_6 (.int .i64 8)) w fun t17 w =>
  Cnd t17
    (Stp pg (sBin .rem 5 (.tmp 21) (.const (.int .u8 2)) c_5 (.int .u8 2)) w fun t22 w =>
    Stp pg (sBin .eql 5 (.tmp 22) (.const (.int .u8 1)) t22 (.int .u8 1)) w fun t23 w =>
    Stp pg (sBuildSlice 58 1 [(0, t23)]) w fun t24 w =>
    Stp pg (sBi .append #[58, 58] 58 [out_3, t24]) w fun t25 w =>
    Stp pg (sBin .quo 5 (.tmp 26) (.const (.int .u8 2)) c_5 (.int .u8 2)) w fun t27 w =>
    Stp pg (sBin .add 3 (.tmp 18) (.const (.int .i64 1)) k_6 (.int .i64 1)) w fun t19 w =>
    kn s_0 t25 i_4 t27 t19 w)
    (k2 s_0 out_3 i_4 w)
theorem ref05_Bits_p3_ok (kn : K5) (k2 : K3) (hn : ∀ g w, kn (g 0) (g 3) (g 4) (g 5) (g 6) w → Q .normal g w) (h2 : ∀ g w, k2 (g 0) (g 3) (g 4) w → Q (.exit 2) g w) (h : ref05_Bits_p3 kn k2 (g 0) (g 3) (g 4) (g 5) (g 6) w) : den pg ann_ref05_Bits (bI (bI (dropS 2 (bI (takeS 1 (dropS 1 (bI (bI (dropS 1 (takeS 1 (dropS 2 code_ref05_Bits))))))))))) Q g w :=
  den_exQ (kr := no) (l := [(2, fun g w => k2 (g 0) (g 3) (g 4) w)]) (by kernel_rfl) h hn noE ⟨h2, trivial⟩

def ref05_Bits_p4 (k2 : K3) (s_0 out_3 i_4 c_5 k_6 : Value) (w : World) : Prop :=
  LoopD (fun (X : (Value × Value × Value) → K0) (t : Value × Value × Value) (w : World) => ref05_Bits_p3 (fun _ out_3 _ c_5 k_6 w => X (out_3, c_5, k_6) w) k2 s_0 t.1 i_4 t.2.1 t.2.2 w) (out_3, c_5, k_6) w
theorem ref05_Bits_p4_ok (k2 : K3) (h2 : ∀ g w, k2 (g 0) (g 3) (g 4) w → Q (.exit 2) g w) (h : ref05_Bits_p4 k2 (g 0) (g 3) (g 4) (g 5) (g 6) w) : den pg ann_ref05_Bits (bI (dropS 2 (bI (takeS 1 (dropS 1 (bI (bI (dropS 1 (takeS 1 (dropS 2 code_ref05_Bits)))))))))) Q g w := by
  refine den_loops (T := Value × Value × Value) (fun g : Env => (g 3, g 5, g 6)) (fun X t w => ref05_Bits_p3 (fun _ out_3 _ c_5 k_6 w => X (out_3, c_5, k_6) w) k2 (g 0) t.1 (g 4) t.2.1 t.2.2 w) _ (by kernel_rfl) h (fun X g1 w1 ha h1 => ?_)
  rw [← agree_at (s := 0) ha (by kernel_rfl)] at h1
  rw [← agree_at (s := 4) ha (by kernel_rfl)] at h1
  exact (ref05_Bits_p3_ok (thenE (fun g2 w2 => X ((fun g : Env => (g 3, g 5, g 6)) g2) w2) Q) g1 w1 (fun _ out_3 _ c_5 k_6 w => X (out_3, c_5, k_6) w) k2 (fun _ _ h => h) h2 h1)

def ref05_Bits_p5 (kn : K3) (s_0 out_3 i_4 c_5 k_6 : Value) (w : World) : Prop :=
  ref05_Bits_p4 kn s_0 out_3 i_4 c_5 k_6 w
theorem ref05_Bits_p5_ok (kn : K3) (hn : ∀ g w, kn (g 0) (g 3) (g 4) w → Q .normal g w) (h : ref05_Bits_p5 kn (g 0) (g 3) (g 4) (g 5) (g 6) w) : den pg ann_ref05_Bits (dropS 2 (bI (takeS 1 (dropS 1 (bI (bI (dropS 1 (takeS 1 (dropS 2 code_ref05_Bits))))))))) Q g w :=
  den_blk 2 _ g w (by kernel_rfl) (ref05_Bits_p4_ok (blk 2 Q) g w kn hn h)

def ref05_Bits_p6 (kn : K5) (s_0 out_3 i_4 : Value) (w : World) : Prop :=
  Stp pg (sIdx 9 s_0 i_4) w fun t15 w =>
  kn s_0 out_3 i_4 t15 (.int .i64 0) w
theorem ref05_Bits_p6_ok (kn : K5) (hn : ∀ g w, kn (g 0) (g 3) (g 4) (g 5) (g 6) w → Q .normal g w) (h : ref05_Bits_p6 kn (g 0) (g 3) (g 4) w) : den pg ann_ref05_Bits (takeS 2 (bI (takeS 1 (dropS 1 (bI (bI (dropS 1 (takeS 1 (dropS 2 code_ref05_Bits))))))))) Q g w :=
  den_exQ (kr := no) (l := []) (by kernel_rfl) h hn noE trivial

def ref05_Bits_p7 (kn : K3) (s_0 out_3 i_4 : Value) (w : World) : Prop :=
  ref05_Bits_p6 (fun s_0 out_3 i_4 c_5 k_6 w => ref05_Bits_p5 kn s_0 out_3 i_4 c_5 k_6 w) s_0 out_3 i_4 w
theorem ref05_Bits_p7_ok (kn : K3) (hn : ∀ g w, kn (g 0) (g 3) (g 4) w → Q .normal g w) (h : ref05_Bits_p7 kn (g 0) (g 3) (g 4) w) : den pg ann_ref05_Bits (bI (takeS 1 (dropS 1 (bI (bI (dropS 1 (takeS 1 (dropS 2 code_ref05_Bits)))))))) Q g w :=
  den_seqs 2 _ g w (by kernel_rfl) (ref05_Bits_p6_ok (thenE (fun g w => den pg ann_ref05_Bits (dropS 2 (bI (takeS 1 (dropS 1 (bI (bI (dropS 1 (takeS 1 (dropS 2 code_ref05_Bits))))))))) Q g w) Q) g w (fun s_0 out_3 i_4 c_5 k_6 w => ref05_Bits_p5 kn s_0 out_3 i_4 c_5 k_6 w) (fun g w h => thenE_n (K := fun g w => den pg ann_ref05_Bits (dropS 2 (bI (takeS 1 (dropS 1 (bI (bI (dropS 1 (takeS 1 (dropS 2 code_ref05_Bits))))))))) Q g w) (ref05_Bits_p5_ok Q g w kn hn h)) h)

def ref05_Bits_p8 (kn : K3) (s_0 out_3 i_4 : Value) (w : World) : Prop :=
  ref05_Bits_p7 kn s_0 out_3 i_4 w
theorem ref05_Bits_p8_ok (kn : K3) (hn : ∀ g w, kn (g 0) (g 3) (g 4) w → Q .normal g w) (h : ref05_Bits_p8 kn (g 0) (g 3) (g 4) w) : den pg ann_ref05_Bits (takeS 1 (dropS 1 (bI (bI (dropS 1 (takeS 1 (dropS 2 code_ref05_Bits))))))) Q g w :=
  den_blk 1 _ g w (by kernel_rfl) (ref05_Bits_p7_ok (blk 1 Q) g w kn hn h)

def ref05_Bits_p9 (kn : K3) (s_0 out_3 i_4 : Value) (w : World) : Prop :=
  ref05_Bits_p8 (fun s_0 out_3 i_4 w => ref05_Bits_p2 kn s_0 out_3 i_4 w) s_0 out_3 i_4 w
theorem ref05_Bits_p9_ok (kn : K3) (hn : ∀ g w, kn (g 0) (g 3) (g 4) w → Q .normal g w) (h : ref05_Bits_p9 kn (g 0) (g 3) (g 4) w) : den pg ann_ref05_Bits (dropS 1 (bI (bI (dropS 1 (takeS 1 (dropS 2 code_ref05_Bits)))))) Q g w :=
  den_seqs 1 _ g w (by kernel_rfl) (ref05_Bits_p8_ok (thenE (fun g w => den pg ann_ref05_Bits (dropS 1 (dropS 1 (bI (bI (dropS 1 (takeS 1 (dropS 2 code_ref05_Bits))))))) Q g w) Q) g w (fun s_0 out_3 i_4 w => ref05_Bits_p2 kn s_0 out_3 i_4 w) (fun g w h => thenE_n (K := fun g w => den pg ann_ref05_Bits (dropS 1 (dropS 1 (bI (bI (dropS 1 (takeS 1 (dropS 2 code_ref05_Bits))))))) Q g w) (ref05_Bits_p2_ok Q g w kn hn h)) h)

def ref05_Bits_p10 (kn : K3) (k0 : K1) (s_0 out_3 i_4 : Value) (w : World) : Prop :=
  Stp pg (sBi .len #[9] 3 [s_0]) w fun t9 w =>
  Stp pg (sBin .lss 3 (.tmp 7) (.tmp 9) i_4 t9) w fun t10 w =>
  Cnd t10
    (kn s_0 out_3 i_4 w)
    (k0 out_3 w)
theorem ref05_Bits_p10_ok (kn : K3) (k0 : K1) (hn : ∀ g w, kn (g 0) (g 3) (g 4) w → Q .normal g w) (h0 : ∀ g w, k0 (g 3) w → Q (.exit 0) g w) (h : ref05_Bits_p10 kn k0 (g 0) (g 3) (g 4) w) : den pg ann_ref05_Bits (takeS 1 (bI (bI (dropS 1 (takeS 1 (dropS 2 code_ref05_Bits)))))) Q g w :=
  den_exQ (kr := no) (l := [(0, fun g w => k0 (g 3) w)]) (by kernel_rfl) h hn noE ⟨h0, trivial⟩

def ref05_Bits_p11 (kn : K3) (k0 : K1) (s_0 out_3 i_4 : Value) (w : World) : Prop :=
  ref05_Bits_p10 (fun s_0 out_3 i_4 w => ref05_Bits_p9 kn s_0 out_3 i_4 w) k0 s_0 out_3 i_4 w
theorem ref05_Bits_p11_ok (kn : K3) (k0 : K1) (hn : ∀ g w, kn (g 0) (g 3) (g 4) w → Q .normal g w) (h0 : ∀ g w, k0 (g 3) w → Q (.exit 0) g w) (h : ref05_Bits_p11 kn k0 (g 0) (g 3) (g 4) w) : den pg ann_ref05_Bits (bI (bI (dropS 1 (takeS 1 (dropS 2 code_ref05_Bits))))) Q g w :=
  den_seqs 1 _ g w (by kernel_rfl) (ref05_Bits_p10_ok (thenE (fun g w => den pg ann_ref05_Bits (dropS 1 (bI (bI (dropS 1 (takeS 1 (dropS 2 code_ref05_Bits)))))) Q g w) Q) g w (fun s_0 out_3 i_4 w => ref05_Bits_p9 kn s_0 out_3 i_4 w) k0 (fun g w h => thenE_n (K := fun g w => den pg ann_ref05_Bits (dropS 1 (bI (bI (dropS 1 (takeS 1 (dropS 2 code_ref05_Bits)))))) Q g w) (ref05_Bits_p9_ok Q g w kn hn h)) h0 h)

def ref05_Bits_p12 (k0 : K1) (s_0 out_3 i_4 : Value) (w : World) : Prop :=
  LoopD (fun (X : (Value × Value) → K0) (t : Value × Value) (w : World) => ref05_Bits_p11 (fun _ out_3 i_4 w => X (out_3, i_4) w) k0 s_0 t.1 t.2 w) (out_3, i_4) w
theorem ref05_Bits_p12_ok (k0 : K1) (h0 : ∀ g w, k0 (g 3) w → Q (.exit 0) g w) (h : ref05_Bits_p12 k0 (g 0) (g 3) (g 4) w) : den pg ann_ref05_Bits (bI (dropS 1 (takeS 1 (dropS 2 code_ref05_Bits)))) Q g w := by
  refine den_loops (T := Value × Value) (fun g : Env => (g 3, g 4)) (fun X t w => ref05_Bits_p11 (fun _ out_3 i_4 w => X (out_3, i_4) w) k0 (g 0) t.1 t.2 w) _ (by kernel_rfl) h (fun X g1 w1 ha h1 => ?_)
  rw [← agree_at (s := 0) ha (by kernel_rfl)] at h1
  exact (ref05_Bits_p11_ok (thenE (fun g2 w2 => X ((fun g : Env => (g 3, g 4)) g2) w2) Q) g1 w1 (fun _ out_3 i_4 w => X (out_3, i_4) w) k0 (fun _ _ h => h) h0 h1)

def ref05_Bits_p13 (kn : K1) (s_0 out_3 i_4 : Value) (w : World) : Prop :=
  ref05_Bits_p12 kn s_0 out_3 i_4 w
theorem ref05_Bits_p13_ok (kn : K1) (hn : ∀ g w, kn (g 3) w → Q .normal g w) (h : ref05_Bits_p13 kn (g 0) (g 3) (g 4) w) : den pg ann_ref05_Bits (dropS 1 (takeS 1 (dropS 2 code_ref05_Bits))) Q g w :=
  den_blk 0 _ g w (by kernel_rfl) (ref05_Bits_p12_ok (blk 0 Q) g w kn hn h)

def ref05_Bits_p14 (kn : K3) (s_0 out_3 : Value) (w : World) : Prop :=
  kn s_0 out_3 (.int .i64 0) w
theorem ref05_Bits_p14_ok (kn : K3) (hn : ∀ g w, kn (g 0) (g 3) (g 4) w → Q .normal g w) (h : ref05_Bits_p14 kn (g 0) (g 3) w) : den pg ann_ref05_Bits (takeS 1 (takeS 1 (dropS 2 code_ref05_Bits))) Q g w :=
  den_exQ (kr := no) (l := []) (by kernel_rfl) h hn noE trivial

def ref05_Bits_p15 (kn : K1) (s_0 out_3 : Value) (w : World) : Prop :=
  ref05_Bits_p14 (fun s_0 out_3 i_4 w => ref05_Bits_p13 kn s_0 out_3 i_4 w) s_0 out_3 w
theorem ref05_Bits_p15_ok (kn : K1) (hn : ∀ g w, kn (g 3) w → Q .normal g w) (h : ref05_Bits_p15 kn (g 0) (g 3) w) : den pg ann_ref05_Bits (takeS 1 (dropS 2 code_ref05_Bits)) Q g w :=
  den_seqs 1 _ g w (by kernel_rfl) (ref05_Bits_p14_ok (thenE (fun g w => den pg ann_ref05_Bits (dropS 1 (takeS 1 (dropS 2 code_ref05_Bits))) Q g w) Q) g w (fun s_0 out_3 i_4 w => ref05_Bits_p13 kn s_0 out_3 i_4 w) (fun g w h => thenE_n (K := fun g w => den pg ann_ref05_Bits (dropS 1 (takeS 1 (dropS 2 code_ref05_Bits))) Q g w) (ref05_Bits_p13_ok Q g w kn hn h)) h)

def ref05_Bits_p16 (R : K1) (s_0 out_3 : Value) (w : World) : Prop :=
  ref05_Bits_p15 (fun out_3 w => ref05_Bits_p1 R out_3 w) s_0 out_3 w
theorem ref05_Bits_p16_ok (R : K1) (hr : HR rs_ref05_Bits R Q) (h : ref05_Bits_p16 R (g 0) (g 3) w) : den pg ann_ref05_Bits (dropS 2 code_ref05_Bits) Q g w :=
  den_seqs 1 _ g w (by kernel_rfl) (ref05_Bits_p15_ok (thenE (fun g w => den pg ann_ref05_Bits (dropS 1 (dropS 2 code_ref05_Bits)) Q g w) Q) g w (fun out_3 w => ref05_Bits_p1 R out_3 w) (fun g w h => thenE_n (K := fun g w => den pg ann_ref05_Bits (dropS 1 (dropS 2 code_ref05_Bits)) Q g w) (ref05_Bits_p1_ok Q g w R hr h)) h)

def ref05_Bits_p17 (kn : K2) (s_0 : Value) (w : World) : Prop :=
  kn s_0 (.slice none 0 0) w
theorem ref05_Bits_p17_ok (kn : K2) (hn : ∀ g w, kn (g 0) (g 3) w → Q .normal g w) (h : ref05_Bits_p17 kn (g 0) w) : den pg ann_ref05_Bits (takeS 2 code_ref05_Bits) Q g w :=
  den_exQ (kr := no) (l := []) (by kernel_rfl) h hn noE trivial

def ref05_Bits_p18 (R : K1) (s_0 : Value) (w : World) : Prop :=
  ref05_Bits_p17 (fun s_0 out_3 w => ref05_Bits_p16 R s_0 out_3 w) s_0 w
theorem ref05_Bits_p18_ok (R : K1) (hr : HR rs_ref05_Bits R Q) (h : ref05_Bits_p18 R (g 0) w) : den pg ann_ref05_Bits code_ref05_Bits Q g w :=
  den_seqs 2 _ g w (by kernel_rfl) (ref05_Bits_p17_ok (thenE (fun g w => den pg ann_ref05_Bits (dropS 2 code_ref05_Bits) Q g w) Q) g w (fun s_0 out_3 w => ref05_Bits_p16 R s_0 out_3 w) (fun g w h => thenE_n (K := fun g w => den pg ann_ref05_Bits (dropS 2 code_ref05_Bits) Q g w) (ref05_Bits_p16_ok Q g w R hr h)) h)

def ref05_Bits (a0 : Value) (w : World) (R : K1) : Prop :=
  ref05_Bits_p18 R a0 w
theorem ref05_Bits_does {a0 : Value} {w : World} {R : K1} (h : ref05_Bits a0 w R) : Does pg F_ref05_Bits #[a0] w R := by
  refine does_of_den (ann := ann_ref05_Bits) (fn := Try.f48) (c := code_ref05_Bits) (args := [a0]) (rs := rs_ref05_Bits) (N := 29) TryM.mixed (by kernel_rfl) Try.func48 (by kernel_rfl) (by kernel_rfl) (by kernel_rfl) (of_decide_eq_true (by kernel_rfl)) (by kernel_rfl) ?_
  exact (ref05_Bits_p18_ok (retQ pg rs_ref05_Bits R) (envOf [a0]) w R (fun _ _ h => h) h)
-- PIECES ref05_Bits/0 ref05_Bits_p1 ref05_Bits_p12 ref05_Bits_p13 ref05_Bits_p14 ref05_Bits_p15 ref05_Bits_p16 ref05_Bits_p17 ref05_Bits_p18
-- PIECES ref05_Bits/1 ref05_Bits_p2 ref05_Bits_p4 ref05_Bits_p5 ref05_Bits_p6 ref05_Bits_p7 ref05_Bits_p8 ref05_Bits_p9 ref05_Bits_p10 ref05_Bits_p11
-- PIECES ref05_Bits/2 ref05_Bits_p3

/- (*lighterman/bits.Backward).Read -/
def ann_bits_Backward_Read : FA := ⟨F_bits_Backward_Read, fun i => match Nat.beq i 4 with | true => .leaf ([12], [(12, 15), (12, 16)]) [(false, []), (false, []), (false, []), (false, []), (false, []), (false, []), (false, []), (false, []), (false, []), (false, []), (false, []), (false, []), (true, []), (false, []), (false, []), (false, [2]), (false, [3]), (false, []), (false, [])] | false => .leaf ([], []) []⟩
def rs_bits_Backward_Read : List ResultVar := [.tmp 4]
noncomputable def code_bits_Backward_Read : Code := bodyOf Try.f49
def bits_Backward_Read_p1 (R : K1) (r_0 n_1 : Value) (w : World) : Prop :=
  Stp pg (sBin .eql 55 (.tmp 7) (.const (.pointer none)) r_0 (.pointer none)) w fun t8 w =>
  Gd (isB t8 false) (fun K => K n_1 w) w fun t10 w =>
  Gd (isB t8 false) (fun K => Stp pg (sBin .lss 3 (.tmp 10) (.const (.int .i64 1)) t10 (.int .i64 1)) w K) w fun t11 w =>
  Stp pg (sPick t8 (.bool true) t11) w fun t12 w =>
  Gd (isB t12 false) (fun K => K n_1 w) w fun t14 w =>
  Gd (isB t12 false) (fun K => Stp pg (sBin .gtr 3 (.tmp 14) (.const (.int .i64 56)) t14 (.int .i64 56)) w K) w fun t15 w =>
  Stp pg (sPick t12 (.bool true) t15) w fun t16 w =>
  Cnd t16
    (R (.int .u64 0) w)
    (Stp pg (sNil r_0) w fun t18 w =>
    Stp pg (sFAddr 105 t18 1) w fun t19 w =>
    Stp pg (sLoad 3 t19) w fun t20 w =>
    Stp pg (sBi .max #[3, 3] 3 [t20, (.int .i64 0)]) w fun t21 w =>
    Stp pg (sBi .min #[3, 3] 3 [t21, n_1]) w fun t23 w =>
    (dr w) = (dr w) ∧
    Stp pg (sNil r_0) (dr w) fun t25 w_ => w_ = (dr w) ∧
    Stp pg (sFAddr 105 t25 0) (dr w) fun t26 w_ => w_ = (dr w) ∧
    Stp pg (sLoad 52 t26) (dr w) fun t27 w_ => w_ = (dr w) ∧
    (dr w) = (dr w) ∧
    Stp pg (sNil r_0) (dr w) fun t29 w_ => w_ = (dr w) ∧
    Stp pg (sFAddr 105 t29 1) (dr w) fun t30 w_ => w_ = (dr w) ∧
    Stp pg (sLoad 3 t30) (dr w) fun t31 w_ => w_ = (dr w) ∧
    Stp pg (sBi .max #[3, 3] 3 [t31, (.int .i64 0)]) (dr w) fun t32 w_ => w_ = (dr w) ∧
    (dr w) = (dr w) ∧
    Stp pg (sBin .sub 3 (.tmp 32) (.tmp 33) t32 t23) (dr w) fun t34 w_ => w_ = (dr w) ∧
    (dr w) = (dr w) ∧
    Does pg F_bits_take #[t27, t34, t23] (dr w) fun t36 w4_12 =>
    w4_12 = w4_12 ∧
    w4_12 = w4_12 ∧
    Stp pg (sBin .sub 3 (.tmp 37) (.tmp 38) n_1 t23) w4_12 fun t39 w_ => w_ = w4_12 ∧
    (Same pg (sBin .sub 3 (.tmp 37) (.tmp 38) n_1 t23) t39 (dr w) ∧ True) ∧
    Stp pg (sCvt 3 50 t39) w4_12 fun t40 w_ => w_ = w4_12 ∧
    (Same pg (sCvt 3 50 t39) t40 (dr w) ∧ True) ∧
    Stp pg (sBin .shl 45 (.tmp 36) (.tmp 40) t36 t40) w4_12 fun t41 w_ => w_ = w4_12 ∧
    w4_12 = w4_12 ∧
    Stp pg (sNil r_0) w4_12 fun t43 w =>
    Stp pg (sFAddr 105 t43 1) w fun t44 w =>
    Stp pg (sLoad 3 t44) w fun t45 w =>
    Stp pg (sBin .sub 3 (.tmp 45) (.tmp 46) t45 n_1) w fun t47 w =>
    Stp pg (sNil r_0) w fun t48 w =>
    Stp pg (sFAddr 105 t48 1) w fun t49 w =>
    Stp pg (sStore 3 t49 t47) w fun _u w =>
    R t41 w)
theorem bits_Backward_Read_p1_ok (R : K1) (hr : HR rs_bits_Backward_Read R Q) (h : bits_Backward_Read_p1 R (g 0) (g 1) w) : den pg ann_bits_Backward_Read code_bits_Backward_Read Q g w :=
  den_exQ (kn := no) (l := []) (by kernel_rfl) h noE hr trivial

def bits_Backward_Read (a0 a1 : Value) (w : World) (R : K1) : Prop :=
  bits_Backward_Read_p1 R a0 a1 w
theorem bits_Backward_Read_does {a0 a1 : Value} {w : World} {R : K1} (h : bits_Backward_Read a0 a1 w R) : Does pg F_bits_Backward_Read #[a0, a1] w R := by
  refine does_of_den (ann := ann_bits_Backward_Read) (fn := Try.f49) (c := code_bits_Backward_Read) (args := [a0, a1]) (rs := rs_bits_Backward_Read) (N := 51) TryM.mixed (by kernel_rfl) Try.func49 (by kernel_rfl) (by kernel_rfl) (by kernel_rfl) (of_decide_eq_true (by kernel_rfl)) (by kernel_rfl) ?_
  exact (bits_Backward_Read_p1_ok (retQ pg rs_bits_Backward_Read R) (envOf [a0, a1]) w R (fun _ _ h => h) h)
-- PIECES bits_Backward_Read/0 bits_Backward_Read_p1

/- lighterman/lightermanref05.Last -/
def ann_ref05_Last : FA := ⟨F_ref05_Last, fun i => .leaf ([], []) []⟩
def rs_ref05_Last : List ResultVar := [.cell 4 60, .tmp 5]
noncomputable def code_ref05_Last : Code := bodyOf Try.f50
def ref05_Last_p1 (R : K1) (b_2 t4 k_6 x_7 : Value) (w : World) : Prop :=
  Stp pg (sFAddr 60 b_2 0) w fun t46 w =>
  Stp pg (sLoad 58 t46) w fun t47 w =>
  Stp pg (sFAddr 60 b_2 0) w fun t48 w =>
  Stp pg (sLoad 58 t48) w fun t49 w =>
  Stp pg (sBi .len #[58] 3 [t49]) w fun t50 w =>
  Stp pg (sBin .sub 3 (.tmp 50) (.tmp 51) t50 k_6) w fun t52 w =>
  Stp pg (sSlice 58 t47 none (some t52) none) w fun t53 w =>
  Stp pg (sFAddr 60 b_2 0) w fun t54 w =>
  Stp pg (sStore 58 t54 t53) w fun _u w =>
  Stp pg (sLoad 60 b_2) w fun t55 w =>
  Stp pg (sStore 60 t4 t55) w fun _u w =>
  LdR pg 60 t4 w fun r0 => R (.tuple #[r0, x_7]) w
theorem ref05_Last_p1_ok (R : K1) (hr : HR rs_ref05_Last R Q) (h : ref05_Last_p1 R (g 2) (g 4) (g 6) (g 7) w) : den pg ann_ref05_Last (dropS 1 (dropS 1 (dropS 4 code_ref05_Last))) Q g w :=
  den_exQ (kn := no) (l := []) (by kernel_rfl) h noE hr trivial

def ref05_Last_p2 (kn : K6) (k0 : K4) (n_1 b_2 t4 k_6 x_7 i_8 : Value) (w : World) : Prop :=
  Stp pg (sBin .lss 3 (.tmp 35) (.tmp 36) i_8 n_1) w fun t37 w =>
  Cnd t37
    (Stp pg (sBin .mul 45 (.tmp 40) (.const (.int .u64 2)) x_7 (.int .u64 2)) w fun t41 w =>
    Stp pg (sFAddr 60 b_2 1) w fun t42 w =>
    Stp pg (sLoad 3 t42) w fun t43 w =>
    Stp pg (sBin .add 3 (.tmp 43) (.const (.int .i64 1)) t43 (.int .i64 1)) w fun t44 w =>
    Stp pg (sFAddr 60 b_2 1) w fun t45 w =>
    Stp pg (sStore 3 t45 t44) w fun _u w =>
    Stp pg (sBin .add 3 (.tmp 38) (.const (.int .i64 1)) i_8 (.int .i64 1)) w fun t39 w =>
    kn n_1 b_2 t4 k_6 t41 t39 w)
    (k0 b_2 t4 k_6 x_7 w)
theorem ref05_Last_p2_ok (kn : K6) (k0 : K4) (hn : ∀ g w, kn (g 1) (g 2) (g 4) (g 6) (g 7) (g 8) w → Q .normal g w) (h0 : ∀ g w, k0 (g 2) (g 4) (g 6) (g 7) w → Q (.exit 0) g w) (h : ref05_Last_p2 kn k0 (g 1) (g 2) (g 4) (g 6) (g 7) (g 8) w) : den pg ann_ref05_Last (bI (bI (dropS 1 (takeS 1 (dropS 1 (dropS 4 code_ref05_Last)))))) Q g w :=
  den_exQ (kr := no) (l := [(0, fun g w => k0 (g 2) (g 4) (g 6) (g 7) w)]) (by kernel_rfl) h hn noE ⟨h0, trivial⟩

def ref05_Last_p3 (k0 : K4) (n_1 b_2 t4 k_6 x_7 i_8 : Value) (w : World) : Prop :=
  LoopD (fun (X : (Value × Value) → K0) (t : Value × Value) (w : World) => ref05_Last_p2 (fun _ _ _ _ x_7 i_8 w => X (x_7, i_8) w) k0 n_1 b_2 t4 k_6 t.1 t.2 w) (x_7, i_8) w
theorem ref05_Last_p3_ok (k0 : K4) (h0 : ∀ g w, k0 (g 2) (g 4) (g 6) (g 7) w → Q (.exit 0) g w) (h : ref05_Last_p3 k0 (g 1) (g 2) (g 4) (g 6) (g 7) (g 8) w) : den pg ann_ref05_Last (bI (dropS 1 (takeS 1 (dropS 1 (dropS 4 code_ref05_Last))))) Q g w := by
  refine den_loops (T := Value × Value) (fun g : Env => (g 7, g 8)) (fun X t w => ref05_Last_p2 (fun _ _ _ _ x_7 i_8 w => X (x_7, i_8) w) k0 (g 1) (g 2) (g 4) (g 6) t.1 t.2 w) _ (by kernel_rfl) h (fun X g1 w1 ha h1 => ?_)
  rw [← agree_at (s := 1) ha (by kernel_rfl)] at h1
  rw [← agree_at (s := 2) ha (by kernel_rfl)] at h1
  rw [← agree_at (s := 4) ha (by kernel_rfl)] at h1
  rw [← agree_at (s := 6) ha (by kernel_rfl)] at h1
  exact (ref05_Last_p2_ok (thenE (fun g2 w2 => X ((fun g : Env => (g 7, g 8)) g2) w2) Q) g1 w1 (fun _ _ _ _ x_7 i_8 w => X (x_7, i_8) w) k0 (fun _ _ h => h) h0 h1)

def ref05_Last_p4 (kn : K4) (n_1 b_2 t4 k_6 x_7 i_8 : Value) (w : World) : Prop :=
  ref05_Last_p3 kn n_1 b_2 t4 k_6 x_7 i_8 w
theorem ref05_Last_p4_ok (kn : K4) (hn : ∀ g w, kn (g 2) (g 4) (g 6) (g 7) w → Q .normal g w) (h : ref05_Last_p4 kn (g 1) (g 2) (g 4) (g 6) (g 7) (g 8) w) : den pg ann_ref05_Last (dropS 1 (takeS 1 (dropS 1 (dropS 4 code_ref05_Last)))) Q g w :=
  den_blk 0 _ g w (by kernel_rfl) (ref05_Last_p3_ok (blk 0 Q) g w kn hn h)

def ref05_Last_p5 (kn : K6) (n_1 b_2 t4 k_6 x_7 : Value) (w : World) : Prop :=
  kn n_1 b_2 t4 k_6 x_7 k_6 w
theorem ref05_Last_p5_ok (kn : K6) (hn : ∀ g w, kn (g 1) (g 2) (g 4) (g 6) (g 7) (g 8) w → Q .normal g w) (h : ref05_Last_p5 kn (g 1) (g 2) (g 4) (g 6) (g 7) w) : den pg ann_ref05_Last (takeS 1 (takeS 1 (dropS 1 (dropS 4 code_ref05_Last)))) Q g w :=
  den_exQ (kr := no) (l := []) (by kernel_rfl) h hn noE trivial

def ref05_Last_p6 (kn : K4) (n_1 b_2 t4 k_6 x_7 : Value) (w : World) : Prop :=
  ref05_Last_p5 (fun n_1 b_2 t4 k_6 x_7 i_8 w => ref05_Last_p4 kn n_1 b_2 t4 k_6 x_7 i_8 w) n_1 b_2 t4 k_6 x_7 w
theorem ref05_Last_p6_ok (kn : K4) (hn : ∀ g w, kn (g 2) (g 4) (g 6) (g 7) w → Q .normal g w) (h : ref05_Last_p6 kn (g 1) (g 2) (g 4) (g 6) (g 7) w) : den pg ann_ref05_Last (takeS 1 (dropS 1 (dropS 4 code_ref05_Last))) Q g w :=
  den_seqs 1 _ g w (by kernel_rfl) (ref05_Last_p5_ok (thenE (fun g w => den pg ann_ref05_Last (dropS 1 (takeS 1 (dropS 1 (dropS 4 code_ref05_Last)))) Q g w) Q) g w (fun n_1 b_2 t4 k_6 x_7 i_8 w => ref05_Last_p4 kn n_1 b_2 t4 k_6 x_7 i_8 w) (fun g w h => thenE_n (K := fun g w => den pg ann_ref05_Last (dropS 1 (takeS 1 (dropS 1 (dropS 4 code_ref05_Last)))) Q g w) (ref05_Last_p4_ok Q g w kn hn h)) h)

def ref05_Last_p7 (R : K1) (n_1 b_2 t4 k_6 x_7 : Value) (w : World) : Prop :=
  ref05_Last_p6 (fun b_2 t4 k_6 x_7 w => ref05_Last_p1 R b_2 t4 k_6 x_7 w) n_1 b_2 t4 k_6 x_7 w
theorem ref05_Last_p7_ok (R : K1) (hr : HR rs_ref05_Last R Q) (h : ref05_Last_p7 R (g 1) (g 2) (g 4) (g 6) (g 7) w) : den pg ann_ref05_Last (dropS 1 (dropS 4 code_ref05_Last)) Q g w :=
  den_seqs 1 _ g w (by kernel_rfl) (ref05_Last_p6_ok (thenE (fun g w => den pg ann_ref05_Last (dropS 1 (dropS 1 (dropS 4 code_ref05_Last))) Q g w) Q) g w (fun b_2 t4 k_6 x_7 w => ref05_Last_p1 R b_2 t4 k_6 x_7 w) (fun g w h => thenE_n (K := fun g w => den pg ann_ref05_Last (dropS 1 (dropS 1 (dropS 4 code_ref05_Last))) Q g w) (ref05_Last_p1_ok Q g w R hr h)) h)

def ref05_Last_p8 (kn : K5) (n_1 b_2 t4 k_6 : Value) (w : World) : Prop :=
  Stp pg (sFAddr 60 b_2 0) w fun t25 w =>
  Stp pg (sLoad 58 t25) w fun t26 w =>
  Stp pg (sFAddr 60 b_2 0) w fun t27 w =>
  Stp pg (sLoad 58 t27) w fun t28 w =>
  Stp pg (sBi .len #[58] 3 [t28]) w fun t29 w =>
  Stp pg (sBin .sub 3 (.tmp 29) (.tmp 30) t29 k_6) w fun t31 w =>
  Stp pg (sSlice 58 t26 (some t31) none none) w fun t32 w =>
  Does pg F_ref05_Number #[t32] w fun t33 w =>
  kn n_1 b_2 t4 k_6 t33 w
theorem ref05_Last_p8_ok (kn : K5) (hn : ∀ g w, kn (g 1) (g 2) (g 4) (g 6) (g 7) w → Q .normal g w) (h : ref05_Last_p8 kn (g 1) (g 2) (g 4) (g 6) w) : den pg ann_ref05_Last (takeS 1 (dropS 4 code_ref05_Last)) Q g w :=
  den_exQ (kr := no) (l := []) (by kernel_rfl) h hn noE trivial

def ref05_Last_p9 (R : K1) (n_1 b_2 t4 k_6 : Value) (w : World) : Prop :=
  ref05_Last_p8 (fun n_1 b_2 t4 k_6 x_7 w => ref05_Last_p7 R n_1 b_2 t4 k_6 x_7 w) n_1 b_2 t4 k_6 w
theorem ref05_Last_p9_ok (R : K1) (hr : HR rs_ref05_Last R Q) (h : ref05_Last_p9 R (g 1) (g 2) (g 4) (g 6) w) : den pg ann_ref05_Last (dropS 4 code_ref05_Last) Q g w :=
  den_seqs 1 _ g w (by kernel_rfl) (ref05_Last_p8_ok (thenE (fun g w => den pg ann_ref05_Last (dropS 1 (dropS 4 code_ref05_Last)) Q g w) Q) g w (fun n_1 b_2 t4 k_6 x_7 w => ref05_Last_p7 R n_1 b_2 t4 k_6 x_7 w) (fun g w h => thenE_n (K := fun g w => den pg ann_ref05_Last (dropS 1 (dropS 4 code_ref05_Last)) Q g w) (ref05_Last_p7_ok Q g w R hr h)) h)

def ref05_Last_p10 (kn : K4) (R : K1) (b_0 n_1 : Value) (w : World) : Prop :=
  Stp pg (sBox 60 b_0) w fun b_2 w =>
  Stp pg (sAlloc 60) w fun t4 w =>
  Stp pg (sBin .lss 3 (.tmp 9) (.const (.int .i64 1)) n_1 (.int .i64 1)) w fun t10 w =>
  Gd (isB t10 false) (fun K => K n_1 w) w fun t12 w =>
  Gd (isB t10 false) (fun K => Stp pg (sBin .gtr 3 (.tmp 12) (.const (.int .i64 56)) t12 (.int .i64 56)) w K) w fun t13 w =>
  Stp pg (sPick t10 (.bool true) t13) w fun t14 w =>
  Cnd t14
    (Stp pg (sLoad 60 b_2) w fun t15 w =>
    Stp pg (sStore 60 t4 t15) w fun _u w =>
    LdR pg 60 t4 w fun r0 => R (.tuple #[r0, (.int .u64 0)]) w)
    (Stp pg (sFAddr 60 b_2 0) w fun t18 w =>
    Stp pg (sLoad 58 t18) w fun t19 w =>
    Stp pg (sBi .len #[58] 3 [t19]) w fun t20 w =>
    Stp pg (sBin .gtr 3 (.tmp 17) (.tmp 20) n_1 t20) w fun t21 w =>
    Cnd t21
      (Stp pg (sFAddr 60 b_2 0) w fun t22 w =>
      Stp pg (sLoad 58 t22) w fun t23 w =>
      Stp pg (sBi .len #[58] 3 [t23]) w fun t24 w =>
      kn n_1 b_2 t4 t24 w)
      (kn n_1 b_2 t4 n_1 w))
theorem ref05_Last_p10_ok (kn : K4) (R : K1) (hn : ∀ g w, kn (g 1) (g 2) (g 4) (g 6) w → Q .normal g w) (hr : HR rs_ref05_Last R Q) (h : ref05_Last_p10 kn R (g 0) (g 1) w) : den pg ann_ref05_Last (takeS 4 code_ref05_Last) Q g w :=
  den_exQ (l := []) (by kernel_rfl) h hn hr trivial

def ref05_Last_p11 (R : K1) (b_0 n_1 : Value) (w : World) : Prop :=
  ref05_Last_p10 (fun n_1 b_2 t4 k_6 w => ref05_Last_p9 R n_1 b_2 t4 k_6 w) R b_0 n_1 w
theorem ref05_Last_p11_ok (R : K1) (hr : HR rs_ref05_Last R Q) (h : ref05_Last_p11 R (g 0) (g 1) w) : den pg ann_ref05_Last code_ref05_Last Q g w :=
  den_seqs 4 _ g w (by kernel_rfl) (ref05_Last_p10_ok (thenE (fun g w => den pg ann_ref05_Last (dropS 4 code_ref05_Last) Q g w) Q) g w (fun n_1 b_2 t4 k_6 w => ref05_Last_p9 R n_1 b_2 t4 k_6 w) R (fun g w h => thenE_n (K := fun g w => den pg ann_ref05_Last (dropS 4 code_ref05_Last) Q g w) (ref05_Last_p9_ok Q g w R hr h)) hr h)

def ref05_Last (a0 a1 : Value) (w : World) (R : K1) : Prop :=
  ref05_Last_p11 R a0 a1 w
theorem ref05_Last_does {a0 a1 : Value} {w : World} {R : K1} (h : ref05_Last a0 a1 w R) : Does pg F_ref05_Last #[a0, a1] w R := by
  refine does_of_den (ann := ann_ref05_Last) (fn := Try.f50) (c := code_ref05_Last) (args := [a0, a1]) (rs := rs_ref05_Last) (N := 57) TryM.mixed (by kernel_rfl) Try.func50 (by kernel_rfl) (by kernel_rfl) (by kernel_rfl) (of_decide_eq_true (by kernel_rfl)) (by kernel_rfl) ?_
  exact (ref05_Last_p11_ok (retQ pg rs_ref05_Last R) (envOf [a0, a1]) w R (fun _ _ h => h) h)
-- PIECES ref05_Last/0 ref05_Last_p1 ref05_Last_p3 ref05_Last_p4 ref05_Last_p5 ref05_Last_p6 ref05_Last_p7 ref05_Last_p8 ref05_Last_p9 ref05_Last_p10 ref05_Last_p11
-- PIECES ref05_Last/1 ref05_Last_p2

/- lighterman/bits.NewForward -/
def ann_bits_NewForward : FA := ⟨F_bits_NewForward, fun i => .leaf ([], []) []⟩
def rs_bits_NewForward : List ResultVar := [.tmp 2]
noncomputable def code_bits_NewForward : Code := bodyOf Try.f51
def bits_NewForward_p1 (R : K1) (b_0 : Value) (w : World) : Prop :=
  Does pg F_slices_Clone_inst #[b_0] w fun t4 w =>
  Stp pg (sBuild 130 [(0, t4)]) w fun t5 w =>
  Stp pg (sBox 130 t5) w fun t6 w =>
  R t6 w
theorem bits_NewForward_p1_ok (R : K1) (hr : HR rs_bits_NewForward R Q) (h : bits_NewForward_p1 R (g 0) w) : den pg ann_bits_NewForward code_bits_NewForward Q g w :=
  den_exQ (kn := no) (l := []) (by kernel_rfl) h noE hr trivial

def bits_NewForward (a0 : Value) (w : World) (R : K1) : Prop :=
  bits_NewForward_p1 R a0 w
theorem bits_NewForward_does {a0 : Value} {w : World} {R : K1} (h : bits_NewForward a0 w R) : Does pg F_bits_NewForward #[a0] w R := by
  refine does_of_den (ann := ann_bits_NewForward) (fn := Try.f51) (c := code_bits_NewForward) (args := [a0]) (rs := rs_bits_NewForward) (N := 7) TryM.mixed (by kernel_rfl) Try.func51 (by kernel_rfl) (by kernel_rfl) (by kernel_rfl) (of_decide_eq_true (by kernel_rfl)) (by kernel_rfl) ?_
  exact (bits_NewForward_p1_ok (retQ pg rs_bits_NewForward R) (envOf [a0]) w R (fun _ _ h => h) h)
-- PIECES bits_NewForward/0 bits_NewForward_p1

/- (*lighterman/bits.Forward).Read -/
def ann_bits_Forward_Read : FA := ⟨F_bits_Forward_Read, fun i => match Nat.beq i 3 with | true => .leaf ([], []) [(false, []), (false, []), (false, []), (false, []), (false, []), (false, []), (false, []), (false, []), (false, []), (false, []), (false, []), (false, []), (false, []), (false, [])] | false => match Nat.beq i 5 with | true => .leaf ([9], []) [(false, []), (false, []), (false, []), (false, []), (false, []), (false, []), (false, []), (false, []), (false, []), (true, []), (false, [])] | false => .leaf ([], []) []⟩
def rs_bits_Forward_Read : List ResultVar := [.tmp 4, .tmp 5]
noncomputable def code_bits_Forward_Read : Code := bodyOf Try.f52
def bits_Forward_Read_p1 (R : K1) (f_0 n_1 : Value) (w : World) : Prop :=
  Stp pg (sBin .eql 112 (.tmp 8) (.const (.pointer none)) f_0 (.pointer none)) w fun t9 w =>
  Gd (isB t9 false) (fun K => K n_1 w) w fun t11 w =>
  Gd (isB t9 false) (fun K => Stp pg (sBin .lss 3 (.tmp 11) (.const (.int .i64 0)) t11 (.int .i64 0)) w K) w fun t12 w =>
  Stp pg (sPick t9 (.bool true) t12) w fun t13 w =>
  Gd (isB t13 false) (fun K => K n_1 w) w fun t15 w =>
  Gd (isB t13 false) (fun K => Stp pg (sBin .gtr 3 (.tmp 15) (.const (.int .i64 32)) t15 (.int .i64 32)) w K) w fun t16 w =>
  Stp pg (sPick t13 (.bool true) t16) w fun t17 w =>
  Cnd t17
    (R (.tuple #[(.int .u64 0), (.int .i64 1)]) w)
    ((dr w) = (dr w) ∧
    Stp pg (sNil f_0) (dr w) fun t20 w_ => w_ = (dr w) ∧
    Stp pg (sFAddr 130 t20 0) (dr w) fun t21 w_ => w_ = (dr w) ∧
    Stp pg (sLoad 52 t21) (dr w) fun t22 w_ => w_ = (dr w) ∧
    Stp pg (sBi .len #[52] 3 [t22]) (dr w) fun t23 w_ => w_ = (dr w) ∧
    Stp pg (sBin .mul 3 (.const (.int .i64 8)) (.tmp 23) (.int .i64 8) t23) (dr w) fun t24 w_ => w_ = (dr w) ∧
    (dr w) = (dr w) ∧
    Stp pg (sNil f_0) (dr w) fun t26 w_ => w_ = (dr w) ∧
    Stp pg (sFAddr 130 t26 1) (dr w) fun t27 w_ => w_ = (dr w) ∧
    Stp pg (sLoad 3 t27) (dr w) fun t28 w_ => w_ = (dr w) ∧
    Stp pg (sBin .sub 3 (.tmp 24) (.tmp 28) t24 t28) (dr w) fun t29 w_ => w_ = (dr w) ∧
    (dr w) = (dr w) ∧
    Stp pg (sBin .lss 3 (.tmp 29) (.tmp 30) t29 n_1) (dr w) fun t31 w_ => w_ = (dr w) ∧
    (dr w) = (dr w) ∧
    Cnd t31
      (R (.tuple #[(.int .u64 0), (.int .i64 10)]) (dr w))
      ((dr (dr w)) = (dr (dr w)) ∧
      Stp pg (sNil f_0) (dr (dr w)) fun t33 w_ => w_ = (dr (dr w)) ∧
      Stp pg (sFAddr 130 t33 0) (dr (dr w)) fun t34 w_ => w_ = (dr (dr w)) ∧
      Stp pg (sLoad 52 t34) (dr (dr w)) fun t35 w_ => w_ = (dr (dr w)) ∧
      (dr (dr w)) = (dr (dr w)) ∧
      Stp pg (sNil f_0) (dr (dr w)) fun t37 w_ => w_ = (dr (dr w)) ∧
      Stp pg (sFAddr 130 t37 1) (dr (dr w)) fun t38 w_ => w_ = (dr (dr w)) ∧
      Stp pg (sLoad 3 t38) (dr (dr w)) fun t39 w_ => w_ = (dr (dr w)) ∧
      (dr (dr w)) = (dr (dr w)) ∧
      Does pg F_bits_take #[t35, t39, n_1] (dr (dr w)) fun t41 w5_9 =>
      w5_9 = w5_9 ∧
      Stp pg (sNil f_0) w5_9 fun t43 w =>
      Stp pg (sFAddr 130 t43 1) w fun t44 w =>
      Stp pg (sLoad 3 t44) w fun t45 w =>
      Stp pg (sBin .add 3 (.tmp 45) (.tmp 46) t45 n_1) w fun t47 w =>
      Stp pg (sNil f_0) w fun t48 w =>
      Stp pg (sFAddr 130 t48 1) w fun t49 w =>
      Stp pg (sStore 3 t49 t47) w fun _u w =>
      R (.tuple #[t41, (.int .i64 0)]) w))
theorem bits_Forward_Read_p1_ok (R : K1) (hr : HR rs_bits_Forward_Read R Q) (h : bits_Forward_Read_p1 R (g 0) (g 1) w) : den pg ann_bits_Forward_Read code_bits_Forward_Read Q g w :=
  den_exQ (kn := no) (l := []) (by kernel_rfl) h noE hr trivial

def bits_Forward_Read (a0 a1 : Value) (w : World) (R : K1) : Prop :=
  bits_Forward_Read_p1 R a0 a1 w
theorem bits_Forward_Read_does {a0 a1 : Value} {w : World} {R : K1} (h : bits_Forward_Read a0 a1 w R) : Does pg F_bits_Forward_Read #[a0, a1] w R := by
  refine does_of_den (ann := ann_bits_Forward_Read) (fn := Try.f52) (c := code_bits_Forward_Read) (args := [a0, a1]) (rs := rs_bits_Forward_Read) (N := 51) TryM.mixed (by kernel_rfl) Try.func52 (by kernel_rfl) (by kernel_rfl) (by kernel_rfl) (of_decide_eq_true (by kernel_rfl)) (by kernel_rfl) ?_
  exact (bits_Forward_Read_p1_ok (retQ pg rs_bits_Forward_Read R) (envOf [a0, a1]) w R (fun _ _ h => h) h)
-- PIECES bits_Forward_Read/0 bits_Forward_Read_p1

/- (*lighterman/bits.Forward).Used -/
def ann_bits_Forward_Used : FA := ⟨F_bits_Forward_Used, fun i => .leaf ([], []) []⟩
def rs_bits_Forward_Used : List ResultVar := [.tmp 2]
noncomputable def code_bits_Forward_Used : Code := bodyOf Try.f56
def bits_Forward_Used_p1 (R : K1) (f_0 : Value) (w : World) : Prop :=
  Stp pg (sBin .eql 112 (.tmp 3) (.const (.pointer none)) f_0 (.pointer none)) w fun t4 w =>
  Cnd t4
    (R (.int .i64 0) w)
    (Stp pg (sNil f_0) w fun t6 w =>
    Stp pg (sFAddr 130 t6 1) w fun t7 w =>
    Stp pg (sLoad 3 t7) w fun t8 w =>
    Stp pg (sBin .add 3 (.tmp 8) (.const (.int .i64 7)) t8 (.int .i64 7)) w fun t9 w =>
    Stp pg (sBin .quo 3 (.tmp 9) (.const (.int .i64 8)) t9 (.int .i64 8)) w fun t10 w =>
    R t10 w)
theorem bits_Forward_Used_p1_ok (R : K1) (hr : HR rs_bits_Forward_Used R Q) (h : bits_Forward_Used_p1 R (g 0) w) : den pg ann_bits_Forward_Used code_bits_Forward_Used Q g w :=
  den_exQ (kn := no) (l := []) (by kernel_rfl) h noE hr trivial

def bits_Forward_Used (a0 : Value) (w : World) (R : K1) : Prop :=
  bits_Forward_Used_p1 R a0 w
theorem bits_Forward_Used_does {a0 : Value} {w : World} {R : K1} (h : bits_Forward_Used a0 w R) : Does pg F_bits_Forward_Used #[a0] w R := by
  refine does_of_den (ann := ann_bits_Forward_Used) (fn := Try.f56) (c := code_bits_Forward_Used) (args := [a0]) (rs := rs_bits_Forward_Used) (N := 11) TryM.mixed (by kernel_rfl) Try.func56 (by kernel_rfl) (by kernel_rfl) (by kernel_rfl) (of_decide_eq_true (by kernel_rfl)) (by kernel_rfl) ?_
  exact (bits_Forward_Used_p1_ok (retQ pg rs_bits_Forward_Used R) (envOf [a0]) w R (fun _ _ h => h) h)
-- PIECES bits_Forward_Used/0 bits_Forward_Used_p1

/- lighterman/bits.take -/
def ann_bits_take : FA := ⟨F_bits_take, fun i => .leaf ([], []) []⟩
def rs_bits_take : List ResultVar := [.tmp 6]
noncomputable def code_bits_take : Code := bodyOf Try.f64
def bits_take_p1 (R : K1) (x_7 : Value) (w : World) : Prop :=
  R x_7 w
theorem bits_take_p1_ok (R : K1) (hr : HR rs_bits_take R Q) (h : bits_take_p1 R (g 7) w) : den pg ann_bits_take (dropS 1 (dropS 2 code_bits_take)) Q g w :=
  den_exQ (kn := no) (l := []) (by kernel_rfl) h noE hr trivial

def bits_take_p2 (kn : K5) (k0 : K1) (b_0 at_1 x_7 t10 t11 : Value) (w : World) : Prop :=
  Stp pg (sBin .lss 3 (.tmp 11) (.tmp 10) t11 t10) w fun t12 w =>
  Cnd t12
    (Stp pg (sBin .add 3 (.tmp 14) (.tmp 15) at_1 t11) w fun t16 w =>
    Stp pg (sBin .quo 3 (.tmp 19) (.const (.int .i64 8)) t16 (.int .i64 8)) w fun t20 w =>
    Stp pg (sIAddr 52 b_0 t20) w fun t21 w =>
    Stp pg (sLoad 5 t21) w fun t22 w =>
    Stp pg (sBin .rem 3 (.tmp 23) (.const (.int .i64 8)) t16 (.int .i64 8)) w fun t24 w =>
    Stp pg (sBin .shr 5 (.tmp 22) (.tmp 24) t22 t24) w fun t25 w =>
    Stp pg (sBin .and 5 (.tmp 25) (.const (.int .u8 1)) t25 (.int .u8 1)) w fun t26 w =>
    Stp pg (sCvt 5 45 t26) w fun t27 w =>
    Stp pg (sCvt 3 50 t11) w fun t29 w =>
    Stp pg (sBin .shl 45 (.tmp 27) (.tmp 29) t27 t29) w fun t30 w =>
    Stp pg (sBin .or 45 (.tmp 17) (.tmp 30) x_7 t30) w fun t31 w =>
    Stp pg (sBin .add 3 (.tmp 11) (.const (.int .i64 1)) t11 (.int .i64 1)) w fun t32 w =>
    kn b_0 at_1 t31 t10 t32 w)
    (k0 x_7 w)
theorem bits_take_p2_ok (kn : K5) (k0 : K1) (hn : ∀ g w, kn (g 0) (g 1) (g 7) (g 10) (g 11) w → Q .normal g w) (h0 : ∀ g w, k0 (g 7) w → Q (.exit 0) g w) (h : bits_take_p2 kn k0 (g 0) (g 1) (g 7) (g 10) (g 11) w) : den pg ann_bits_take (bI (bI (dropS 1 (takeS 1 (dropS 2 code_bits_take))))) Q g w :=
  den_exQ (kr := no) (l := [(0, fun g w => k0 (g 7) w)]) (by kernel_rfl) h hn noE ⟨h0, trivial⟩

def bits_take_p3 (k0 : K1) (b_0 at_1 x_7 t10 t11 : Value) (w : World) : Prop :=
  LoopD (fun (X : (Value × Value) → K0) (t : Value × Value) (w : World) => bits_take_p2 (fun _ _ x_7 _ t11 w => X (x_7, t11) w) k0 b_0 at_1 t.1 t10 t.2 w) (x_7, t11) w
theorem bits_take_p3_ok (k0 : K1) (h0 : ∀ g w, k0 (g 7) w → Q (.exit 0) g w) (h : bits_take_p3 k0 (g 0) (g 1) (g 7) (g 10) (g 11) w) : den pg ann_bits_take (bI (dropS 1 (takeS 1 (dropS 2 code_bits_take)))) Q g w := by
  refine den_loops (T := Value × Value) (fun g : Env => (g 7, g 11)) (fun X t w => bits_take_p2 (fun _ _ x_7 _ t11 w => X (x_7, t11) w) k0 (g 0) (g 1) t.1 (g 10) t.2 w) _ (by kernel_rfl) h (fun X g1 w1 ha h1 => ?_)
  rw [← agree_at (s := 0) ha (by kernel_rfl)] at h1
  rw [← agree_at (s := 1) ha (by kernel_rfl)] at h1
  rw [← agree_at (s := 10) ha (by kernel_rfl)] at h1
  exact (bits_take_p2_ok (thenE (fun g2 w2 => X ((fun g : Env => (g 7, g 11)) g2) w2) Q) g1 w1 (fun _ _ x_7 _ t11 w => X (x_7, t11) w) k0 (fun _ _ h => h) h0 h1)

def bits_take_p4 (kn : K1) (b_0 at_1 x_7 t10 t11 : Value) (w : World) : Prop :=
  bits_take_p3 kn b_0 at_1 x_7 t10 t11 w
theorem bits_take_p4_ok (kn : K1) (hn : ∀ g w, kn (g 7) w → Q .normal g w) (h : bits_take_p4 kn (g 0) (g 1) (g 7) (g 10) (g 11) w) : den pg ann_bits_take (dropS 1 (takeS 1 (dropS 2 code_bits_take))) Q g w :=
  den_blk 0 _ g w (by kernel_rfl) (bits_take_p3_ok (blk 0 Q) g w kn hn h)

def bits_take_p5 (kn : K5) (b_0 at_1 n_2 x_7 : Value) (w : World) : Prop :=
  kn b_0 at_1 x_7 n_2 (.int .i64 0) w
theorem bits_take_p5_ok (kn : K5) (hn : ∀ g w, kn (g 0) (g 1) (g 7) (g 10) (g 11) w → Q .normal g w) (h : bits_take_p5 kn (g 0) (g 1) (g 2) (g 7) w) : den pg ann_bits_take (takeS 1 (takeS 1 (dropS 2 code_bits_take))) Q g w :=
  den_exQ (kr := no) (l := []) (by kernel_rfl) h hn noE trivial

def bits_take_p6 (kn : K1) (b_0 at_1 n_2 x_7 : Value) (w : World) : Prop :=
  bits_take_p5 (fun b_0 at_1 x_7 t10 t11 w => bits_take_p4 kn b_0 at_1 x_7 t10 t11 w) b_0 at_1 n_2 x_7 w
theorem bits_take_p6_ok (kn : K1) (hn : ∀ g w, kn (g 7) w → Q .normal g w) (h : bits_take_p6 kn (g 0) (g 1) (g 2) (g 7) w) : den pg ann_bits_take (takeS 1 (dropS 2 code_bits_take)) Q g w :=
  den_seqs 1 _ g w (by kernel_rfl) (bits_take_p5_ok (thenE (fun g w => den pg ann_bits_take (dropS 1 (takeS 1 (dropS 2 code_bits_take))) Q g w) Q) g w (fun b_0 at_1 x_7 t10 t11 w => bits_take_p4 kn b_0 at_1 x_7 t10 t11 w) (fun g w h => thenE_n (K := fun g w => den pg ann_bits_take (dropS 1 (takeS 1 (dropS 2 code_bits_take))) Q g w) (bits_take_p4_ok Q g w kn hn h)) h)

def bits_take_p7 (R : K1) (b_0 at_1 n_2 x_7 : Value) (w : World) : Prop :=
  bits_take_p6 (fun x_7 w => bits_take_p1 R x_7 w) b_0 at_1 n_2 x_7 w
theorem bits_take_p7_ok (R : K1) (hr : HR rs_bits_take R Q) (h : bits_take_p7 R (g 0) (g 1) (g 2) (g 7) w) : den pg ann_bits_take (dropS 2 code_bits_take) Q g w :=
  den_seqs 1 _ g w (by kernel_rfl) (bits_take_p6_ok (thenE (fun g w => den pg ann_bits_take (dropS 1 (dropS 2 code_bits_take)) Q g w) Q) g w (fun x_7 w => bits_take_p1 R x_7 w) (fun g w h => thenE_n (K := fun g w => den pg ann_bits_take (dropS 1 (dropS 2 code_bits_take)) Q g w) (bits_take_p1_ok Q g w R hr h)) h)

def bits_take_p8 (kn : K4) (b_0 at_1 n_2 : Value) (w : World) : Prop :=
  kn b_0 at_1 n_2 (.int .u64 0) w
theorem bits_take_p8_ok (kn : K4) (hn : ∀ g w, kn (g 0) (g 1) (g 2) (g 7) w → Q .normal g w) (h : bits_take_p8 kn (g 0) (g 1) (g 2) w) : den pg ann_bits_take (takeS 2 code_bits_take) Q g w :=
  den_exQ (kr := no) (l := []) (by kernel_rfl) h hn noE trivial

def bits_take_p9 (R : K1) (b_0 at_1 n_2 : Value) (w : World) : Prop :=
  bits_take_p8 (fun b_0 at_1 n_2 x_7 w => bits_take_p7 R b_0 at_1 n_2 x_7 w) b_0 at_1 n_2 w
theorem bits_take_p9_ok (R : K1) (hr : HR rs_bits_take R Q) (h : bits_take_p9 R (g 0) (g 1) (g 2) w) : den pg ann_bits_take code_bits_take Q g w :=
  den_seqs 2 _ g w (by kernel_rfl) (bits_take_p8_ok (thenE (fun g w => den pg ann_bits_take (dropS 2 code_bits_take) Q g w) Q) g w (fun b_0 at_1 n_2 x_7 w => bits_take_p7 R b_0 at_1 n_2 x_7 w) (fun g w h => thenE_n (K := fun g w => den pg ann_bits_take (dropS 2 code_bits_take) Q g w) (bits_take_p7_ok Q g w R hr h)) h)

def bits_take (a0 a1 a2 : Value) (w : World) (R : K1) : Prop :=
  bits_take_p9 R a0 a1 a2 w
theorem bits_take_does {a0 a1 a2 : Value} {w : World} {R : K1} (h : bits_take a0 a1 a2 w R) : Does pg F_bits_take #[a0, a1, a2] w R := by
  refine does_of_den (ann := ann_bits_take) (fn := Try.f64) (c := code_bits_take) (args := [a0, a1, a2]) (rs := rs_bits_take) (N := 34) TryM.mixed (by kernel_rfl) Try.func64 (by kernel_rfl) (by kernel_rfl) (by kernel_rfl) (of_decide_eq_true (by kernel_rfl)) (by kernel_rfl) ?_
  exact (bits_take_p9_ok (retQ pg rs_bits_take R) (envOf [a0, a1, a2]) w R (fun _ _ h => h) h)
-- PIECES bits_take/0 bits_take_p1 bits_take_p3 bits_take_p4 bits_take_p5 bits_take_p6 bits_take_p7 bits_take_p8 bits_take_p9
-- PIECES bits_take/1 bits_take_p2

/- lighterman/lightermanref05.Number -/
def ann_ref05_Number : FA := ⟨F_ref05_Number, fun i => .leaf ([], []) []⟩
def rs_ref05_Number : List ResultVar := [.tmp 2]
noncomputable def code_ref05_Number : Code := bodyOf Try.f65
def ref05_Number_p1 (R : K1) (x_3 : Value) (w : World) : Prop :=
  R x_3 w
theorem ref05_Number_p1_ok (R : K1) (hr : HR rs_ref05_Number R Q) (h : ref05_Number_p1 R (g 3) w) : den pg ann_ref05_Number (dropS 1 (dropS 2 code_ref05_Number)) Q g w :=
  den_exQ (kn := no) (l := []) (by kernel_rfl) h noE hr trivial

def ref05_Number_p2 (kn : K3) (l_0 x_3 i_4 : Value) (w : World) : Prop :=
  Stp pg (sBin .sub 3 (.tmp 10) (.const (.int .i64 1)) i_4 (.int .i64 1)) w fun t11 w =>
  kn l_0 x_3 t11 w
theorem ref05_Number_p2_ok (kn : K3) (hn : ∀ g w, kn (g 0) (g 3) (g 4) w → Q .normal g w) (h : ref05_Number_p2 kn (g 0) (g 3) (g 4) w) : den pg ann_ref05_Number (dropS 2 (bI (bI (dropS 1 (takeS 1 (dropS 2 code_ref05_Number)))))) Q g w :=
  den_exQ (kr := no) (l := []) (by kernel_rfl) h hn noE trivial

def ref05_Number_p3 (kn : K3) (k0 : K1) (l_0 x_3 i_4 : Value) (w : World) : Prop :=
  Stp pg (sBin .geq 3 (.tmp 8) (.const (.int .i64 0)) i_4 (.int .i64 0)) w fun t9 w =>
  Cnd t9
    (Stp pg (sBin .mul 45 (.tmp 12) (.const (.int .u64 2)) x_3 (.int .u64 2)) w fun t13 w =>
    Stp pg (sIAddr 58 l_0 i_4) w fun t16 w =>
    Stp pg (sLoad 4 t16) w fun t17 w =>
    Cnd t17
      (Stp pg (sBin .add 45 (.tmp 18) (.const (.int .u64 1)) t13 (.int .u64 1)) w fun t19 w =>
      kn l_0 t19 i_4 w)
      (kn l_0 t13 i_4 w))
    (k0 x_3 w)
theorem ref05_Number_p3_ok (kn : K3) (k0 : K1) (hn : ∀ g w, kn (g 0) (g 3) (g 4) w → Q .normal g w) (h0 : ∀ g w, k0 (g 3) w → Q (.exit 0) g w) (h : ref05_Number_p3 kn k0 (g 0) (g 3) (g 4) w) : den pg ann_ref05_Number (takeS 2 (bI (bI (dropS 1 (takeS 1 (dropS 2 code_ref05_Number)))))) Q g w :=
  den_exQ (kr := no) (l := [(0, fun g w => k0 (g 3) w)]) (by kernel_rfl) h hn noE ⟨h0, trivial⟩

def ref05_Number_p4 (kn : K3) (k0 : K1) (l_0 x_3 i_4 : Value) (w : World) : Prop :=
  ref05_Number_p3 (fun l_0 x_3 i_4 w => ref05_Number_p2 kn l_0 x_3 i_4 w) k0 l_0 x_3 i_4 w
theorem ref05_Number_p4_ok (kn : K3) (k0 : K1) (hn : ∀ g w, kn (g 0) (g 3) (g 4) w → Q .normal g w) (h0 : ∀ g w, k0 (g 3) w → Q (.exit 0) g w) (h : ref05_Number_p4 kn k0 (g 0) (g 3) (g 4) w) : den pg ann_ref05_Number (bI (bI (dropS 1 (takeS 1 (dropS 2 code_ref05_Number))))) Q g w :=
  den_seqs 2 _ g w (by kernel_rfl) (ref05_Number_p3_ok (thenE (fun g w => den pg ann_ref05_Number (dropS 2 (bI (bI (dropS 1 (takeS 1 (dropS 2 code_ref05_Number)))))) Q g w) Q) g w (fun l_0 x_3 i_4 w => ref05_Number_p2 kn l_0 x_3 i_4 w) k0 (fun g w h => thenE_n (K := fun g w => den pg ann_ref05_Number (dropS 2 (bI (bI (dropS 1 (takeS 1 (dropS 2 code_ref05_Number)))))) Q g w) (ref05_Number_p2_ok Q g w kn hn h)) h0 h)

def ref05_Number_p5 (k0 : K1) (l_0 x_3 i_4 : Value) (w : World) : Prop :=
  LoopD (fun (X : (Value × Value) → K0) (t : Value × Value) (w : World) => ref05_Number_p4 (fun _ x_3 i_4 w => X (x_3, i_4) w) k0 l_0 t.1 t.2 w) (x_3, i_4) w
theorem ref05_Number_p5_ok (k0 : K1) (h0 : ∀ g w, k0 (g 3) w → Q (.exit 0) g w) (h : ref05_Number_p5 k0 (g 0) (g 3) (g 4) w) : den pg ann_ref05_Number (bI (dropS 1 (takeS 1 (dropS 2 code_ref05_Number)))) Q g w := by
  refine den_loops (T := Value × Value) (fun g : Env => (g 3, g 4)) (fun X t w => ref05_Number_p4 (fun _ x_3 i_4 w => X (x_3, i_4) w) k0 (g 0) t.1 t.2 w) _ (by kernel_rfl) h (fun X g1 w1 ha h1 => ?_)
  rw [← agree_at (s := 0) ha (by kernel_rfl)] at h1
  exact (ref05_Number_p4_ok (thenE (fun g2 w2 => X ((fun g : Env => (g 3, g 4)) g2) w2) Q) g1 w1 (fun _ x_3 i_4 w => X (x_3, i_4) w) k0 (fun _ _ h => h) h0 h1)

def ref05_Number_p6 (kn : K1) (l_0 x_3 i_4 : Value) (w : World) : Prop :=
  ref05_Number_p5 kn l_0 x_3 i_4 w
theorem ref05_Number_p6_ok (kn : K1) (hn : ∀ g w, kn (g 3) w → Q .normal g w) (h : ref05_Number_p6 kn (g 0) (g 3) (g 4) w) : den pg ann_ref05_Number (dropS 1 (takeS 1 (dropS 2 code_ref05_Number))) Q g w :=
  den_blk 0 _ g w (by kernel_rfl) (ref05_Number_p5_ok (blk 0 Q) g w kn hn h)

def ref05_Number_p7 (kn : K3) (l_0 x_3 : Value) (w : World) : Prop :=
  Stp pg (sBi .len #[58] 3 [l_0]) w fun t6 w =>
  Stp pg (sBin .sub 3 (.tmp 6) (.const (.int .i64 1)) t6 (.int .i64 1)) w fun t7 w =>
  kn l_0 x_3 t7 w
theorem ref05_Number_p7_ok (kn : K3) (hn : ∀ g w, kn (g 0) (g 3) (g 4) w → Q .normal g w) (h : ref05_Number_p7 kn (g 0) (g 3) w) : den pg ann_ref05_Number (takeS 1 (takeS 1 (dropS 2 code_ref05_Number))) Q g w :=
  den_exQ (kr := no) (l := []) (by kernel_rfl) h hn noE trivial

def ref05_Number_p8 (kn : K1) (l_0 x_3 : Value) (w : World) : Prop :=
  ref05_Number_p7 (fun l_0 x_3 i_4 w => ref05_Number_p6 kn l_0 x_3 i_4 w) l_0 x_3 w
theorem ref05_Number_p8_ok (kn : K1) (hn : ∀ g w, kn (g 3) w → Q .normal g w) (h : ref05_Number_p8 kn (g 0) (g 3) w) : den pg ann_ref05_Number (takeS 1 (dropS 2 code_ref05_Number)) Q g w :=
  den_seqs 1 _ g w (by kernel_rfl) (ref05_Number_p7_ok (thenE (fun g w => den pg ann_ref05_Number (dropS 1 (takeS 1 (dropS 2 code_ref05_Number))) Q g w) Q) g w (fun l_0 x_3 i_4 w => ref05_Number_p6 kn l_0 x_3 i_4 w) (fun g w h => thenE_n (K := fun g w => den pg ann_ref05_Number (dropS 1 (takeS 1 (dropS 2 code_ref05_Number))) Q g w) (ref05_Number_p6_ok Q g w kn hn h)) h)

def ref05_Number_p9 (R : K1) (l_0 x_3 : Value) (w : World) : Prop :=
  ref05_Number_p8 (fun x_3 w => ref05_Number_p1 R x_3 w) l_0 x_3 w
theorem ref05_Number_p9_ok (R : K1) (hr : HR rs_ref05_Number R Q) (h : ref05_Number_p9 R (g 0) (g 3) w) : den pg ann_ref05_Number (dropS 2 code_ref05_Number) Q g w :=
  den_seqs 1 _ g w (by kernel_rfl) (ref05_Number_p8_ok (thenE (fun g w => den pg ann_ref05_Number (dropS 1 (dropS 2 code_ref05_Number)) Q g w) Q) g w (fun x_3 w => ref05_Number_p1 R x_3 w) (fun g w h => thenE_n (K := fun g w => den pg ann_ref05_Number (dropS 1 (dropS 2 code_ref05_Number)) Q g w) (ref05_Number_p1_ok Q g w R hr h)) h)

def ref05_Number_p10 (kn : K2) (l_0 : Value) (w : World) : Prop :=
  kn l_0 (.int .u64 0) w
theorem ref05_Number_p10_ok (kn : K2) (hn : ∀ g w, kn (g 0) (g 3) w → Q .normal g w) (h : ref05_Number_p10 kn (g 0) w) : den pg ann_ref05_Number (takeS 2 code_ref05_Number) Q g w :=
  den_exQ (kr := no) (l := []) (by kernel_rfl) h hn noE trivial

def ref05_Number_p11 (R : K1) (l_0 : Value) (w : World) : Prop :=
  ref05_Number_p10 (fun l_0 x_3 w => ref05_Number_p9 R l_0 x_3 w) l_0 w
theorem ref05_Number_p11_ok (R : K1) (hr : HR rs_ref05_Number R Q) (h : ref05_Number_p11 R (g 0) w) : den pg ann_ref05_Number code_ref05_Number Q g w :=
  den_seqs 2 _ g w (by kernel_rfl) (ref05_Number_p10_ok (thenE (fun g w => den pg ann_ref05_Number (dropS 2 code_ref05_Number) Q g w) Q) g w (fun l_0 x_3 w => ref05_Number_p9 R l_0 x_3 w) (fun g w h => thenE_n (K := fun g w => den pg ann_ref05_Number (dropS 2 code_ref05_Number) Q g w) (ref05_Number_p9_ok Q g w R hr h)) h)

def ref05_Number (a0 : Value) (w : World) (R : K1) : Prop :=
  ref05_Number_p11 R a0 w
theorem ref05_Number_does {a0 : Value} {w : World} {R : K1} (h : ref05_Number a0 w R) : Does pg F_ref05_Number #[a0] w R := by
  refine does_of_den (ann := ann_ref05_Number) (fn := Try.f65) (c := code_ref05_Number) (args := [a0]) (rs := rs_ref05_Number) (N := 21) TryM.mixed (by kernel_rfl) Try.func65 (by kernel_rfl) (by kernel_rfl) (by kernel_rfl) (of_decide_eq_true (by kernel_rfl)) (by kernel_rfl) ?_
  exact (ref05_Number_p11_ok (retQ pg rs_ref05_Number R) (envOf [a0]) w R (fun _ _ h => h) h)
-- PIECES ref05_Number/0 ref05_Number_p1 ref05_Number_p5 ref05_Number_p6 ref05_Number_p7 ref05_Number_p8 ref05_Number_p9 ref05_Number_p10 ref05_Number_p11
-- PIECES ref05_Number/1 ref05_Number_p2 ref05_Number_p3 ref05_Number_p4

end Go.Proofs.Ytcbkdccobhkbpaa

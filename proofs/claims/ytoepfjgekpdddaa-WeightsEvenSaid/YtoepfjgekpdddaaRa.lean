/- The pieces of bodies, written by a program of ours off the loaded code, each with its proof. -/
import Derived.Test.YtoepfjgekpdddaaF
namespace Go.Proofs.Ytoepfjgekpdddaa
open Go Go.En
set_option linter.unusedVariables false
set_option maxRecDepth 20000
attribute [local irreducible] Go.En.den
variable (Q : Exit → Env → World → Prop) (g : Env) (w : World)
/- lighterman/lightermanlaw08.WeightsEven -/
def ann_law08_WeightsEven : FA := ⟨F_law08_WeightsEven, fun i => .leaf ([], []) []⟩
def rs_law08_WeightsEven : List ResultVar := [.tmp 6]
noncomputable def code_law08_WeightsEven : Code := bodyOf Try.f9
def law08_WeightsEven_p1 (R : K1) (k_8 t17 : Value) (w : World) : Prop :=
  Stp pg (sCvt 3 49 k_8) w fun t88 w =>
  Stp pg (sBin .shl 3 (.const (.int .i64 1)) (.tmp 88) (.int .i64 1) t88) w fun t89 w =>
  Stp pg (sBin .eql 3 (.tmp 86) (.tmp 89) t17 t89) w fun t90 w =>
  R t90 w
theorem law08_WeightsEven_p1_ok (R : K1) (hr : HR rs_law08_WeightsEven R Q) (h : law08_WeightsEven_p1 R (g 8) (g 17) w) : den pg ann_law08_WeightsEven (dropS 1 (dropS 4 (dropS 1 (dropS 6 code_law08_WeightsEven)))) Q g w :=
  den_exQ (kn := no) (l := []) (by kernel_rfl) h noE hr trivial

def law08_WeightsEven_p2 (kn : K4) (k_8 c_15 t17 i_18 : Value) (w : World) : Prop :=
  Stp pg (sBin .add 3 (.tmp 76) (.const (.int .i64 1)) i_18 (.int .i64 1)) w fun t77 w =>
  kn k_8 c_15 t17 t77 w
theorem law08_WeightsEven_p2_ok (kn : K4) (hn : ∀ g w, kn (g 8) (g 15) (g 17) (g 18) w → Q .normal g w) (h : law08_WeightsEven_p2 kn (g 8) (g 15) (g 17) (g 18) w) : den pg ann_law08_WeightsEven (dropS 2 (bI (bI (dropS 1 (takeS 1 (dropS 4 (dropS 1 (dropS 6 code_law08_WeightsEven)))))))) Q g w :=
  den_exQ (kr := no) (l := []) (by kernel_rfl) h hn noE trivial

def law08_WeightsEven_p3 (kn : K4) (k4 : K2) (k_8 c_15 t17 i_18 : Value) (w : World) : Prop :=
  Stp pg (sBi .len #[29] 3 [c_15]) w fun t74 w =>
  Stp pg (sBin .lss 3 (.tmp 72) (.tmp 74) i_18 t74) w fun t75 w =>
  Cnd t75
    (Stp pg (sIAddr 29 c_15 i_18) w fun t80 w =>
    Stp pg (sFAddr 36 t80 0) w fun t81 w =>
    Stp pg (sLoad 3 t81) w fun t82 w =>
    Stp pg (sBin .gtr 3 (.tmp 82) (.const (.int .i64 0)) t82 (.int .i64 0)) w fun t83 w =>
    Cnd t83
      (Stp pg (sBin .add 3 (.tmp 84) (.const (.int .i64 1)) t17 (.int .i64 1)) w fun t85 w =>
      kn k_8 c_15 t85 i_18 w)
      (kn k_8 c_15 t17 i_18 w))
    (k4 k_8 t17 w)
theorem law08_WeightsEven_p3_ok (kn : K4) (k4 : K2) (hn : ∀ g w, kn (g 8) (g 15) (g 17) (g 18) w → Q .normal g w) (h4 : ∀ g w, k4 (g 8) (g 17) w → Q (.exit 4) g w) (h : law08_WeightsEven_p3 kn k4 (g 8) (g 15) (g 17) (g 18) w) : den pg ann_law08_WeightsEven (takeS 2 (bI (bI (dropS 1 (takeS 1 (dropS 4 (dropS 1 (dropS 6 code_law08_WeightsEven)))))))) Q g w :=
  den_exQ (kr := no) (l := [(4, fun g w => k4 (g 8) (g 17) w)]) (by kernel_rfl) h hn noE ⟨h4, trivial⟩

def law08_WeightsEven_p4 (kn : K4) (k4 : K2) (k_8 c_15 t17 i_18 : Value) (w : World) : Prop :=
  law08_WeightsEven_p3 (fun k_8 c_15 t17 i_18 w => law08_WeightsEven_p2 kn k_8 c_15 t17 i_18 w) k4 k_8 c_15 t17 i_18 w
theorem law08_WeightsEven_p4_ok (kn : K4) (k4 : K2) (hn : ∀ g w, kn (g 8) (g 15) (g 17) (g 18) w → Q .normal g w) (h4 : ∀ g w, k4 (g 8) (g 17) w → Q (.exit 4) g w) (h : law08_WeightsEven_p4 kn k4 (g 8) (g 15) (g 17) (g 18) w) : den pg ann_law08_WeightsEven (bI (bI (dropS 1 (takeS 1 (dropS 4 (dropS 1 (dropS 6 code_law08_WeightsEven))))))) Q g w :=
  den_seqs 2 _ g w (by kernel_rfl) (law08_WeightsEven_p3_ok (thenE (fun g w => den pg ann_law08_WeightsEven (dropS 2 (bI (bI (dropS 1 (takeS 1 (dropS 4 (dropS 1 (dropS 6 code_law08_WeightsEven)))))))) Q g w) Q) g w (fun k_8 c_15 t17 i_18 w => law08_WeightsEven_p2 kn k_8 c_15 t17 i_18 w) k4 (fun g w h => thenE_n (K := fun g w => den pg ann_law08_WeightsEven (dropS 2 (bI (bI (dropS 1 (takeS 1 (dropS 4 (dropS 1 (dropS 6 code_law08_WeightsEven)))))))) Q g w) (law08_WeightsEven_p2_ok Q g w kn hn h)) h4 h)

def law08_WeightsEven_p5 (k4 : K2) (k_8 c_15 t17 i_18 : Value) (w : World) : Prop :=
  LoopD (fun (X : (Value × Value) → K0) (t : Value × Value) (w : World) => law08_WeightsEven_p4 (fun _ _ t17 i_18 w => X (t17, i_18) w) k4 k_8 c_15 t.1 t.2 w) (t17, i_18) w
theorem law08_WeightsEven_p5_ok (k4 : K2) (h4 : ∀ g w, k4 (g 8) (g 17) w → Q (.exit 4) g w) (h : law08_WeightsEven_p5 k4 (g 8) (g 15) (g 17) (g 18) w) : den pg ann_law08_WeightsEven (bI (dropS 1 (takeS 1 (dropS 4 (dropS 1 (dropS 6 code_law08_WeightsEven)))))) Q g w := by
  refine den_loops (T := Value × Value) (fun g : Env => (g 17, g 18)) (fun X t w => law08_WeightsEven_p4 (fun _ _ t17 i_18 w => X (t17, i_18) w) k4 (g 8) (g 15) t.1 t.2 w) _ (by kernel_rfl) h (fun X g1 w1 ha hL => ?_)
  rw [← agree_at (s := 8) ha (by kernel_rfl)] at hL
  rw [← agree_at (s := 15) ha (by kernel_rfl)] at hL
  exact (law08_WeightsEven_p4_ok (thenE (fun g2 w2 => X ((fun g : Env => (g 17, g 18)) g2) w2) Q) g1 w1 (fun _ _ t17 i_18 w => X (t17, i_18) w) k4 (fun _ _ h => h) h4 hL)

def law08_WeightsEven_p6 (kn : K2) (k_8 c_15 t17 i_18 : Value) (w : World) : Prop :=
  law08_WeightsEven_p5 kn k_8 c_15 t17 i_18 w
theorem law08_WeightsEven_p6_ok (kn : K2) (hn : ∀ g w, kn (g 8) (g 17) w → Q .normal g w) (h : law08_WeightsEven_p6 kn (g 8) (g 15) (g 17) (g 18) w) : den pg ann_law08_WeightsEven (dropS 1 (takeS 1 (dropS 4 (dropS 1 (dropS 6 code_law08_WeightsEven))))) Q g w :=
  den_blk 4 _ g w (by kernel_rfl) (law08_WeightsEven_p5_ok (blk 4 Q) g w kn hn h)

def law08_WeightsEven_p7 (kn : K4) (k_8 c_15 t17 : Value) (w : World) : Prop :=
  kn k_8 c_15 t17 (.int .i64 0) w
theorem law08_WeightsEven_p7_ok (kn : K4) (hn : ∀ g w, kn (g 8) (g 15) (g 17) (g 18) w → Q .normal g w) (h : law08_WeightsEven_p7 kn (g 8) (g 15) (g 17) w) : den pg ann_law08_WeightsEven (takeS 1 (takeS 1 (dropS 4 (dropS 1 (dropS 6 code_law08_WeightsEven))))) Q g w :=
  den_exQ (kr := no) (l := []) (by kernel_rfl) h hn noE trivial

def law08_WeightsEven_p8 (kn : K2) (k_8 c_15 t17 : Value) (w : World) : Prop :=
  law08_WeightsEven_p7 (fun k_8 c_15 t17 i_18 w => law08_WeightsEven_p6 kn k_8 c_15 t17 i_18 w) k_8 c_15 t17 w
theorem law08_WeightsEven_p8_ok (kn : K2) (hn : ∀ g w, kn (g 8) (g 17) w → Q .normal g w) (h : law08_WeightsEven_p8 kn (g 8) (g 15) (g 17) w) : den pg ann_law08_WeightsEven (takeS 1 (dropS 4 (dropS 1 (dropS 6 code_law08_WeightsEven)))) Q g w :=
  den_seqs 1 _ g w (by kernel_rfl) (law08_WeightsEven_p7_ok (thenE (fun g w => den pg ann_law08_WeightsEven (dropS 1 (takeS 1 (dropS 4 (dropS 1 (dropS 6 code_law08_WeightsEven))))) Q g w) Q) g w (fun k_8 c_15 t17 i_18 w => law08_WeightsEven_p6 kn k_8 c_15 t17 i_18 w) (fun g w h => thenE_n (K := fun g w => den pg ann_law08_WeightsEven (dropS 1 (takeS 1 (dropS 4 (dropS 1 (dropS 6 code_law08_WeightsEven))))) Q g w) (law08_WeightsEven_p6_ok Q g w kn hn h)) h)

def law08_WeightsEven_p9 (R : K1) (k_8 c_15 t17 : Value) (w : World) : Prop :=
  law08_WeightsEven_p8 (fun k_8 t17 w => law08_WeightsEven_p1 R k_8 t17 w) k_8 c_15 t17 w
theorem law08_WeightsEven_p9_ok (R : K1) (hr : HR rs_law08_WeightsEven R Q) (h : law08_WeightsEven_p9 R (g 8) (g 15) (g 17) w) : den pg ann_law08_WeightsEven (dropS 4 (dropS 1 (dropS 6 code_law08_WeightsEven))) Q g w :=
  den_seqs 1 _ g w (by kernel_rfl) (law08_WeightsEven_p8_ok (thenE (fun g w => den pg ann_law08_WeightsEven (dropS 1 (dropS 4 (dropS 1 (dropS 6 code_law08_WeightsEven)))) Q g w) Q) g w (fun k_8 t17 w => law08_WeightsEven_p1 R k_8 t17 w) (fun g w h => thenE_n (K := fun g w => den pg ann_law08_WeightsEven (dropS 1 (dropS 4 (dropS 1 (dropS 6 code_law08_WeightsEven)))) Q g w) (law08_WeightsEven_p1_ok Q g w R hr h)) h)

def law08_WeightsEven_p10 (kn : K3) (R : K1) (k_8 l_10 : Value) (w : World) : Prop :=
  Does pg F_weights_Of #[l_10] w fun t52 w =>
  Stp pg (sExtr t52 0) w fun t53 w =>
  Stp pg (sExtr t52 1) w fun t54 w =>
  Does pg F_weights_Codes #[t53] w fun t57 w =>
  Stp pg (sExtr t57 0) w fun t58 w =>
  Stp pg (sExtr t57 1) w fun t59 w =>
  Stp pg (sBin .neq 24 (.tmp 60) (.const (.int .i64 0)) t54 (.int .i64 0)) w fun t61 w =>
  Gd (isB t61 false) (fun K => K t59 w) w fun t63 w =>
  Gd (isB t61 false) (fun K => Stp pg (sBin .neq 24 (.tmp 63) (.const (.int .i64 0)) t63 (.int .i64 0)) w K) w fun t64 w =>
  Stp pg (sPick t61 (.bool true) t64) w fun t65 w =>
  Gd (isB t65 false) (fun K => K t53 w) w fun t67 w =>
  Gd (isB t65 false) (fun K => Stp pg (sCvt 22 9 t67) w K) w fun t68 w =>
  Gd (isB t65 false) (fun K => Does pg F_ref08_Depth #[t68] w K) w fun t69 w =>
  Gd (isB t65 false) (fun K => Stp pg (sBin .eql 3 (.tmp 69) (.const (.int .i64 0)) t69 (.int .i64 0)) w K) w fun t70 w =>
  Stp pg (sPick t65 (.bool true) t70) w fun t71 w =>
  Cnd t71
    (R (.bool false) w)
    (kn k_8 t58 (.int .i64 0) w)
theorem law08_WeightsEven_p10_ok (kn : K3) (R : K1) (hn : ∀ g w, kn (g 8) (g 15) (g 17) w → Q .normal g w) (hr : HR rs_law08_WeightsEven R Q) (h : law08_WeightsEven_p10 kn R (g 8) (g 10) w) : den pg ann_law08_WeightsEven (takeS 4 (dropS 1 (dropS 6 code_law08_WeightsEven))) Q g w :=
  den_exQ (l := []) (by kernel_rfl) h hn hr trivial

def law08_WeightsEven_p11 (R : K1) (k_8 l_10 : Value) (w : World) : Prop :=
  law08_WeightsEven_p10 (fun k_8 c_15 t17 w => law08_WeightsEven_p9 R k_8 c_15 t17 w) R k_8 l_10 w
theorem law08_WeightsEven_p11_ok (R : K1) (hr : HR rs_law08_WeightsEven R Q) (h : law08_WeightsEven_p11 R (g 8) (g 10) w) : den pg ann_law08_WeightsEven (dropS 1 (dropS 6 code_law08_WeightsEven)) Q g w :=
  den_seqs 4 _ g w (by kernel_rfl) (law08_WeightsEven_p10_ok (thenE (fun g w => den pg ann_law08_WeightsEven (dropS 4 (dropS 1 (dropS 6 code_law08_WeightsEven))) Q g w) Q) g w (fun k_8 c_15 t17 w => law08_WeightsEven_p9 R k_8 c_15 t17 w) R (fun g w h => thenE_n (K := fun g w => den pg ann_law08_WeightsEven (dropS 4 (dropS 1 (dropS 6 code_law08_WeightsEven))) Q g w) (law08_WeightsEven_p9_ok Q g w R hr h)) hr h)

def law08_WeightsEven_p12 (kn : K5) (gap_2 k_8 n_9 l_10 i_11 : Value) (w : World) : Prop :=
  Stp pg (sBin .add 3 (.tmp 34) (.const (.int .i64 1)) i_11 (.int .i64 1)) w fun t35 w =>
  kn gap_2 k_8 n_9 l_10 t35 w
theorem law08_WeightsEven_p12_ok (kn : K5) (hn : ∀ g w, kn (g 2) (g 8) (g 9) (g 10) (g 11) w → Q .normal g w) (h : law08_WeightsEven_p12 kn (g 2) (g 8) (g 9) (g 10) (g 11) w) : den pg ann_law08_WeightsEven (dropS 1 (dropS 1 (bI (bI (dropS 1 (takeS 1 (dropS 6 code_law08_WeightsEven))))))) Q g w :=
  den_exQ (kr := no) (l := []) (by kernel_rfl) h hn noE trivial

def law08_WeightsEven_p13 (kn : K5) (gap_2 k_8 n_9 l_10 i_11 : Value) (w : World) : Prop :=
  Stp pg (sBuildSlice 43 1 [(0, n_9)]) w fun t48 w =>
  Stp pg (sBi .append #[43, 43] 43 [l_10, t48]) w fun t49 w =>
  kn gap_2 k_8 n_9 t49 i_11 w
theorem law08_WeightsEven_p13_ok (kn : K5) (hn : ∀ g w, kn (g 2) (g 8) (g 9) (g 10) (g 11) w → Q .normal g w) (h : law08_WeightsEven_p13 kn (g 2) (g 8) (g 9) (g 10) (g 11) w) : den pg ann_law08_WeightsEven (dropS 1 (bI (takeS 1 (dropS 1 (bI (bI (dropS 1 (takeS 1 (dropS 6 code_law08_WeightsEven))))))))) Q g w :=
  den_exQ (kr := no) (l := []) (by kernel_rfl) h hn noE trivial

def law08_WeightsEven_p14 (kn : K6) (k2 : K5) (gap_2 k_8 n_9 l_10 i_11 j_12 : Value) (w : World) : Prop :=
  Stp pg (sBin .rem 5 (.tmp 37) (.const (.int .u8 2)) gap_2 (.int .u8 2)) w fun t38 w =>
  Stp pg (sCvt 5 3 t38) w fun t39 w =>
  Stp pg (sBin .lss 3 (.tmp 36) (.tmp 39) j_12 t39) w fun t40 w =>
  Cnd t40
    (Stp pg (sBuildSlice 43 1 [(0, (.int .u32 0))]) w fun t44 w =>
    Stp pg (sBi .append #[43, 43] 43 [l_10, t44]) w fun t45 w =>
    Stp pg (sBin .add 3 (.tmp 41) (.const (.int .i64 1)) j_12 (.int .i64 1)) w fun t42 w =>
    kn gap_2 k_8 n_9 t45 i_11 t42 w)
    (k2 gap_2 k_8 n_9 l_10 i_11 w)
theorem law08_WeightsEven_p14_ok (kn : K6) (k2 : K5) (hn : ∀ g w, kn (g 2) (g 8) (g 9) (g 10) (g 11) (g 12) w → Q .normal g w) (h2 : ∀ g w, k2 (g 2) (g 8) (g 9) (g 10) (g 11) w → Q (.exit 2) g w) (h : law08_WeightsEven_p14 kn k2 (g 2) (g 8) (g 9) (g 10) (g 11) (g 12) w) : den pg ann_law08_WeightsEven (bI (bI (dropS 1 (takeS 1 (bI (takeS 1 (dropS 1 (bI (bI (dropS 1 (takeS 1 (dropS 6 code_law08_WeightsEven)))))))))))) Q g w :=
  den_exQ (kr := no) (l := [(2, fun g w => k2 (g 2) (g 8) (g 9) (g 10) (g 11) w)]) (by kernel_rfl) h hn noE ⟨h2, trivial⟩

def law08_WeightsEven_p15 (k2 : K5) (gap_2 k_8 n_9 l_10 i_11 j_12 : Value) (w : World) : Prop :=
  LoopD (fun (X : (Value × Value) → K0) (t : Value × Value) (w : World) => law08_WeightsEven_p14 (fun _ _ _ l_10 _ j_12 w => X (l_10, j_12) w) k2 gap_2 k_8 n_9 t.1 i_11 t.2 w) (l_10, j_12) w
theorem law08_WeightsEven_p15_ok (k2 : K5) (h2 : ∀ g w, k2 (g 2) (g 8) (g 9) (g 10) (g 11) w → Q (.exit 2) g w) (h : law08_WeightsEven_p15 k2 (g 2) (g 8) (g 9) (g 10) (g 11) (g 12) w) : den pg ann_law08_WeightsEven (bI (dropS 1 (takeS 1 (bI (takeS 1 (dropS 1 (bI (bI (dropS 1 (takeS 1 (dropS 6 code_law08_WeightsEven))))))))))) Q g w := by
  refine den_loops (T := Value × Value) (fun g : Env => (g 10, g 12)) (fun X t w => law08_WeightsEven_p14 (fun _ _ _ l_10 _ j_12 w => X (l_10, j_12) w) k2 (g 2) (g 8) (g 9) t.1 (g 11) t.2 w) _ (by kernel_rfl) h (fun X g1 w1 ha hL => ?_)
  rw [← agree_at (s := 2) ha (by kernel_rfl)] at hL
  rw [← agree_at (s := 8) ha (by kernel_rfl)] at hL
  rw [← agree_at (s := 9) ha (by kernel_rfl)] at hL
  rw [← agree_at (s := 11) ha (by kernel_rfl)] at hL
  exact (law08_WeightsEven_p14_ok (thenE (fun g2 w2 => X ((fun g : Env => (g 10, g 12)) g2) w2) Q) g1 w1 (fun _ _ _ l_10 _ j_12 w => X (l_10, j_12) w) k2 (fun _ _ h => h) h2 hL)

def law08_WeightsEven_p16 (kn : K5) (gap_2 k_8 n_9 l_10 i_11 j_12 : Value) (w : World) : Prop :=
  law08_WeightsEven_p15 kn gap_2 k_8 n_9 l_10 i_11 j_12 w
theorem law08_WeightsEven_p16_ok (kn : K5) (hn : ∀ g w, kn (g 2) (g 8) (g 9) (g 10) (g 11) w → Q .normal g w) (h : law08_WeightsEven_p16 kn (g 2) (g 8) (g 9) (g 10) (g 11) (g 12) w) : den pg ann_law08_WeightsEven (dropS 1 (takeS 1 (bI (takeS 1 (dropS 1 (bI (bI (dropS 1 (takeS 1 (dropS 6 code_law08_WeightsEven)))))))))) Q g w :=
  den_blk 2 _ g w (by kernel_rfl) (law08_WeightsEven_p15_ok (blk 2 Q) g w kn hn h)

def law08_WeightsEven_p17 (kn : K6) (gap_2 k_8 n_9 l_10 i_11 : Value) (w : World) : Prop :=
  kn gap_2 k_8 n_9 l_10 i_11 (.int .i64 0) w
theorem law08_WeightsEven_p17_ok (kn : K6) (hn : ∀ g w, kn (g 2) (g 8) (g 9) (g 10) (g 11) (g 12) w → Q .normal g w) (h : law08_WeightsEven_p17 kn (g 2) (g 8) (g 9) (g 10) (g 11) w) : den pg ann_law08_WeightsEven (takeS 1 (takeS 1 (bI (takeS 1 (dropS 1 (bI (bI (dropS 1 (takeS 1 (dropS 6 code_law08_WeightsEven)))))))))) Q g w :=
  den_exQ (kr := no) (l := []) (by kernel_rfl) h hn noE trivial

def law08_WeightsEven_p18 (kn : K5) (gap_2 k_8 n_9 l_10 i_11 : Value) (w : World) : Prop :=
  law08_WeightsEven_p17 (fun gap_2 k_8 n_9 l_10 i_11 j_12 w => law08_WeightsEven_p16 kn gap_2 k_8 n_9 l_10 i_11 j_12 w) gap_2 k_8 n_9 l_10 i_11 w
theorem law08_WeightsEven_p18_ok (kn : K5) (hn : ∀ g w, kn (g 2) (g 8) (g 9) (g 10) (g 11) w → Q .normal g w) (h : law08_WeightsEven_p18 kn (g 2) (g 8) (g 9) (g 10) (g 11) w) : den pg ann_law08_WeightsEven (takeS 1 (bI (takeS 1 (dropS 1 (bI (bI (dropS 1 (takeS 1 (dropS 6 code_law08_WeightsEven))))))))) Q g w :=
  den_seqs 1 _ g w (by kernel_rfl) (law08_WeightsEven_p17_ok (thenE (fun g w => den pg ann_law08_WeightsEven (dropS 1 (takeS 1 (bI (takeS 1 (dropS 1 (bI (bI (dropS 1 (takeS 1 (dropS 6 code_law08_WeightsEven)))))))))) Q g w) Q) g w (fun gap_2 k_8 n_9 l_10 i_11 j_12 w => law08_WeightsEven_p16 kn gap_2 k_8 n_9 l_10 i_11 j_12 w) (fun g w h => thenE_n (K := fun g w => den pg ann_law08_WeightsEven (dropS 1 (takeS 1 (bI (takeS 1 (dropS 1 (bI (bI (dropS 1 (takeS 1 (dropS 6 code_law08_WeightsEven)))))))))) Q g w) (law08_WeightsEven_p16_ok Q g w kn hn h)) h)

def law08_WeightsEven_p19 (kn : K5) (gap_2 k_8 n_9 l_10 i_11 : Value) (w : World) : Prop :=
  law08_WeightsEven_p18 (fun gap_2 k_8 n_9 l_10 i_11 w => law08_WeightsEven_p13 kn gap_2 k_8 n_9 l_10 i_11 w) gap_2 k_8 n_9 l_10 i_11 w
theorem law08_WeightsEven_p19_ok (kn : K5) (hn : ∀ g w, kn (g 2) (g 8) (g 9) (g 10) (g 11) w → Q .normal g w) (h : law08_WeightsEven_p19 kn (g 2) (g 8) (g 9) (g 10) (g 11) w) : den pg ann_law08_WeightsEven (bI (takeS 1 (dropS 1 (bI (bI (dropS 1 (takeS 1 (dropS 6 code_law08_WeightsEven)))))))) Q g w :=
  den_seqs 1 _ g w (by kernel_rfl) (law08_WeightsEven_p18_ok (thenE (fun g w => den pg ann_law08_WeightsEven (dropS 1 (bI (takeS 1 (dropS 1 (bI (bI (dropS 1 (takeS 1 (dropS 6 code_law08_WeightsEven))))))))) Q g w) Q) g w (fun gap_2 k_8 n_9 l_10 i_11 w => law08_WeightsEven_p13 kn gap_2 k_8 n_9 l_10 i_11 w) (fun g w h => thenE_n (K := fun g w => den pg ann_law08_WeightsEven (dropS 1 (bI (takeS 1 (dropS 1 (bI (bI (dropS 1 (takeS 1 (dropS 6 code_law08_WeightsEven))))))))) Q g w) (law08_WeightsEven_p13_ok Q g w kn hn h)) h)

def law08_WeightsEven_p20 (kn : K5) (gap_2 k_8 n_9 l_10 i_11 : Value) (w : World) : Prop :=
  law08_WeightsEven_p19 kn gap_2 k_8 n_9 l_10 i_11 w
theorem law08_WeightsEven_p20_ok (kn : K5) (hn : ∀ g w, kn (g 2) (g 8) (g 9) (g 10) (g 11) w → Q .normal g w) (h : law08_WeightsEven_p20 kn (g 2) (g 8) (g 9) (g 10) (g 11) w) : den pg ann_law08_WeightsEven (takeS 1 (dropS 1 (bI (bI (dropS 1 (takeS 1 (dropS 6 code_law08_WeightsEven))))))) Q g w :=
  den_blk 1 _ g w (by kernel_rfl) (law08_WeightsEven_p19_ok (blk 1 Q) g w kn hn h)

def law08_WeightsEven_p21 (kn : K5) (gap_2 k_8 n_9 l_10 i_11 : Value) (w : World) : Prop :=
  law08_WeightsEven_p20 (fun gap_2 k_8 n_9 l_10 i_11 w => law08_WeightsEven_p12 kn gap_2 k_8 n_9 l_10 i_11 w) gap_2 k_8 n_9 l_10 i_11 w
theorem law08_WeightsEven_p21_ok (kn : K5) (hn : ∀ g w, kn (g 2) (g 8) (g 9) (g 10) (g 11) w → Q .normal g w) (h : law08_WeightsEven_p21 kn (g 2) (g 8) (g 9) (g 10) (g 11) w) : den pg ann_law08_WeightsEven (dropS 1 (bI (bI (dropS 1 (takeS 1 (dropS 6 code_law08_WeightsEven)))))) Q g w :=
  den_seqs 1 _ g w (by kernel_rfl) (law08_WeightsEven_p20_ok (thenE (fun g w => den pg ann_law08_WeightsEven (dropS 1 (dropS 1 (bI (bI (dropS 1 (takeS 1 (dropS 6 code_law08_WeightsEven))))))) Q g w) Q) g w (fun gap_2 k_8 n_9 l_10 i_11 w => law08_WeightsEven_p12 kn gap_2 k_8 n_9 l_10 i_11 w) (fun g w h => thenE_n (K := fun g w => den pg ann_law08_WeightsEven (dropS 1 (dropS 1 (bI (bI (dropS 1 (takeS 1 (dropS 6 code_law08_WeightsEven))))))) Q g w) (law08_WeightsEven_p12_ok Q g w kn hn h)) h)

def law08_WeightsEven_p22 (kn : K5) (k0 : K2) (gap_2 k_8 n_9 l_10 i_11 : Value) (w : World) : Prop :=
  Stp pg (sCvt 3 49 k_8) w fun t31 w =>
  Stp pg (sBin .shl 3 (.const (.int .i64 1)) (.tmp 31) (.int .i64 1) t31) w fun t32 w =>
  Stp pg (sBin .lss 3 (.tmp 29) (.tmp 32) i_11 t32) w fun t33 w =>
  Cnd t33
    (kn gap_2 k_8 n_9 l_10 i_11 w)
    (k0 k_8 l_10 w)
theorem law08_WeightsEven_p22_ok (kn : K5) (k0 : K2) (hn : ∀ g w, kn (g 2) (g 8) (g 9) (g 10) (g 11) w → Q .normal g w) (h0 : ∀ g w, k0 (g 8) (g 10) w → Q (.exit 0) g w) (h : law08_WeightsEven_p22 kn k0 (g 2) (g 8) (g 9) (g 10) (g 11) w) : den pg ann_law08_WeightsEven (takeS 1 (bI (bI (dropS 1 (takeS 1 (dropS 6 code_law08_WeightsEven)))))) Q g w :=
  den_exQ (kr := no) (l := [(0, fun g w => k0 (g 8) (g 10) w)]) (by kernel_rfl) h hn noE ⟨h0, trivial⟩

def law08_WeightsEven_p23 (kn : K5) (k0 : K2) (gap_2 k_8 n_9 l_10 i_11 : Value) (w : World) : Prop :=
  law08_WeightsEven_p22 (fun gap_2 k_8 n_9 l_10 i_11 w => law08_WeightsEven_p21 kn gap_2 k_8 n_9 l_10 i_11 w) k0 gap_2 k_8 n_9 l_10 i_11 w
theorem law08_WeightsEven_p23_ok (kn : K5) (k0 : K2) (hn : ∀ g w, kn (g 2) (g 8) (g 9) (g 10) (g 11) w → Q .normal g w) (h0 : ∀ g w, k0 (g 8) (g 10) w → Q (.exit 0) g w) (h : law08_WeightsEven_p23 kn k0 (g 2) (g 8) (g 9) (g 10) (g 11) w) : den pg ann_law08_WeightsEven (bI (bI (dropS 1 (takeS 1 (dropS 6 code_law08_WeightsEven))))) Q g w :=
  den_seqs 1 _ g w (by kernel_rfl) (law08_WeightsEven_p22_ok (thenE (fun g w => den pg ann_law08_WeightsEven (dropS 1 (bI (bI (dropS 1 (takeS 1 (dropS 6 code_law08_WeightsEven)))))) Q g w) Q) g w (fun gap_2 k_8 n_9 l_10 i_11 w => law08_WeightsEven_p21 kn gap_2 k_8 n_9 l_10 i_11 w) k0 (fun g w h => thenE_n (K := fun g w => den pg ann_law08_WeightsEven (dropS 1 (bI (bI (dropS 1 (takeS 1 (dropS 6 code_law08_WeightsEven)))))) Q g w) (law08_WeightsEven_p21_ok Q g w kn hn h)) h0 h)

def law08_WeightsEven_p24 (k0 : K2) (gap_2 k_8 n_9 l_10 i_11 : Value) (w : World) : Prop :=
  LoopD (fun (X : (Value × Value) → K0) (t : Value × Value) (w : World) => law08_WeightsEven_p23 (fun _ _ _ l_10 i_11 w => X (l_10, i_11) w) k0 gap_2 k_8 n_9 t.1 t.2 w) (l_10, i_11) w
theorem law08_WeightsEven_p24_ok (k0 : K2) (h0 : ∀ g w, k0 (g 8) (g 10) w → Q (.exit 0) g w) (h : law08_WeightsEven_p24 k0 (g 2) (g 8) (g 9) (g 10) (g 11) w) : den pg ann_law08_WeightsEven (bI (dropS 1 (takeS 1 (dropS 6 code_law08_WeightsEven)))) Q g w := by
  refine den_loops (T := Value × Value) (fun g : Env => (g 10, g 11)) (fun X t w => law08_WeightsEven_p23 (fun _ _ _ l_10 i_11 w => X (l_10, i_11) w) k0 (g 2) (g 8) (g 9) t.1 t.2 w) _ (by kernel_rfl) h (fun X g1 w1 ha hL => ?_)
  rw [← agree_at (s := 2) ha (by kernel_rfl)] at hL
  rw [← agree_at (s := 8) ha (by kernel_rfl)] at hL
  rw [← agree_at (s := 9) ha (by kernel_rfl)] at hL
  exact (law08_WeightsEven_p23_ok (thenE (fun g2 w2 => X ((fun g : Env => (g 10, g 11)) g2) w2) Q) g1 w1 (fun _ _ _ l_10 i_11 w => X (l_10, i_11) w) k0 (fun _ _ h => h) h0 hL)

def law08_WeightsEven_p25 (kn : K2) (gap_2 k_8 n_9 l_10 i_11 : Value) (w : World) : Prop :=
  law08_WeightsEven_p24 kn gap_2 k_8 n_9 l_10 i_11 w
theorem law08_WeightsEven_p25_ok (kn : K2) (hn : ∀ g w, kn (g 8) (g 10) w → Q .normal g w) (h : law08_WeightsEven_p25 kn (g 2) (g 8) (g 9) (g 10) (g 11) w) : den pg ann_law08_WeightsEven (dropS 1 (takeS 1 (dropS 6 code_law08_WeightsEven))) Q g w :=
  den_blk 0 _ g w (by kernel_rfl) (law08_WeightsEven_p24_ok (blk 0 Q) g w kn hn h)

def law08_WeightsEven_p26 (kn : K5) (gap_2 k_8 n_9 l_10 : Value) (w : World) : Prop :=
  kn gap_2 k_8 n_9 l_10 (.int .i64 0) w
theorem law08_WeightsEven_p26_ok (kn : K5) (hn : ∀ g w, kn (g 2) (g 8) (g 9) (g 10) (g 11) w → Q .normal g w) (h : law08_WeightsEven_p26 kn (g 2) (g 8) (g 9) (g 10) w) : den pg ann_law08_WeightsEven (takeS 1 (takeS 1 (dropS 6 code_law08_WeightsEven))) Q g w :=
  den_exQ (kr := no) (l := []) (by kernel_rfl) h hn noE trivial

def law08_WeightsEven_p27 (kn : K2) (gap_2 k_8 n_9 l_10 : Value) (w : World) : Prop :=
  law08_WeightsEven_p26 (fun gap_2 k_8 n_9 l_10 i_11 w => law08_WeightsEven_p25 kn gap_2 k_8 n_9 l_10 i_11 w) gap_2 k_8 n_9 l_10 w
theorem law08_WeightsEven_p27_ok (kn : K2) (hn : ∀ g w, kn (g 8) (g 10) w → Q .normal g w) (h : law08_WeightsEven_p27 kn (g 2) (g 8) (g 9) (g 10) w) : den pg ann_law08_WeightsEven (takeS 1 (dropS 6 code_law08_WeightsEven)) Q g w :=
  den_seqs 1 _ g w (by kernel_rfl) (law08_WeightsEven_p26_ok (thenE (fun g w => den pg ann_law08_WeightsEven (dropS 1 (takeS 1 (dropS 6 code_law08_WeightsEven))) Q g w) Q) g w (fun gap_2 k_8 n_9 l_10 i_11 w => law08_WeightsEven_p25 kn gap_2 k_8 n_9 l_10 i_11 w) (fun g w h => thenE_n (K := fun g w => den pg ann_law08_WeightsEven (dropS 1 (takeS 1 (dropS 6 code_law08_WeightsEven))) Q g w) (law08_WeightsEven_p25_ok Q g w kn hn h)) h)

def law08_WeightsEven_p28 (R : K1) (gap_2 k_8 n_9 l_10 : Value) (w : World) : Prop :=
  law08_WeightsEven_p27 (fun k_8 l_10 w => law08_WeightsEven_p11 R k_8 l_10 w) gap_2 k_8 n_9 l_10 w
theorem law08_WeightsEven_p28_ok (R : K1) (hr : HR rs_law08_WeightsEven R Q) (h : law08_WeightsEven_p28 R (g 2) (g 8) (g 9) (g 10) w) : den pg ann_law08_WeightsEven (dropS 6 code_law08_WeightsEven) Q g w :=
  den_seqs 1 _ g w (by kernel_rfl) (law08_WeightsEven_p27_ok (thenE (fun g w => den pg ann_law08_WeightsEven (dropS 1 (dropS 6 code_law08_WeightsEven)) Q g w) Q) g w (fun k_8 l_10 w => law08_WeightsEven_p11 R k_8 l_10 w) (fun g w h => thenE_n (K := fun g w => den pg ann_law08_WeightsEven (dropS 1 (dropS 6 code_law08_WeightsEven)) Q g w) (law08_WeightsEven_p11_ok Q g w R hr h)) h)

def law08_WeightsEven_p29 (kn : K4) (R : K1) (log_0 often_1 gap_2 : Value) (w : World) : Prop :=
  Does pg F_law08_awake #[] w fun t19 w =>
  Stp pg (sUn .not t19) w fun t21 w =>
  Cnd t21
    (R (.bool false) w)
    (Stp pg (sBin .rem 5 (.tmp 22) (.const (.int .u8 7)) log_0 (.int .u8 7)) w fun t23 w =>
    Stp pg (sCvt 5 3 t23) w fun t24 w =>
    Stp pg (sBin .add 3 (.tmp 24) (.const (.int .i64 1)) t24 (.int .i64 1)) w fun t25 w =>
    Stp pg (sCvt 52 45 often_1) w fun t27 w =>
    Stp pg (sBin .add 45 (.tmp 27) (.const (.int .u32 1)) t27 (.int .u32 1)) w fun t28 w =>
    kn gap_2 t25 t28 (.slice none 0 0) w)
theorem law08_WeightsEven_p29_ok (kn : K4) (R : K1) (hn : ∀ g w, kn (g 2) (g 8) (g 9) (g 10) w → Q .normal g w) (hr : HR rs_law08_WeightsEven R Q) (h : law08_WeightsEven_p29 kn R (g 0) (g 1) (g 2) w) : den pg ann_law08_WeightsEven (takeS 6 code_law08_WeightsEven) Q g w :=
  den_exQ (l := []) (by kernel_rfl) h hn hr trivial

def law08_WeightsEven_p30 (R : K1) (log_0 often_1 gap_2 : Value) (w : World) : Prop :=
  law08_WeightsEven_p29 (fun gap_2 k_8 n_9 l_10 w => law08_WeightsEven_p28 R gap_2 k_8 n_9 l_10 w) R log_0 often_1 gap_2 w
theorem law08_WeightsEven_p30_ok (R : K1) (hr : HR rs_law08_WeightsEven R Q) (h : law08_WeightsEven_p30 R (g 0) (g 1) (g 2) w) : den pg ann_law08_WeightsEven code_law08_WeightsEven Q g w :=
  den_seqs 6 _ g w (by kernel_rfl) (law08_WeightsEven_p29_ok (thenE (fun g w => den pg ann_law08_WeightsEven (dropS 6 code_law08_WeightsEven) Q g w) Q) g w (fun gap_2 k_8 n_9 l_10 w => law08_WeightsEven_p28 R gap_2 k_8 n_9 l_10 w) R (fun g w h => thenE_n (K := fun g w => den pg ann_law08_WeightsEven (dropS 6 code_law08_WeightsEven) Q g w) (law08_WeightsEven_p28_ok Q g w R hr h)) hr h)

def law08_WeightsEven (a0 a1 a2 : Value) (w : World) (R : K1) : Prop :=
  law08_WeightsEven_p30 R a0 a1 a2 w
theorem law08_WeightsEven_does {a0 a1 a2 : Value} {w : World} {R : K1} (h : law08_WeightsEven a0 a1 a2 w R) : Does pg F_law08_WeightsEven #[a0, a1, a2] w R := by
  refine does_of_den (ann := ann_law08_WeightsEven) (fn := Try.f9) (c := code_law08_WeightsEven) (args := [a0, a1, a2]) (rs := rs_law08_WeightsEven) (N := 91) TryM.mixed (by kernel_rfl) Try.func9 (by kernel_rfl) (by kernel_rfl) (by kernel_rfl) (of_decide_eq_true (by kernel_rfl)) (by kernel_rfl) ?_
  exact (law08_WeightsEven_p30_ok (retQ pg rs_law08_WeightsEven R) (envOf [a0, a1, a2]) w R (fun _ _ h => h) h)
-- PIECES law08_WeightsEven/0 law08_WeightsEven_p1 law08_WeightsEven_p5 law08_WeightsEven_p6 law08_WeightsEven_p7 law08_WeightsEven_p8 law08_WeightsEven_p9 law08_WeightsEven_p10 law08_WeightsEven_p11 law08_WeightsEven_p24 law08_WeightsEven_p25 law08_WeightsEven_p26 law08_WeightsEven_p27 law08_WeightsEven_p28 law08_WeightsEven_p29 law08_WeightsEven_p30
-- PIECES law08_WeightsEven/1 law08_WeightsEven_p2 law08_WeightsEven_p3 law08_WeightsEven_p4
-- PIECES law08_WeightsEven/2 law08_WeightsEven_p12 law08_WeightsEven_p13 law08_WeightsEven_p15 law08_WeightsEven_p16 law08_WeightsEven_p17 law08_WeightsEven_p18 law08_WeightsEven_p19 law08_WeightsEven_p20 law08_WeightsEven_p21 law08_WeightsEven_p22 law08_WeightsEven_p23
-- PIECES law08_WeightsEven/3 law08_WeightsEven_p14

end Go.Proofs.Ytoepfjgekpdddaa

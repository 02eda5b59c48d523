/- The pieces of bodies, written by a program of ours off the loaded code, each with its proof. -/
import Derived.Test.YtoepfjgekpdddaaF
namespace Go.Proofs.Ytoepfjgekpdddaa
open Go Go.En
set_option linter.unusedVariables false
set_option maxRecDepth 20000
attribute [local irreducible] Go.En.den
variable (Q : Exit → Env → World → Prop) (g : Env) (w : World)
/- lighterman/lightermanlaw08.WeightsOf -/
def ann_law08_WeightsOf : FA := ⟨F_law08_WeightsOf, fun i => match Nat.beq i 24 with | true => .leaf ([], []) [(false, []), (false, []), (false, []), (false, []), (false, []), (false, []), (false, []), (false, []), (false, []), (false, []), (false, [])] | false => .leaf ([], []) []⟩
def rs_law08_WeightsOf : List ResultVar := [.tmp 2]
noncomputable def code_law08_WeightsOf : Code := bodyOf Try.f6
def law08_WeightsOf_p1 (R : K1)  (w : World) : Prop :=
  R (.bool true) w
theorem law08_WeightsOf_p1_ok (R : K1) (hr : HR rs_law08_WeightsOf R Q) (h : law08_WeightsOf_p1 R w) : den pg ann_law08_WeightsOf (dropS 1 (dropS 3 (dropS 1 (dropS 7 code_law08_WeightsOf)))) Q g w :=
  den_exQ (kn := no) (l := []) (by kernel_rfl) h noE hr trivial

def law08_WeightsOf_p2 (kn : K3) (k2 : K0) (R : K1) (often_0 l_8 i_10 : Value) (w : World) : Prop :=
  Stp pg (sBi .len #[22] 3 [l_8]) w fun t78 w =>
  Stp pg (sBin .lss 3 (.tmp 76) (.tmp 78) i_10 t78) w fun t79 w =>
  Cnd t79
    ((dr w) = (dr w) ∧
    (dr w) = (dr w) ∧
    Stp pg (sIAddr 22 l_8 i_10) (dr w) fun t84 w_ => w_ = (dr w) ∧
    Stp pg (sLoad 5 t84) (dr w) fun t85 w_ => w_ = (dr w) ∧
    Stp pg (sBin .gtr 5 (.tmp 85) (.const (.int .u8 0)) t85 (.int .u8 0)) (dr w) fun t86 w_ => w_ = (dr w) ∧
    (dr w) = (dr w) ∧
    (dr w) = (dr w) ∧
    Stp pg (sIAddr 43 often_0 i_10) (dr w) fun t89 w_ => w_ = (dr w) ∧
    Stp pg (sLoad 45 t89) (dr w) fun t90 w_ => w_ = (dr w) ∧
    Stp pg (sBin .gtr 45 (.tmp 90) (.const (.int .u32 0)) t90 (.int .u32 0)) (dr w) fun t91 w_ => w_ = (dr w) ∧
    Stp pg (sBin .neq 4 (.tmp 86) (.tmp 91) t86 t91) (dr w) fun t92 w_ => w_ = (dr w) ∧
    Cnd t92
      (R (.bool false) (dr w))
      (Stp pg (sBin .add 3 (.tmp 80) (.const (.int .i64 1)) i_10 (.int .i64 1)) (dr w) fun t81 w =>
      kn often_0 l_8 t81 w))
    (k2 w)
theorem law08_WeightsOf_p2_ok (kn : K3) (k2 : K0) (R : K1) (hn : ∀ g w, kn (g 0) (g 8) (g 10) w → Q .normal g w) (h2 : ∀ g w, k2 w → Q (.exit 2) g w) (hr : HR rs_law08_WeightsOf R Q) (h : law08_WeightsOf_p2 kn k2 R (g 0) (g 8) (g 10) w) : den pg ann_law08_WeightsOf (bI (bI (dropS 1 (takeS 1 (dropS 3 (dropS 1 (dropS 7 code_law08_WeightsOf))))))) Q g w :=
  den_exQ (l := [(2, fun g w => k2 w)]) (by kernel_rfl) h hn hr ⟨h2, trivial⟩

def law08_WeightsOf_p3 (k2 : K0) (R : K1) (often_0 l_8 i_10 : Value) (w : World) : Prop :=
  LoopD (fun (X : Value → K0) (t : Value) (w : World) => law08_WeightsOf_p2 (fun _ _ i_10 w => X i_10 w) k2 R often_0 l_8 t w) i_10 w
theorem law08_WeightsOf_p3_ok (k2 : K0) (R : K1) (h2 : ∀ g w, k2 w → Q (.exit 2) g w) (hr : HR rs_law08_WeightsOf R Q) (h : law08_WeightsOf_p3 k2 R (g 0) (g 8) (g 10) w) : den pg ann_law08_WeightsOf (bI (dropS 1 (takeS 1 (dropS 3 (dropS 1 (dropS 7 code_law08_WeightsOf)))))) Q g w := by
  refine den_loops (T := Value) (fun g : Env => g 10) (fun X t w => law08_WeightsOf_p2 (fun _ _ i_10 w => X i_10 w) k2 R (g 0) (g 8) t w) _ (by kernel_rfl) h (fun X g1 w1 ha hL => ?_)
  rw [← agree_at (s := 0) ha (by kernel_rfl)] at hL
  rw [← agree_at (s := 8) ha (by kernel_rfl)] at hL
  exact (law08_WeightsOf_p2_ok (thenE (fun g2 w2 => X ((fun g : Env => g 10) g2) w2) Q) g1 w1 (fun _ _ i_10 w => X i_10 w) k2 R (fun _ _ h => h) h2 hr hL)

def law08_WeightsOf_p4 (kn : K0) (R : K1) (often_0 l_8 i_10 : Value) (w : World) : Prop :=
  law08_WeightsOf_p3 kn R often_0 l_8 i_10 w
theorem law08_WeightsOf_p4_ok (kn : K0) (R : K1) (hn : ∀ g w, kn w → Q .normal g w) (hr : HR rs_law08_WeightsOf R Q) (h : law08_WeightsOf_p4 kn R (g 0) (g 8) (g 10) w) : den pg ann_law08_WeightsOf (dropS 1 (takeS 1 (dropS 3 (dropS 1 (dropS 7 code_law08_WeightsOf))))) Q g w :=
  den_blk 2 _ g w (by kernel_rfl) (law08_WeightsOf_p3_ok (blk 2 Q) g w kn R hn hr h)

def law08_WeightsOf_p5 (kn : K3) (often_0 l_8 : Value) (w : World) : Prop :=
  kn often_0 l_8 (.int .i64 0) w
theorem law08_WeightsOf_p5_ok (kn : K3) (hn : ∀ g w, kn (g 0) (g 8) (g 10) w → Q .normal g w) (h : law08_WeightsOf_p5 kn (g 0) (g 8) w) : den pg ann_law08_WeightsOf (takeS 1 (takeS 1 (dropS 3 (dropS 1 (dropS 7 code_law08_WeightsOf))))) Q g w :=
  den_exQ (kr := no) (l := []) (by kernel_rfl) h hn noE trivial

def law08_WeightsOf_p6 (kn : K0) (R : K1) (often_0 l_8 : Value) (w : World) : Prop :=
  law08_WeightsOf_p5 (fun often_0 l_8 i_10 w => law08_WeightsOf_p4 kn R often_0 l_8 i_10 w) often_0 l_8 w
theorem law08_WeightsOf_p6_ok (kn : K0) (R : K1) (hn : ∀ g w, kn w → Q .normal g w) (hr : HR rs_law08_WeightsOf R Q) (h : law08_WeightsOf_p6 kn R (g 0) (g 8) w) : den pg ann_law08_WeightsOf (takeS 1 (dropS 3 (dropS 1 (dropS 7 code_law08_WeightsOf)))) Q g w :=
  den_seqs 1 _ g w (by kernel_rfl) (law08_WeightsOf_p5_ok (thenE (fun g w => den pg ann_law08_WeightsOf (dropS 1 (takeS 1 (dropS 3 (dropS 1 (dropS 7 code_law08_WeightsOf))))) Q g w) Q) g w (fun often_0 l_8 i_10 w => law08_WeightsOf_p4 kn R often_0 l_8 i_10 w) (fun g w h => thenE_n (K := fun g w => den pg ann_law08_WeightsOf (dropS 1 (takeS 1 (dropS 3 (dropS 1 (dropS 7 code_law08_WeightsOf))))) Q g w) (law08_WeightsOf_p4_ok Q g w kn R hn hr h)) h)

def law08_WeightsOf_p7 (R : K1) (often_0 l_8 : Value) (w : World) : Prop :=
  law08_WeightsOf_p6 (fun  w => law08_WeightsOf_p1 R w) R often_0 l_8 w
theorem law08_WeightsOf_p7_ok (R : K1) (hr : HR rs_law08_WeightsOf R Q) (h : law08_WeightsOf_p7 R (g 0) (g 8) w) : den pg ann_law08_WeightsOf (dropS 3 (dropS 1 (dropS 7 code_law08_WeightsOf))) Q g w :=
  den_seqs 1 _ g w (by kernel_rfl) (law08_WeightsOf_p6_ok (thenE (fun g w => den pg ann_law08_WeightsOf (dropS 1 (dropS 3 (dropS 1 (dropS 7 code_law08_WeightsOf)))) Q g w) Q) g w (fun  w => law08_WeightsOf_p1 R w) R (fun g w h => thenE_n (K := fun g w => den pg ann_law08_WeightsOf (dropS 1 (dropS 3 (dropS 1 (dropS 7 code_law08_WeightsOf)))) Q g w) (law08_WeightsOf_p1_ok Q g w R hr h)) hr h)

def law08_WeightsOf_p8 (kn : K2) (R : K1) (often_0 sum_4 t5 last_6 : Value) (w : World) : Prop :=
  Does pg F_weights_Of #[often_0] w fun t40 w =>
  Stp pg (sExtr t40 0) w fun t41 w =>
  Stp pg (sExtr t40 1) w fun t42 w =>
  Stp pg (sBi .len #[43] 3 [often_0]) w fun t44 w =>
  Stp pg (sBin .gtr 3 (.tmp 44) (.const (.int .i64 256)) t44 (.int .i64 256)) w fun t45 w =>
  Gd (isB t45 false) (fun K => K t5 w) w fun t47 w =>
  Gd (isB t45 false) (fun K => Stp pg (sBin .lss 3 (.tmp 47) (.const (.int .i64 2)) t47 (.int .i64 2)) w K) w fun t48 w =>
  Stp pg (sPick t45 (.bool true) t48) w fun t49 w =>
  Gd (isB t49 false) (fun K => K sum_4 w) w fun t51 w =>
  Gd (isB t49 false) (fun K => Stp pg (sBin .gtr 44 (.tmp 51) (.const (.int .u64 2147483647)) t51 (.int .u64 2147483647)) w K) w fun t52 w =>
  Stp pg (sPick t49 (.bool true) t52) w fun t53 w =>
  Cnd t53
    (Stp pg (sBin .eql 24 (.tmp 54) (.const (.int .i64 1)) t42 (.int .i64 1)) w fun t55 w =>
    Gd (isB t55 true) (fun K => K t41 w) w fun t57 w =>
    Gd (isB t55 true) (fun K => Stp pg (sBi .len #[22] 3 [t57]) w K) w fun t58 w =>
    Gd (isB t55 true) (fun K => Stp pg (sBin .eql 3 (.tmp 58) (.const (.int .i64 0)) t58 (.int .i64 0)) w K) w fun t59 w =>
    Stp pg (sPick t55 t59 (.bool false)) w fun t60 w =>
    R t60 w)
    (Stp pg (sBin .neq 24 (.tmp 61) (.const (.int .i64 0)) t42 (.int .i64 0)) w fun t62 w =>
    Gd (isB t62 false) (fun K => K t41 w) w fun t64 w =>
    Gd (isB t62 false) (fun K => Stp pg (sBi .len #[22] 3 [t64]) w K) w fun t65 w =>
    Gd (isB t62 false) (fun K => K last_6 w) w fun t66 w =>
    Gd (isB t62 false) (fun K => Stp pg (sBin .add 3 (.tmp 66) (.const (.int .i64 1)) t66 (.int .i64 1)) w K) w fun t67 w =>
    Gd (isB t62 false) (fun K => Stp pg (sBin .neq 3 (.tmp 65) (.tmp 67) t65 t67) w K) w fun t68 w =>
    Stp pg (sPick t62 (.bool true) t68) w fun t69 w =>
    Gd (isB t69 false) (fun K => K t41 w) w fun t71 w =>
    Gd (isB t69 false) (fun K => Stp pg (sCvt 22 9 t71) w K) w fun t72 w =>
    Gd (isB t69 false) (fun K => Does pg F_ref08_Depth #[t72] w K) w fun t73 w =>
    Gd (isB t69 false) (fun K => Stp pg (sBin .eql 3 (.tmp 73) (.const (.int .i64 0)) t73 (.int .i64 0)) w K) w fun t74 w =>
    Stp pg (sPick t69 (.bool true) t74) w fun t75 w =>
    Cnd t75
      (R (.bool false) w)
      (kn often_0 t41 w))
theorem law08_WeightsOf_p8_ok (kn : K2) (R : K1) (hn : ∀ g w, kn (g 0) (g 8) w → Q .normal g w) (hr : HR rs_law08_WeightsOf R Q) (h : law08_WeightsOf_p8 kn R (g 0) (g 4) (g 5) (g 6) w) : den pg ann_law08_WeightsOf (takeS 3 (dropS 1 (dropS 7 code_law08_WeightsOf))) Q g w :=
  den_exQ (l := []) (by kernel_rfl) h hn hr trivial

def law08_WeightsOf_p9 (R : K1) (often_0 sum_4 t5 last_6 : Value) (w : World) : Prop :=
  law08_WeightsOf_p8 (fun often_0 l_8 w => law08_WeightsOf_p7 R often_0 l_8 w) R often_0 sum_4 t5 last_6 w
theorem law08_WeightsOf_p9_ok (R : K1) (hr : HR rs_law08_WeightsOf R Q) (h : law08_WeightsOf_p9 R (g 0) (g 4) (g 5) (g 6) w) : den pg ann_law08_WeightsOf (dropS 1 (dropS 7 code_law08_WeightsOf)) Q g w :=
  den_seqs 3 _ g w (by kernel_rfl) (law08_WeightsOf_p8_ok (thenE (fun g w => den pg ann_law08_WeightsOf (dropS 3 (dropS 1 (dropS 7 code_law08_WeightsOf))) Q g w) Q) g w (fun often_0 l_8 w => law08_WeightsOf_p7 R often_0 l_8 w) R (fun g w h => thenE_n (K := fun g w => den pg ann_law08_WeightsOf (dropS 3 (dropS 1 (dropS 7 code_law08_WeightsOf))) Q g w) (law08_WeightsOf_p7_ok Q g w R hr h)) hr h)

def law08_WeightsOf_p10 (kn : K5) (often_0 sum_4 t5 last_6 i_7 : Value) (w : World) : Prop :=
  Stp pg (sBin .add 3 (.tmp 21) (.const (.int .i64 1)) i_7 (.int .i64 1)) w fun t22 w =>
  kn often_0 sum_4 t5 last_6 t22 w
theorem law08_WeightsOf_p10_ok (kn : K5) (hn : ∀ g w, kn (g 0) (g 4) (g 5) (g 6) (g 7) w → Q .normal g w) (h : law08_WeightsOf_p10 kn (g 0) (g 4) (g 5) (g 6) (g 7) w) : den pg ann_law08_WeightsOf (dropS 2 (bI (bI (dropS 1 (takeS 1 (dropS 7 code_law08_WeightsOf)))))) Q g w :=
  den_exQ (kr := no) (l := []) (by kernel_rfl) h hn noE trivial

def law08_WeightsOf_p11 (kn : K5) (k0 : K4) (often_0 sum_4 t5 last_6 i_7 : Value) (w : World) : Prop :=
  Stp pg (sBi .len #[43] 3 [often_0]) w fun t19 w =>
  Stp pg (sBin .lss 3 (.tmp 17) (.tmp 19) i_7 t19) w fun t20 w =>
  Cnd t20
    (Stp pg (sIAddr 43 often_0 i_7) w fun t26 w =>
    Stp pg (sLoad 45 t26) w fun t27 w =>
    Stp pg (sCvt 45 44 t27) w fun t28 w =>
    Stp pg (sBin .add 44 (.tmp 23) (.tmp 28) sum_4 t28) w fun t29 w =>
    Stp pg (sIAddr 43 often_0 i_7) w fun t32 w =>
    Stp pg (sLoad 45 t32) w fun t33 w =>
    Stp pg (sBin .gtr 45 (.tmp 33) (.const (.int .u32 0)) t33 (.int .u32 0)) w fun t34 w =>
    Cnd t34
      (Stp pg (sBin .add 3 (.tmp 35) (.const (.int .i64 1)) t5 (.int .i64 1)) w fun t36 w =>
      kn often_0 t29 t36 i_7 i_7 w)
      (kn often_0 t29 t5 last_6 i_7 w))
    (k0 often_0 sum_4 t5 last_6 w)
theorem law08_WeightsOf_p11_ok (kn : K5) (k0 : K4) (hn : ∀ g w, kn (g 0) (g 4) (g 5) (g 6) (g 7) w → Q .normal g w) (h0 : ∀ g w, k0 (g 0) (g 4) (g 5) (g 6) w → Q (.exit 0) g w) (h : law08_WeightsOf_p11 kn k0 (g 0) (g 4) (g 5) (g 6) (g 7) w) : den pg ann_law08_WeightsOf (takeS 2 (bI (bI (dropS 1 (takeS 1 (dropS 7 code_law08_WeightsOf)))))) Q g w :=
  den_exQ (kr := no) (l := [(0, fun g w => k0 (g 0) (g 4) (g 5) (g 6) w)]) (by kernel_rfl) h hn noE ⟨h0, trivial⟩

def law08_WeightsOf_p12 (kn : K5) (k0 : K4) (often_0 sum_4 t5 last_6 i_7 : Value) (w : World) : Prop :=
  law08_WeightsOf_p11 (fun often_0 sum_4 t5 last_6 i_7 w => law08_WeightsOf_p10 kn often_0 sum_4 t5 last_6 i_7 w) k0 often_0 sum_4 t5 last_6 i_7 w
theorem law08_WeightsOf_p12_ok (kn : K5) (k0 : K4) (hn : ∀ g w, kn (g 0) (g 4) (g 5) (g 6) (g 7) w → Q .normal g w) (h0 : ∀ g w, k0 (g 0) (g 4) (g 5) (g 6) w → Q (.exit 0) g w) (h : law08_WeightsOf_p12 kn k0 (g 0) (g 4) (g 5) (g 6) (g 7) w) : den pg ann_law08_WeightsOf (bI (bI (dropS 1 (takeS 1 (dropS 7 code_law08_WeightsOf))))) Q g w :=
  den_seqs 2 _ g w (by kernel_rfl) (law08_WeightsOf_p11_ok (thenE (fun g w => den pg ann_law08_WeightsOf (dropS 2 (bI (bI (dropS 1 (takeS 1 (dropS 7 code_law08_WeightsOf)))))) Q g w) Q) g w (fun often_0 sum_4 t5 last_6 i_7 w => law08_WeightsOf_p10 kn often_0 sum_4 t5 last_6 i_7 w) k0 (fun g w h => thenE_n (K := fun g w => den pg ann_law08_WeightsOf (dropS 2 (bI (bI (dropS 1 (takeS 1 (dropS 7 code_law08_WeightsOf)))))) Q g w) (law08_WeightsOf_p10_ok Q g w kn hn h)) h0 h)

def law08_WeightsOf_p13 (k0 : K4) (often_0 sum_4 t5 last_6 i_7 : Value) (w : World) : Prop :=
  LoopD (fun (X : (Value × Value × Value × Value) → K0) (t : Value × Value × Value × Value) (w : World) => law08_WeightsOf_p12 (fun _ sum_4 t5 last_6 i_7 w => X (sum_4, t5, last_6, i_7) w) k0 often_0 t.1 t.2.1 t.2.2.1 t.2.2.2 w) (sum_4, t5, last_6, i_7) w
theorem law08_WeightsOf_p13_ok (k0 : K4) (h0 : ∀ g w, k0 (g 0) (g 4) (g 5) (g 6) w → Q (.exit 0) g w) (h : law08_WeightsOf_p13 k0 (g 0) (g 4) (g 5) (g 6) (g 7) w) : den pg ann_law08_WeightsOf (bI (dropS 1 (takeS 1 (dropS 7 code_law08_WeightsOf)))) Q g w := by
  refine den_loops (T := Value × Value × Value × Value) (fun g : Env => (g 4, g 5, g 6, g 7)) (fun X t w => law08_WeightsOf_p12 (fun _ sum_4 t5 last_6 i_7 w => X (sum_4, t5, last_6, i_7) w) k0 (g 0) t.1 t.2.1 t.2.2.1 t.2.2.2 w) _ (by kernel_rfl) h (fun X g1 w1 ha hL => ?_)
  rw [← agree_at (s := 0) ha (by kernel_rfl)] at hL
  exact (law08_WeightsOf_p12_ok (thenE (fun g2 w2 => X ((fun g : Env => (g 4, g 5, g 6, g 7)) g2) w2) Q) g1 w1 (fun _ sum_4 t5 last_6 i_7 w => X (sum_4, t5, last_6, i_7) w) k0 (fun _ _ h => h) h0 hL)

def law08_WeightsOf_p14 (kn : K4) (often_0 sum_4 t5 last_6 i_7 : Value) (w : World) : Prop :=
  law08_WeightsOf_p13 kn often_0 sum_4 t5 last_6 i_7 w
theorem law08_WeightsOf_p14_ok (kn : K4) (hn : ∀ g w, kn (g 0) (g 4) (g 5) (g 6) w → Q .normal g w) (h : law08_WeightsOf_p14 kn (g 0) (g 4) (g 5) (g 6) (g 7) w) : den pg ann_law08_WeightsOf (dropS 1 (takeS 1 (dropS 7 code_law08_WeightsOf))) Q g w :=
  den_blk 0 _ g w (by kernel_rfl) (law08_WeightsOf_p13_ok (blk 0 Q) g w kn hn h)

def law08_WeightsOf_p15 (kn : K5) (often_0 sum_4 t5 last_6 : Value) (w : World) : Prop :=
  kn often_0 sum_4 t5 last_6 (.int .i64 0) w
theorem law08_WeightsOf_p15_ok (kn : K5) (hn : ∀ g w, kn (g 0) (g 4) (g 5) (g 6) (g 7) w → Q .normal g w) (h : law08_WeightsOf_p15 kn (g 0) (g 4) (g 5) (g 6) w) : den pg ann_law08_WeightsOf (takeS 1 (takeS 1 (dropS 7 code_law08_WeightsOf))) Q g w :=
  den_exQ (kr := no) (l := []) (by kernel_rfl) h hn noE trivial

def law08_WeightsOf_p16 (kn : K4) (often_0 sum_4 t5 last_6 : Value) (w : World) : Prop :=
  law08_WeightsOf_p15 (fun often_0 sum_4 t5 last_6 i_7 w => law08_WeightsOf_p14 kn often_0 sum_4 t5 last_6 i_7 w) often_0 sum_4 t5 last_6 w
theorem law08_WeightsOf_p16_ok (kn : K4) (hn : ∀ g w, kn (g 0) (g 4) (g 5) (g 6) w → Q .normal g w) (h : law08_WeightsOf_p16 kn (g 0) (g 4) (g 5) (g 6) w) : den pg ann_law08_WeightsOf (takeS 1 (dropS 7 code_law08_WeightsOf)) Q g w :=
  den_seqs 1 _ g w (by kernel_rfl) (law08_WeightsOf_p15_ok (thenE (fun g w => den pg ann_law08_WeightsOf (dropS 1 (takeS 1 (dropS 7 code_law08_WeightsOf))) Q g w) Q) g w (fun often_0 sum_4 t5 last_6 i_7 w => law08_WeightsOf_p14 kn often_0 sum_4 t5 last_6 i_7 w) (fun g w h => thenE_n (K := fun g w => den pg ann_law08_WeightsOf (dropS 1 (takeS 1 (dropS 7 code_law08_WeightsOf))) Q g w) (law08_WeightsOf_p14_ok Q g w kn hn h)) h)

def law08_WeightsOf_p17 (R : K1) (often_0 sum_4 t5 last_6 : Value) (w : World) : Prop :=
  law08_WeightsOf_p16 (fun often_0 sum_4 t5 last_6 w => law08_WeightsOf_p9 R often_0 sum_4 t5 last_6 w) often_0 sum_4 t5 last_6 w
theorem law08_WeightsOf_p17_ok (R : K1) (hr : HR rs_law08_WeightsOf R Q) (h : law08_WeightsOf_p17 R (g 0) (g 4) (g 5) (g 6) w) : den pg ann_law08_WeightsOf (dropS 7 code_law08_WeightsOf) Q g w :=
  den_seqs 1 _ g w (by kernel_rfl) (law08_WeightsOf_p16_ok (thenE (fun g w => den pg ann_law08_WeightsOf (dropS 1 (dropS 7 code_law08_WeightsOf)) Q g w) Q) g w (fun often_0 sum_4 t5 last_6 w => law08_WeightsOf_p9 R often_0 sum_4 t5 last_6 w) (fun g w h => thenE_n (K := fun g w => den pg ann_law08_WeightsOf (dropS 1 (dropS 7 code_law08_WeightsOf)) Q g w) (law08_WeightsOf_p9_ok Q g w R hr h)) h)

def law08_WeightsOf_p18 (kn : K4) (R : K1) (often_0 : Value) (w : World) : Prop :=
  Does pg F_law08_awake #[] w fun t11 w =>
  Stp pg (sUn .not t11) w fun t13 w =>
  Cnd t13
    (R (.bool false) w)
    (Stp pg (sBi .len #[43] 3 [often_0]) w fun t15 w =>
    Stp pg (sBin .gtr 3 (.tmp 15) (.const (.int .i64 300)) t15 (.int .i64 300)) w fun t16 w =>
    Cnd t16
      (R (.bool true) w)
      (kn often_0 (.int .u64 0) (.int .i64 0) (.int .i64 0) w))
theorem law08_WeightsOf_p18_ok (kn : K4) (R : K1) (hn : ∀ g w, kn (g 0) (g 4) (g 5) (g 6) w → Q .normal g w) (hr : HR rs_law08_WeightsOf R Q) (h : law08_WeightsOf_p18 kn R (g 0) w) : den pg ann_law08_WeightsOf (takeS 7 code_law08_WeightsOf) Q g w :=
  den_exQ (l := []) (by kernel_rfl) h hn hr trivial

def law08_WeightsOf_p19 (R : K1) (often_0 : Value) (w : World) : Prop :=
  law08_WeightsOf_p18 (fun often_0 sum_4 t5 last_6 w => law08_WeightsOf_p17 R often_0 sum_4 t5 last_6 w) R often_0 w
theorem law08_WeightsOf_p19_ok (R : K1) (hr : HR rs_law08_WeightsOf R Q) (h : law08_WeightsOf_p19 R (g 0) w) : den pg ann_law08_WeightsOf code_law08_WeightsOf Q g w :=
  den_seqs 7 _ g w (by kernel_rfl) (law08_WeightsOf_p18_ok (thenE (fun g w => den pg ann_law08_WeightsOf (dropS 7 code_law08_WeightsOf) Q g w) Q) g w (fun often_0 sum_4 t5 last_6 w => law08_WeightsOf_p17 R often_0 sum_4 t5 last_6 w) R (fun g w h => thenE_n (K := fun g w => den pg ann_law08_WeightsOf (dropS 7 code_law08_WeightsOf) Q g w) (law08_WeightsOf_p17_ok Q g w R hr h)) hr h)

def law08_WeightsOf (a0 : Value) (w : World) (R : K1) : Prop :=
  law08_WeightsOf_p19 R a0 w
theorem law08_WeightsOf_does {a0 : Value} {w : World} {R : K1} (h : law08_WeightsOf a0 w R) : Does pg F_law08_WeightsOf #[a0] w R := by
  refine does_of_den (ann := ann_law08_WeightsOf) (fn := Try.f6) (c := code_law08_WeightsOf) (args := [a0]) (rs := rs_law08_WeightsOf) (N := 93) TryM.mixed (by kernel_rfl) Try.func6 (by kernel_rfl) (by kernel_rfl) (by kernel_rfl) (of_decide_eq_true (by kernel_rfl)) (by kernel_rfl) ?_
  exact (law08_WeightsOf_p19_ok (retQ pg rs_law08_WeightsOf R) (envOf [a0]) w R (fun _ _ h => h) h)
-- PIECES law08_WeightsOf/0 law08_WeightsOf_p1 law08_WeightsOf_p3 law08_WeightsOf_p4 law08_WeightsOf_p5 law08_WeightsOf_p6 law08_WeightsOf_p7 law08_WeightsOf_p8 law08_WeightsOf_p9 law08_WeightsOf_p13 law08_WeightsOf_p14 law08_WeightsOf_p15 law08_WeightsOf_p16 law08_WeightsOf_p17 law08_WeightsOf_p18 law08_WeightsOf_p19
-- PIECES law08_WeightsOf/1 law08_WeightsOf_p2
-- PIECES law08_WeightsOf/2 law08_WeightsOf_p10 law08_WeightsOf_p11 law08_WeightsOf_p12

end Go.Proofs.Ytoepfjgekpdddaa

/- The pieces of bodies, written by a program of ours off the loaded code, each with its proof. -/
import Derived.Test.YtcbkdccobhkbpaaF
namespace Go.Proofs.Ytcbkdccobhkbpaa
open Go Go.En
set_option linter.unusedVariables false
set_option maxRecDepth 20000
attribute [local irreducible] Go.En.den
variable (Q : Exit → Env → World → Prop) (g : Env) (w : World)
/- lighterman/lightermanref06.Power -/
def ann_ref06_Power : FA := ⟨F_ref06_Power, fun i => .leaf ([], []) []⟩
def rs_ref06_Power : List ResultVar := [.tmp 2]
noncomputable def code_ref06_Power : Code := bodyOf Try.f42
def ref06_Power_p1 (R : K1) (x_3 : Value) (w : World) : Prop :=
  R x_3 w
theorem ref06_Power_p1_ok (R : K1) (hr : HR rs_ref06_Power R Q) (h : ref06_Power_p1 R (g 3) w) : den pg ann_ref06_Power (dropS 1 (dropS 2 code_ref06_Power)) Q g w :=
  den_exQ (kn := no) (l := []) (by kernel_rfl) h noE hr trivial

def ref06_Power_p2 (kn : K3) (k0 : K1) (n_0 x_3 i_4 : Value) (w : World) : Prop :=
  Stp pg (sBin .lss 3 (.tmp 5) (.tmp 6) i_4 n_0) w fun t7 w =>
  Gd (isB t7 true) (fun K => K i_4 w) w fun t9 w =>
  Gd (isB t7 true) (fun K => Stp pg (sBin .lss 3 (.tmp 9) (.const (.int .i64 40)) t9 (.int .i64 40)) w K) w fun t10 w =>
  Stp pg (sPick t7 t10 (.bool false)) w fun t11 w =>
  Cnd t11
    (Stp pg (sBin .mul 3 (.tmp 14) (.const (.int .i64 2)) x_3 (.int .i64 2)) w fun t15 w =>
    Stp pg (sBin .add 3 (.tmp 12) (.const (.int .i64 1)) i_4 (.int .i64 1)) w fun t13 w =>
    kn n_0 t15 t13 w)
    (k0 x_3 w)
theorem ref06_Power_p2_ok (kn : K3) (k0 : K1) (hn : ∀ g w, kn (g 0) (g 3) (g 4) w → Q .normal g w) (h0 : ∀ g w, k0 (g 3) w → Q (.exit 0) g w) (h : ref06_Power_p2 kn k0 (g 0) (g 3) (g 4) w) : den pg ann_ref06_Power (bI (bI (dropS 1 (takeS 1 (dropS 2 code_ref06_Power))))) Q g w :=
  den_exQ (kr := no) (l := [(0, fun g w => k0 (g 3) w)]) (by kernel_rfl) h hn noE ⟨h0, trivial⟩

def ref06_Power_p3 (k0 : K1) (n_0 x_3 i_4 : Value) (w : World) : Prop :=
  LoopD (fun (X : (Value × Value) → K0) (t : Value × Value) (w : World) => ref06_Power_p2 (fun _ x_3 i_4 w => X (x_3, i_4) w) k0 n_0 t.1 t.2 w) (x_3, i_4) w
theorem ref06_Power_p3_ok (k0 : K1) (h0 : ∀ g w, k0 (g 3) w → Q (.exit 0) g w) (h : ref06_Power_p3 k0 (g 0) (g 3) (g 4) w) : den pg ann_ref06_Power (bI (dropS 1 (takeS 1 (dropS 2 code_ref06_Power)))) Q g w := by
  refine den_loops (T := Value × Value) (fun g : Env => (g 3, g 4)) (fun X t w => ref06_Power_p2 (fun _ x_3 i_4 w => X (x_3, i_4) w) k0 (g 0) t.1 t.2 w) _ (by kernel_rfl) h (fun X g1 w1 ha h1 => ?_)
  rw [← agree_at (s := 0) ha (by kernel_rfl)] at h1
  exact (ref06_Power_p2_ok (thenE (fun g2 w2 => X ((fun g : Env => (g 3, g 4)) g2) w2) Q) g1 w1 (fun _ x_3 i_4 w => X (x_3, i_4) w) k0 (fun _ _ h => h) h0 h1)

def ref06_Power_p4 (kn : K1) (n_0 x_3 i_4 : Value) (w : World) : Prop :=
  ref06_Power_p3 kn n_0 x_3 i_4 w
theorem ref06_Power_p4_ok (kn : K1) (hn : ∀ g w, kn (g 3) w → Q .normal g w) (h : ref06_Power_p4 kn (g 0) (g 3) (g 4) w) : den pg ann_ref06_Power (dropS 1 (takeS 1 (dropS 2 code_ref06_Power))) Q g w :=
  den_blk 0 _ g w (by kernel_rfl) (ref06_Power_p3_ok (blk 0 Q) g w kn hn h)

def ref06_Power_p5 (kn : K3) (n_0 x_3 : Value) (w : World) : Prop :=
  kn n_0 x_3 (.int .i64 0) w
theorem ref06_Power_p5_ok (kn : K3) (hn : ∀ g w, kn (g 0) (g 3) (g 4) w → Q .normal g w) (h : ref06_Power_p5 kn (g 0) (g 3) w) : den pg ann_ref06_Power (takeS 1 (takeS 1 (dropS 2 code_ref06_Power))) Q g w :=
  den_exQ (kr := no) (l := []) (by kernel_rfl) h hn noE trivial

def ref06_Power_p6 (kn : K1) (n_0 x_3 : Value) (w : World) : Prop :=
  ref06_Power_p5 (fun n_0 x_3 i_4 w => ref06_Power_p4 kn n_0 x_3 i_4 w) n_0 x_3 w
theorem ref06_Power_p6_ok (kn : K1) (hn : ∀ g w, kn (g 3) w → Q .normal g w) (h : ref06_Power_p6 kn (g 0) (g 3) w) : den pg ann_ref06_Power (takeS 1 (dropS 2 code_ref06_Power)) Q g w :=
  den_seqs 1 _ g w (by kernel_rfl) (ref06_Power_p5_ok (thenE (fun g w => den pg ann_ref06_Power (dropS 1 (takeS 1 (dropS 2 code_ref06_Power))) Q g w) Q) g w (fun n_0 x_3 i_4 w => ref06_Power_p4 kn n_0 x_3 i_4 w) (fun g w h => thenE_n (K := fun g w => den pg ann_ref06_Power (dropS 1 (takeS 1 (dropS 2 code_ref06_Power))) Q g w) (ref06_Power_p4_ok Q g w kn hn h)) h)

def ref06_Power_p7 (R : K1) (n_0 x_3 : Value) (w : World) : Prop :=
  ref06_Power_p6 (fun x_3 w => ref06_Power_p1 R x_3 w) n_0 x_3 w
theorem ref06_Power_p7_ok (R : K1) (hr : HR rs_ref06_Power R Q) (h : ref06_Power_p7 R (g 0) (g 3) w) : den pg ann_ref06_Power (dropS 2 code_ref06_Power) Q g w :=
  den_seqs 1 _ g w (by kernel_rfl) (ref06_Power_p6_ok (thenE (fun g w => den pg ann_ref06_Power (dropS 1 (dropS 2 code_ref06_Power)) Q g w) Q) g w (fun x_3 w => ref06_Power_p1 R x_3 w) (fun g w h => thenE_n (K := fun g w => den pg ann_ref06_Power (dropS 1 (dropS 2 code_ref06_Power)) Q g w) (ref06_Power_p1_ok Q g w R hr h)) h)

def ref06_Power_p8 (kn : K2) (n_0 : Value) (w : World) : Prop :=
  kn n_0 (.int .i64 1) w
theorem ref06_Power_p8_ok (kn : K2) (hn : ∀ g w, kn (g 0) (g 3) w → Q .normal g w) (h : ref06_Power_p8 kn (g 0) w) : den pg ann_ref06_Power (takeS 2 code_ref06_Power) Q g w :=
  den_exQ (kr := no) (l := []) (by kernel_rfl) h hn noE trivial

def ref06_Power_p9 (R : K1) (n_0 : Value) (w : World) : Prop :=
  ref06_Power_p8 (fun n_0 x_3 w => ref06_Power_p7 R n_0 x_3 w) n_0 w
theorem ref06_Power_p9_ok (R : K1) (hr : HR rs_ref06_Power R Q) (h : ref06_Power_p9 R (g 0) w) : den pg ann_ref06_Power code_ref06_Power Q g w :=
  den_seqs 2 _ g w (by kernel_rfl) (ref06_Power_p8_ok (thenE (fun g w => den pg ann_ref06_Power (dropS 2 code_ref06_Power) Q g w) Q) g w (fun n_0 x_3 w => ref06_Power_p7 R n_0 x_3 w) (fun g w h => thenE_n (K := fun g w => den pg ann_ref06_Power (dropS 2 code_ref06_Power) Q g w) (ref06_Power_p7_ok Q g w R hr h)) h)

def ref06_Power (a0 : Value) (w : World) (R : K1) : Prop :=
  ref06_Power_p9 R a0 w
theorem ref06_Power_does {a0 : Value} {w : World} {R : K1} (h : ref06_Power a0 w R) : Does pg F_ref06_Power #[a0] w R := by
  refine does_of_den (ann := ann_ref06_Power) (fn := Try.f42) (c := code_ref06_Power) (args := [a0]) (rs := rs_ref06_Power) (N := 17) TryM.mixed (by kernel_rfl) Try.func42 (by kernel_rfl) (by kernel_rfl) (by kernel_rfl) (of_decide_eq_true (by kernel_rfl)) (by kernel_rfl) ?_
  exact (ref06_Power_p9_ok (retQ pg rs_ref06_Power R) (envOf [a0]) w R (fun _ _ h => h) h)
-- PIECES ref06_Power/0 ref06_Power_p1 ref06_Power_p3 ref06_Power_p4 ref06_Power_p5 ref06_Power_p6 ref06_Power_p7 ref06_Power_p8 ref06_Power_p9
-- PIECES ref06_Power/1 ref06_Power_p2

/- lighterman/fse.spread -/
def ann_fse_spread : FA := ⟨F_fse_spread, fun i => .leaf ([], []) []⟩
def rs_fse_spread : List ResultVar := [.tmp 2]
noncomputable def code_fse_spread : Code := bodyOf Try.f44
def fse_spread_p1 (R : K1) (out_4 : Value) (w : World) : Prop :=
  R out_4 w
theorem fse_spread_p1_ok (R : K1) (hr : HR rs_fse_spread R Q) (h : fse_spread_p1 R (g 4) w) : den pg ann_fse_spread (dropS 1 (dropS 1 (dropS 1 (dropS 4 code_fse_spread)))) Q g w :=
  den_exQ (kn := no) (l := []) (by kernel_rfl) h noE hr trivial

def fse_spread_p2 (kn : K7) (n_3 out_4 high_5 at_8 t37 t38 t39 : Value) (w : World) : Prop :=
  Stp pg (sBin .add 3 (.tmp 39) (.const (.int .i64 1)) t39 (.int .i64 1)) w fun t68 w =>
  kn n_3 out_4 high_5 at_8 t37 t38 t68 w
theorem fse_spread_p2_ok (kn : K7) (hn : ∀ g w, kn (g 3) (g 4) (g 5) (g 8) (g 37) (g 38) (g 39) w → Q .normal g w) (h : fse_spread_p2 kn (g 3) (g 4) (g 5) (g 8) (g 37) (g 38) (g 39) w) : den pg ann_fse_spread (dropS 1 (dropS 2 (bI (bI (dropS 1 (takeS 1 (dropS 1 (dropS 1 (dropS 4 code_fse_spread))))))))) Q g w :=
  den_exQ (kr := no) (l := []) (by kernel_rfl) h hn noE trivial

def fse_spread_p3 (kn : K10) (n_3 out_4 high_5 at_8 s_9 t37 t38 t39 t45 t46 : Value) (w : World) : Prop :=
  Stp pg (sBin .add 3 (.tmp 46) (.const (.int .i64 1)) t46 (.int .i64 1)) w fun t67 w =>
  kn n_3 out_4 high_5 at_8 s_9 t37 t38 t39 t45 t67 w
theorem fse_spread_p3_ok (kn : K10) (hn : ∀ g w, kn (g 3) (g 4) (g 5) (g 8) (g 9) (g 37) (g 38) (g 39) (g 45) (g 46) w → Q .normal g w) (h : fse_spread_p3 kn (g 3) (g 4) (g 5) (g 8) (g 9) (g 37) (g 38) (g 39) (g 45) (g 46) w) : den pg ann_fse_spread (dropS 1 (dropS 2 (bI (bI (dropS 2 (bI (dropS 1 (bI (takeS 1 (dropS 2 (bI (bI (dropS 1 (takeS 1 (dropS 1 (dropS 1 (dropS 4 code_fse_spread))))))))))))))))) Q g w :=
  den_exQ (kr := no) (l := []) (by kernel_rfl) h hn noE trivial

def fse_spread_p4 (kn : K10) (k5 : K10) (n_3 out_4 high_5 at_8 s_9 t37 t38 t39 t45 t46 : Value) (w : World) : Prop :=
  Stp pg (sBin .shr 3 (.tmp 55) (.const (.int .u64 1)) n_3 (.int .u64 1)) w fun t56 w =>
  Stp pg (sBin .add 3 (.tmp 54) (.tmp 56) at_8 t56) w fun t57 w =>
  Stp pg (sBin .shr 3 (.tmp 58) (.const (.int .u64 3)) n_3 (.int .u64 3)) w fun t59 w =>
  Stp pg (sBin .add 3 (.tmp 57) (.tmp 59) t57 t59) w fun t60 w =>
  Stp pg (sBin .add 3 (.tmp 60) (.const (.int .i64 3)) t60 (.int .i64 3)) w fun t61 w =>
  Stp pg (sBin .rem 3 (.tmp 61) (.tmp 62) t61 n_3) w fun t63 w =>
  Stp pg (sBin .lss 3 (.tmp 64) (.tmp 65) t63 high_5) w fun t66 w =>
  Cnd t66
    (k5 n_3 out_4 high_5 t63 s_9 t37 t38 t39 t45 t46 w)
    (kn n_3 out_4 high_5 t63 s_9 t37 t38 t39 t45 t46 w)
theorem fse_spread_p4_ok (kn : K10) (k5 : K10) (hn : ∀ g w, kn (g 3) (g 4) (g 5) (g 8) (g 9) (g 37) (g 38) (g 39) (g 45) (g 46) w → Q .normal g w) (h5 : ∀ g w, k5 (g 3) (g 4) (g 5) (g 8) (g 9) (g 37) (g 38) (g 39) (g 45) (g 46) w → Q (.exit 5) g w) (h : fse_spread_p4 kn k5 (g 3) (g 4) (g 5) (g 8) (g 9) (g 37) (g 38) (g 39) (g 45) (g 46) w) : den pg ann_fse_spread (bI (bI (dropS 1 (bI (takeS 1 (dropS 2 (bI (bI (dropS 2 (bI (dropS 1 (bI (takeS 1 (dropS 2 (bI (bI (dropS 1 (takeS 1 (dropS 1 (dropS 1 (dropS 4 code_fse_spread))))))))))))))))))))) Q g w :=
  den_exQ (kr := no) (l := [(5, fun g w => k5 (g 3) (g 4) (g 5) (g 8) (g 9) (g 37) (g 38) (g 39) (g 45) (g 46) w)]) (by kernel_rfl) h hn noE ⟨h5, trivial⟩

def fse_spread_p5 (k5 : K10) (n_3 out_4 high_5 at_8 s_9 t37 t38 t39 t45 t46 : Value) (w : World) : Prop :=
  LoopD (fun (X : Value → K0) (t : Value) (w : World) => fse_spread_p4 (fun _ _ _ at_8 _ _ _ _ _ _ w => X at_8 w) k5 n_3 out_4 high_5 t s_9 t37 t38 t39 t45 t46 w) at_8 w
theorem fse_spread_p5_ok (k5 : K10) (h5 : ∀ g w, k5 (g 3) (g 4) (g 5) (g 8) (g 9) (g 37) (g 38) (g 39) (g 45) (g 46) w → Q (.exit 5) g w) (h : fse_spread_p5 k5 (g 3) (g 4) (g 5) (g 8) (g 9) (g 37) (g 38) (g 39) (g 45) (g 46) w) : den pg ann_fse_spread (bI (dropS 1 (bI (takeS 1 (dropS 2 (bI (bI (dropS 2 (bI (dropS 1 (bI (takeS 1 (dropS 2 (bI (bI (dropS 1 (takeS 1 (dropS 1 (dropS 1 (dropS 4 code_fse_spread)))))))))))))))))))) Q g w := by
  refine den_loops (T := Value) (fun g : Env => g 8) (fun X t w => fse_spread_p4 (fun _ _ _ at_8 _ _ _ _ _ _ w => X at_8 w) k5 (g 3) (g 4) (g 5) t (g 9) (g 37) (g 38) (g 39) (g 45) (g 46) w) _ (by kernel_rfl) h (fun X g1 w1 ha h1 => ?_)
  rw [← agree_at (s := 3) ha (by kernel_rfl)] at h1
  rw [← agree_at (s := 4) ha (by kernel_rfl)] at h1
  rw [← agree_at (s := 5) ha (by kernel_rfl)] at h1
  rw [← agree_at (s := 9) ha (by kernel_rfl)] at h1
  rw [← agree_at (s := 37) ha (by kernel_rfl)] at h1
  rw [← agree_at (s := 38) ha (by kernel_rfl)] at h1
  rw [← agree_at (s := 39) ha (by kernel_rfl)] at h1
  rw [← agree_at (s := 45) ha (by kernel_rfl)] at h1
  rw [← agree_at (s := 46) ha (by kernel_rfl)] at h1
  exact (fse_spread_p4_ok (thenE (fun g2 w2 => X ((fun g : Env => g 8) g2) w2) Q) g1 w1 (fun _ _ _ at_8 _ _ _ _ _ _ w => X at_8 w) k5 (fun _ _ h => h) h5 h1)

def fse_spread_p6 (k5 : K10) (n_3 out_4 high_5 at_8 s_9 t37 t38 t39 t45 t46 : Value) (w : World) : Prop :=
  fse_spread_p5 k5 n_3 out_4 high_5 at_8 s_9 t37 t38 t39 t45 t46 w
theorem fse_spread_p6_ok (k5 : K10) (h5 : ∀ g w, k5 (g 3) (g 4) (g 5) (g 8) (g 9) (g 37) (g 38) (g 39) (g 45) (g 46) w → Q (.exit 5) g w) (h : fse_spread_p6 k5 (g 3) (g 4) (g 5) (g 8) (g 9) (g 37) (g 38) (g 39) (g 45) (g 46) w) : den pg ann_fse_spread (dropS 1 (bI (takeS 1 (dropS 2 (bI (bI (dropS 2 (bI (dropS 1 (bI (takeS 1 (dropS 2 (bI (bI (dropS 1 (takeS 1 (dropS 1 (dropS 1 (dropS 4 code_fse_spread))))))))))))))))))) Q g w :=
  den_blk 6 _ g w (by kernel_rfl) (fse_spread_p5_ok (blk 6 Q) g w k5 h5 h)

def fse_spread_p7 (kn : K10) (n_3 out_4 high_5 at_8 s_9 t37 t38 t39 t45 t46 : Value) (w : World) : Prop :=
  Stp pg (sCvt 3 5 s_9) w fun t51 w =>
  Stp pg (sIAddr 26 out_4 at_8) w fun t52 w =>
  Stp pg (sFAddr 43 t52 0) w fun t53 w =>
  Stp pg (sStore 5 t53 t51) w fun _u w =>
  kn n_3 out_4 high_5 at_8 s_9 t37 t38 t39 t45 t46 w
theorem fse_spread_p7_ok (kn : K10) (hn : ∀ g w, kn (g 3) (g 4) (g 5) (g 8) (g 9) (g 37) (g 38) (g 39) (g 45) (g 46) w → Q .normal g w) (h : fse_spread_p7 kn (g 3) (g 4) (g 5) (g 8) (g 9) (g 37) (g 38) (g 39) (g 45) (g 46) w) : den pg ann_fse_spread (takeS 1 (bI (takeS 1 (dropS 2 (bI (bI (dropS 2 (bI (dropS 1 (bI (takeS 1 (dropS 2 (bI (bI (dropS 1 (takeS 1 (dropS 1 (dropS 1 (dropS 4 code_fse_spread))))))))))))))))))) Q g w :=
  den_exQ (kr := no) (l := []) (by kernel_rfl) h hn noE trivial

def fse_spread_p8 (k5 : K10) (n_3 out_4 high_5 at_8 s_9 t37 t38 t39 t45 t46 : Value) (w : World) : Prop :=
  fse_spread_p7 (fun n_3 out_4 high_5 at_8 s_9 t37 t38 t39 t45 t46 w => fse_spread_p6 k5 n_3 out_4 high_5 at_8 s_9 t37 t38 t39 t45 t46 w) n_3 out_4 high_5 at_8 s_9 t37 t38 t39 t45 t46 w
theorem fse_spread_p8_ok (k5 : K10) (h5 : ∀ g w, k5 (g 3) (g 4) (g 5) (g 8) (g 9) (g 37) (g 38) (g 39) (g 45) (g 46) w → Q (.exit 5) g w) (h : fse_spread_p8 k5 (g 3) (g 4) (g 5) (g 8) (g 9) (g 37) (g 38) (g 39) (g 45) (g 46) w) : den pg ann_fse_spread (bI (takeS 1 (dropS 2 (bI (bI (dropS 2 (bI (dropS 1 (bI (takeS 1 (dropS 2 (bI (bI (dropS 1 (takeS 1 (dropS 1 (dropS 1 (dropS 4 code_fse_spread)))))))))))))))))) Q g w :=
  den_seqs 1 _ g w (by kernel_rfl) (fse_spread_p7_ok (thenE (fun g w => den pg ann_fse_spread (dropS 1 (bI (takeS 1 (dropS 2 (bI (bI (dropS 2 (bI (dropS 1 (bI (takeS 1 (dropS 2 (bI (bI (dropS 1 (takeS 1 (dropS 1 (dropS 1 (dropS 4 code_fse_spread))))))))))))))))))) Q g w) Q) g w (fun n_3 out_4 high_5 at_8 s_9 t37 t38 t39 t45 t46 w => fse_spread_p6 k5 n_3 out_4 high_5 at_8 s_9 t37 t38 t39 t45 t46 w) (fun g w h => thenE_n (K := fun g w => den pg ann_fse_spread (dropS 1 (bI (takeS 1 (dropS 2 (bI (bI (dropS 2 (bI (dropS 1 (bI (takeS 1 (dropS 2 (bI (bI (dropS 1 (takeS 1 (dropS 1 (dropS 1 (dropS 4 code_fse_spread))))))))))))))))))) Q g w) (fse_spread_p6_ok Q g w k5 h5 h)) h)

def fse_spread_p9 (kn : K10) (n_3 out_4 high_5 at_8 s_9 t37 t38 t39 t45 t46 : Value) (w : World) : Prop :=
  fse_spread_p8 kn n_3 out_4 high_5 at_8 s_9 t37 t38 t39 t45 t46 w
theorem fse_spread_p9_ok (kn : K10) (hn : ∀ g w, kn (g 3) (g 4) (g 5) (g 8) (g 9) (g 37) (g 38) (g 39) (g 45) (g 46) w → Q .normal g w) (h : fse_spread_p9 kn (g 3) (g 4) (g 5) (g 8) (g 9) (g 37) (g 38) (g 39) (g 45) (g 46) w) : den pg ann_fse_spread (takeS 1 (dropS 2 (bI (bI (dropS 2 (bI (dropS 1 (bI (takeS 1 (dropS 2 (bI (bI (dropS 1 (takeS 1 (dropS 1 (dropS 1 (dropS 4 code_fse_spread))))))))))))))))) Q g w :=
  den_blk 5 _ g w (by kernel_rfl) (fse_spread_p8_ok (blk 5 Q) g w kn hn h)

def fse_spread_p10 (kn : K10) (n_3 out_4 high_5 at_8 s_9 t37 t38 t39 t45 t46 : Value) (w : World) : Prop :=
  fse_spread_p9 (fun n_3 out_4 high_5 at_8 s_9 t37 t38 t39 t45 t46 w => fse_spread_p3 kn n_3 out_4 high_5 at_8 s_9 t37 t38 t39 t45 t46 w) n_3 out_4 high_5 at_8 s_9 t37 t38 t39 t45 t46 w
theorem fse_spread_p10_ok (kn : K10) (hn : ∀ g w, kn (g 3) (g 4) (g 5) (g 8) (g 9) (g 37) (g 38) (g 39) (g 45) (g 46) w → Q .normal g w) (h : fse_spread_p10 kn (g 3) (g 4) (g 5) (g 8) (g 9) (g 37) (g 38) (g 39) (g 45) (g 46) w) : den pg ann_fse_spread (dropS 2 (bI (bI (dropS 2 (bI (dropS 1 (bI (takeS 1 (dropS 2 (bI (bI (dropS 1 (takeS 1 (dropS 1 (dropS 1 (dropS 4 code_fse_spread)))))))))))))))) Q g w :=
  den_seqs 1 _ g w (by kernel_rfl) (fse_spread_p9_ok (thenE (fun g w => den pg ann_fse_spread (dropS 1 (dropS 2 (bI (bI (dropS 2 (bI (dropS 1 (bI (takeS 1 (dropS 2 (bI (bI (dropS 1 (takeS 1 (dropS 1 (dropS 1 (dropS 4 code_fse_spread))))))))))))))))) Q g w) Q) g w (fun n_3 out_4 high_5 at_8 s_9 t37 t38 t39 t45 t46 w => fse_spread_p3 kn n_3 out_4 high_5 at_8 s_9 t37 t38 t39 t45 t46 w) (fun g w h => thenE_n (K := fun g w => den pg ann_fse_spread (dropS 1 (dropS 2 (bI (bI (dropS 2 (bI (dropS 1 (bI (takeS 1 (dropS 2 (bI (bI (dropS 1 (takeS 1 (dropS 1 (dropS 1 (dropS 4 code_fse_spread))))))))))))))))) Q g w) (fse_spread_p3_ok Q g w kn hn h)) h)

def fse_spread_p11 (kn : K10) (k4 : K7) (n_3 out_4 high_5 at_8 s_9 t37 t38 t39 t45 t46 : Value) (w : World) : Prop :=
  Stp pg (sBin .lss 3 (.tmp 46) (.tmp 45) t46 t45) w fun t47 w =>
  Cnd t47
    (kn n_3 out_4 high_5 at_8 s_9 t37 t38 t39 t45 t46 w)
    (k4 n_3 out_4 high_5 at_8 t37 t38 t39 w)
theorem fse_spread_p11_ok (kn : K10) (k4 : K7) (hn : ∀ g w, kn (g 3) (g 4) (g 5) (g 8) (g 9) (g 37) (g 38) (g 39) (g 45) (g 46) w → Q .normal g w) (h4 : ∀ g w, k4 (g 3) (g 4) (g 5) (g 8) (g 37) (g 38) (g 39) w → Q (.exit 4) g w) (h : fse_spread_p11 kn k4 (g 3) (g 4) (g 5) (g 8) (g 9) (g 37) (g 38) (g 39) (g 45) (g 46) w) : den pg ann_fse_spread (takeS 2 (bI (bI (dropS 2 (bI (dropS 1 (bI (takeS 1 (dropS 2 (bI (bI (dropS 1 (takeS 1 (dropS 1 (dropS 1 (dropS 4 code_fse_spread)))))))))))))))) Q g w :=
  den_exQ (kr := no) (l := [(4, fun g w => k4 (g 3) (g 4) (g 5) (g 8) (g 37) (g 38) (g 39) w)]) (by kernel_rfl) h hn noE ⟨h4, trivial⟩

def fse_spread_p12 (kn : K10) (k4 : K7) (n_3 out_4 high_5 at_8 s_9 t37 t38 t39 t45 t46 : Value) (w : World) : Prop :=
  fse_spread_p11 (fun n_3 out_4 high_5 at_8 s_9 t37 t38 t39 t45 t46 w => fse_spread_p10 kn n_3 out_4 high_5 at_8 s_9 t37 t38 t39 t45 t46 w) k4 n_3 out_4 high_5 at_8 s_9 t37 t38 t39 t45 t46 w
theorem fse_spread_p12_ok (kn : K10) (k4 : K7) (hn : ∀ g w, kn (g 3) (g 4) (g 5) (g 8) (g 9) (g 37) (g 38) (g 39) (g 45) (g 46) w → Q .normal g w) (h4 : ∀ g w, k4 (g 3) (g 4) (g 5) (g 8) (g 37) (g 38) (g 39) w → Q (.exit 4) g w) (h : fse_spread_p12 kn k4 (g 3) (g 4) (g 5) (g 8) (g 9) (g 37) (g 38) (g 39) (g 45) (g 46) w) : den pg ann_fse_spread (bI (bI (dropS 2 (bI (dropS 1 (bI (takeS 1 (dropS 2 (bI (bI (dropS 1 (takeS 1 (dropS 1 (dropS 1 (dropS 4 code_fse_spread))))))))))))))) Q g w :=
  den_seqs 2 _ g w (by kernel_rfl) (fse_spread_p11_ok (thenE (fun g w => den pg ann_fse_spread (dropS 2 (bI (bI (dropS 2 (bI (dropS 1 (bI (takeS 1 (dropS 2 (bI (bI (dropS 1 (takeS 1 (dropS 1 (dropS 1 (dropS 4 code_fse_spread)))))))))))))))) Q g w) Q) g w (fun n_3 out_4 high_5 at_8 s_9 t37 t38 t39 t45 t46 w => fse_spread_p10 kn n_3 out_4 high_5 at_8 s_9 t37 t38 t39 t45 t46 w) k4 (fun g w h => thenE_n (K := fun g w => den pg ann_fse_spread (dropS 2 (bI (bI (dropS 2 (bI (dropS 1 (bI (takeS 1 (dropS 2 (bI (bI (dropS 1 (takeS 1 (dropS 1 (dropS 1 (dropS 4 code_fse_spread)))))))))))))))) Q g w) (fse_spread_p10_ok Q g w kn hn h)) h4 h)

def fse_spread_p13 (k4 : K7) (n_3 out_4 high_5 at_8 s_9 t37 t38 t39 t45 t46 : Value) (w : World) : Prop :=
  LoopD (fun (X : (Value × Value) → K0) (t : Value × Value) (w : World) => fse_spread_p12 (fun _ _ _ at_8 _ _ _ _ _ t46 w => X (at_8, t46) w) k4 n_3 out_4 high_5 t.1 s_9 t37 t38 t39 t45 t.2 w) (at_8, t46) w
theorem fse_spread_p13_ok (k4 : K7) (h4 : ∀ g w, k4 (g 3) (g 4) (g 5) (g 8) (g 37) (g 38) (g 39) w → Q (.exit 4) g w) (h : fse_spread_p13 k4 (g 3) (g 4) (g 5) (g 8) (g 9) (g 37) (g 38) (g 39) (g 45) (g 46) w) : den pg ann_fse_spread (bI (dropS 2 (bI (dropS 1 (bI (takeS 1 (dropS 2 (bI (bI (dropS 1 (takeS 1 (dropS 1 (dropS 1 (dropS 4 code_fse_spread)))))))))))))) Q g w := by
  refine den_loops (T := Value × Value) (fun g : Env => (g 8, g 46)) (fun X t w => fse_spread_p12 (fun _ _ _ at_8 _ _ _ _ _ t46 w => X (at_8, t46) w) k4 (g 3) (g 4) (g 5) t.1 (g 9) (g 37) (g 38) (g 39) (g 45) t.2 w) _ (by kernel_rfl) h (fun X g1 w1 ha h1 => ?_)
  rw [← agree_at (s := 3) ha (by kernel_rfl)] at h1
  rw [← agree_at (s := 4) ha (by kernel_rfl)] at h1
  rw [← agree_at (s := 5) ha (by kernel_rfl)] at h1
  rw [← agree_at (s := 9) ha (by kernel_rfl)] at h1
  rw [← agree_at (s := 37) ha (by kernel_rfl)] at h1
  rw [← agree_at (s := 38) ha (by kernel_rfl)] at h1
  rw [← agree_at (s := 39) ha (by kernel_rfl)] at h1
  rw [← agree_at (s := 45) ha (by kernel_rfl)] at h1
  exact (fse_spread_p12_ok (thenE (fun g2 w2 => X ((fun g : Env => (g 8, g 46)) g2) w2) Q) g1 w1 (fun _ _ _ at_8 _ _ _ _ _ t46 w => X (at_8, t46) w) k4 (fun _ _ h => h) h4 h1)

def fse_spread_p14 (kn : K7) (n_3 out_4 high_5 at_8 s_9 t37 t38 t39 t45 t46 : Value) (w : World) : Prop :=
  fse_spread_p13 kn n_3 out_4 high_5 at_8 s_9 t37 t38 t39 t45 t46 w
theorem fse_spread_p14_ok (kn : K7) (hn : ∀ g w, kn (g 3) (g 4) (g 5) (g 8) (g 37) (g 38) (g 39) w → Q .normal g w) (h : fse_spread_p14 kn (g 3) (g 4) (g 5) (g 8) (g 9) (g 37) (g 38) (g 39) (g 45) (g 46) w) : den pg ann_fse_spread (dropS 2 (bI (dropS 1 (bI (takeS 1 (dropS 2 (bI (bI (dropS 1 (takeS 1 (dropS 1 (dropS 1 (dropS 4 code_fse_spread))))))))))))) Q g w :=
  den_blk 4 _ g w (by kernel_rfl) (fse_spread_p13_ok (blk 4 Q) g w kn hn h)

def fse_spread_p15 (kn : K10) (n_3 out_4 high_5 at_8 s_9 p_10 t37 t38 t39 : Value) (w : World) : Prop :=
  Stp pg (sBi .max #[3, 3] 3 [p_10, (.int .i64 0)]) w fun t45 w =>
  kn n_3 out_4 high_5 at_8 s_9 t37 t38 t39 t45 (.int .i64 0) w
theorem fse_spread_p15_ok (kn : K10) (hn : ∀ g w, kn (g 3) (g 4) (g 5) (g 8) (g 9) (g 37) (g 38) (g 39) (g 45) (g 46) w → Q .normal g w) (h : fse_spread_p15 kn (g 3) (g 4) (g 5) (g 8) (g 9) (g 10) (g 37) (g 38) (g 39) w) : den pg ann_fse_spread (takeS 2 (bI (dropS 1 (bI (takeS 1 (dropS 2 (bI (bI (dropS 1 (takeS 1 (dropS 1 (dropS 1 (dropS 4 code_fse_spread))))))))))))) Q g w :=
  den_exQ (kr := no) (l := []) (by kernel_rfl) h hn noE trivial

def fse_spread_p16 (kn : K7) (n_3 out_4 high_5 at_8 s_9 p_10 t37 t38 t39 : Value) (w : World) : Prop :=
  fse_spread_p15 (fun n_3 out_4 high_5 at_8 s_9 t37 t38 t39 t45 t46 w => fse_spread_p14 kn n_3 out_4 high_5 at_8 s_9 t37 t38 t39 t45 t46 w) n_3 out_4 high_5 at_8 s_9 p_10 t37 t38 t39 w
theorem fse_spread_p16_ok (kn : K7) (hn : ∀ g w, kn (g 3) (g 4) (g 5) (g 8) (g 37) (g 38) (g 39) w → Q .normal g w) (h : fse_spread_p16 kn (g 3) (g 4) (g 5) (g 8) (g 9) (g 10) (g 37) (g 38) (g 39) w) : den pg ann_fse_spread (bI (dropS 1 (bI (takeS 1 (dropS 2 (bI (bI (dropS 1 (takeS 1 (dropS 1 (dropS 1 (dropS 4 code_fse_spread)))))))))))) Q g w :=
  den_seqs 2 _ g w (by kernel_rfl) (fse_spread_p15_ok (thenE (fun g w => den pg ann_fse_spread (dropS 2 (bI (dropS 1 (bI (takeS 1 (dropS 2 (bI (bI (dropS 1 (takeS 1 (dropS 1 (dropS 1 (dropS 4 code_fse_spread))))))))))))) Q g w) Q) g w (fun n_3 out_4 high_5 at_8 s_9 t37 t38 t39 t45 t46 w => fse_spread_p14 kn n_3 out_4 high_5 at_8 s_9 t37 t38 t39 t45 t46 w) (fun g w h => thenE_n (K := fun g w => den pg ann_fse_spread (dropS 2 (bI (dropS 1 (bI (takeS 1 (dropS 2 (bI (bI (dropS 1 (takeS 1 (dropS 1 (dropS 1 (dropS 4 code_fse_spread))))))))))))) Q g w) (fse_spread_p14_ok Q g w kn hn h)) h)

def fse_spread_p17 (kn : K7) (n_3 out_4 high_5 at_8 s_9 p_10 t37 t38 t39 : Value) (w : World) : Prop :=
  fse_spread_p16 kn n_3 out_4 high_5 at_8 s_9 p_10 t37 t38 t39 w
theorem fse_spread_p17_ok (kn : K7) (hn : ∀ g w, kn (g 3) (g 4) (g 5) (g 8) (g 37) (g 38) (g 39) w → Q .normal g w) (h : fse_spread_p17 kn (g 3) (g 4) (g 5) (g 8) (g 9) (g 10) (g 37) (g 38) (g 39) w) : den pg ann_fse_spread (dropS 1 (bI (takeS 1 (dropS 2 (bI (bI (dropS 1 (takeS 1 (dropS 1 (dropS 1 (dropS 4 code_fse_spread))))))))))) Q g w :=
  den_scp _ g w (by kernel_rfl) (fse_spread_p16_ok Q g w kn hn h)

def fse_spread_p18 (kn : K9) (n_3 out_4 high_5 at_8 t37 t38 t39 : Value) (w : World) : Prop :=
  Stp pg (sIAddr 22 t37 t39) w fun t42 w =>
  Stp pg (sLoad 3 t42) w fun t43 w =>
  kn n_3 out_4 high_5 at_8 t39 t43 t37 t38 t39 w
theorem fse_spread_p18_ok (kn : K9) (hn : ∀ g w, kn (g 3) (g 4) (g 5) (g 8) (g 9) (g 10) (g 37) (g 38) (g 39) w → Q .normal g w) (h : fse_spread_p18 kn (g 3) (g 4) (g 5) (g 8) (g 37) (g 38) (g 39) w) : den pg ann_fse_spread (takeS 1 (bI (takeS 1 (dropS 2 (bI (bI (dropS 1 (takeS 1 (dropS 1 (dropS 1 (dropS 4 code_fse_spread))))))))))) Q g w :=
  den_exQ (kr := no) (l := []) (by kernel_rfl) h hn noE trivial

def fse_spread_p19 (kn : K7) (n_3 out_4 high_5 at_8 t37 t38 t39 : Value) (w : World) : Prop :=
  fse_spread_p18 (fun n_3 out_4 high_5 at_8 s_9 p_10 t37 t38 t39 w => fse_spread_p17 kn n_3 out_4 high_5 at_8 s_9 p_10 t37 t38 t39 w) n_3 out_4 high_5 at_8 t37 t38 t39 w
theorem fse_spread_p19_ok (kn : K7) (hn : ∀ g w, kn (g 3) (g 4) (g 5) (g 8) (g 37) (g 38) (g 39) w → Q .normal g w) (h : fse_spread_p19 kn (g 3) (g 4) (g 5) (g 8) (g 37) (g 38) (g 39) w) : den pg ann_fse_spread (bI (takeS 1 (dropS 2 (bI (bI (dropS 1 (takeS 1 (dropS 1 (dropS 1 (dropS 4 code_fse_spread)))))))))) Q g w :=
  den_seqs 1 _ g w (by kernel_rfl) (fse_spread_p18_ok (thenE (fun g w => den pg ann_fse_spread (dropS 1 (bI (takeS 1 (dropS 2 (bI (bI (dropS 1 (takeS 1 (dropS 1 (dropS 1 (dropS 4 code_fse_spread))))))))))) Q g w) Q) g w (fun n_3 out_4 high_5 at_8 s_9 p_10 t37 t38 t39 w => fse_spread_p17 kn n_3 out_4 high_5 at_8 s_9 p_10 t37 t38 t39 w) (fun g w h => thenE_n (K := fun g w => den pg ann_fse_spread (dropS 1 (bI (takeS 1 (dropS 2 (bI (bI (dropS 1 (takeS 1 (dropS 1 (dropS 1 (dropS 4 code_fse_spread))))))))))) Q g w) (fse_spread_p17_ok Q g w kn hn h)) h)

def fse_spread_p20 (kn : K7) (n_3 out_4 high_5 at_8 t37 t38 t39 : Value) (w : World) : Prop :=
  fse_spread_p19 kn n_3 out_4 high_5 at_8 t37 t38 t39 w
theorem fse_spread_p20_ok (kn : K7) (hn : ∀ g w, kn (g 3) (g 4) (g 5) (g 8) (g 37) (g 38) (g 39) w → Q .normal g w) (h : fse_spread_p20 kn (g 3) (g 4) (g 5) (g 8) (g 37) (g 38) (g 39) w) : den pg ann_fse_spread (takeS 1 (dropS 2 (bI (bI (dropS 1 (takeS 1 (dropS 1 (dropS 1 (dropS 4 code_fse_spread))))))))) Q g w :=
  den_blk 3 _ g w (by kernel_rfl) (fse_spread_p19_ok (blk 3 Q) g w kn hn h)

def fse_spread_p21 (kn : K7) (n_3 out_4 high_5 at_8 t37 t38 t39 : Value) (w : World) : Prop :=
  fse_spread_p20 (fun n_3 out_4 high_5 at_8 t37 t38 t39 w => fse_spread_p2 kn n_3 out_4 high_5 at_8 t37 t38 t39 w) n_3 out_4 high_5 at_8 t37 t38 t39 w
theorem fse_spread_p21_ok (kn : K7) (hn : ∀ g w, kn (g 3) (g 4) (g 5) (g 8) (g 37) (g 38) (g 39) w → Q .normal g w) (h : fse_spread_p21 kn (g 3) (g 4) (g 5) (g 8) (g 37) (g 38) (g 39) w) : den pg ann_fse_spread (dropS 2 (bI (bI (dropS 1 (takeS 1 (dropS 1 (dropS 1 (dropS 4 code_fse_spread)))))))) Q g w :=
  den_seqs 1 _ g w (by kernel_rfl) (fse_spread_p20_ok (thenE (fun g w => den pg ann_fse_spread (dropS 1 (dropS 2 (bI (bI (dropS 1 (takeS 1 (dropS 1 (dropS 1 (dropS 4 code_fse_spread))))))))) Q g w) Q) g w (fun n_3 out_4 high_5 at_8 t37 t38 t39 w => fse_spread_p2 kn n_3 out_4 high_5 at_8 t37 t38 t39 w) (fun g w h => thenE_n (K := fun g w => den pg ann_fse_spread (dropS 1 (dropS 2 (bI (bI (dropS 1 (takeS 1 (dropS 1 (dropS 1 (dropS 4 code_fse_spread))))))))) Q g w) (fse_spread_p2_ok Q g w kn hn h)) h)

def fse_spread_p22 (kn : K7) (k2 : K1) (n_3 out_4 high_5 at_8 t37 t38 t39 : Value) (w : World) : Prop :=
  Stp pg (sBin .lss 3 (.tmp 39) (.tmp 38) t39 t38) w fun t40 w =>
  Cnd t40
    (kn n_3 out_4 high_5 at_8 t37 t38 t39 w)
    (k2 out_4 w)
theorem fse_spread_p22_ok (kn : K7) (k2 : K1) (hn : ∀ g w, kn (g 3) (g 4) (g 5) (g 8) (g 37) (g 38) (g 39) w → Q .normal g w) (h2 : ∀ g w, k2 (g 4) w → Q (.exit 2) g w) (h : fse_spread_p22 kn k2 (g 3) (g 4) (g 5) (g 8) (g 37) (g 38) (g 39) w) : den pg ann_fse_spread (takeS 2 (bI (bI (dropS 1 (takeS 1 (dropS 1 (dropS 1 (dropS 4 code_fse_spread)))))))) Q g w :=
  den_exQ (kr := no) (l := [(2, fun g w => k2 (g 4) w)]) (by kernel_rfl) h hn noE ⟨h2, trivial⟩

def fse_spread_p23 (kn : K7) (k2 : K1) (n_3 out_4 high_5 at_8 t37 t38 t39 : Value) (w : World) : Prop :=
  fse_spread_p22 (fun n_3 out_4 high_5 at_8 t37 t38 t39 w => fse_spread_p21 kn n_3 out_4 high_5 at_8 t37 t38 t39 w) k2 n_3 out_4 high_5 at_8 t37 t38 t39 w
theorem fse_spread_p23_ok (kn : K7) (k2 : K1) (hn : ∀ g w, kn (g 3) (g 4) (g 5) (g 8) (g 37) (g 38) (g 39) w → Q .normal g w) (h2 : ∀ g w, k2 (g 4) w → Q (.exit 2) g w) (h : fse_spread_p23 kn k2 (g 3) (g 4) (g 5) (g 8) (g 37) (g 38) (g 39) w) : den pg ann_fse_spread (bI (bI (dropS 1 (takeS 1 (dropS 1 (dropS 1 (dropS 4 code_fse_spread))))))) Q g w :=
  den_seqs 2 _ g w (by kernel_rfl) (fse_spread_p22_ok (thenE (fun g w => den pg ann_fse_spread (dropS 2 (bI (bI (dropS 1 (takeS 1 (dropS 1 (dropS 1 (dropS 4 code_fse_spread)))))))) Q g w) Q) g w (fun n_3 out_4 high_5 at_8 t37 t38 t39 w => fse_spread_p21 kn n_3 out_4 high_5 at_8 t37 t38 t39 w) k2 (fun g w h => thenE_n (K := fun g w => den pg ann_fse_spread (dropS 2 (bI (bI (dropS 1 (takeS 1 (dropS 1 (dropS 1 (dropS 4 code_fse_spread)))))))) Q g w) (fse_spread_p21_ok Q g w kn hn h)) h2 h)

def fse_spread_p24 (k2 : K1) (n_3 out_4 high_5 at_8 t37 t38 t39 : Value) (w : World) : Prop :=
  LoopD (fun (X : (Value × Value) → K0) (t : Value × Value) (w : World) => fse_spread_p23 (fun _ _ _ at_8 _ _ t39 w => X (at_8, t39) w) k2 n_3 out_4 high_5 t.1 t37 t38 t.2 w) (at_8, t39) w
theorem fse_spread_p24_ok (k2 : K1) (h2 : ∀ g w, k2 (g 4) w → Q (.exit 2) g w) (h : fse_spread_p24 k2 (g 3) (g 4) (g 5) (g 8) (g 37) (g 38) (g 39) w) : den pg ann_fse_spread (bI (dropS 1 (takeS 1 (dropS 1 (dropS 1 (dropS 4 code_fse_spread)))))) Q g w := by
  refine den_loops (T := Value × Value) (fun g : Env => (g 8, g 39)) (fun X t w => fse_spread_p23 (fun _ _ _ at_8 _ _ t39 w => X (at_8, t39) w) k2 (g 3) (g 4) (g 5) t.1 (g 37) (g 38) t.2 w) _ (by kernel_rfl) h (fun X g1 w1 ha h1 => ?_)
  rw [← agree_at (s := 3) ha (by kernel_rfl)] at h1
  rw [← agree_at (s := 4) ha (by kernel_rfl)] at h1
  rw [← agree_at (s := 5) ha (by kernel_rfl)] at h1
  rw [← agree_at (s := 37) ha (by kernel_rfl)] at h1
  rw [← agree_at (s := 38) ha (by kernel_rfl)] at h1
  exact (fse_spread_p23_ok (thenE (fun g2 w2 => X ((fun g : Env => (g 8, g 39)) g2) w2) Q) g1 w1 (fun _ _ _ at_8 _ _ t39 w => X (at_8, t39) w) k2 (fun _ _ h => h) h2 h1)

def fse_spread_p25 (kn : K1) (n_3 out_4 high_5 at_8 t37 t38 t39 : Value) (w : World) : Prop :=
  fse_spread_p24 kn n_3 out_4 high_5 at_8 t37 t38 t39 w
theorem fse_spread_p25_ok (kn : K1) (hn : ∀ g w, kn (g 4) w → Q .normal g w) (h : fse_spread_p25 kn (g 3) (g 4) (g 5) (g 8) (g 37) (g 38) (g 39) w) : den pg ann_fse_spread (dropS 1 (takeS 1 (dropS 1 (dropS 1 (dropS 4 code_fse_spread))))) Q g w :=
  den_blk 2 _ g w (by kernel_rfl) (fse_spread_p24_ok (blk 2 Q) g w kn hn h)

def fse_spread_p26 (kn : K7) (c_1 n_3 out_4 high_5 at_8 : Value) (w : World) : Prop :=
  Stp pg (sFAddr 24 c_1 1) w fun t36 w =>
  Stp pg (sLoad 22 t36) w fun t37 w =>
  Stp pg (sBi .len #[22] 3 [t37]) w fun t38 w =>
  kn n_3 out_4 high_5 at_8 t37 t38 (.int .i64 0) w
theorem fse_spread_p26_ok (kn : K7) (hn : ∀ g w, kn (g 3) (g 4) (g 5) (g 8) (g 37) (g 38) (g 39) w → Q .normal g w) (h : fse_spread_p26 kn (g 1) (g 3) (g 4) (g 5) (g 8) w) : den pg ann_fse_spread (takeS 1 (takeS 1 (dropS 1 (dropS 1 (dropS 4 code_fse_spread))))) Q g w :=
  den_exQ (kr := no) (l := []) (by kernel_rfl) h hn noE trivial

def fse_spread_p27 (kn : K1) (c_1 n_3 out_4 high_5 at_8 : Value) (w : World) : Prop :=
  fse_spread_p26 (fun n_3 out_4 high_5 at_8 t37 t38 t39 w => fse_spread_p25 kn n_3 out_4 high_5 at_8 t37 t38 t39 w) c_1 n_3 out_4 high_5 at_8 w
theorem fse_spread_p27_ok (kn : K1) (hn : ∀ g w, kn (g 4) w → Q .normal g w) (h : fse_spread_p27 kn (g 1) (g 3) (g 4) (g 5) (g 8) w) : den pg ann_fse_spread (takeS 1 (dropS 1 (dropS 1 (dropS 4 code_fse_spread)))) Q g w :=
  den_seqs 1 _ g w (by kernel_rfl) (fse_spread_p26_ok (thenE (fun g w => den pg ann_fse_spread (dropS 1 (takeS 1 (dropS 1 (dropS 1 (dropS 4 code_fse_spread))))) Q g w) Q) g w (fun n_3 out_4 high_5 at_8 t37 t38 t39 w => fse_spread_p25 kn n_3 out_4 high_5 at_8 t37 t38 t39 w) (fun g w h => thenE_n (K := fun g w => den pg ann_fse_spread (dropS 1 (takeS 1 (dropS 1 (dropS 1 (dropS 4 code_fse_spread))))) Q g w) (fse_spread_p25_ok Q g w kn hn h)) h)

def fse_spread_p28 (R : K1) (c_1 n_3 out_4 high_5 at_8 : Value) (w : World) : Prop :=
  fse_spread_p27 (fun out_4 w => fse_spread_p1 R out_4 w) c_1 n_3 out_4 high_5 at_8 w
theorem fse_spread_p28_ok (R : K1) (hr : HR rs_fse_spread R Q) (h : fse_spread_p28 R (g 1) (g 3) (g 4) (g 5) (g 8) w) : den pg ann_fse_spread (dropS 1 (dropS 1 (dropS 4 code_fse_spread))) Q g w :=
  den_seqs 1 _ g w (by kernel_rfl) (fse_spread_p27_ok (thenE (fun g w => den pg ann_fse_spread (dropS 1 (dropS 1 (dropS 1 (dropS 4 code_fse_spread)))) Q g w) Q) g w (fun out_4 w => fse_spread_p1 R out_4 w) (fun g w h => thenE_n (K := fun g w => den pg ann_fse_spread (dropS 1 (dropS 1 (dropS 1 (dropS 4 code_fse_spread)))) Q g w) (fse_spread_p1_ok Q g w R hr h)) h)

def fse_spread_p29 (kn : K5) (c_1 n_3 out_4 high_5 : Value) (w : World) : Prop :=
  kn c_1 n_3 out_4 high_5 (.int .i64 0) w
theorem fse_spread_p29_ok (kn : K5) (hn : ∀ g w, kn (g 1) (g 3) (g 4) (g 5) (g 8) w → Q .normal g w) (h : fse_spread_p29 kn (g 1) (g 3) (g 4) (g 5) w) : den pg ann_fse_spread (takeS 1 (dropS 1 (dropS 4 code_fse_spread))) Q g w :=
  den_exQ (kr := no) (l := []) (by kernel_rfl) h hn noE trivial

def fse_spread_p30 (R : K1) (c_1 n_3 out_4 high_5 : Value) (w : World) : Prop :=
  fse_spread_p29 (fun c_1 n_3 out_4 high_5 at_8 w => fse_spread_p28 R c_1 n_3 out_4 high_5 at_8 w) c_1 n_3 out_4 high_5 w
theorem fse_spread_p30_ok (R : K1) (hr : HR rs_fse_spread R Q) (h : fse_spread_p30 R (g 1) (g 3) (g 4) (g 5) w) : den pg ann_fse_spread (dropS 1 (dropS 4 code_fse_spread)) Q g w :=
  den_seqs 1 _ g w (by kernel_rfl) (fse_spread_p29_ok (thenE (fun g w => den pg ann_fse_spread (dropS 1 (dropS 1 (dropS 4 code_fse_spread))) Q g w) Q) g w (fun c_1 n_3 out_4 high_5 at_8 w => fse_spread_p28 R c_1 n_3 out_4 high_5 at_8 w) (fun g w h => thenE_n (K := fun g w => den pg ann_fse_spread (dropS 1 (dropS 1 (dropS 4 code_fse_spread))) Q g w) (fse_spread_p28_ok Q g w R hr h)) h)

def fse_spread_p31 (kn : K7) (c_1 n_3 out_4 high_5 t18 t19 t20 : Value) (w : World) : Prop :=
  Stp pg (sBin .add 3 (.tmp 20) (.const (.int .i64 1)) t20 (.int .i64 1)) w fun t35 w =>
  kn c_1 n_3 out_4 high_5 t18 t19 t35 w
theorem fse_spread_p31_ok (kn : K7) (hn : ∀ g w, kn (g 1) (g 3) (g 4) (g 5) (g 18) (g 19) (g 20) w → Q .normal g w) (h : fse_spread_p31 kn (g 1) (g 3) (g 4) (g 5) (g 18) (g 19) (g 20) w) : den pg ann_fse_spread (dropS 3 (bI (bI (dropS 1 (takeS 1 (dropS 4 code_fse_spread)))))) Q g w :=
  den_exQ (kr := no) (l := []) (by kernel_rfl) h hn noE trivial

def fse_spread_p32 (kn : K7) (k0 : K4) (c_1 n_3 out_4 high_5 t18 t19 t20 : Value) (w : World) : Prop :=
  Stp pg (sBin .lss 3 (.tmp 20) (.tmp 19) t20 t19) w fun t21 w =>
  Cnd t21
    (Stp pg (sIAddr 22 t18 t20) w fun t23 w =>
    Stp pg (sLoad 3 t23) w fun t24 w =>
    Stp pg (sBin .eql 3 (.tmp 25) (.const (.int .i64 (-1))) t24 (.int .i64 (-1))) w fun t26 w =>
    Cnd t26
      (Stp pg (sBin .sub 3 (.tmp 27) (.const (.int .i64 1)) high_5 (.int .i64 1)) w fun t28 w =>
      Stp pg (sCvt 3 5 t20) w fun t32 w =>
      Stp pg (sIAddr 26 out_4 t28) w fun t33 w =>
      Stp pg (sFAddr 43 t33 0) w fun t34 w =>
      Stp pg (sStore 5 t34 t32) w fun _u w =>
      kn c_1 n_3 out_4 t28 t18 t19 t20 w)
      (kn c_1 n_3 out_4 high_5 t18 t19 t20 w))
    (k0 c_1 n_3 out_4 high_5 w)
theorem fse_spread_p32_ok (kn : K7) (k0 : K4) (hn : ∀ g w, kn (g 1) (g 3) (g 4) (g 5) (g 18) (g 19) (g 20) w → Q .normal g w) (h0 : ∀ g w, k0 (g 1) (g 3) (g 4) (g 5) w → Q (.exit 0) g w) (h : fse_spread_p32 kn k0 (g 1) (g 3) (g 4) (g 5) (g 18) (g 19) (g 20) w) : den pg ann_fse_spread (takeS 3 (bI (bI (dropS 1 (takeS 1 (dropS 4 code_fse_spread)))))) Q g w :=
  den_exQ (kr := no) (l := [(0, fun g w => k0 (g 1) (g 3) (g 4) (g 5) w)]) (by kernel_rfl) h hn noE ⟨h0, trivial⟩

def fse_spread_p33 (kn : K7) (k0 : K4) (c_1 n_3 out_4 high_5 t18 t19 t20 : Value) (w : World) : Prop :=
  fse_spread_p32 (fun c_1 n_3 out_4 high_5 t18 t19 t20 w => fse_spread_p31 kn c_1 n_3 out_4 high_5 t18 t19 t20 w) k0 c_1 n_3 out_4 high_5 t18 t19 t20 w
theorem fse_spread_p33_ok (kn : K7) (k0 : K4) (hn : ∀ g w, kn (g 1) (g 3) (g 4) (g 5) (g 18) (g 19) (g 20) w → Q .normal g w) (h0 : ∀ g w, k0 (g 1) (g 3) (g 4) (g 5) w → Q (.exit 0) g w) (h : fse_spread_p33 kn k0 (g 1) (g 3) (g 4) (g 5) (g 18) (g 19) (g 20) w) : den pg ann_fse_spread (bI (bI (dropS 1 (takeS 1 (dropS 4 code_fse_spread))))) Q g w :=
  den_seqs 3 _ g w (by kernel_rfl) (fse_spread_p32_ok (thenE (fun g w => den pg ann_fse_spread (dropS 3 (bI (bI (dropS 1 (takeS 1 (dropS 4 code_fse_spread)))))) Q g w) Q) g w (fun c_1 n_3 out_4 high_5 t18 t19 t20 w => fse_spread_p31 kn c_1 n_3 out_4 high_5 t18 t19 t20 w) k0 (fun g w h => thenE_n (K := fun g w => den pg ann_fse_spread (dropS 3 (bI (bI (dropS 1 (takeS 1 (dropS 4 code_fse_spread)))))) Q g w) (fse_spread_p31_ok Q g w kn hn h)) h0 h)

def fse_spread_p34 (k0 : K4) (c_1 n_3 out_4 high_5 t18 t19 t20 : Value) (w : World) : Prop :=
  LoopD (fun (X : (Value × Value) → K0) (t : Value × Value) (w : World) => fse_spread_p33 (fun _ _ _ high_5 _ _ t20 w => X (high_5, t20) w) k0 c_1 n_3 out_4 t.1 t18 t19 t.2 w) (high_5, t20) w
theorem fse_spread_p34_ok (k0 : K4) (h0 : ∀ g w, k0 (g 1) (g 3) (g 4) (g 5) w → Q (.exit 0) g w) (h : fse_spread_p34 k0 (g 1) (g 3) (g 4) (g 5) (g 18) (g 19) (g 20) w) : den pg ann_fse_spread (bI (dropS 1 (takeS 1 (dropS 4 code_fse_spread)))) Q g w := by
  refine den_loops (T := Value × Value) (fun g : Env => (g 5, g 20)) (fun X t w => fse_spread_p33 (fun _ _ _ high_5 _ _ t20 w => X (high_5, t20) w) k0 (g 1) (g 3) (g 4) t.1 (g 18) (g 19) t.2 w) _ (by kernel_rfl) h (fun X g1 w1 ha h1 => ?_)
  rw [← agree_at (s := 1) ha (by kernel_rfl)] at h1
  rw [← agree_at (s := 3) ha (by kernel_rfl)] at h1
  rw [← agree_at (s := 4) ha (by kernel_rfl)] at h1
  rw [← agree_at (s := 18) ha (by kernel_rfl)] at h1
  rw [← agree_at (s := 19) ha (by kernel_rfl)] at h1
  exact (fse_spread_p33_ok (thenE (fun g2 w2 => X ((fun g : Env => (g 5, g 20)) g2) w2) Q) g1 w1 (fun _ _ _ high_5 _ _ t20 w => X (high_5, t20) w) k0 (fun _ _ h => h) h0 h1)

def fse_spread_p35 (kn : K4) (c_1 n_3 out_4 high_5 t18 t19 t20 : Value) (w : World) : Prop :=
  fse_spread_p34 kn c_1 n_3 out_4 high_5 t18 t19 t20 w
theorem fse_spread_p35_ok (kn : K4) (hn : ∀ g w, kn (g 1) (g 3) (g 4) (g 5) w → Q .normal g w) (h : fse_spread_p35 kn (g 1) (g 3) (g 4) (g 5) (g 18) (g 19) (g 20) w) : den pg ann_fse_spread (dropS 1 (takeS 1 (dropS 4 code_fse_spread))) Q g w :=
  den_blk 0 _ g w (by kernel_rfl) (fse_spread_p34_ok (blk 0 Q) g w kn hn h)

def fse_spread_p36 (kn : K7) (c_1 n_3 out_4 high_5 : Value) (w : World) : Prop :=
  Stp pg (sFAddr 24 c_1 1) w fun t17 w =>
  Stp pg (sLoad 22 t17) w fun t18 w =>
  Stp pg (sBi .len #[22] 3 [t18]) w fun t19 w =>
  kn c_1 n_3 out_4 high_5 t18 t19 (.int .i64 0) w
theorem fse_spread_p36_ok (kn : K7) (hn : ∀ g w, kn (g 1) (g 3) (g 4) (g 5) (g 18) (g 19) (g 20) w → Q .normal g w) (h : fse_spread_p36 kn (g 1) (g 3) (g 4) (g 5) w) : den pg ann_fse_spread (takeS 1 (takeS 1 (dropS 4 code_fse_spread))) Q g w :=
  den_exQ (kr := no) (l := []) (by kernel_rfl) h hn noE trivial

def fse_spread_p37 (kn : K4) (c_1 n_3 out_4 high_5 : Value) (w : World) : Prop :=
  fse_spread_p36 (fun c_1 n_3 out_4 high_5 t18 t19 t20 w => fse_spread_p35 kn c_1 n_3 out_4 high_5 t18 t19 t20 w) c_1 n_3 out_4 high_5 w
theorem fse_spread_p37_ok (kn : K4) (hn : ∀ g w, kn (g 1) (g 3) (g 4) (g 5) w → Q .normal g w) (h : fse_spread_p37 kn (g 1) (g 3) (g 4) (g 5) w) : den pg ann_fse_spread (takeS 1 (dropS 4 code_fse_spread)) Q g w :=
  den_seqs 1 _ g w (by kernel_rfl) (fse_spread_p36_ok (thenE (fun g w => den pg ann_fse_spread (dropS 1 (takeS 1 (dropS 4 code_fse_spread))) Q g w) Q) g w (fun c_1 n_3 out_4 high_5 t18 t19 t20 w => fse_spread_p35 kn c_1 n_3 out_4 high_5 t18 t19 t20 w) (fun g w h => thenE_n (K := fun g w => den pg ann_fse_spread (dropS 1 (takeS 1 (dropS 4 code_fse_spread))) Q g w) (fse_spread_p35_ok Q g w kn hn h)) h)

def fse_spread_p38 (R : K1) (c_1 n_3 out_4 high_5 : Value) (w : World) : Prop :=
  fse_spread_p37 (fun c_1 n_3 out_4 high_5 w => fse_spread_p30 R c_1 n_3 out_4 high_5 w) c_1 n_3 out_4 high_5 w
theorem fse_spread_p38_ok (R : K1) (hr : HR rs_fse_spread R Q) (h : fse_spread_p38 R (g 1) (g 3) (g 4) (g 5) w) : den pg ann_fse_spread (dropS 4 code_fse_spread) Q g w :=
  den_seqs 1 _ g w (by kernel_rfl) (fse_spread_p37_ok (thenE (fun g w => den pg ann_fse_spread (dropS 1 (dropS 4 code_fse_spread)) Q g w) Q) g w (fun c_1 n_3 out_4 high_5 w => fse_spread_p30 R c_1 n_3 out_4 high_5 w) (fun g w h => thenE_n (K := fun g w => den pg ann_fse_spread (dropS 1 (dropS 4 code_fse_spread)) Q g w) (fse_spread_p30_ok Q g w R hr h)) h)

def fse_spread_p39 (kn : K4) (c_0 : Value) (w : World) : Prop :=
  Stp pg (sBox 24 c_0) w fun c_1 w =>
  Stp pg (sFAddr 24 c_1 0) w fun t11 w =>
  Stp pg (sLoad 3 t11) w fun t12 w =>
  Stp pg (sBin .shl 3 (.const (.int .i64 1)) (.tmp 12) (.int .i64 1) t12) w fun t13 w =>
  Stp pg (sMkSlice 26 t13 t13) w fun t15 w =>
  kn c_1 t13 t15 t13 w
theorem fse_spread_p39_ok (kn : K4) (hn : ∀ g w, kn (g 1) (g 3) (g 4) (g 5) w → Q .normal g w) (h : fse_spread_p39 kn (g 0) w) : den pg ann_fse_spread (takeS 4 code_fse_spread) Q g w :=
  den_exQ (kr := no) (l := []) (by kernel_rfl) h hn noE trivial

def fse_spread_p40 (R : K1) (c_0 : Value) (w : World) : Prop :=
  fse_spread_p39 (fun c_1 n_3 out_4 high_5 w => fse_spread_p38 R c_1 n_3 out_4 high_5 w) c_0 w
theorem fse_spread_p40_ok (R : K1) (hr : HR rs_fse_spread R Q) (h : fse_spread_p40 R (g 0) w) : den pg ann_fse_spread code_fse_spread Q g w :=
  den_seqs 4 _ g w (by kernel_rfl) (fse_spread_p39_ok (thenE (fun g w => den pg ann_fse_spread (dropS 4 code_fse_spread) Q g w) Q) g w (fun c_1 n_3 out_4 high_5 w => fse_spread_p38 R c_1 n_3 out_4 high_5 w) (fun g w h => thenE_n (K := fun g w => den pg ann_fse_spread (dropS 4 code_fse_spread) Q g w) (fse_spread_p38_ok Q g w R hr h)) h)

def fse_spread (a0 : Value) (w : World) (R : K1) : Prop :=
  fse_spread_p40 R a0 w
theorem fse_spread_does {a0 : Value} {w : World} {R : K1} (h : fse_spread a0 w R) : Does pg F_fse_spread #[a0] w R := by
  refine does_of_den (ann := ann_fse_spread) (fn := Try.f44) (c := code_fse_spread) (args := [a0]) (rs := rs_fse_spread) (N := 70) TryM.mixed (by kernel_rfl) Try.func44 (by kernel_rfl) (by kernel_rfl) (by kernel_rfl) (of_decide_eq_true (by kernel_rfl)) (by kernel_rfl) ?_
  exact (fse_spread_p40_ok (retQ pg rs_fse_spread R) (envOf [a0]) w R (fun _ _ h => h) h)
-- PIECES fse_spread/0 fse_spread_p1 fse_spread_p24 fse_spread_p25 fse_spread_p26 fse_spread_p27 fse_spread_p28 fse_spread_p29 fse_spread_p30 fse_spread_p34 fse_spread_p35 fse_spread_p36 fse_spread_p37 fse_spread_p38 fse_spread_p39 fse_spread_p40
-- PIECES fse_spread/1 fse_spread_p2 fse_spread_p13 fse_spread_p14 fse_spread_p15 fse_spread_p16 fse_spread_p17 fse_spread_p18 fse_spread_p19 fse_spread_p20 fse_spread_p21 fse_spread_p22 fse_spread_p23
-- PIECES fse_spread/2 fse_spread_p3 fse_spread_p5 fse_spread_p6 fse_spread_p7 fse_spread_p8 fse_spread_p9 fse_spread_p10 fse_spread_p11 fse_spread_p12
-- PIECES fse_spread/3 fse_spread_p4
-- PIECES fse_spread/4 fse_spread_p31 fse_spread_p32 fse_spread_p33

/- math/bits.Len -/
def ann_math_bits_Len : FA := ⟨F_math_bits_Len, fun i => .leaf ([], []) []⟩
def rs_math_bits_Len : List ResultVar := [.tmp 2]
noncomputable def code_math_bits_Len : Code := bodyOf Try.f45
def math_bits_Len_p1 (R : K1) (x_0 : Value) (w : World) : Prop :=
  Cnd (.bool false)
    (Stp pg (sCvt 50 90 x_0) w fun t4 w =>
    Does pg F_math_bits_Len32 #[t4] w fun t5 w =>
    R t5 w)
    (Does pg F_math_bits_Len64 #[x_0] w fun t7 w =>
    R t7 w)
theorem math_bits_Len_p1_ok (R : K1) (hr : HR rs_math_bits_Len R Q) (h : math_bits_Len_p1 R (g 0) w) : den pg ann_math_bits_Len code_math_bits_Len Q g w :=
  den_exQ (kn := no) (l := []) (by kernel_rfl) h noE hr trivial

def math_bits_Len (a0 : Value) (w : World) (R : K1) : Prop :=
  math_bits_Len_p1 R a0 w
theorem math_bits_Len_does {a0 : Value} {w : World} {R : K1} (h : math_bits_Len a0 w R) : Does pg F_math_bits_Len #[a0] w R := by
  refine does_of_den (ann := ann_math_bits_Len) (fn := Try.f45) (c := code_math_bits_Len) (args := [a0]) (rs := rs_math_bits_Len) (N := 8) TryM.mixed (by kernel_rfl) Try.func45 (by kernel_rfl) (by kernel_rfl) (by kernel_rfl) (of_decide_eq_true (by kernel_rfl)) (by kernel_rfl) ?_
  exact (math_bits_Len_p1_ok (retQ pg rs_math_bits_Len R) (envOf [a0]) w R (fun _ _ h => h) h)
-- PIECES math_bits_Len/0 math_bits_Len_p1

/- lighterman/normal.parts -/
def ann_normal_parts : FA := ⟨F_normal_parts, fun i => .leaf ([], []) []⟩
def rs_normal_parts : List ResultVar := [.tmp 2]
noncomputable def code_normal_parts : Code := bodyOf Try.f54
def normal_parts_p1 (R : K1) (p_0 : Value) (w : World) : Prop :=
  Stp pg (sBin .lss 3 (.tmp 3) (.const (.int .i64 0)) p_0 (.int .i64 0)) w fun t4 w =>
  Cnd t4
    (R (.int .i64 1) w)
    (R p_0 w)
theorem normal_parts_p1_ok (R : K1) (hr : HR rs_normal_parts R Q) (h : normal_parts_p1 R (g 0) w) : den pg ann_normal_parts code_normal_parts Q g w :=
  den_exQ (kn := no) (l := []) (by kernel_rfl) h noE hr trivial

def normal_parts (a0 : Value) (w : World) (R : K1) : Prop :=
  normal_parts_p1 R a0 w
theorem normal_parts_does {a0 : Value} {w : World} {R : K1} (h : normal_parts a0 w R) : Does pg F_normal_parts #[a0] w R := by
  refine does_of_den (ann := ann_normal_parts) (fn := Try.f54) (c := code_normal_parts) (args := [a0]) (rs := rs_normal_parts) (N := 6) TryM.mixed (by kernel_rfl) Try.func54 (by kernel_rfl) (by kernel_rfl) (by kernel_rfl) (of_decide_eq_true (by kernel_rfl)) (by kernel_rfl) ?_
  exact (normal_parts_p1_ok (retQ pg rs_normal_parts R) (envOf [a0]) w R (fun _ _ h => h) h)
-- PIECES normal_parts/0 normal_parts_p1

/- lighterman/normal.may -/
def ann_normal_may : FA := ⟨F_normal_may, fun i => .leaf ([], []) []⟩
def rs_normal_may : List ResultVar := [.tmp 2]
noncomputable def code_normal_may : Code := bodyOf Try.f60
def normal_may_p1 (R : K1) (left_3 : Value) (w : World) : Prop :=
  Stp pg (sBin .eql 3 (.tmp 60) (.const (.int .i64 0)) left_3 (.int .i64 0)) w fun t61 w =>
  R t61 w
theorem normal_may_p1_ok (R : K1) (hr : HR rs_normal_may R Q) (h : normal_may_p1 R (g 3) w) : den pg ann_normal_may (dropS 1 (dropS 3 code_normal_may)) Q g w :=
  den_exQ (kn := no) (l := []) (by kernel_rfl) h noE hr trivial

def normal_may_p2 (kn : K4) (k0 : K1) (R : K1) (left_3 t41 t42 t43 : Value) (w : World) : Prop :=
  Stp pg (sBin .lss 3 (.tmp 43) (.tmp 42) t43 t42) w fun t44 w =>
  Cnd t44
    (Stp pg (sIAddr 22 t41 t43) w fun t45 w =>
    Stp pg (sLoad 3 t45) w fun t46 w =>
    Stp pg (sBin .lss 3 (.tmp 47) (.const (.int .i64 (-1))) t46 (.int .i64 (-1))) w fun t48 w =>
    Gd (isB t48 false) (fun K => K t46 w) w fun t50 w =>
    Gd (isB t48 false) (fun K => Does pg F_normal_parts #[t50] w K) w fun t51 w =>
    Gd (isB t48 false) (fun K => K left_3 w) w fun t52 w =>
    Gd (isB t48 false) (fun K => Stp pg (sBin .gtr 3 (.tmp 51) (.tmp 52) t51 t52) w K) w fun t53 w =>
    Stp pg (sPick t48 (.bool true) t53) w fun t54 w =>
    Cnd t54
      (R (.bool false) w)
      (Does pg F_normal_parts #[t46] w fun t57 w =>
      Stp pg (sBin .sub 3 (.tmp 55) (.tmp 57) left_3 t57) w fun t58 w =>
      Stp pg (sBin .add 3 (.tmp 43) (.const (.int .i64 1)) t43 (.int .i64 1)) w fun t59 w =>
      kn t58 t41 t42 t59 w))
    (k0 left_3 w)
theorem normal_may_p2_ok (kn : K4) (k0 : K1) (R : K1) (hn : ∀ g w, kn (g 3) (g 41) (g 42) (g 43) w → Q .normal g w) (h0 : ∀ g w, k0 (g 3) w → Q (.exit 0) g w) (hr : HR rs_normal_may R Q) (h : normal_may_p2 kn k0 R (g 3) (g 41) (g 42) (g 43) w) : den pg ann_normal_may (bI (bI (dropS 1 (takeS 1 (dropS 3 code_normal_may))))) Q g w :=
  den_exQ (l := [(0, fun g w => k0 (g 3) w)]) (by kernel_rfl) h hn hr ⟨h0, trivial⟩

def normal_may_p3 (k0 : K1) (R : K1) (left_3 t41 t42 t43 : Value) (w : World) : Prop :=
  LoopD (fun (X : (Value × Value) → K0) (t : Value × Value) (w : World) => normal_may_p2 (fun left_3 _ _ t43 w => X (left_3, t43) w) k0 R t.1 t41 t42 t.2 w) (left_3, t43) w
theorem normal_may_p3_ok (k0 : K1) (R : K1) (h0 : ∀ g w, k0 (g 3) w → Q (.exit 0) g w) (hr : HR rs_normal_may R Q) (h : normal_may_p3 k0 R (g 3) (g 41) (g 42) (g 43) w) : den pg ann_normal_may (bI (dropS 1 (takeS 1 (dropS 3 code_normal_may)))) Q g w := by
  refine den_loops (T := Value × Value) (fun g : Env => (g 3, g 43)) (fun X t w => normal_may_p2 (fun left_3 _ _ t43 w => X (left_3, t43) w) k0 R t.1 (g 41) (g 42) t.2 w) _ (by kernel_rfl) h (fun X g1 w1 ha h1 => ?_)
  rw [← agree_at (s := 41) ha (by kernel_rfl)] at h1
  rw [← agree_at (s := 42) ha (by kernel_rfl)] at h1
  exact (normal_may_p2_ok (thenE (fun g2 w2 => X ((fun g : Env => (g 3, g 43)) g2) w2) Q) g1 w1 (fun left_3 _ _ t43 w => X (left_3, t43) w) k0 R (fun _ _ h => h) h0 hr h1)

def normal_may_p4 (kn : K1) (R : K1) (left_3 t41 t42 t43 : Value) (w : World) : Prop :=
  normal_may_p3 kn R left_3 t41 t42 t43 w
theorem normal_may_p4_ok (kn : K1) (R : K1) (hn : ∀ g w, kn (g 3) w → Q .normal g w) (hr : HR rs_normal_may R Q) (h : normal_may_p4 kn R (g 3) (g 41) (g 42) (g 43) w) : den pg ann_normal_may (dropS 1 (takeS 1 (dropS 3 code_normal_may))) Q g w :=
  den_blk 0 _ g w (by kernel_rfl) (normal_may_p3_ok (blk 0 Q) g w kn R hn hr h)

def normal_may_p5 (kn : K4) (c_1 left_3 : Value) (w : World) : Prop :=
  Stp pg (sFAddr 24 c_1 1) w fun t40 w =>
  Stp pg (sLoad 22 t40) w fun t41 w =>
  Stp pg (sBi .len #[22] 3 [t41]) w fun t42 w =>
  kn left_3 t41 t42 (.int .i64 0) w
theorem normal_may_p5_ok (kn : K4) (hn : ∀ g w, kn (g 3) (g 41) (g 42) (g 43) w → Q .normal g w) (h : normal_may_p5 kn (g 1) (g 3) w) : den pg ann_normal_may (takeS 1 (takeS 1 (dropS 3 code_normal_may))) Q g w :=
  den_exQ (kr := no) (l := []) (by kernel_rfl) h hn noE trivial

def normal_may_p6 (kn : K1) (R : K1) (c_1 left_3 : Value) (w : World) : Prop :=
  normal_may_p5 (fun left_3 t41 t42 t43 w => normal_may_p4 kn R left_3 t41 t42 t43 w) c_1 left_3 w
theorem normal_may_p6_ok (kn : K1) (R : K1) (hn : ∀ g w, kn (g 3) w → Q .normal g w) (hr : HR rs_normal_may R Q) (h : normal_may_p6 kn R (g 1) (g 3) w) : den pg ann_normal_may (takeS 1 (dropS 3 code_normal_may)) Q g w :=
  den_seqs 1 _ g w (by kernel_rfl) (normal_may_p5_ok (thenE (fun g w => den pg ann_normal_may (dropS 1 (takeS 1 (dropS 3 code_normal_may))) Q g w) Q) g w (fun left_3 t41 t42 t43 w => normal_may_p4 kn R left_3 t41 t42 t43 w) (fun g w h => thenE_n (K := fun g w => den pg ann_normal_may (dropS 1 (takeS 1 (dropS 3 code_normal_may))) Q g w) (normal_may_p4_ok Q g w kn R hn hr h)) h)

def normal_may_p7 (R : K1) (c_1 left_3 : Value) (w : World) : Prop :=
  normal_may_p6 (fun left_3 w => normal_may_p1 R left_3 w) R c_1 left_3 w
theorem normal_may_p7_ok (R : K1) (hr : HR rs_normal_may R Q) (h : normal_may_p7 R (g 1) (g 3) w) : den pg ann_normal_may (dropS 3 code_normal_may) Q g w :=
  den_seqs 1 _ g w (by kernel_rfl) (normal_may_p6_ok (thenE (fun g w => den pg ann_normal_may (dropS 1 (dropS 3 code_normal_may)) Q g w) Q) g w (fun left_3 w => normal_may_p1 R left_3 w) R (fun g w h => thenE_n (K := fun g w => den pg ann_normal_may (dropS 1 (dropS 3 code_normal_may)) Q g w) (normal_may_p1_ok Q g w R hr h)) hr h)

def normal_may_p8 (kn : K2) (R : K1) (c_0 : Value) (w : World) : Prop :=
  Stp pg (sBox 24 c_0) w fun c_1 w =>
  Stp pg (sFAddr 24 c_1 0) w fun t6 w =>
  Stp pg (sLoad 3 t6) w fun t7 w =>
  Stp pg (sBin .lss 3 (.tmp 7) (.const (.int .i64 5)) t7 (.int .i64 5)) w fun t8 w =>
  Gd (isB t8 false) (fun K => Stp pg (sFAddr 24 c_1 0) w K) w fun t10 w =>
  Gd (isB t8 false) (fun K => Stp pg (sLoad 3 t10) w K) w fun t11 w =>
  Gd (isB t8 false) (fun K => Stp pg (sBin .gtr 3 (.tmp 11) (.const (.int .i64 15)) t11 (.int .i64 15)) w K) w fun t12 w =>
  Stp pg (sPick t8 (.bool true) t12) w fun t13 w =>
  Gd (isB t13 false) (fun K => Stp pg (sFAddr 24 c_1 1) w K) w fun t15 w =>
  Gd (isB t13 false) (fun K => Stp pg (sLoad 22 t15) w K) w fun t16 w =>
  Gd (isB t13 false) (fun K => Stp pg (sBi .len #[22] 3 [t16]) w K) w fun t17 w =>
  Gd (isB t13 false) (fun K => Stp pg (sBin .lss 3 (.tmp 17) (.const (.int .i64 1)) t17 (.int .i64 1)) w K) w fun t18 w =>
  Stp pg (sPick t13 (.bool true) t18) w fun t19 w =>
  Gd (isB t19 false) (fun K => Stp pg (sFAddr 24 c_1 1) w K) w fun t21 w =>
  Gd (isB t19 false) (fun K => Stp pg (sLoad 22 t21) w K) w fun t22 w =>
  Gd (isB t19 false) (fun K => Stp pg (sBi .len #[22] 3 [t22]) w K) w fun t23 w =>
  Gd (isB t19 false) (fun K => Stp pg (sBin .gtr 3 (.tmp 23) (.const (.int .i64 256)) t23 (.int .i64 256)) w K) w fun t24 w =>
  Stp pg (sPick t19 (.bool true) t24) w fun t25 w =>
  Gd (isB t25 false) (fun K => Stp pg (sFAddr 24 c_1 1) w K) w fun t27 w =>
  Gd (isB t25 false) (fun K => Stp pg (sLoad 22 t27) w K) w fun t28 w =>
  Gd (isB t25 false) (fun K => Stp pg (sFAddr 24 c_1 1) w K) w fun t29 w =>
  Gd (isB t25 false) (fun K => Stp pg (sLoad 22 t29) w K) w fun t30 w =>
  Gd (isB t25 false) (fun K => Stp pg (sBi .len #[22] 3 [t30]) w K) w fun t31 w =>
  Gd (isB t25 false) (fun K => Stp pg (sBin .sub 3 (.tmp 31) (.const (.int .i64 1)) t31 (.int .i64 1)) w K) w fun t32 w =>
  Gd (isB t25 false) (fun K => Stp pg (sIAddr 22 t28 t32) w K) w fun t33 w =>
  Gd (isB t25 false) (fun K => Stp pg (sLoad 3 t33) w K) w fun t34 w =>
  Gd (isB t25 false) (fun K => Stp pg (sBin .eql 3 (.tmp 34) (.const (.int .i64 0)) t34 (.int .i64 0)) w K) w fun t35 w =>
  Stp pg (sPick t25 (.bool true) t35) w fun t36 w =>
  Cnd t36
    (R (.bool false) w)
    (Stp pg (sFAddr 24 c_1 0) w fun t37 w =>
    Stp pg (sLoad 3 t37) w fun t38 w =>
    Stp pg (sBin .shl 3 (.const (.int .i64 1)) (.tmp 38) (.int .i64 1) t38) w fun t39 w =>
    kn c_1 t39 w)
theorem normal_may_p8_ok (kn : K2) (R : K1) (hn : ∀ g w, kn (g 1) (g 3) w → Q .normal g w) (hr : HR rs_normal_may R Q) (h : normal_may_p8 kn R (g 0) w) : den pg ann_normal_may (takeS 3 code_normal_may) Q g w :=
  den_exQ (l := []) (by kernel_rfl) h hn hr trivial

def normal_may_p9 (R : K1) (c_0 : Value) (w : World) : Prop :=
  normal_may_p8 (fun c_1 left_3 w => normal_may_p7 R c_1 left_3 w) R c_0 w
theorem normal_may_p9_ok (R : K1) (hr : HR rs_normal_may R Q) (h : normal_may_p9 R (g 0) w) : den pg ann_normal_may code_normal_may Q g w :=
  den_seqs 3 _ g w (by kernel_rfl) (normal_may_p8_ok (thenE (fun g w => den pg ann_normal_may (dropS 3 code_normal_may) Q g w) Q) g w (fun c_1 left_3 w => normal_may_p7 R c_1 left_3 w) R (fun g w h => thenE_n (K := fun g w => den pg ann_normal_may (dropS 3 code_normal_may) Q g w) (normal_may_p7_ok Q g w R hr h)) hr h)

def normal_may (a0 : Value) (w : World) (R : K1) : Prop :=
  normal_may_p9 R a0 w
theorem normal_may_does {a0 : Value} {w : World} {R : K1} (h : normal_may a0 w R) : Does pg F_normal_may #[a0] w R := by
  refine does_of_den (ann := ann_normal_may) (fn := Try.f60) (c := code_normal_may) (args := [a0]) (rs := rs_normal_may) (N := 62) TryM.mixed (by kernel_rfl) Try.func60 (by kernel_rfl) (by kernel_rfl) (by kernel_rfl) (of_decide_eq_true (by kernel_rfl)) (by kernel_rfl) ?_
  exact (normal_may_p9_ok (retQ pg rs_normal_may R) (envOf [a0]) w R (fun _ _ h => h) h)
-- PIECES normal_may/0 normal_may_p1 normal_may_p3 normal_may_p4 normal_may_p5 normal_may_p6 normal_may_p7 normal_may_p8 normal_may_p9
-- PIECES normal_may/1 normal_may_p2

/- math/bits.Len32 -/
def ann_math_bits_Len32 : FA := ⟨F_math_bits_Len32, fun i => .leaf ([], []) []⟩
def rs_math_bits_Len32 : List ResultVar := [.tmp 2]
noncomputable def code_math_bits_Len32 : Code := bodyOf Try.f62
def math_bits_Len32_p1 (R : K1) (x_0 n_2 : Value) (w : World) : Prop :=
  Stp pg (sCvt 90 5 x_0) w fun t15 w =>
  Stp pg (sIdx 9 (.string ⟨#[0, 1, 2, 2, 3, 3, 3, 3, 4, 4, 4, 4, 4, 4, 4, 4, 5, 5, 5, 5, 5, 5, 5, 5, 5, 5, 5, 5, 5, 5, 5, 5, 6, 6, 6, 6, 6, 6, 6, 6, 6, 6, 6, 6, 6, 6, 6, 6, 6, 6, 6, 6, 6, 6, 6, 6, 6, 6, 6, 6, 6, 6, 6, 6, 7, 7, 7, 7, 7, 7, 7, 7, 7, 7, 7, 7, 7, 7, 7, 7, 7, 7, 7, 7, 7, 7, 7, 7, 7, 7, 7, 7, 7, 7, 7, 7, 7, 7, 7, 7, 7, 7, 7, 7, 7, 7, 7, 7, 7, 7, 7, 7, 7, 7, 7, 7, 7, 7, 7, 7, 7, 7, 7, 7, 7, 7, 7, 7, 8, 8, 8, 8, 8, 8, 8, 8, 8, 8, 8, 8, 8, 8, 8, 8, 8, 8, 8, 8, 8, 8, 8, 8, 8, 8, 8, 8, 8, 8, 8, 8, 8, 8, 8, 8, 8, 8, 8, 8, 8, 8, 8, 8, 8, 8, 8, 8, 8, 8, 8, 8, 8, 8, 8, 8, 8, 8, 8, 8, 8, 8, 8, 8, 8, 8, 8, 8, 8, 8, 8, 8, 8, 8, 8, 8, 8, 8, 8, 8, 8, 8, 8, 8, 8, 8, 8, 8, 8, 8, 8, 8, 8, 8, 8, 8, 8, 8, 8, 8, 8, 8, 8, 8, 8, 8, 8, 8, 8, 8, 8, 8, 8, 8, 8, 8, 8, 8, 8, 8, 8, 8, 8, 8, 8, 8, 8, 8]⟩) t15) w fun t16 w =>
  Stp pg (sCvt 5 3 t16) w fun t17 w =>
  Stp pg (sBin .add 3 (.tmp 13) (.tmp 17) n_2 t17) w fun t18 w =>
  R t18 w
theorem math_bits_Len32_p1_ok (R : K1) (hr : HR rs_math_bits_Len32 R Q) (h : math_bits_Len32_p1 R (g 0) (g 2) w) : den pg ann_math_bits_Len32 (dropS 1 (dropS 2 code_math_bits_Len32)) Q g w :=
  den_exQ (kn := no) (l := []) (by kernel_rfl) h noE hr trivial

def math_bits_Len32_p2 (kn : K2) (x_0 n_2 : Value) (w : World) : Prop :=
  Stp pg (sBin .geq 90 (.tmp 7) (.const (.int .u32 256)) x_0 (.int .u32 256)) w fun t8 w =>
  Cnd t8
    (Stp pg (sBin .shr 90 (.tmp 9) (.const (.int .u64 8)) x_0 (.int .u64 8)) w fun t10 w =>
    Stp pg (sBin .add 3 (.tmp 11) (.const (.int .i64 8)) n_2 (.int .i64 8)) w fun t12 w =>
    kn t10 t12 w)
    (kn x_0 n_2 w)
theorem math_bits_Len32_p2_ok (kn : K2) (hn : ∀ g w, kn (g 0) (g 2) w → Q .normal g w) (h : math_bits_Len32_p2 kn (g 0) (g 2) w) : den pg ann_math_bits_Len32 (takeS 1 (dropS 2 code_math_bits_Len32)) Q g w :=
  den_exQ (kr := no) (l := []) (by kernel_rfl) h hn noE trivial

def math_bits_Len32_p3 (R : K1) (x_0 n_2 : Value) (w : World) : Prop :=
  math_bits_Len32_p2 (fun x_0 n_2 w => math_bits_Len32_p1 R x_0 n_2 w) x_0 n_2 w
theorem math_bits_Len32_p3_ok (R : K1) (hr : HR rs_math_bits_Len32 R Q) (h : math_bits_Len32_p3 R (g 0) (g 2) w) : den pg ann_math_bits_Len32 (dropS 2 code_math_bits_Len32) Q g w :=
  den_seqs 1 _ g w (by kernel_rfl) (math_bits_Len32_p2_ok (thenE (fun g w => den pg ann_math_bits_Len32 (dropS 1 (dropS 2 code_math_bits_Len32)) Q g w) Q) g w (fun x_0 n_2 w => math_bits_Len32_p1 R x_0 n_2 w) (fun g w h => thenE_n (K := fun g w => den pg ann_math_bits_Len32 (dropS 1 (dropS 2 code_math_bits_Len32)) Q g w) (math_bits_Len32_p1_ok Q g w R hr h)) h)

def math_bits_Len32_p4 (kn : K2) (x_0 : Value) (w : World) : Prop :=
  Stp pg (sBin .geq 90 (.tmp 3) (.const (.int .u32 65536)) x_0 (.int .u32 65536)) w fun t4 w =>
  Cnd t4
    (Stp pg (sBin .shr 90 (.tmp 5) (.const (.int .u64 16)) x_0 (.int .u64 16)) w fun t6 w =>
    kn t6 (.int .i64 16) w)
    (kn x_0 (.int .i64 0) w)
theorem math_bits_Len32_p4_ok (kn : K2) (hn : ∀ g w, kn (g 0) (g 2) w → Q .normal g w) (h : math_bits_Len32_p4 kn (g 0) w) : den pg ann_math_bits_Len32 (takeS 2 code_math_bits_Len32) Q g w :=
  den_exQ (kr := no) (l := []) (by kernel_rfl) h hn noE trivial

def math_bits_Len32_p5 (R : K1) (x_0 : Value) (w : World) : Prop :=
  math_bits_Len32_p4 (fun x_0 n_2 w => math_bits_Len32_p3 R x_0 n_2 w) x_0 w
theorem math_bits_Len32_p5_ok (R : K1) (hr : HR rs_math_bits_Len32 R Q) (h : math_bits_Len32_p5 R (g 0) w) : den pg ann_math_bits_Len32 code_math_bits_Len32 Q g w :=
  den_seqs 2 _ g w (by kernel_rfl) (math_bits_Len32_p4_ok (thenE (fun g w => den pg ann_math_bits_Len32 (dropS 2 code_math_bits_Len32) Q g w) Q) g w (fun x_0 n_2 w => math_bits_Len32_p3 R x_0 n_2 w) (fun g w h => thenE_n (K := fun g w => den pg ann_math_bits_Len32 (dropS 2 code_math_bits_Len32) Q g w) (math_bits_Len32_p3_ok Q g w R hr h)) h)

def math_bits_Len32 (a0 : Value) (w : World) (R : K1) : Prop :=
  math_bits_Len32_p5 R a0 w
theorem math_bits_Len32_does {a0 : Value} {w : World} {R : K1} (h : math_bits_Len32 a0 w R) : Does pg F_math_bits_Len32 #[a0] w R := by
  refine does_of_den (ann := ann_math_bits_Len32) (fn := Try.f62) (c := code_math_bits_Len32) (args := [a0]) (rs := rs_math_bits_Len32) (N := 19) TryM.mixed (by kernel_rfl) Try.func62 (by kernel_rfl) (by kernel_rfl) (by kernel_rfl) (of_decide_eq_true (by kernel_rfl)) (by kernel_rfl) ?_
  exact (math_bits_Len32_p5_ok (retQ pg rs_math_bits_Len32 R) (envOf [a0]) w R (fun _ _ h => h) h)
-- PIECES math_bits_Len32/0 math_bits_Len32_p1 math_bits_Len32_p2 math_bits_Len32_p3 math_bits_Len32_p4 math_bits_Len32_p5

/- math/bits.Len64 -/
def ann_math_bits_Len64 : FA := ⟨F_math_bits_Len64, fun i => .leaf ([], []) []⟩
def rs_math_bits_Len64 : List ResultVar := [.tmp 2]
noncomputable def code_math_bits_Len64 : Code := bodyOf Try.f63
def math_bits_Len64_p1 (R : K1) (x_0 n_2 : Value) (w : World) : Prop :=
  Stp pg (sCvt 45 5 x_0) w fun t21 w =>
  Stp pg (sIdx 9 (.string ⟨#[0, 1, 2, 2, 3, 3, 3, 3, 4, 4, 4, 4, 4, 4, 4, 4, 5, 5, 5, 5, 5, 5, 5, 5, 5, 5, 5, 5, 5, 5, 5, 5, 6, 6, 6, 6, 6, 6, 6, 6, 6, 6, 6, 6, 6, 6, 6, 6, 6, 6, 6, 6, 6, 6, 6, 6, 6, 6, 6, 6, 6, 6, 6, 6, 7, 7, 7, 7, 7, 7, 7, 7, 7, 7, 7, 7, 7, 7, 7, 7, 7, 7, 7, 7, 7, 7, 7, 7, 7, 7, 7, 7, 7, 7, 7, 7, 7, 7, 7, 7, 7, 7, 7, 7, 7, 7, 7, 7, 7, 7, 7, 7, 7, 7, 7, 7, 7, 7, 7, 7, 7, 7, 7, 7, 7, 7, 7, 7, 8, 8, 8, 8, 8, 8, 8, 8, 8, 8, 8, 8, 8, 8, 8, 8, 8, 8, 8, 8, 8, 8, 8, 8, 8, 8, 8, 8, 8, 8, 8, 8, 8, 8, 8, 8, 8, 8, 8, 8, 8, 8, 8, 8, 8, 8, 8, 8, 8, 8, 8, 8, 8, 8, 8, 8, 8, 8, 8, 8, 8, 8, 8, 8, 8, 8, 8, 8, 8, 8, 8, 8, 8, 8, 8, 8, 8, 8, 8, 8, 8, 8, 8, 8, 8, 8, 8, 8, 8, 8, 8, 8, 8, 8, 8, 8, 8, 8, 8, 8, 8, 8, 8, 8, 8, 8, 8, 8, 8, 8, 8, 8, 8, 8, 8, 8, 8, 8, 8, 8, 8, 8, 8, 8, 8, 8, 8, 8]⟩) t21) w fun t22 w =>
  Stp pg (sCvt 5 3 t22) w fun t23 w =>
  Stp pg (sBin .add 3 (.tmp 19) (.tmp 23) n_2 t23) w fun t24 w =>
  R t24 w
theorem math_bits_Len64_p1_ok (R : K1) (hr : HR rs_math_bits_Len64 R Q) (h : math_bits_Len64_p1 R (g 0) (g 2) w) : den pg ann_math_bits_Len64 (dropS 1 (dropS 1 (dropS 2 code_math_bits_Len64))) Q g w :=
  den_exQ (kn := no) (l := []) (by kernel_rfl) h noE hr trivial

def math_bits_Len64_p2 (kn : K2) (x_0 n_2 : Value) (w : World) : Prop :=
  Stp pg (sBin .geq 45 (.tmp 13) (.const (.int .u64 256)) x_0 (.int .u64 256)) w fun t14 w =>
  Cnd t14
    (Stp pg (sBin .shr 45 (.tmp 15) (.const (.int .u64 8)) x_0 (.int .u64 8)) w fun t16 w =>
    Stp pg (sBin .add 3 (.tmp 17) (.const (.int .i64 8)) n_2 (.int .i64 8)) w fun t18 w =>
    kn t16 t18 w)
    (kn x_0 n_2 w)
theorem math_bits_Len64_p2_ok (kn : K2) (hn : ∀ g w, kn (g 0) (g 2) w → Q .normal g w) (h : math_bits_Len64_p2 kn (g 0) (g 2) w) : den pg ann_math_bits_Len64 (takeS 1 (dropS 1 (dropS 2 code_math_bits_Len64))) Q g w :=
  den_exQ (kr := no) (l := []) (by kernel_rfl) h hn noE trivial

def math_bits_Len64_p3 (R : K1) (x_0 n_2 : Value) (w : World) : Prop :=
  math_bits_Len64_p2 (fun x_0 n_2 w => math_bits_Len64_p1 R x_0 n_2 w) x_0 n_2 w
theorem math_bits_Len64_p3_ok (R : K1) (hr : HR rs_math_bits_Len64 R Q) (h : math_bits_Len64_p3 R (g 0) (g 2) w) : den pg ann_math_bits_Len64 (dropS 1 (dropS 2 code_math_bits_Len64)) Q g w :=
  den_seqs 1 _ g w (by kernel_rfl) (math_bits_Len64_p2_ok (thenE (fun g w => den pg ann_math_bits_Len64 (dropS 1 (dropS 1 (dropS 2 code_math_bits_Len64))) Q g w) Q) g w (fun x_0 n_2 w => math_bits_Len64_p1 R x_0 n_2 w) (fun g w h => thenE_n (K := fun g w => den pg ann_math_bits_Len64 (dropS 1 (dropS 1 (dropS 2 code_math_bits_Len64))) Q g w) (math_bits_Len64_p1_ok Q g w R hr h)) h)

def math_bits_Len64_p4 (kn : K2) (x_0 n_2 : Value) (w : World) : Prop :=
  Stp pg (sBin .geq 45 (.tmp 7) (.const (.int .u64 65536)) x_0 (.int .u64 65536)) w fun t8 w =>
  Cnd t8
    (Stp pg (sBin .shr 45 (.tmp 9) (.const (.int .u64 16)) x_0 (.int .u64 16)) w fun t10 w =>
    Stp pg (sBin .add 3 (.tmp 11) (.const (.int .i64 16)) n_2 (.int .i64 16)) w fun t12 w =>
    kn t10 t12 w)
    (kn x_0 n_2 w)
theorem math_bits_Len64_p4_ok (kn : K2) (hn : ∀ g w, kn (g 0) (g 2) w → Q .normal g w) (h : math_bits_Len64_p4 kn (g 0) (g 2) w) : den pg ann_math_bits_Len64 (takeS 1 (dropS 2 code_math_bits_Len64)) Q g w :=
  den_exQ (kr := no) (l := []) (by kernel_rfl) h hn noE trivial

def math_bits_Len64_p5 (R : K1) (x_0 n_2 : Value) (w : World) : Prop :=
  math_bits_Len64_p4 (fun x_0 n_2 w => math_bits_Len64_p3 R x_0 n_2 w) x_0 n_2 w
theorem math_bits_Len64_p5_ok (R : K1) (hr : HR rs_math_bits_Len64 R Q) (h : math_bits_Len64_p5 R (g 0) (g 2) w) : den pg ann_math_bits_Len64 (dropS 2 code_math_bits_Len64) Q g w :=
  den_seqs 1 _ g w (by kernel_rfl) (math_bits_Len64_p4_ok (thenE (fun g w => den pg ann_math_bits_Len64 (dropS 1 (dropS 2 code_math_bits_Len64)) Q g w) Q) g w (fun x_0 n_2 w => math_bits_Len64_p3 R x_0 n_2 w) (fun g w h => thenE_n (K := fun g w => den pg ann_math_bits_Len64 (dropS 1 (dropS 2 code_math_bits_Len64)) Q g w) (math_bits_Len64_p3_ok Q g w R hr h)) h)

def math_bits_Len64_p6 (kn : K2) (x_0 : Value) (w : World) : Prop :=
  Stp pg (sBin .geq 45 (.tmp 3) (.const (.int .u64 4294967296)) x_0 (.int .u64 4294967296)) w fun t4 w =>
  Cnd t4
    (Stp pg (sBin .shr 45 (.tmp 5) (.const (.int .u64 32)) x_0 (.int .u64 32)) w fun t6 w =>
    kn t6 (.int .i64 32) w)
    (kn x_0 (.int .i64 0) w)
theorem math_bits_Len64_p6_ok (kn : K2) (hn : ∀ g w, kn (g 0) (g 2) w → Q .normal g w) (h : math_bits_Len64_p6 kn (g 0) w) : den pg ann_math_bits_Len64 (takeS 2 code_math_bits_Len64) Q g w :=
  den_exQ (kr := no) (l := []) (by kernel_rfl) h hn noE trivial

def math_bits_Len64_p7 (R : K1) (x_0 : Value) (w : World) : Prop :=
  math_bits_Len64_p6 (fun x_0 n_2 w => math_bits_Len64_p5 R x_0 n_2 w) x_0 w
theorem math_bits_Len64_p7_ok (R : K1) (hr : HR rs_math_bits_Len64 R Q) (h : math_bits_Len64_p7 R (g 0) w) : den pg ann_math_bits_Len64 code_math_bits_Len64 Q g w :=
  den_seqs 2 _ g w (by kernel_rfl) (math_bits_Len64_p6_ok (thenE (fun g w => den pg ann_math_bits_Len64 (dropS 2 code_math_bits_Len64) Q g w) Q) g w (fun x_0 n_2 w => math_bits_Len64_p5 R x_0 n_2 w) (fun g w h => thenE_n (K := fun g w => den pg ann_math_bits_Len64 (dropS 2 code_math_bits_Len64) Q g w) (math_bits_Len64_p5_ok Q g w R hr h)) h)

def math_bits_Len64 (a0 : Value) (w : World) (R : K1) : Prop :=
  math_bits_Len64_p7 R a0 w
theorem math_bits_Len64_does {a0 : Value} {w : World} {R : K1} (h : math_bits_Len64 a0 w R) : Does pg F_math_bits_Len64 #[a0] w R := by
  refine does_of_den (ann := ann_math_bits_Len64) (fn := Try.f63) (c := code_math_bits_Len64) (args := [a0]) (rs := rs_math_bits_Len64) (N := 25) TryM.mixed (by kernel_rfl) Try.func63 (by kernel_rfl) (by kernel_rfl) (by kernel_rfl) (of_decide_eq_true (by kernel_rfl)) (by kernel_rfl) ?_
  exact (math_bits_Len64_p7_ok (retQ pg rs_math_bits_Len64 R) (envOf [a0]) w R (fun _ _ h => h) h)
-- PIECES math_bits_Len64/0 math_bits_Len64_p1 math_bits_Len64_p2 math_bits_Len64_p3 math_bits_Len64_p4 math_bits_Len64_p5 math_bits_Len64_p6 math_bits_Len64_p7

end Go.Proofs.Ytcbkdccobhkbpaa

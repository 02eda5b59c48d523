/- The pieces of bodies, written by a program of ours off the loaded code, each with its proof. -/
import Derived.Test.YtcbkdccobhkbpaaF
namespace Go.Proofs.Ytcbkdccobhkbpaa
open Go Go.En
set_option linter.unusedVariables false
set_option maxRecDepth 20000
attribute [local irreducible] Go.En.den

/- lighterman/fse.spread -/
def ann_fse_spread : FA := ⟨F_fse_spread, fun i => .leaf ([], []) []⟩
def rs_fse_spread : List ResultVar := [.tmp 2]
noncomputable def code_fse_spread : Code := bodyOf Try.f44
def fse_spread_p1 (R : Value → World → Prop) (out_4 : Value) (w : World) : Prop :=
  R out_4 w
theorem fse_spread_p1_ok (Q : Exit → Env → World → Prop) (g : Env) (w : World) (R : Value → World → Prop) (hr : ∀ g w, (resVals pg rs_fse_spread g w fun vs => R (tup vs) w) → Q .ret g w) (h : fse_spread_p1 R (g 4) w) : den pg ann_fse_spread (dropS 1 (dropS 1 (dropS 1 (dropS 4 code_fse_spread)))) Q g w := by
  have e : (fse_spread_p1 R (g 4) w) = den pg ann_fse_spread (dropS 1 (dropS 1 (dropS 1 (dropS 4 code_fse_spread)))) (exQ (fun _ _ => False) (fun g w => resVals pg rs_fse_spread g w fun vs => R (tup vs) w) []) g w := by kernel_rfl
  exact den_exQ e h (fun _ _ h => h.elim) hr trivial

def fse_spread_p2 (kn : Value → Value → Value → Value → Value → Value → Value → World → Prop) (n_3 out_4 high_5 at_8 t37 t38 t39 : Value) (w : World) : Prop :=
  Stp pg (sBin .add 3 (.tmp 39) (.const (.int .i64 1)) t39 (.int .i64 1)) w fun t68 w =>
  kn n_3 out_4 high_5 at_8 t37 t38 t68 w
theorem fse_spread_p2_ok (Q : Exit → Env → World → Prop) (g : Env) (w : World) (kn : Value → Value → Value → Value → Value → Value → Value → World → Prop) (hn : ∀ g w, kn (g 3) (g 4) (g 5) (g 8) (g 37) (g 38) (g 39) w → Q .normal g w) (h : fse_spread_p2 kn (g 3) (g 4) (g 5) (g 8) (g 37) (g 38) (g 39) w) : den pg ann_fse_spread (dropS 1 (dropS 2 (bI (bI (dropS 1 (takeS 1 (dropS 1 (dropS 1 (dropS 4 code_fse_spread))))))))) Q g w := by
  have e : (fse_spread_p2 kn (g 3) (g 4) (g 5) (g 8) (g 37) (g 38) (g 39) w) = den pg ann_fse_spread (dropS 1 (dropS 2 (bI (bI (dropS 1 (takeS 1 (dropS 1 (dropS 1 (dropS 4 code_fse_spread))))))))) (exQ (fun g w => kn (g 3) (g 4) (g 5) (g 8) (g 37) (g 38) (g 39) w) (fun _ _ => False) []) g w := by kernel_rfl
  exact den_exQ e h hn (fun _ _ h => h.elim) trivial

def fse_spread_p3 (kn : Value → Value → Value → Value → Value → Value → Value → Value → Value → Value → World → Prop) (n_3 out_4 high_5 at_8 s_9 t37 t38 t39 t45 t46 : Value) (w : World) : Prop :=
  Stp pg (sBin .add 3 (.tmp 46) (.const (.int .i64 1)) t46 (.int .i64 1)) w fun t67 w =>
  kn n_3 out_4 high_5 at_8 s_9 t37 t38 t39 t45 t67 w
theorem fse_spread_p3_ok (Q : Exit → Env → World → Prop) (g : Env) (w : World) (kn : Value → Value → Value → Value → Value → Value → Value → Value → Value → Value → World → Prop) (hn : ∀ g w, kn (g 3) (g 4) (g 5) (g 8) (g 9) (g 37) (g 38) (g 39) (g 45) (g 46) w → Q .normal g w) (h : fse_spread_p3 kn (g 3) (g 4) (g 5) (g 8) (g 9) (g 37) (g 38) (g 39) (g 45) (g 46) w) : den pg ann_fse_spread (dropS 1 (dropS 2 (bI (bI (dropS 2 (bI (dropS 1 (bI (takeS 1 (dropS 2 (bI (bI (dropS 1 (takeS 1 (dropS 1 (dropS 1 (dropS 4 code_fse_spread))))))))))))))))) Q g w := by
  have e : (fse_spread_p3 kn (g 3) (g 4) (g 5) (g 8) (g 9) (g 37) (g 38) (g 39) (g 45) (g 46) w) = den pg ann_fse_spread (dropS 1 (dropS 2 (bI (bI (dropS 2 (bI (dropS 1 (bI (takeS 1 (dropS 2 (bI (bI (dropS 1 (takeS 1 (dropS 1 (dropS 1 (dropS 4 code_fse_spread))))))))))))))))) (exQ (fun g w => kn (g 3) (g 4) (g 5) (g 8) (g 9) (g 37) (g 38) (g 39) (g 45) (g 46) w) (fun _ _ => False) []) g w := by kernel_rfl
  exact den_exQ e h hn (fun _ _ h => h.elim) trivial

def fse_spread_p4 (kn : Value → Value → Value → Value → Value → Value → Value → Value → Value → Value → World → Prop) (k5 : Value → Value → Value → Value → Value → Value → Value → Value → Value → Value → World → Prop) (n_3 out_4 high_5 at_8 s_9 t37 t38 t39 t45 t46 : Value) (w : World) : Prop :=
  Stp pg (sBin .shr 3 (.tmp 55) (.const (.int .u64 1)) n_3 (.int .u64 1)) w fun t56 w =>
  Stp pg (sBin .add 3 (.tmp 54) (.tmp 56) at_8 t56) w fun t57 w =>
  Stp pg (sBin .shr 3 (.tmp 58) (.const (.int .u64 3)) n_3 (.int .u64 3)) w fun t59 w =>
  Stp pg (sBin .add 3 (.tmp 57) (.tmp 59) t57 t59) w fun t60 w =>
  Stp pg (sBin .add 3 (.tmp 60) (.const (.int .i64 3)) t60 (.int .i64 3)) w fun t61 w =>
  Stp pg (sBin .rem 3 (.tmp 61) (.tmp 62) t61 n_3) w fun t63 w =>
  Stp pg (sBin .lss 3 (.tmp 64) (.tmp 65) t63 high_5) w fun t66 w =>
  Cnd t66
    (k5 n_3 out_4 high_5 t63 s_9 t37 t38 t39 t45 t46 w)
    (kn n_3 out_4 high_5 t63 s_9 t37 t38 t39 t45 t46 w)
theorem fse_spread_p4_ok (Q : Exit → Env → World → Prop) (g : Env) (w : World) (kn : Value → Value → Value → Value → Value → Value → Value → Value → Value → Value → World → Prop) (k5 : Value → Value → Value → Value → Value → Value → Value → Value → Value → Value → World → Prop) (hn : ∀ g w, kn (g 3) (g 4) (g 5) (g 8) (g 9) (g 37) (g 38) (g 39) (g 45) (g 46) w → Q .normal g w) (h5 : ∀ g w, k5 (g 3) (g 4) (g 5) (g 8) (g 9) (g 37) (g 38) (g 39) (g 45) (g 46) w → Q (.exit 5) g w) (h : fse_spread_p4 kn k5 (g 3) (g 4) (g 5) (g 8) (g 9) (g 37) (g 38) (g 39) (g 45) (g 46) w) : den pg ann_fse_spread (bI (bI (dropS 1 (bI (takeS 1 (dropS 2 (bI (bI (dropS 2 (bI (dropS 1 (bI (takeS 1 (dropS 2 (bI (bI (dropS 1 (takeS 1 (dropS 1 (dropS 1 (dropS 4 code_fse_spread))))))))))))))))))))) Q g w := by
  have e : (fse_spread_p4 kn k5 (g 3) (g 4) (g 5) (g 8) (g 9) (g 37) (g 38) (g 39) (g 45) (g 46) w) = den pg ann_fse_spread (bI (bI (dropS 1 (bI (takeS 1 (dropS 2 (bI (bI (dropS 2 (bI (dropS 1 (bI (takeS 1 (dropS 2 (bI (bI (dropS 1 (takeS 1 (dropS 1 (dropS 1 (dropS 4 code_fse_spread))))))))))))))))))))) (exQ (fun g w => kn (g 3) (g 4) (g 5) (g 8) (g 9) (g 37) (g 38) (g 39) (g 45) (g 46) w) (fun _ _ => False) [(5, fun g w => k5 (g 3) (g 4) (g 5) (g 8) (g 9) (g 37) (g 38) (g 39) (g 45) (g 46) w)]) g w := by kernel_rfl
  exact den_exQ e h hn (fun _ _ h => h.elim) ⟨h5, trivial⟩

def fse_spread_p5 (k5 : Value → Value → Value → Value → Value → Value → Value → Value → Value → Value → World → Prop) (n_3 out_4 high_5 at_8 s_9 t37 t38 t39 t45 t46 : Value) (w : World) : Prop :=
  LoopD (fun (X : Value → World → Prop) (t : Value) (w : World) => fse_spread_p4 (fun _ _ _ at_8 _ _ _ _ _ _ w => X at_8 w) k5 n_3 out_4 high_5 t s_9 t37 t38 t39 t45 t46 w) at_8 w
theorem fse_spread_p5_ok (Q : Exit → Env → World → Prop) (g : Env) (w : World) (k5 : Value → Value → Value → Value → Value → Value → Value → Value → Value → Value → World → Prop) (h5 : ∀ g w, k5 (g 3) (g 4) (g 5) (g 8) (g 9) (g 37) (g 38) (g 39) (g 45) (g 46) w → Q (.exit 5) g w) (h : fse_spread_p5 k5 (g 3) (g 4) (g 5) (g 8) (g 9) (g 37) (g 38) (g 39) (g 45) (g 46) w) : den pg ann_fse_spread (bI (dropS 1 (bI (takeS 1 (dropS 2 (bI (bI (dropS 2 (bI (dropS 1 (bI (takeS 1 (dropS 2 (bI (bI (dropS 1 (takeS 1 (dropS 1 (dropS 1 (dropS 4 code_fse_spread)))))))))))))))))))) Q g w := by
  refine den_loops (T := Value) (fun g : Env => g 8) (fun X t w => fse_spread_p4 (fun _ _ _ at_8 _ _ _ _ _ _ w => X at_8 w) k5 (g 3) (g 4) (g 5) t (g 9) (g 37) (g 38) (g 39) (g 45) (g 46) w) (bI (dropS 1 (bI (takeS 1 (dropS 2 (bI (bI (dropS 2 (bI (dropS 1 (bI (takeS 1 (dropS 2 (bI (bI (dropS 1 (takeS 1 (dropS 1 (dropS 1 (dropS 4 code_fse_spread)))))))))))))))))))) (by kernel_rfl) h (fun X g1 w1 ha h1 => ?_)
  rw [← agree_at (s := 3) ha (by kernel_rfl)] at h1
  rw [← agree_at (s := 4) ha (by kernel_rfl)] at h1
  rw [← agree_at (s := 5) ha (by kernel_rfl)] at h1
  rw [← agree_at (s := 9) ha (by kernel_rfl)] at h1
  rw [← agree_at (s := 37) ha (by kernel_rfl)] at h1
  rw [← agree_at (s := 38) ha (by kernel_rfl)] at h1
  rw [← agree_at (s := 39) ha (by kernel_rfl)] at h1
  rw [← agree_at (s := 45) ha (by kernel_rfl)] at h1
  rw [← agree_at (s := 46) ha (by kernel_rfl)] at h1
  exact (fse_spread_p4_ok (thenE (fun g2 w2 => X ((fun g : Env => g 8) g2) w2) Q) g1 w1 (fun _ _ _ at_8 _ _ _ _ _ _ w => X at_8 w) k5 (fun _ _ h => h) h5 h1)

def fse_spread_p6 (k5 : Value → Value → Value → Value → Value → Value → Value → Value → Value → Value → World → Prop) (n_3 out_4 high_5 at_8 s_9 t37 t38 t39 t45 t46 : Value) (w : World) : Prop :=
  fse_spread_p5 k5 n_3 out_4 high_5 at_8 s_9 t37 t38 t39 t45 t46 w
theorem fse_spread_p6_ok (Q : Exit → Env → World → Prop) (g : Env) (w : World) (k5 : Value → Value → Value → Value → Value → Value → Value → Value → Value → Value → World → Prop) (h5 : ∀ g w, k5 (g 3) (g 4) (g 5) (g 8) (g 9) (g 37) (g 38) (g 39) (g 45) (g 46) w → Q (.exit 5) g w) (h : fse_spread_p6 k5 (g 3) (g 4) (g 5) (g 8) (g 9) (g 37) (g 38) (g 39) (g 45) (g 46) w) : den pg ann_fse_spread (dropS 1 (bI (takeS 1 (dropS 2 (bI (bI (dropS 2 (bI (dropS 1 (bI (takeS 1 (dropS 2 (bI (bI (dropS 1 (takeS 1 (dropS 1 (dropS 1 (dropS 4 code_fse_spread))))))))))))))))))) Q g w :=
  den_blk 6 (dropS 1 (bI (takeS 1 (dropS 2 (bI (bI (dropS 2 (bI (dropS 1 (bI (takeS 1 (dropS 2 (bI (bI (dropS 1 (takeS 1 (dropS 1 (dropS 1 (dropS 4 code_fse_spread))))))))))))))))))) g w (by kernel_rfl) (fse_spread_p5_ok (blk 6 Q) g w k5 h5 h)

def fse_spread_p7 (kn : Value → Value → Value → Value → Value → Value → Value → Value → Value → Value → World → Prop) (n_3 out_4 high_5 at_8 s_9 t37 t38 t39 t45 t46 : Value) (w : World) : Prop :=
  Stp pg (sCvt 3 5 s_9) w fun t51 w =>
  Stp pg (sIAddr 26 out_4 at_8) w fun t52 w =>
  Stp pg (sFAddr 43 t52 0) w fun t53 w =>
  Stp pg (sStore 5 t53 t51) w fun _u w =>
  kn n_3 out_4 high_5 at_8 s_9 t37 t38 t39 t45 t46 w
theorem fse_spread_p7_ok (Q : Exit → Env → World → Prop) (g : Env) (w : World) (kn : Value → Value → Value → Value → Value → Value → Value → Value → Value → Value → World → Prop) (hn : ∀ g w, kn (g 3) (g 4) (g 5) (g 8) (g 9) (g 37) (g 38) (g 39) (g 45) (g 46) w → Q .normal g w) (h : fse_spread_p7 kn (g 3) (g 4) (g 5) (g 8) (g 9) (g 37) (g 38) (g 39) (g 45) (g 46) w) : den pg ann_fse_spread (takeS 1 (bI (takeS 1 (dropS 2 (bI (bI (dropS 2 (bI (dropS 1 (bI (takeS 1 (dropS 2 (bI (bI (dropS 1 (takeS 1 (dropS 1 (dropS 1 (dropS 4 code_fse_spread))))))))))))))))))) Q g w := by
  have e : (fse_spread_p7 kn (g 3) (g 4) (g 5) (g 8) (g 9) (g 37) (g 38) (g 39) (g 45) (g 46) w) = den pg ann_fse_spread (takeS 1 (bI (takeS 1 (dropS 2 (bI (bI (dropS 2 (bI (dropS 1 (bI (takeS 1 (dropS 2 (bI (bI (dropS 1 (takeS 1 (dropS 1 (dropS 1 (dropS 4 code_fse_spread))))))))))))))))))) (exQ (fun g w => kn (g 3) (g 4) (g 5) (g 8) (g 9) (g 37) (g 38) (g 39) (g 45) (g 46) w) (fun _ _ => False) []) g w := by kernel_rfl
  exact den_exQ e h hn (fun _ _ h => h.elim) trivial

def fse_spread_p8 (k5 : Value → Value → Value → Value → Value → Value → Value → Value → Value → Value → World → Prop) (n_3 out_4 high_5 at_8 s_9 t37 t38 t39 t45 t46 : Value) (w : World) : Prop :=
  fse_spread_p7 (fun n_3 out_4 high_5 at_8 s_9 t37 t38 t39 t45 t46 w => fse_spread_p6 k5 n_3 out_4 high_5 at_8 s_9 t37 t38 t39 t45 t46 w) n_3 out_4 high_5 at_8 s_9 t37 t38 t39 t45 t46 w
theorem fse_spread_p8_ok (Q : Exit → Env → World → Prop) (g : Env) (w : World) (k5 : Value → Value → Value → Value → Value → Value → Value → Value → Value → Value → World → Prop) (h5 : ∀ g w, k5 (g 3) (g 4) (g 5) (g 8) (g 9) (g 37) (g 38) (g 39) (g 45) (g 46) w → Q (.exit 5) g w) (h : fse_spread_p8 k5 (g 3) (g 4) (g 5) (g 8) (g 9) (g 37) (g 38) (g 39) (g 45) (g 46) w) : den pg ann_fse_spread (bI (takeS 1 (dropS 2 (bI (bI (dropS 2 (bI (dropS 1 (bI (takeS 1 (dropS 2 (bI (bI (dropS 1 (takeS 1 (dropS 1 (dropS 1 (dropS 4 code_fse_spread)))))))))))))))))) Q g w := by
  exact den_seqs 1 (bI (takeS 1 (dropS 2 (bI (bI (dropS 2 (bI (dropS 1 (bI (takeS 1 (dropS 2 (bI (bI (dropS 1 (takeS 1 (dropS 1 (dropS 1 (dropS 4 code_fse_spread)))))))))))))))))) g w (by kernel_rfl) (fse_spread_p7_ok (thenE (fun g w => den pg ann_fse_spread (dropS 1 (bI (takeS 1 (dropS 2 (bI (bI (dropS 2 (bI (dropS 1 (bI (takeS 1 (dropS 2 (bI (bI (dropS 1 (takeS 1 (dropS 1 (dropS 1 (dropS 4 code_fse_spread))))))))))))))))))) Q g w) Q) g w (fun n_3 out_4 high_5 at_8 s_9 t37 t38 t39 t45 t46 w => fse_spread_p6 k5 n_3 out_4 high_5 at_8 s_9 t37 t38 t39 t45 t46 w) (fun g w h => thenE_n (K := fun g w => den pg ann_fse_spread (dropS 1 (bI (takeS 1 (dropS 2 (bI (bI (dropS 2 (bI (dropS 1 (bI (takeS 1 (dropS 2 (bI (bI (dropS 1 (takeS 1 (dropS 1 (dropS 1 (dropS 4 code_fse_spread))))))))))))))))))) Q g w) (fse_spread_p6_ok Q g w k5 h5 h)) h)

def fse_spread_p9 (kn : Value → Value → Value → Value → Value → Value → Value → Value → Value → Value → World → Prop) (n_3 out_4 high_5 at_8 s_9 t37 t38 t39 t45 t46 : Value) (w : World) : Prop :=
  fse_spread_p8 kn n_3 out_4 high_5 at_8 s_9 t37 t38 t39 t45 t46 w
theorem fse_spread_p9_ok (Q : Exit → Env → World → Prop) (g : Env) (w : World) (kn : Value → Value → Value → Value → Value → Value → Value → Value → Value → Value → World → Prop) (hn : ∀ g w, kn (g 3) (g 4) (g 5) (g 8) (g 9) (g 37) (g 38) (g 39) (g 45) (g 46) w → Q .normal g w) (h : fse_spread_p9 kn (g 3) (g 4) (g 5) (g 8) (g 9) (g 37) (g 38) (g 39) (g 45) (g 46) w) : den pg ann_fse_spread (takeS 1 (dropS 2 (bI (bI (dropS 2 (bI (dropS 1 (bI (takeS 1 (dropS 2 (bI (bI (dropS 1 (takeS 1 (dropS 1 (dropS 1 (dropS 4 code_fse_spread))))))))))))))))) Q g w :=
  den_blk 5 (takeS 1 (dropS 2 (bI (bI (dropS 2 (bI (dropS 1 (bI (takeS 1 (dropS 2 (bI (bI (dropS 1 (takeS 1 (dropS 1 (dropS 1 (dropS 4 code_fse_spread))))))))))))))))) g w (by kernel_rfl) (fse_spread_p8_ok (blk 5 Q) g w kn hn h)

def fse_spread_p10 (kn : Value → Value → Value → Value → Value → Value → Value → Value → Value → Value → World → Prop) (n_3 out_4 high_5 at_8 s_9 t37 t38 t39 t45 t46 : Value) (w : World) : Prop :=
  fse_spread_p9 (fun n_3 out_4 high_5 at_8 s_9 t37 t38 t39 t45 t46 w => fse_spread_p3 kn n_3 out_4 high_5 at_8 s_9 t37 t38 t39 t45 t46 w) n_3 out_4 high_5 at_8 s_9 t37 t38 t39 t45 t46 w
theorem fse_spread_p10_ok (Q : Exit → Env → World → Prop) (g : Env) (w : World) (kn : Value → Value → Value → Value → Value → Value → Value → Value → Value → Value → World → Prop) (hn : ∀ g w, kn (g 3) (g 4) (g 5) (g 8) (g 9) (g 37) (g 38) (g 39) (g 45) (g 46) w → Q .normal g w) (h : fse_spread_p10 kn (g 3) (g 4) (g 5) (g 8) (g 9) (g 37) (g 38) (g 39) (g 45) (g 46) w) : den pg ann_fse_spread (dropS 2 (bI (bI (dropS 2 (bI (dropS 1 (bI (takeS 1 (dropS 2 (bI (bI (dropS 1 (takeS 1 (dropS 1 (dropS 1 (dropS 4 code_fse_spread)))))))))))))))) Q g w := by
  exact den_seqs 1 (dropS 2 (bI (bI (dropS 2 (bI (dropS 1 (bI (takeS 1 (dropS 2 (bI (bI (dropS 1 (takeS 1 (dropS 1 (dropS 1 (dropS 4 code_fse_spread)))))))))))))))) g w (by kernel_rfl) (fse_spread_p9_ok (thenE (fun g w => den pg ann_fse_spread (dropS 1 (dropS 2 (bI (bI (dropS 2 (bI (dropS 1 (bI (takeS 1 (dropS 2 (bI (bI (dropS 1 (takeS 1 (dropS 1 (dropS 1 (dropS 4 code_fse_spread))))))))))))))))) Q g w) Q) g w (fun n_3 out_4 high_5 at_8 s_9 t37 t38 t39 t45 t46 w => fse_spread_p3 kn n_3 out_4 high_5 at_8 s_9 t37 t38 t39 t45 t46 w) (fun g w h => thenE_n (K := fun g w => den pg ann_fse_spread (dropS 1 (dropS 2 (bI (bI (dropS 2 (bI (dropS 1 (bI (takeS 1 (dropS 2 (bI (bI (dropS 1 (takeS 1 (dropS 1 (dropS 1 (dropS 4 code_fse_spread))))))))))))))))) Q g w) (fse_spread_p3_ok Q g w kn hn h)) h)

def fse_spread_p11 (kn : Value → Value → Value → Value → Value → Value → Value → Value → Value → Value → World → Prop) (k4 : Value → Value → Value → Value → Value → Value → Value → World → Prop) (n_3 out_4 high_5 at_8 s_9 t37 t38 t39 t45 t46 : Value) (w : World) : Prop :=
  Stp pg (sBin .lss 3 (.tmp 46) (.tmp 45) t46 t45) w fun t47 w =>
  Cnd t47
    (kn n_3 out_4 high_5 at_8 s_9 t37 t38 t39 t45 t46 w)
    (k4 n_3 out_4 high_5 at_8 t37 t38 t39 w)
theorem fse_spread_p11_ok (Q : Exit → Env → World → Prop) (g : Env) (w : World) (kn : Value → Value → Value → Value → Value → Value → Value → Value → Value → Value → World → Prop) (k4 : Value → Value → Value → Value → Value → Value → Value → World → Prop) (hn : ∀ g w, kn (g 3) (g 4) (g 5) (g 8) (g 9) (g 37) (g 38) (g 39) (g 45) (g 46) w → Q .normal g w) (h4 : ∀ g w, k4 (g 3) (g 4) (g 5) (g 8) (g 37) (g 38) (g 39) w → Q (.exit 4) g w) (h : fse_spread_p11 kn k4 (g 3) (g 4) (g 5) (g 8) (g 9) (g 37) (g 38) (g 39) (g 45) (g 46) w) : den pg ann_fse_spread (takeS 2 (bI (bI (dropS 2 (bI (dropS 1 (bI (takeS 1 (dropS 2 (bI (bI (dropS 1 (takeS 1 (dropS 1 (dropS 1 (dropS 4 code_fse_spread)))))))))))))))) Q g w := by
  have e : (fse_spread_p11 kn k4 (g 3) (g 4) (g 5) (g 8) (g 9) (g 37) (g 38) (g 39) (g 45) (g 46) w) = den pg ann_fse_spread (takeS 2 (bI (bI (dropS 2 (bI (dropS 1 (bI (takeS 1 (dropS 2 (bI (bI (dropS 1 (takeS 1 (dropS 1 (dropS 1 (dropS 4 code_fse_spread)))))))))))))))) (exQ (fun g w => kn (g 3) (g 4) (g 5) (g 8) (g 9) (g 37) (g 38) (g 39) (g 45) (g 46) w) (fun _ _ => False) [(4, fun g w => k4 (g 3) (g 4) (g 5) (g 8) (g 37) (g 38) (g 39) w)]) g w := by kernel_rfl
  exact den_exQ e h hn (fun _ _ h => h.elim) ⟨h4, trivial⟩

def fse_spread_p12 (kn : Value → Value → Value → Value → Value → Value → Value → Value → Value → Value → World → Prop) (k4 : Value → Value → Value → Value → Value → Value → Value → World → Prop) (n_3 out_4 high_5 at_8 s_9 t37 t38 t39 t45 t46 : Value) (w : World) : Prop :=
  fse_spread_p11 (fun n_3 out_4 high_5 at_8 s_9 t37 t38 t39 t45 t46 w => fse_spread_p10 kn n_3 out_4 high_5 at_8 s_9 t37 t38 t39 t45 t46 w) k4 n_3 out_4 high_5 at_8 s_9 t37 t38 t39 t45 t46 w
theorem fse_spread_p12_ok (Q : Exit → Env → World → Prop) (g : Env) (w : World) (kn : Value → Value → Value → Value → Value → Value → Value → Value → Value → Value → World → Prop) (k4 : Value → Value → Value → Value → Value → Value → Value → World → Prop) (hn : ∀ g w, kn (g 3) (g 4) (g 5) (g 8) (g 9) (g 37) (g 38) (g 39) (g 45) (g 46) w → Q .normal g w) (h4 : ∀ g w, k4 (g 3) (g 4) (g 5) (g 8) (g 37) (g 38) (g 39) w → Q (.exit 4) g w) (h : fse_spread_p12 kn k4 (g 3) (g 4) (g 5) (g 8) (g 9) (g 37) (g 38) (g 39) (g 45) (g 46) w) : den pg ann_fse_spread (bI (bI (dropS 2 (bI (dropS 1 (bI (takeS 1 (dropS 2 (bI (bI (dropS 1 (takeS 1 (dropS 1 (dropS 1 (dropS 4 code_fse_spread))))))))))))))) Q g w := by
  exact den_seqs 2 (bI (bI (dropS 2 (bI (dropS 1 (bI (takeS 1 (dropS 2 (bI (bI (dropS 1 (takeS 1 (dropS 1 (dropS 1 (dropS 4 code_fse_spread))))))))))))))) g w (by kernel_rfl) (fse_spread_p11_ok (thenE (fun g w => den pg ann_fse_spread (dropS 2 (bI (bI (dropS 2 (bI (dropS 1 (bI (takeS 1 (dropS 2 (bI (bI (dropS 1 (takeS 1 (dropS 1 (dropS 1 (dropS 4 code_fse_spread)))))))))))))))) Q g w) Q) g w (fun n_3 out_4 high_5 at_8 s_9 t37 t38 t39 t45 t46 w => fse_spread_p10 kn n_3 out_4 high_5 at_8 s_9 t37 t38 t39 t45 t46 w) k4 (fun g w h => thenE_n (K := fun g w => den pg ann_fse_spread (dropS 2 (bI (bI (dropS 2 (bI (dropS 1 (bI (takeS 1 (dropS 2 (bI (bI (dropS 1 (takeS 1 (dropS 1 (dropS 1 (dropS 4 code_fse_spread)))))))))))))))) Q g w) (fse_spread_p10_ok Q g w kn hn h)) h4 h)

def fse_spread_p13 (k4 : Value → Value → Value → Value → Value → Value → Value → World → Prop) (n_3 out_4 high_5 at_8 s_9 t37 t38 t39 t45 t46 : Value) (w : World) : Prop :=
  LoopD (fun (X : (Value × Value) → World → Prop) (t : Value × Value) (w : World) => fse_spread_p12 (fun _ _ _ at_8 _ _ _ _ _ t46 w => X (at_8, t46) w) k4 n_3 out_4 high_5 t.1 s_9 t37 t38 t39 t45 t.2 w) (at_8, t46) w
theorem fse_spread_p13_ok (Q : Exit → Env → World → Prop) (g : Env) (w : World) (k4 : Value → Value → Value → Value → Value → Value → Value → World → Prop) (h4 : ∀ g w, k4 (g 3) (g 4) (g 5) (g 8) (g 37) (g 38) (g 39) w → Q (.exit 4) g w) (h : fse_spread_p13 k4 (g 3) (g 4) (g 5) (g 8) (g 9) (g 37) (g 38) (g 39) (g 45) (g 46) w) : den pg ann_fse_spread (bI (dropS 2 (bI (dropS 1 (bI (takeS 1 (dropS 2 (bI (bI (dropS 1 (takeS 1 (dropS 1 (dropS 1 (dropS 4 code_fse_spread)))))))))))))) Q g w := by
  refine den_loops (T := Value × Value) (fun g : Env => (g 8, g 46)) (fun X t w => fse_spread_p12 (fun _ _ _ at_8 _ _ _ _ _ t46 w => X (at_8, t46) w) k4 (g 3) (g 4) (g 5) t.1 (g 9) (g 37) (g 38) (g 39) (g 45) t.2 w) (bI (dropS 2 (bI (dropS 1 (bI (takeS 1 (dropS 2 (bI (bI (dropS 1 (takeS 1 (dropS 1 (dropS 1 (dropS 4 code_fse_spread)))))))))))))) (by kernel_rfl) h (fun X g1 w1 ha h1 => ?_)
  rw [← agree_at (s := 3) ha (by kernel_rfl)] at h1
  rw [← agree_at (s := 4) ha (by kernel_rfl)] at h1
  rw [← agree_at (s := 5) ha (by kernel_rfl)] at h1
  rw [← agree_at (s := 9) ha (by kernel_rfl)] at h1
  rw [← agree_at (s := 37) ha (by kernel_rfl)] at h1
  rw [← agree_at (s := 38) ha (by kernel_rfl)] at h1
  rw [← agree_at (s := 39) ha (by kernel_rfl)] at h1
  rw [← agree_at (s := 45) ha (by kernel_rfl)] at h1
  exact (fse_spread_p12_ok (thenE (fun g2 w2 => X ((fun g : Env => (g 8, g 46)) g2) w2) Q) g1 w1 (fun _ _ _ at_8 _ _ _ _ _ t46 w => X (at_8, t46) w) k4 (fun _ _ h => h) h4 h1)

def fse_spread_p14 (kn : Value → Value → Value → Value → Value → Value → Value → World → Prop) (n_3 out_4 high_5 at_8 s_9 t37 t38 t39 t45 t46 : Value) (w : World) : Prop :=
  fse_spread_p13 kn n_3 out_4 high_5 at_8 s_9 t37 t38 t39 t45 t46 w
theorem fse_spread_p14_ok (Q : Exit → Env → World → Prop) (g : Env) (w : World) (kn : Value → Value → Value → Value → Value → Value → Value → World → Prop) (hn : ∀ g w, kn (g 3) (g 4) (g 5) (g 8) (g 37) (g 38) (g 39) w → Q .normal g w) (h : fse_spread_p14 kn (g 3) (g 4) (g 5) (g 8) (g 9) (g 37) (g 38) (g 39) (g 45) (g 46) w) : den pg ann_fse_spread (dropS 2 (bI (dropS 1 (bI (takeS 1 (dropS 2 (bI (bI (dropS 1 (takeS 1 (dropS 1 (dropS 1 (dropS 4 code_fse_spread))))))))))))) Q g w :=
  den_blk 4 (dropS 2 (bI (dropS 1 (bI (takeS 1 (dropS 2 (bI (bI (dropS 1 (takeS 1 (dropS 1 (dropS 1 (dropS 4 code_fse_spread))))))))))))) g w (by kernel_rfl) (fse_spread_p13_ok (blk 4 Q) g w kn hn h)

def fse_spread_p15 (kn : Value → Value → Value → Value → Value → Value → Value → Value → Value → Value → World → Prop) (n_3 out_4 high_5 at_8 s_9 p_10 t37 t38 t39 : Value) (w : World) : Prop :=
  Stp pg (sBi .max #[3, 3] 3 [p_10, (.int .i64 0)]) w fun t45 w =>
  kn n_3 out_4 high_5 at_8 s_9 t37 t38 t39 t45 (.int .i64 0) w
theorem fse_spread_p15_ok (Q : Exit → Env → World → Prop) (g : Env) (w : World) (kn : Value → Value → Value → Value → Value → Value → Value → Value → Value → Value → World → Prop) (hn : ∀ g w, kn (g 3) (g 4) (g 5) (g 8) (g 9) (g 37) (g 38) (g 39) (g 45) (g 46) w → Q .normal g w) (h : fse_spread_p15 kn (g 3) (g 4) (g 5) (g 8) (g 9) (g 10) (g 37) (g 38) (g 39) w) : den pg ann_fse_spread (takeS 2 (bI (dropS 1 (bI (takeS 1 (dropS 2 (bI (bI (dropS 1 (takeS 1 (dropS 1 (dropS 1 (dropS 4 code_fse_spread))))))))))))) Q g w := by
  have e : (fse_spread_p15 kn (g 3) (g 4) (g 5) (g 8) (g 9) (g 10) (g 37) (g 38) (g 39) w) = den pg ann_fse_spread (takeS 2 (bI (dropS 1 (bI (takeS 1 (dropS 2 (bI (bI (dropS 1 (takeS 1 (dropS 1 (dropS 1 (dropS 4 code_fse_spread))))))))))))) (exQ (fun g w => kn (g 3) (g 4) (g 5) (g 8) (g 9) (g 37) (g 38) (g 39) (g 45) (g 46) w) (fun _ _ => False) []) g w := by kernel_rfl
  exact den_exQ e h hn (fun _ _ h => h.elim) trivial

def fse_spread_p16 (kn : Value → Value → Value → Value → Value → Value → Value → World → Prop) (n_3 out_4 high_5 at_8 s_9 p_10 t37 t38 t39 : Value) (w : World) : Prop :=
  fse_spread_p15 (fun n_3 out_4 high_5 at_8 s_9 t37 t38 t39 t45 t46 w => fse_spread_p14 kn n_3 out_4 high_5 at_8 s_9 t37 t38 t39 t45 t46 w) n_3 out_4 high_5 at_8 s_9 p_10 t37 t38 t39 w
theorem fse_spread_p16_ok (Q : Exit → Env → World → Prop) (g : Env) (w : World) (kn : Value → Value → Value → Value → Value → Value → Value → World → Prop) (hn : ∀ g w, kn (g 3) (g 4) (g 5) (g 8) (g 37) (g 38) (g 39) w → Q .normal g w) (h : fse_spread_p16 kn (g 3) (g 4) (g 5) (g 8) (g 9) (g 10) (g 37) (g 38) (g 39) w) : den pg ann_fse_spread (bI (dropS 1 (bI (takeS 1 (dropS 2 (bI (bI (dropS 1 (takeS 1 (dropS 1 (dropS 1 (dropS 4 code_fse_spread)))))))))))) Q g w := by
  exact den_seqs 2 (bI (dropS 1 (bI (takeS 1 (dropS 2 (bI (bI (dropS 1 (takeS 1 (dropS 1 (dropS 1 (dropS 4 code_fse_spread)))))))))))) g w (by kernel_rfl) (fse_spread_p15_ok (thenE (fun g w => den pg ann_fse_spread (dropS 2 (bI (dropS 1 (bI (takeS 1 (dropS 2 (bI (bI (dropS 1 (takeS 1 (dropS 1 (dropS 1 (dropS 4 code_fse_spread))))))))))))) Q g w) Q) g w (fun n_3 out_4 high_5 at_8 s_9 t37 t38 t39 t45 t46 w => fse_spread_p14 kn n_3 out_4 high_5 at_8 s_9 t37 t38 t39 t45 t46 w) (fun g w h => thenE_n (K := fun g w => den pg ann_fse_spread (dropS 2 (bI (dropS 1 (bI (takeS 1 (dropS 2 (bI (bI (dropS 1 (takeS 1 (dropS 1 (dropS 1 (dropS 4 code_fse_spread))))))))))))) Q g w) (fse_spread_p14_ok Q g w kn hn h)) h)

def fse_spread_p17 (kn : Value → Value → Value → Value → Value → Value → Value → World → Prop) (n_3 out_4 high_5 at_8 s_9 p_10 t37 t38 t39 : Value) (w : World) : Prop :=
  fse_spread_p16 kn n_3 out_4 high_5 at_8 s_9 p_10 t37 t38 t39 w
theorem fse_spread_p17_ok (Q : Exit → Env → World → Prop) (g : Env) (w : World) (kn : Value → Value → Value → Value → Value → Value → Value → World → Prop) (hn : ∀ g w, kn (g 3) (g 4) (g 5) (g 8) (g 37) (g 38) (g 39) w → Q .normal g w) (h : fse_spread_p17 kn (g 3) (g 4) (g 5) (g 8) (g 9) (g 10) (g 37) (g 38) (g 39) w) : den pg ann_fse_spread (dropS 1 (bI (takeS 1 (dropS 2 (bI (bI (dropS 1 (takeS 1 (dropS 1 (dropS 1 (dropS 4 code_fse_spread))))))))))) Q g w :=
  den_scp (dropS 1 (bI (takeS 1 (dropS 2 (bI (bI (dropS 1 (takeS 1 (dropS 1 (dropS 1 (dropS 4 code_fse_spread))))))))))) g w (by kernel_rfl) (fse_spread_p16_ok Q g w kn hn h)

def fse_spread_p18 (kn : Value → Value → Value → Value → Value → Value → Value → Value → Value → World → Prop) (n_3 out_4 high_5 at_8 t37 t38 t39 : Value) (w : World) : Prop :=
  Stp pg (sIAddr 22 t37 t39) w fun t42 w =>
  Stp pg (sLoad 3 t42) w fun t43 w =>
  kn n_3 out_4 high_5 at_8 t39 t43 t37 t38 t39 w
theorem fse_spread_p18_ok (Q : Exit → Env → World → Prop) (g : Env) (w : World) (kn : Value → Value → Value → Value → Value → Value → Value → Value → Value → World → Prop) (hn : ∀ g w, kn (g 3) (g 4) (g 5) (g 8) (g 9) (g 10) (g 37) (g 38) (g 39) w → Q .normal g w) (h : fse_spread_p18 kn (g 3) (g 4) (g 5) (g 8) (g 37) (g 38) (g 39) w) : den pg ann_fse_spread (takeS 1 (bI (takeS 1 (dropS 2 (bI (bI (dropS 1 (takeS 1 (dropS 1 (dropS 1 (dropS 4 code_fse_spread))))))))))) Q g w := by
  have e : (fse_spread_p18 kn (g 3) (g 4) (g 5) (g 8) (g 37) (g 38) (g 39) w) = den pg ann_fse_spread (takeS 1 (bI (takeS 1 (dropS 2 (bI (bI (dropS 1 (takeS 1 (dropS 1 (dropS 1 (dropS 4 code_fse_spread))))))))))) (exQ (fun g w => kn (g 3) (g 4) (g 5) (g 8) (g 9) (g 10) (g 37) (g 38) (g 39) w) (fun _ _ => False) []) g w := by kernel_rfl
  exact den_exQ e h hn (fun _ _ h => h.elim) trivial

def fse_spread_p19 (kn : Value → Value → Value → Value → Value → Value → Value → World → Prop) (n_3 out_4 high_5 at_8 t37 t38 t39 : Value) (w : World) : Prop :=
  fse_spread_p18 (fun n_3 out_4 high_5 at_8 s_9 p_10 t37 t38 t39 w => fse_spread_p17 kn n_3 out_4 high_5 at_8 s_9 p_10 t37 t38 t39 w) n_3 out_4 high_5 at_8 t37 t38 t39 w
theorem fse_spread_p19_ok (Q : Exit → Env → World → Prop) (g : Env) (w : World) (kn : Value → Value → Value → Value → Value → Value → Value → World → Prop) (hn : ∀ g w, kn (g 3) (g 4) (g 5) (g 8) (g 37) (g 38) (g 39) w → Q .normal g w) (h : fse_spread_p19 kn (g 3) (g 4) (g 5) (g 8) (g 37) (g 38) (g 39) w) : den pg ann_fse_spread (bI (takeS 1 (dropS 2 (bI (bI (dropS 1 (takeS 1 (dropS 1 (dropS 1 (dropS 4 code_fse_spread)))))))))) Q g w := by
  exact den_seqs 1 (bI (takeS 1 (dropS 2 (bI (bI (dropS 1 (takeS 1 (dropS 1 (dropS 1 (dropS 4 code_fse_spread)))))))))) g w (by kernel_rfl) (fse_spread_p18_ok (thenE (fun g w => den pg ann_fse_spread (dropS 1 (bI (takeS 1 (dropS 2 (bI (bI (dropS 1 (takeS 1 (dropS 1 (dropS 1 (dropS 4 code_fse_spread))))))))))) Q g w) Q) g w (fun n_3 out_4 high_5 at_8 s_9 p_10 t37 t38 t39 w => fse_spread_p17 kn n_3 out_4 high_5 at_8 s_9 p_10 t37 t38 t39 w) (fun g w h => thenE_n (K := fun g w => den pg ann_fse_spread (dropS 1 (bI (takeS 1 (dropS 2 (bI (bI (dropS 1 (takeS 1 (dropS 1 (dropS 1 (dropS 4 code_fse_spread))))))))))) Q g w) (fse_spread_p17_ok Q g w kn hn h)) h)

def fse_spread_p20 (kn : Value → Value → Value → Value → Value → Value → Value → World → Prop) (n_3 out_4 high_5 at_8 t37 t38 t39 : Value) (w : World) : Prop :=
  fse_spread_p19 kn n_3 out_4 high_5 at_8 t37 t38 t39 w
theorem fse_spread_p20_ok (Q : Exit → Env → World → Prop) (g : Env) (w : World) (kn : Value → Value → Value → Value → Value → Value → Value → World → Prop) (hn : ∀ g w, kn (g 3) (g 4) (g 5) (g 8) (g 37) (g 38) (g 39) w → Q .normal g w) (h : fse_spread_p20 kn (g 3) (g 4) (g 5) (g 8) (g 37) (g 38) (g 39) w) : den pg ann_fse_spread (takeS 1 (dropS 2 (bI (bI (dropS 1 (takeS 1 (dropS 1 (dropS 1 (dropS 4 code_fse_spread))))))))) Q g w :=
  den_blk 3 (takeS 1 (dropS 2 (bI (bI (dropS 1 (takeS 1 (dropS 1 (dropS 1 (dropS 4 code_fse_spread))))))))) g w (by kernel_rfl) (fse_spread_p19_ok (blk 3 Q) g w kn hn h)

def fse_spread_p21 (kn : Value → Value → Value → Value → Value → Value → Value → World → Prop) (n_3 out_4 high_5 at_8 t37 t38 t39 : Value) (w : World) : Prop :=
  fse_spread_p20 (fun n_3 out_4 high_5 at_8 t37 t38 t39 w => fse_spread_p2 kn n_3 out_4 high_5 at_8 t37 t38 t39 w) n_3 out_4 high_5 at_8 t37 t38 t39 w
theorem fse_spread_p21_ok (Q : Exit → Env → World → Prop) (g : Env) (w : World) (kn : Value → Value → Value → Value → Value → Value → Value → World → Prop) (hn : ∀ g w, kn (g 3) (g 4) (g 5) (g 8) (g 37) (g 38) (g 39) w → Q .normal g w) (h : fse_spread_p21 kn (g 3) (g 4) (g 5) (g 8) (g 37) (g 38) (g 39) w) : den pg ann_fse_spread (dropS 2 (bI (bI (dropS 1 (takeS 1 (dropS 1 (dropS 1 (dropS 4 code_fse_spread)))))))) Q g w := by
  exact den_seqs 1 (dropS 2 (bI (bI (dropS 1 (takeS 1 (dropS 1 (dropS 1 (dropS 4 code_fse_spread)))))))) g w (by kernel_rfl) (fse_spread_p20_ok (thenE (fun g w => den pg ann_fse_spread (dropS 1 (dropS 2 (bI (bI (dropS 1 (takeS 1 (dropS 1 (dropS 1 (dropS 4 code_fse_spread))))))))) Q g w) Q) g w (fun n_3 out_4 high_5 at_8 t37 t38 t39 w => fse_spread_p2 kn n_3 out_4 high_5 at_8 t37 t38 t39 w) (fun g w h => thenE_n (K := fun g w => den pg ann_fse_spread (dropS 1 (dropS 2 (bI (bI (dropS 1 (takeS 1 (dropS 1 (dropS 1 (dropS 4 code_fse_spread))))))))) Q g w) (fse_spread_p2_ok Q g w kn hn h)) h)

def fse_spread_p22 (kn : Value → Value → Value → Value → Value → Value → Value → World → Prop) (k2 : Value → World → Prop) (n_3 out_4 high_5 at_8 t37 t38 t39 : Value) (w : World) : Prop :=
  Stp pg (sBin .lss 3 (.tmp 39) (.tmp 38) t39 t38) w fun t40 w =>
  Cnd t40
    (kn n_3 out_4 high_5 at_8 t37 t38 t39 w)
    (k2 out_4 w)
theorem fse_spread_p22_ok (Q : Exit → Env → World → Prop) (g : Env) (w : World) (kn : Value → Value → Value → Value → Value → Value → Value → World → Prop) (k2 : Value → World → Prop) (hn : ∀ g w, kn (g 3) (g 4) (g 5) (g 8) (g 37) (g 38) (g 39) w → Q .normal g w) (h2 : ∀ g w, k2 (g 4) w → Q (.exit 2) g w) (h : fse_spread_p22 kn k2 (g 3) (g 4) (g 5) (g 8) (g 37) (g 38) (g 39) w) : den pg ann_fse_spread (takeS 2 (bI (bI (dropS 1 (takeS 1 (dropS 1 (dropS 1 (dropS 4 code_fse_spread)))))))) Q g w := by
  have e : (fse_spread_p22 kn k2 (g 3) (g 4) (g 5) (g 8) (g 37) (g 38) (g 39) w) = den pg ann_fse_spread (takeS 2 (bI (bI (dropS 1 (takeS 1 (dropS 1 (dropS 1 (dropS 4 code_fse_spread)))))))) (exQ (fun g w => kn (g 3) (g 4) (g 5) (g 8) (g 37) (g 38) (g 39) w) (fun _ _ => False) [(2, fun g w => k2 (g 4) w)]) g w := by kernel_rfl
  exact den_exQ e h hn (fun _ _ h => h.elim) ⟨h2, trivial⟩

def fse_spread_p23 (kn : Value → Value → Value → Value → Value → Value → Value → World → Prop) (k2 : Value → World → Prop) (n_3 out_4 high_5 at_8 t37 t38 t39 : Value) (w : World) : Prop :=
  fse_spread_p22 (fun n_3 out_4 high_5 at_8 t37 t38 t39 w => fse_spread_p21 kn n_3 out_4 high_5 at_8 t37 t38 t39 w) k2 n_3 out_4 high_5 at_8 t37 t38 t39 w
theorem fse_spread_p23_ok (Q : Exit → Env → World → Prop) (g : Env) (w : World) (kn : Value → Value → Value → Value → Value → Value → Value → World → Prop) (k2 : Value → World → Prop) (hn : ∀ g w, kn (g 3) (g 4) (g 5) (g 8) (g 37) (g 38) (g 39) w → Q .normal g w) (h2 : ∀ g w, k2 (g 4) w → Q (.exit 2) g w) (h : fse_spread_p23 kn k2 (g 3) (g 4) (g 5) (g 8) (g 37) (g 38) (g 39) w) : den pg ann_fse_spread (bI (bI (dropS 1 (takeS 1 (dropS 1 (dropS 1 (dropS 4 code_fse_spread))))))) Q g w := by
  exact den_seqs 2 (bI (bI (dropS 1 (takeS 1 (dropS 1 (dropS 1 (dropS 4 code_fse_spread))))))) g w (by kernel_rfl) (fse_spread_p22_ok (thenE (fun g w => den pg ann_fse_spread (dropS 2 (bI (bI (dropS 1 (takeS 1 (dropS 1 (dropS 1 (dropS 4 code_fse_spread)))))))) Q g w) Q) g w (fun n_3 out_4 high_5 at_8 t37 t38 t39 w => fse_spread_p21 kn n_3 out_4 high_5 at_8 t37 t38 t39 w) k2 (fun g w h => thenE_n (K := fun g w => den pg ann_fse_spread (dropS 2 (bI (bI (dropS 1 (takeS 1 (dropS 1 (dropS 1 (dropS 4 code_fse_spread)))))))) Q g w) (fse_spread_p21_ok Q g w kn hn h)) h2 h)

def fse_spread_p24 (k2 : Value → World → Prop) (n_3 out_4 high_5 at_8 t37 t38 t39 : Value) (w : World) : Prop :=
  LoopD (fun (X : (Value × Value) → World → Prop) (t : Value × Value) (w : World) => fse_spread_p23 (fun _ _ _ at_8 _ _ t39 w => X (at_8, t39) w) k2 n_3 out_4 high_5 t.1 t37 t38 t.2 w) (at_8, t39) w
theorem fse_spread_p24_ok (Q : Exit → Env → World → Prop) (g : Env) (w : World) (k2 : Value → World → Prop) (h2 : ∀ g w, k2 (g 4) w → Q (.exit 2) g w) (h : fse_spread_p24 k2 (g 3) (g 4) (g 5) (g 8) (g 37) (g 38) (g 39) w) : den pg ann_fse_spread (bI (dropS 1 (takeS 1 (dropS 1 (dropS 1 (dropS 4 code_fse_spread)))))) Q g w := by
  refine den_loops (T := Value × Value) (fun g : Env => (g 8, g 39)) (fun X t w => fse_spread_p23 (fun _ _ _ at_8 _ _ t39 w => X (at_8, t39) w) k2 (g 3) (g 4) (g 5) t.1 (g 37) (g 38) t.2 w) (bI (dropS 1 (takeS 1 (dropS 1 (dropS 1 (dropS 4 code_fse_spread)))))) (by kernel_rfl) h (fun X g1 w1 ha h1 => ?_)
  rw [← agree_at (s := 3) ha (by kernel_rfl)] at h1
  rw [← agree_at (s := 4) ha (by kernel_rfl)] at h1
  rw [← agree_at (s := 5) ha (by kernel_rfl)] at h1
  rw [← agree_at (s := 37) ha (by kernel_rfl)] at h1
  rw [← agree_at (s := 38) ha (by kernel_rfl)] at h1
  exact (fse_spread_p23_ok (thenE (fun g2 w2 => X ((fun g : Env => (g 8, g 39)) g2) w2) Q) g1 w1 (fun _ _ _ at_8 _ _ t39 w => X (at_8, t39) w) k2 (fun _ _ h => h) h2 h1)

def fse_spread_p25 (kn : Value → World → Prop) (n_3 out_4 high_5 at_8 t37 t38 t39 : Value) (w : World) : Prop :=
  fse_spread_p24 kn n_3 out_4 high_5 at_8 t37 t38 t39 w
theorem fse_spread_p25_ok (Q : Exit → Env → World → Prop) (g : Env) (w : World) (kn : Value → World → Prop) (hn : ∀ g w, kn (g 4) w → Q .normal g w) (h : fse_spread_p25 kn (g 3) (g 4) (g 5) (g 8) (g 37) (g 38) (g 39) w) : den pg ann_fse_spread (dropS 1 (takeS 1 (dropS 1 (dropS 1 (dropS 4 code_fse_spread))))) Q g w :=
  den_blk 2 (dropS 1 (takeS 1 (dropS 1 (dropS 1 (dropS 4 code_fse_spread))))) g w (by kernel_rfl) (fse_spread_p24_ok (blk 2 Q) g w kn hn h)

def fse_spread_p26 (kn : Value → Value → Value → Value → Value → Value → Value → World → Prop) (c_1 n_3 out_4 high_5 at_8 : Value) (w : World) : Prop :=
  Stp pg (sFAddr 24 c_1 1) w fun t36 w =>
  Stp pg (sLoad 22 t36) w fun t37 w =>
  Stp pg (sBi .len #[22] 3 [t37]) w fun t38 w =>
  kn n_3 out_4 high_5 at_8 t37 t38 (.int .i64 0) w
theorem fse_spread_p26_ok (Q : Exit → Env → World → Prop) (g : Env) (w : World) (kn : Value → Value → Value → Value → Value → Value → Value → World → Prop) (hn : ∀ g w, kn (g 3) (g 4) (g 5) (g 8) (g 37) (g 38) (g 39) w → Q .normal g w) (h : fse_spread_p26 kn (g 1) (g 3) (g 4) (g 5) (g 8) w) : den pg ann_fse_spread (takeS 1 (takeS 1 (dropS 1 (dropS 1 (dropS 4 code_fse_spread))))) Q g w := by
  have e : (fse_spread_p26 kn (g 1) (g 3) (g 4) (g 5) (g 8) w) = den pg ann_fse_spread (takeS 1 (takeS 1 (dropS 1 (dropS 1 (dropS 4 code_fse_spread))))) (exQ (fun g w => kn (g 3) (g 4) (g 5) (g 8) (g 37) (g 38) (g 39) w) (fun _ _ => False) []) g w := by kernel_rfl
  exact den_exQ e h hn (fun _ _ h => h.elim) trivial

def fse_spread_p27 (kn : Value → World → Prop) (c_1 n_3 out_4 high_5 at_8 : Value) (w : World) : Prop :=
  fse_spread_p26 (fun n_3 out_4 high_5 at_8 t37 t38 t39 w => fse_spread_p25 kn n_3 out_4 high_5 at_8 t37 t38 t39 w) c_1 n_3 out_4 high_5 at_8 w
theorem fse_spread_p27_ok (Q : Exit → Env → World → Prop) (g : Env) (w : World) (kn : Value → World → Prop) (hn : ∀ g w, kn (g 4) w → Q .normal g w) (h : fse_spread_p27 kn (g 1) (g 3) (g 4) (g 5) (g 8) w) : den pg ann_fse_spread (takeS 1 (dropS 1 (dropS 1 (dropS 4 code_fse_spread)))) Q g w := by
  exact den_seqs 1 (takeS 1 (dropS 1 (dropS 1 (dropS 4 code_fse_spread)))) g w (by kernel_rfl) (fse_spread_p26_ok (thenE (fun g w => den pg ann_fse_spread (dropS 1 (takeS 1 (dropS 1 (dropS 1 (dropS 4 code_fse_spread))))) Q g w) Q) g w (fun n_3 out_4 high_5 at_8 t37 t38 t39 w => fse_spread_p25 kn n_3 out_4 high_5 at_8 t37 t38 t39 w) (fun g w h => thenE_n (K := fun g w => den pg ann_fse_spread (dropS 1 (takeS 1 (dropS 1 (dropS 1 (dropS 4 code_fse_spread))))) Q g w) (fse_spread_p25_ok Q g w kn hn h)) h)

def fse_spread_p28 (R : Value → World → Prop) (c_1 n_3 out_4 high_5 at_8 : Value) (w : World) : Prop :=
  fse_spread_p27 (fun out_4 w => fse_spread_p1 R out_4 w) c_1 n_3 out_4 high_5 at_8 w
theorem fse_spread_p28_ok (Q : Exit → Env → World → Prop) (g : Env) (w : World) (R : Value → World → Prop) (hr : ∀ g w, (resVals pg rs_fse_spread g w fun vs => R (tup vs) w) → Q .ret g w) (h : fse_spread_p28 R (g 1) (g 3) (g 4) (g 5) (g 8) w) : den pg ann_fse_spread (dropS 1 (dropS 1 (dropS 4 code_fse_spread))) Q g w := by
  exact den_seqs 1 (dropS 1 (dropS 1 (dropS 4 code_fse_spread))) g w (by kernel_rfl) (fse_spread_p27_ok (thenE (fun g w => den pg ann_fse_spread (dropS 1 (dropS 1 (dropS 1 (dropS 4 code_fse_spread)))) Q g w) Q) g w (fun out_4 w => fse_spread_p1 R out_4 w) (fun g w h => thenE_n (K := fun g w => den pg ann_fse_spread (dropS 1 (dropS 1 (dropS 1 (dropS 4 code_fse_spread)))) Q g w) (fse_spread_p1_ok Q g w R hr h)) h)

def fse_spread_p29 (kn : Value → Value → Value → Value → Value → World → Prop) (c_1 n_3 out_4 high_5 : Value) (w : World) : Prop :=
  kn c_1 n_3 out_4 high_5 (.int .i64 0) w
theorem fse_spread_p29_ok (Q : Exit → Env → World → Prop) (g : Env) (w : World) (kn : Value → Value → Value → Value → Value → World → Prop) (hn : ∀ g w, kn (g 1) (g 3) (g 4) (g 5) (g 8) w → Q .normal g w) (h : fse_spread_p29 kn (g 1) (g 3) (g 4) (g 5) w) : den pg ann_fse_spread (takeS 1 (dropS 1 (dropS 4 code_fse_spread))) Q g w := by
  have e : (fse_spread_p29 kn (g 1) (g 3) (g 4) (g 5) w) = den pg ann_fse_spread (takeS 1 (dropS 1 (dropS 4 code_fse_spread))) (exQ (fun g w => kn (g 1) (g 3) (g 4) (g 5) (g 8) w) (fun _ _ => False) []) g w := by kernel_rfl
  exact den_exQ e h hn (fun _ _ h => h.elim) trivial

def fse_spread_p30 (R : Value → World → Prop) (c_1 n_3 out_4 high_5 : Value) (w : World) : Prop :=
  fse_spread_p29 (fun c_1 n_3 out_4 high_5 at_8 w => fse_spread_p28 R c_1 n_3 out_4 high_5 at_8 w) c_1 n_3 out_4 high_5 w
theorem fse_spread_p30_ok (Q : Exit → Env → World → Prop) (g : Env) (w : World) (R : Value → World → Prop) (hr : ∀ g w, (resVals pg rs_fse_spread g w fun vs => R (tup vs) w) → Q .ret g w) (h : fse_spread_p30 R (g 1) (g 3) (g 4) (g 5) w) : den pg ann_fse_spread (dropS 1 (dropS 4 code_fse_spread)) Q g w := by
  exact den_seqs 1 (dropS 1 (dropS 4 code_fse_spread)) g w (by kernel_rfl) (fse_spread_p29_ok (thenE (fun g w => den pg ann_fse_spread (dropS 1 (dropS 1 (dropS 4 code_fse_spread))) Q g w) Q) g w (fun c_1 n_3 out_4 high_5 at_8 w => fse_spread_p28 R c_1 n_3 out_4 high_5 at_8 w) (fun g w h => thenE_n (K := fun g w => den pg ann_fse_spread (dropS 1 (dropS 1 (dropS 4 code_fse_spread))) Q g w) (fse_spread_p28_ok Q g w R hr h)) h)

def fse_spread_p31 (kn : Value → Value → Value → Value → Value → Value → Value → World → Prop) (c_1 n_3 out_4 high_5 t18 t19 t20 : Value) (w : World) : Prop :=
  Stp pg (sBin .add 3 (.tmp 20) (.const (.int .i64 1)) t20 (.int .i64 1)) w fun t35 w =>
  kn c_1 n_3 out_4 high_5 t18 t19 t35 w
theorem fse_spread_p31_ok (Q : Exit → Env → World → Prop) (g : Env) (w : World) (kn : Value → Value → Value → Value → Value → Value → Value → World → Prop) (hn : ∀ g w, kn (g 1) (g 3) (g 4) (g 5) (g 18) (g 19) (g 20) w → Q .normal g w) (h : fse_spread_p31 kn (g 1) (g 3) (g 4) (g 5) (g 18) (g 19) (g 20) w) : den pg ann_fse_spread (dropS 3 (bI (bI (dropS 1 (takeS 1 (dropS 4 code_fse_spread)))))) Q g w := by
  have e : (fse_spread_p31 kn (g 1) (g 3) (g 4) (g 5) (g 18) (g 19) (g 20) w) = den pg ann_fse_spread (dropS 3 (bI (bI (dropS 1 (takeS 1 (dropS 4 code_fse_spread)))))) (exQ (fun g w => kn (g 1) (g 3) (g 4) (g 5) (g 18) (g 19) (g 20) w) (fun _ _ => False) []) g w := by kernel_rfl
  exact den_exQ e h hn (fun _ _ h => h.elim) trivial

def fse_spread_p32 (kn : Value → Value → Value → Value → Value → Value → Value → World → Prop) (k0 : Value → Value → Value → Value → World → Prop) (c_1 n_3 out_4 high_5 t18 t19 t20 : Value) (w : World) : Prop :=
  Stp pg (sBin .lss 3 (.tmp 20) (.tmp 19) t20 t19) w fun t21 w =>
  Cnd t21
    (Stp pg (sIAddr 22 t18 t20) w fun t23 w =>
    Stp pg (sLoad 3 t23) w fun t24 w =>
    Stp pg (sBin .eql 3 (.tmp 25) (.const (.int .i64 (-1))) t24 (.int .i64 (-1))) w fun t26 w =>
    Cnd t26
      (Stp pg (sBin .sub 3 (.tmp 27) (.const (.int .i64 1)) high_5 (.int .i64 1)) w fun t28 w =>
      Stp pg (sCvt 3 5 t20) w fun t32 w =>
      Stp pg (sIAddr 26 out_4 t28) w fun t33 w =>
      Stp pg (sFAddr 43 t33 0) w fun t34 w =>
      Stp pg (sStore 5 t34 t32) w fun _u w =>
      kn c_1 n_3 out_4 t28 t18 t19 t20 w)
      (kn c_1 n_3 out_4 high_5 t18 t19 t20 w))
    (k0 c_1 n_3 out_4 high_5 w)
theorem fse_spread_p32_ok (Q : Exit → Env → World → Prop) (g : Env) (w : World) (kn : Value → Value → Value → Value → Value → Value → Value → World → Prop) (k0 : Value → Value → Value → Value → World → Prop) (hn : ∀ g w, kn (g 1) (g 3) (g 4) (g 5) (g 18) (g 19) (g 20) w → Q .normal g w) (h0 : ∀ g w, k0 (g 1) (g 3) (g 4) (g 5) w → Q (.exit 0) g w) (h : fse_spread_p32 kn k0 (g 1) (g 3) (g 4) (g 5) (g 18) (g 19) (g 20) w) : den pg ann_fse_spread (takeS 3 (bI (bI (dropS 1 (takeS 1 (dropS 4 code_fse_spread)))))) Q g w := by
  have e : (fse_spread_p32 kn k0 (g 1) (g 3) (g 4) (g 5) (g 18) (g 19) (g 20) w) = den pg ann_fse_spread (takeS 3 (bI (bI (dropS 1 (takeS 1 (dropS 4 code_fse_spread)))))) (exQ (fun g w => kn (g 1) (g 3) (g 4) (g 5) (g 18) (g 19) (g 20) w) (fun _ _ => False) [(0, fun g w => k0 (g 1) (g 3) (g 4) (g 5) w)]) g w := by kernel_rfl
  exact den_exQ e h hn (fun _ _ h => h.elim) ⟨h0, trivial⟩

def fse_spread_p33 (kn : Value → Value → Value → Value → Value → Value → Value → World → Prop) (k0 : Value → Value → Value → Value → World → Prop) (c_1 n_3 out_4 high_5 t18 t19 t20 : Value) (w : World) : Prop :=
  fse_spread_p32 (fun c_1 n_3 out_4 high_5 t18 t19 t20 w => fse_spread_p31 kn c_1 n_3 out_4 high_5 t18 t19 t20 w) k0 c_1 n_3 out_4 high_5 t18 t19 t20 w
theorem fse_spread_p33_ok (Q : Exit → Env → World → Prop) (g : Env) (w : World) (kn : Value → Value → Value → Value → Value → Value → Value → World → Prop) (k0 : Value → Value → Value → Value → World → Prop) (hn : ∀ g w, kn (g 1) (g 3) (g 4) (g 5) (g 18) (g 19) (g 20) w → Q .normal g w) (h0 : ∀ g w, k0 (g 1) (g 3) (g 4) (g 5) w → Q (.exit 0) g w) (h : fse_spread_p33 kn k0 (g 1) (g 3) (g 4) (g 5) (g 18) (g 19) (g 20) w) : den pg ann_fse_spread (bI (bI (dropS 1 (takeS 1 (dropS 4 code_fse_spread))))) Q g w := by
  exact den_seqs 3 (bI (bI (dropS 1 (takeS 1 (dropS 4 code_fse_spread))))) g w (by kernel_rfl) (fse_spread_p32_ok (thenE (fun g w => den pg ann_fse_spread (dropS 3 (bI (bI (dropS 1 (takeS 1 (dropS 4 code_fse_spread)))))) Q g w) Q) g w (fun c_1 n_3 out_4 high_5 t18 t19 t20 w => fse_spread_p31 kn c_1 n_3 out_4 high_5 t18 t19 t20 w) k0 (fun g w h => thenE_n (K := fun g w => den pg ann_fse_spread (dropS 3 (bI (bI (dropS 1 (takeS 1 (dropS 4 code_fse_spread)))))) Q g w) (fse_spread_p31_ok Q g w kn hn h)) h0 h)

def fse_spread_p34 (k0 : Value → Value → Value → Value → World → Prop) (c_1 n_3 out_4 high_5 t18 t19 t20 : Value) (w : World) : Prop :=
  LoopD (fun (X : (Value × Value) → World → Prop) (t : Value × Value) (w : World) => fse_spread_p33 (fun _ _ _ high_5 _ _ t20 w => X (high_5, t20) w) k0 c_1 n_3 out_4 t.1 t18 t19 t.2 w) (high_5, t20) w
theorem fse_spread_p34_ok (Q : Exit → Env → World → Prop) (g : Env) (w : World) (k0 : Value → Value → Value → Value → World → Prop) (h0 : ∀ g w, k0 (g 1) (g 3) (g 4) (g 5) w → Q (.exit 0) g w) (h : fse_spread_p34 k0 (g 1) (g 3) (g 4) (g 5) (g 18) (g 19) (g 20) w) : den pg ann_fse_spread (bI (dropS 1 (takeS 1 (dropS 4 code_fse_spread)))) Q g w := by
  refine den_loops (T := Value × Value) (fun g : Env => (g 5, g 20)) (fun X t w => fse_spread_p33 (fun _ _ _ high_5 _ _ t20 w => X (high_5, t20) w) k0 (g 1) (g 3) (g 4) t.1 (g 18) (g 19) t.2 w) (bI (dropS 1 (takeS 1 (dropS 4 code_fse_spread)))) (by kernel_rfl) h (fun X g1 w1 ha h1 => ?_)
  rw [← agree_at (s := 1) ha (by kernel_rfl)] at h1
  rw [← agree_at (s := 3) ha (by kernel_rfl)] at h1
  rw [← agree_at (s := 4) ha (by kernel_rfl)] at h1
  rw [← agree_at (s := 18) ha (by kernel_rfl)] at h1
  rw [← agree_at (s := 19) ha (by kernel_rfl)] at h1
  exact (fse_spread_p33_ok (thenE (fun g2 w2 => X ((fun g : Env => (g 5, g 20)) g2) w2) Q) g1 w1 (fun _ _ _ high_5 _ _ t20 w => X (high_5, t20) w) k0 (fun _ _ h => h) h0 h1)

def fse_spread_p35 (kn : Value → Value → Value → Value → World → Prop) (c_1 n_3 out_4 high_5 t18 t19 t20 : Value) (w : World) : Prop :=
  fse_spread_p34 kn c_1 n_3 out_4 high_5 t18 t19 t20 w
theorem fse_spread_p35_ok (Q : Exit → Env → World → Prop) (g : Env) (w : World) (kn : Value → Value → Value → Value → World → Prop) (hn : ∀ g w, kn (g 1) (g 3) (g 4) (g 5) w → Q .normal g w) (h : fse_spread_p35 kn (g 1) (g 3) (g 4) (g 5) (g 18) (g 19) (g 20) w) : den pg ann_fse_spread (dropS 1 (takeS 1 (dropS 4 code_fse_spread))) Q g w :=
  den_blk 0 (dropS 1 (takeS 1 (dropS 4 code_fse_spread))) g w (by kernel_rfl) (fse_spread_p34_ok (blk 0 Q) g w kn hn h)

def fse_spread_p36 (kn : Value → Value → Value → Value → Value → Value → Value → World → Prop) (c_1 n_3 out_4 high_5 : Value) (w : World) : Prop :=
  Stp pg (sFAddr 24 c_1 1) w fun t17 w =>
  Stp pg (sLoad 22 t17) w fun t18 w =>
  Stp pg (sBi .len #[22] 3 [t18]) w fun t19 w =>
  kn c_1 n_3 out_4 high_5 t18 t19 (.int .i64 0) w
theorem fse_spread_p36_ok (Q : Exit → Env → World → Prop) (g : Env) (w : World) (kn : Value → Value → Value → Value → Value → Value → Value → World → Prop) (hn : ∀ g w, kn (g 1) (g 3) (g 4) (g 5) (g 18) (g 19) (g 20) w → Q .normal g w) (h : fse_spread_p36 kn (g 1) (g 3) (g 4) (g 5) w) : den pg ann_fse_spread (takeS 1 (takeS 1 (dropS 4 code_fse_spread))) Q g w := by
  have e : (fse_spread_p36 kn (g 1) (g 3) (g 4) (g 5) w) = den pg ann_fse_spread (takeS 1 (takeS 1 (dropS 4 code_fse_spread))) (exQ (fun g w => kn (g 1) (g 3) (g 4) (g 5) (g 18) (g 19) (g 20) w) (fun _ _ => False) []) g w := by kernel_rfl
  exact den_exQ e h hn (fun _ _ h => h.elim) trivial

def fse_spread_p37 (kn : Value → Value → Value → Value → World → Prop) (c_1 n_3 out_4 high_5 : Value) (w : World) : Prop :=
  fse_spread_p36 (fun c_1 n_3 out_4 high_5 t18 t19 t20 w => fse_spread_p35 kn c_1 n_3 out_4 high_5 t18 t19 t20 w) c_1 n_3 out_4 high_5 w
theorem fse_spread_p37_ok (Q : Exit → Env → World → Prop) (g : Env) (w : World) (kn : Value → Value → Value → Value → World → Prop) (hn : ∀ g w, kn (g 1) (g 3) (g 4) (g 5) w → Q .normal g w) (h : fse_spread_p37 kn (g 1) (g 3) (g 4) (g 5) w) : den pg ann_fse_spread (takeS 1 (dropS 4 code_fse_spread)) Q g w := by
  exact den_seqs 1 (takeS 1 (dropS 4 code_fse_spread)) g w (by kernel_rfl) (fse_spread_p36_ok (thenE (fun g w => den pg ann_fse_spread (dropS 1 (takeS 1 (dropS 4 code_fse_spread))) Q g w) Q) g w (fun c_1 n_3 out_4 high_5 t18 t19 t20 w => fse_spread_p35 kn c_1 n_3 out_4 high_5 t18 t19 t20 w) (fun g w h => thenE_n (K := fun g w => den pg ann_fse_spread (dropS 1 (takeS 1 (dropS 4 code_fse_spread))) Q g w) (fse_spread_p35_ok Q g w kn hn h)) h)

def fse_spread_p38 (R : Value → World → Prop) (c_1 n_3 out_4 high_5 : Value) (w : World) : Prop :=
  fse_spread_p37 (fun c_1 n_3 out_4 high_5 w => fse_spread_p30 R c_1 n_3 out_4 high_5 w) c_1 n_3 out_4 high_5 w
theorem fse_spread_p38_ok (Q : Exit → Env → World → Prop) (g : Env) (w : World) (R : Value → World → Prop) (hr : ∀ g w, (resVals pg rs_fse_spread g w fun vs => R (tup vs) w) → Q .ret g w) (h : fse_spread_p38 R (g 1) (g 3) (g 4) (g 5) w) : den pg ann_fse_spread (dropS 4 code_fse_spread) Q g w := by
  exact den_seqs 1 (dropS 4 code_fse_spread) g w (by kernel_rfl) (fse_spread_p37_ok (thenE (fun g w => den pg ann_fse_spread (dropS 1 (dropS 4 code_fse_spread)) Q g w) Q) g w (fun c_1 n_3 out_4 high_5 w => fse_spread_p30 R c_1 n_3 out_4 high_5 w) (fun g w h => thenE_n (K := fun g w => den pg ann_fse_spread (dropS 1 (dropS 4 code_fse_spread)) Q g w) (fse_spread_p30_ok Q g w R hr h)) h)

def fse_spread_p39 (kn : Value → Value → Value → Value → World → Prop) (c_0 : Value) (w : World) : Prop :=
  Stp pg (sBox 24 c_0) w fun c_1 w =>
  Stp pg (sFAddr 24 c_1 0) w fun t11 w =>
  Stp pg (sLoad 3 t11) w fun t12 w =>
  Stp pg (sBin .shl 3 (.const (.int .i64 1)) (.tmp 12) (.int .i64 1) t12) w fun t13 w =>
  Stp pg (sMkSlice 26 t13 t13) w fun t15 w =>
  kn c_1 t13 t15 t13 w
theorem fse_spread_p39_ok (Q : Exit → Env → World → Prop) (g : Env) (w : World) (kn : Value → Value → Value → Value → World → Prop) (hn : ∀ g w, kn (g 1) (g 3) (g 4) (g 5) w → Q .normal g w) (h : fse_spread_p39 kn (g 0) w) : den pg ann_fse_spread (takeS 4 code_fse_spread) Q g w := by
  have e : (fse_spread_p39 kn (g 0) w) = den pg ann_fse_spread (takeS 4 code_fse_spread) (exQ (fun g w => kn (g 1) (g 3) (g 4) (g 5) w) (fun _ _ => False) []) g w := by kernel_rfl
  exact den_exQ e h hn (fun _ _ h => h.elim) trivial

def fse_spread_p40 (R : Value → World → Prop) (c_0 : Value) (w : World) : Prop :=
  fse_spread_p39 (fun c_1 n_3 out_4 high_5 w => fse_spread_p38 R c_1 n_3 out_4 high_5 w) c_0 w
theorem fse_spread_p40_ok (Q : Exit → Env → World → Prop) (g : Env) (w : World) (R : Value → World → Prop) (hr : ∀ g w, (resVals pg rs_fse_spread g w fun vs => R (tup vs) w) → Q .ret g w) (h : fse_spread_p40 R (g 0) w) : den pg ann_fse_spread code_fse_spread Q g w := by
  exact den_seqs 4 code_fse_spread g w (by kernel_rfl) (fse_spread_p39_ok (thenE (fun g w => den pg ann_fse_spread (dropS 4 code_fse_spread) Q g w) Q) g w (fun c_1 n_3 out_4 high_5 w => fse_spread_p38 R c_1 n_3 out_4 high_5 w) (fun g w h => thenE_n (K := fun g w => den pg ann_fse_spread (dropS 4 code_fse_spread) Q g w) (fse_spread_p38_ok Q g w R hr h)) h)

def fse_spread (a0 : Value) (w : World) (R : Value → World → Prop) : Prop :=
  fse_spread_p40 R a0 w
theorem fse_spread_does {a0 : Value} {w : World} {R : Value → World → Prop} (h : fse_spread a0 w R) : Does pg F_fse_spread #[a0] w R := by
  refine does_of_den (ann := ann_fse_spread) (fn := Try.f44) (c := code_fse_spread) (args := [a0]) (rs := rs_fse_spread) (N := 70) TryM.mixed (by kernel_rfl) Try.func44 (by kernel_rfl) (by kernel_rfl) (by kernel_rfl) (of_decide_eq_true (by kernel_rfl)) (by kernel_rfl) ?_
  exact (fse_spread_p40_ok (retQ pg rs_fse_spread R) (envOf [a0]) w R (fun _ _ h => h) h)
-- PIECES fse_spread/0 fse_spread_p1 fse_spread_p24 fse_spread_p25 fse_spread_p26 fse_spread_p27 fse_spread_p28 fse_spread_p29 fse_spread_p30 fse_spread_p34 fse_spread_p35 fse_spread_p36 fse_spread_p37 fse_spread_p38 fse_spread_p39 fse_spread_p40
-- PIECES fse_spread/1 fse_spread_p2 fse_spread_p13 fse_spread_p14 fse_spread_p15 fse_spread_p16 fse_spread_p17 fse_spread_p18 fse_spread_p19 fse_spread_p20 fse_spread_p21 fse_spread_p22 fse_spread_p23
-- PIECES fse_spread/2 fse_spread_p3 fse_spread_p5 fse_spread_p6 fse_spread_p7 fse_spread_p8 fse_spread_p9 fse_spread_p10 fse_spread_p11 fse_spread_p12
-- PIECES fse_spread/3 fse_spread_p4
-- PIECES fse_spread/4 fse_spread_p31 fse_spread_p32 fse_spread_p33

/- math/bits.Len -/
def ann_math_bits_Len : FA := ⟨F_math_bits_Len, fun i => .leaf ([], []) []⟩
def rs_math_bits_Len : List ResultVar := [.tmp 2]
noncomputable def code_math_bits_Len : Code := bodyOf Try.f45
def math_bits_Len_p1 (R : Value → World → Prop) (x_0 : Value) (w : World) : Prop :=
  Cnd (.bool false)
    (Stp pg (sCvt 50 90 x_0) w fun t4 w =>
    Does pg F_math_bits_Len32 #[t4] w fun t5 w =>
    R t5 w)
    (Does pg F_math_bits_Len64 #[x_0] w fun t7 w =>
    R t7 w)
theorem math_bits_Len_p1_ok (Q : Exit → Env → World → Prop) (g : Env) (w : World) (R : Value → World → Prop) (hr : ∀ g w, (resVals pg rs_math_bits_Len g w fun vs => R (tup vs) w) → Q .ret g w) (h : math_bits_Len_p1 R (g 0) w) : den pg ann_math_bits_Len code_math_bits_Len Q g w := by
  have e : (math_bits_Len_p1 R (g 0) w) = den pg ann_math_bits_Len code_math_bits_Len (exQ (fun _ _ => False) (fun g w => resVals pg rs_math_bits_Len g w fun vs => R (tup vs) w) []) g w := by kernel_rfl
  exact den_exQ e h (fun _ _ h => h.elim) hr trivial

def math_bits_Len (a0 : Value) (w : World) (R : Value → World → Prop) : Prop :=
  math_bits_Len_p1 R a0 w
theorem math_bits_Len_does {a0 : Value} {w : World} {R : Value → World → Prop} (h : math_bits_Len a0 w R) : Does pg F_math_bits_Len #[a0] w R := by
  refine does_of_den (ann := ann_math_bits_Len) (fn := Try.f45) (c := code_math_bits_Len) (args := [a0]) (rs := rs_math_bits_Len) (N := 8) TryM.mixed (by kernel_rfl) Try.func45 (by kernel_rfl) (by kernel_rfl) (by kernel_rfl) (of_decide_eq_true (by kernel_rfl)) (by kernel_rfl) ?_
  exact (math_bits_Len_p1_ok (retQ pg rs_math_bits_Len R) (envOf [a0]) w R (fun _ _ h => h) h)
-- PIECES math_bits_Len/0 math_bits_Len_p1

/- slices.Clone[[]byte,byte] -/
def ann_slices_Clone_inst : FA := ⟨F_slices_Clone_inst, fun i => .leaf ([], []) []⟩
def rs_slices_Clone_inst : List ResultVar := [.tmp 2]
noncomputable def code_slices_Clone_inst : Code := bodyOf Try.f46
def slices_Clone_inst_p1 (R : Value → World → Prop) (s_0 : Value) (w : World) : Prop :=
  Stp pg (sBin .eql 52 (.tmp 3) (.const (.slice none 0 0)) s_0 (.slice none 0 0)) w fun t4 w =>
  Cnd t4
    (R (.slice none 0 0) w)
    (Stp pg (sBuildSlice 52 0 []) w fun t5 w =>
    Stp pg (sBi .append #[52, 52] 52 [t5, s_0]) w fun t7 w =>
    R t7 w)
theorem slices_Clone_inst_p1_ok (Q : Exit → Env → World → Prop) (g : Env) (w : World) (R : Value → World → Prop) (hr : ∀ g w, (resVals pg rs_slices_Clone_inst g w fun vs => R (tup vs) w) → Q .ret g w) (h : slices_Clone_inst_p1 R (g 0) w) : den pg ann_slices_Clone_inst code_slices_Clone_inst Q g w := by
  have e : (slices_Clone_inst_p1 R (g 0) w) = den pg ann_slices_Clone_inst code_slices_Clone_inst (exQ (fun _ _ => False) (fun g w => resVals pg rs_slices_Clone_inst g w fun vs => R (tup vs) w) []) g w := by kernel_rfl
  exact den_exQ e h (fun _ _ h => h.elim) hr trivial

def slices_Clone_inst (a0 : Value) (w : World) (R : Value → World → Prop) : Prop :=
  slices_Clone_inst_p1 R a0 w
theorem slices_Clone_inst_does {a0 : Value} {w : World} {R : Value → World → Prop} (h : slices_Clone_inst a0 w R) : Does pg F_slices_Clone_inst #[a0] w R := by
  refine does_of_den (ann := ann_slices_Clone_inst) (fn := Try.f46) (c := code_slices_Clone_inst) (args := [a0]) (rs := rs_slices_Clone_inst) (N := 8) TryM.mixed (by kernel_rfl) Try.func46 (by kernel_rfl) (by kernel_rfl) (by kernel_rfl) (of_decide_eq_true (by kernel_rfl)) (by kernel_rfl) ?_
  exact (slices_Clone_inst_p1_ok (retQ pg rs_slices_Clone_inst R) (envOf [a0]) w R (fun _ _ h => h) h)
-- PIECES slices_Clone_inst/0 slices_Clone_inst_p1

/- math/bits.Len8 -/
def ann_math_bits_Len8 : FA := ⟨F_math_bits_Len8, fun i => .leaf ([], []) []⟩
def rs_math_bits_Len8 : List ResultVar := [.tmp 2]
noncomputable def code_math_bits_Len8 : Code := bodyOf Try.f47
def math_bits_Len8_p1 (R : Value → World → Prop) (x_0 : Value) (w : World) : Prop :=
  Stp pg (sIdx 9 (.string ⟨#[0, 1, 2, 2, 3, 3, 3, 3, 4, 4, 4, 4, 4, 4, 4, 4, 5, 5, 5, 5, 5, 5, 5, 5, 5, 5, 5, 5, 5, 5, 5, 5, 6, 6, 6, 6, 6, 6, 6, 6, 6, 6, 6, 6, 6, 6, 6, 6, 6, 6, 6, 6, 6, 6, 6, 6, 6, 6, 6, 6, 6, 6, 6, 6, 7, 7, 7, 7, 7, 7, 7, 7, 7, 7, 7, 7, 7, 7, 7, 7, 7, 7, 7, 7, 7, 7, 7, 7, 7, 7, 7, 7, 7, 7, 7, 7, 7, 7, 7, 7, 7, 7, 7, 7, 7, 7, 7, 7, 7, 7, 7, 7, 7, 7, 7, 7, 7, 7, 7, 7, 7, 7, 7, 7, 7, 7, 7, 7, 8, 8, 8, 8, 8, 8, 8, 8, 8, 8, 8, 8, 8, 8, 8, 8, 8, 8, 8, 8, 8, 8, 8, 8, 8, 8, 8, 8, 8, 8, 8, 8, 8, 8, 8, 8, 8, 8, 8, 8, 8, 8, 8, 8, 8, 8, 8, 8, 8, 8, 8, 8, 8, 8, 8, 8, 8, 8, 8, 8, 8, 8, 8, 8, 8, 8, 8, 8, 8, 8, 8, 8, 8, 8, 8, 8, 8, 8, 8, 8, 8, 8, 8, 8, 8, 8, 8, 8, 8, 8, 8, 8, 8, 8, 8, 8, 8, 8, 8, 8, 8, 8, 8, 8, 8, 8, 8, 8, 8, 8, 8, 8, 8, 8, 8, 8, 8, 8, 8, 8, 8, 8, 8, 8, 8, 8, 8, 8]⟩) x_0) w fun t4 w =>
  Stp pg (sCvt 5 3 t4) w fun t5 w =>
  R t5 w
theorem math_bits_Len8_p1_ok (Q : Exit → Env → World → Prop) (g : Env) (w : World) (R : Value → World → Prop) (hr : ∀ g w, (resVals pg rs_math_bits_Len8 g w fun vs => R (tup vs) w) → Q .ret g w) (h : math_bits_Len8_p1 R (g 0) w) : den pg ann_math_bits_Len8 code_math_bits_Len8 Q g w := by
  have e : (math_bits_Len8_p1 R (g 0) w) = den pg ann_math_bits_Len8 code_math_bits_Len8 (exQ (fun _ _ => False) (fun g w => resVals pg rs_math_bits_Len8 g w fun vs => R (tup vs) w) []) g w := by kernel_rfl
  exact den_exQ e h (fun _ _ h => h.elim) hr trivial

def math_bits_Len8 (a0 : Value) (w : World) (R : Value → World → Prop) : Prop :=
  math_bits_Len8_p1 R a0 w
theorem math_bits_Len8_does {a0 : Value} {w : World} {R : Value → World → Prop} (h : math_bits_Len8 a0 w R) : Does pg F_math_bits_Len8 #[a0] w R := by
  refine does_of_den (ann := ann_math_bits_Len8) (fn := Try.f47) (c := code_math_bits_Len8) (args := [a0]) (rs := rs_math_bits_Len8) (N := 6) TryM.mixed (by kernel_rfl) Try.func47 (by kernel_rfl) (by kernel_rfl) (by kernel_rfl) (of_decide_eq_true (by kernel_rfl)) (by kernel_rfl) ?_
  exact (math_bits_Len8_p1_ok (retQ pg rs_math_bits_Len8 R) (envOf [a0]) w R (fun _ _ h => h) h)
-- PIECES math_bits_Len8/0 math_bits_Len8_p1

/- lighterman/lightermanref05.Bits -/
def ann_ref05_Bits : FA := ⟨F_ref05_Bits, fun i => .leaf ([], []) []⟩
def rs_ref05_Bits : List ResultVar := [.tmp 2]
noncomputable def code_ref05_Bits : Code := bodyOf Try.f48
def ref05_Bits_p1 (R : Value → World → Prop) (out_3 : Value) (w : World) : Prop :=
  R out_3 w
theorem ref05_Bits_p1_ok (Q : Exit → Env → World → Prop) (g : Env) (w : World) (R : Value → World → Prop) (hr : ∀ g w, (resVals pg rs_ref05_Bits g w fun vs => R (tup vs) w) → Q .ret g w) (h : ref05_Bits_p1 R (g 3) w) : den pg ann_ref05_Bits (dropS 1 (dropS 2 code_ref05_Bits)) Q g w := by
  have e : (ref05_Bits_p1 R (g 3) w) = den pg ann_ref05_Bits (dropS 1 (dropS 2 code_ref05_Bits)) (exQ (fun _ _ => False) (fun g w => resVals pg rs_ref05_Bits g w fun vs => R (tup vs) w) []) g w := by kernel_rfl
  exact den_exQ e h (fun _ _ h => h.elim) hr trivial

def ref05_Bits_p2 (kn : Value → Value → Value → World → Prop) (s_0 out_3 i_4 : Value) (w : World) : Prop :=
  Stp pg (sBin .add 3 (.tmp 11) (.const (.int .i64 1)) i_4 (.int .i64 1)) w fun t12 w =>
  kn s_0 out_3 t12 w
theorem ref05_Bits_p2_ok (Q : Exit → Env → World → Prop) (g : Env) (w : World) (kn : Value → Value → Value → World → Prop) (hn : ∀ g w, kn (g 0) (g 3) (g 4) w → Q .normal g w) (h : ref05_Bits_p2 kn (g 0) (g 3) (g 4) w) : den pg ann_ref05_Bits (dropS 1 (dropS 1 (bI (bI (dropS 1 (takeS 1 (dropS 2 code_ref05_Bits))))))) Q g w := by
  have e : (ref05_Bits_p2 kn (g 0) (g 3) (g 4) w) = den pg ann_ref05_Bits (dropS 1 (dropS 1 (bI (bI (dropS 1 (takeS 1 (dropS 2 code_ref05_Bits))))))) (exQ (fun g w => kn (g 0) (g 3) (g 4) w) (fun _ _ => False) []) g w := by kernel_rfl
  exact den_exQ e h hn (fun _ _ h => h.elim) trivial

def ref05_Bits_p3 (kn : Value → Value → Value → Value → Value → World → Prop) (k2 : Value → Value → Value → World → Prop) (s_0 out_3 i_4 c_5 k_6 : Value) (w : World) : Prop :=
  Stp pg (sBin .lss 3 (.tmp 16) (.const (.int .i64 8)) k_6 (.int .i64 8)) w fun t17 w =>
  Cnd t17
    (Stp pg (sBin .rem 5 (.tmp 21) (.const (.int .u8 2)) c_5 (.int .u8 2)) w fun t22 w =>
    Stp pg (sBin .eql 5 (.tmp 22) (.const (.int .u8 1)) t22 (.int .u8 1)) w fun t23 w =>
    Stp pg (sBuildSlice 58 1 [(0, t23)]) w fun t24 w =>
    Stp pg (sBi .append #[58, 58] 58 [out_3, t24]) w fun t25 w =>
    Stp pg (sBin .quo 5 (.tmp 26) (.const (.int .u8 2)) c_5 (.int .u8 2)) w fun t27 w =>
    Stp pg (sBin .add 3 (.tmp 18) (.const (.int .i64 1)) k_6 (.int .i64 1)) w fun t19 w =>
    kn s_0 t25 i_4 t27 t19 w)
    (k2 s_0 out_3 i_4 w)
theorem ref05_Bits_p3_ok (Q : Exit → Env → World → Prop) (g : Env) (w : World) (kn : Value → Value → Value → Value → Value → World → Prop) (k2 : Value → Value → Value → World → Prop) (hn : ∀ g w, kn (g 0) (g 3) (g 4) (g 5) (g 6) w → Q .normal g w) (h2 : ∀ g w, k2 (g 0) (g 3) (g 4) w → Q (.exit 2) g w) (h : ref05_Bits_p3 kn k2 (g 0) (g 3) (g 4) (g 5) (g 6) w) : den pg ann_ref05_Bits (bI (bI (dropS 2 (bI (takeS 1 (dropS 1 (bI (bI (dropS 1 (takeS 1 (dropS 2 code_ref05_Bits))))))))))) Q g w := by
  have e : (ref05_Bits_p3 kn k2 (g 0) (g 3) (g 4) (g 5) (g 6) w) = den pg ann_ref05_Bits (bI (bI (dropS 2 (bI (takeS 1 (dropS 1 (bI (bI (dropS 1 (takeS 1 (dropS 2 code_ref05_Bits))))))))))) (exQ (fun g w => kn (g 0) (g 3) (g 4) (g 5) (g 6) w) (fun _ _ => False) [(2, fun g w => k2 (g 0) (g 3) (g 4) w)]) g w := by kernel_rfl
  exact den_exQ e h hn (fun _ _ h => h.elim) ⟨h2, trivial⟩

def ref05_Bits_p4 (k2 : Value → Value → Value → World → Prop) (s_0 out_3 i_4 c_5 k_6 : Value) (w : World) : Prop :=
  LoopD (fun (X : (Value × Value × Value) → World → Prop) (t : Value × Value × Value) (w : World) => ref05_Bits_p3 (fun _ out_3 _ c_5 k_6 w => X (out_3, c_5, k_6) w) k2 s_0 t.1 i_4 t.2.1 t.2.2 w) (out_3, c_5, k_6) w
theorem ref05_Bits_p4_ok (Q : Exit → Env → World → Prop) (g : Env) (w : World) (k2 : Value → Value → Value → World → Prop) (h2 : ∀ g w, k2 (g 0) (g 3) (g 4) w → Q (.exit 2) g w) (h : ref05_Bits_p4 k2 (g 0) (g 3) (g 4) (g 5) (g 6) w) : den pg ann_ref05_Bits (bI (dropS 2 (bI (takeS 1 (dropS 1 (bI (bI (dropS 1 (takeS 1 (dropS 2 code_ref05_Bits)))))))))) Q g w := by
  refine den_loops (T := Value × Value × Value) (fun g : Env => (g 3, g 5, g 6)) (fun X t w => ref05_Bits_p3 (fun _ out_3 _ c_5 k_6 w => X (out_3, c_5, k_6) w) k2 (g 0) t.1 (g 4) t.2.1 t.2.2 w) (bI (dropS 2 (bI (takeS 1 (dropS 1 (bI (bI (dropS 1 (takeS 1 (dropS 2 code_ref05_Bits)))))))))) (by kernel_rfl) h (fun X g1 w1 ha h1 => ?_)
  rw [← agree_at (s := 0) ha (by kernel_rfl)] at h1
  rw [← agree_at (s := 4) ha (by kernel_rfl)] at h1
  exact (ref05_Bits_p3_ok (thenE (fun g2 w2 => X ((fun g : Env => (g 3, g 5, g 6)) g2) w2) Q) g1 w1 (fun _ out_3 _ c_5 k_6 w => X (out_3, c_5, k_6) w) k2 (fun _ _ h => h) h2 h1)

def ref05_Bits_p5 (kn : Value → Value → Value → World → Prop) (s_0 out_3 i_4 c_5 k_6 : Value) (w : World) : Prop :=
  ref05_Bits_p4 kn s_0 out_3 i_4 c_5 k_6 w
theorem ref05_Bits_p5_ok (Q : Exit → Env → World → Prop) (g : Env) (w : World) (kn : Value → Value → Value → World → Prop) (hn : ∀ g w, kn (g 0) (g 3) (g 4) w → Q .normal g w) (h : ref05_Bits_p5 kn (g 0) (g 3) (g 4) (g 5) (g 6) w) : den pg ann_ref05_Bits (dropS 2 (bI (takeS 1 (dropS 1 (bI (bI (dropS 1 (takeS 1 (dropS 2 code_ref05_Bits))))))))) Q g w :=
  den_blk 2 (dropS 2 (bI (takeS 1 (dropS 1 (bI (bI (dropS 1 (takeS 1 (dropS 2 code_ref05_Bits))))))))) g w (by kernel_rfl) (ref05_Bits_p4_ok (blk 2 Q) g w kn hn h)

def ref05_Bits_p6 (kn : Value → Value → Value → Value → Value → World → Prop) (s_0 out_3 i_4 : Value) (w : World) : Prop :=
  Stp pg (sIdx 9 s_0 i_4) w fun t15 w =>
  kn s_0 out_3 i_4 t15 (.int .i64 0) w
theorem ref05_Bits_p6_ok (Q : Exit → Env → World → Prop) (g : Env) (w : World) (kn : Value → Value → Value → Value → Value → World → Prop) (hn : ∀ g w, kn (g 0) (g 3) (g 4) (g 5) (g 6) w → Q .normal g w) (h : ref05_Bits_p6 kn (g 0) (g 3) (g 4) w) : den pg ann_ref05_Bits (takeS 2 (bI (takeS 1 (dropS 1 (bI (bI (dropS 1 (takeS 1 (dropS 2 code_ref05_Bits))))))))) Q g w := by
  have e : (ref05_Bits_p6 kn (g 0) (g 3) (g 4) w) = den pg ann_ref05_Bits (takeS 2 (bI (takeS 1 (dropS 1 (bI (bI (dropS 1 (takeS 1 (dropS 2 code_ref05_Bits))))))))) (exQ (fun g w => kn (g 0) (g 3) (g 4) (g 5) (g 6) w) (fun _ _ => False) []) g w := by kernel_rfl
  exact den_exQ e h hn (fun _ _ h => h.elim) trivial

def ref05_Bits_p7 (kn : Value → Value → Value → World → Prop) (s_0 out_3 i_4 : Value) (w : World) : Prop :=
  ref05_Bits_p6 (fun s_0 out_3 i_4 c_5 k_6 w => ref05_Bits_p5 kn s_0 out_3 i_4 c_5 k_6 w) s_0 out_3 i_4 w
theorem ref05_Bits_p7_ok (Q : Exit → Env → World → Prop) (g : Env) (w : World) (kn : Value → Value → Value → World → Prop) (hn : ∀ g w, kn (g 0) (g 3) (g 4) w → Q .normal g w) (h : ref05_Bits_p7 kn (g 0) (g 3) (g 4) w) : den pg ann_ref05_Bits (bI (takeS 1 (dropS 1 (bI (bI (dropS 1 (takeS 1 (dropS 2 code_ref05_Bits)))))))) Q g w := by
  exact den_seqs 2 (bI (takeS 1 (dropS 1 (bI (bI (dropS 1 (takeS 1 (dropS 2 code_ref05_Bits)))))))) g w (by kernel_rfl) (ref05_Bits_p6_ok (thenE (fun g w => den pg ann_ref05_Bits (dropS 2 (bI (takeS 1 (dropS 1 (bI (bI (dropS 1 (takeS 1 (dropS 2 code_ref05_Bits))))))))) Q g w) Q) g w (fun s_0 out_3 i_4 c_5 k_6 w => ref05_Bits_p5 kn s_0 out_3 i_4 c_5 k_6 w) (fun g w h => thenE_n (K := fun g w => den pg ann_ref05_Bits (dropS 2 (bI (takeS 1 (dropS 1 (bI (bI (dropS 1 (takeS 1 (dropS 2 code_ref05_Bits))))))))) Q g w) (ref05_Bits_p5_ok Q g w kn hn h)) h)

def ref05_Bits_p8 (kn : Value → Value → Value → World → Prop) (s_0 out_3 i_4 : Value) (w : World) : Prop :=
  ref05_Bits_p7 kn s_0 out_3 i_4 w
theorem ref05_Bits_p8_ok (Q : Exit → Env → World → Prop) (g : Env) (w : World) (kn : Value → Value → Value → World → Prop) (hn : ∀ g w, kn (g 0) (g 3) (g 4) w → Q .normal g w) (h : ref05_Bits_p8 kn (g 0) (g 3) (g 4) w) : den pg ann_ref05_Bits (takeS 1 (dropS 1 (bI (bI (dropS 1 (takeS 1 (dropS 2 code_ref05_Bits))))))) Q g w :=
  den_blk 1 (takeS 1 (dropS 1 (bI (bI (dropS 1 (takeS 1 (dropS 2 code_ref05_Bits))))))) g w (by kernel_rfl) (ref05_Bits_p7_ok (blk 1 Q) g w kn hn h)

def ref05_Bits_p9 (kn : Value → Value → Value → World → Prop) (s_0 out_3 i_4 : Value) (w : World) : Prop :=
  ref05_Bits_p8 (fun s_0 out_3 i_4 w => ref05_Bits_p2 kn s_0 out_3 i_4 w) s_0 out_3 i_4 w
theorem ref05_Bits_p9_ok (Q : Exit → Env → World → Prop) (g : Env) (w : World) (kn : Value → Value → Value → World → Prop) (hn : ∀ g w, kn (g 0) (g 3) (g 4) w → Q .normal g w) (h : ref05_Bits_p9 kn (g 0) (g 3) (g 4) w) : den pg ann_ref05_Bits (dropS 1 (bI (bI (dropS 1 (takeS 1 (dropS 2 code_ref05_Bits)))))) Q g w := by
  exact den_seqs 1 (dropS 1 (bI (bI (dropS 1 (takeS 1 (dropS 2 code_ref05_Bits)))))) g w (by kernel_rfl) (ref05_Bits_p8_ok (thenE (fun g w => den pg ann_ref05_Bits (dropS 1 (dropS 1 (bI (bI (dropS 1 (takeS 1 (dropS 2 code_ref05_Bits))))))) Q g w) Q) g w (fun s_0 out_3 i_4 w => ref05_Bits_p2 kn s_0 out_3 i_4 w) (fun g w h => thenE_n (K := fun g w => den pg ann_ref05_Bits (dropS 1 (dropS 1 (bI (bI (dropS 1 (takeS 1 (dropS 2 code_ref05_Bits))))))) Q g w) (ref05_Bits_p2_ok Q g w kn hn h)) h)

def ref05_Bits_p10 (kn : Value → Value → Value → World → Prop) (k0 : Value → World → Prop) (s_0 out_3 i_4 : Value) (w : World) : Prop :=
  Stp pg (sBi .len #[9] 3 [s_0]) w fun t9 w =>
  Stp pg (sBin .lss 3 (.tmp 7) (.tmp 9) i_4 t9) w fun t10 w =>
  Cnd t10
    (kn s_0 out_3 i_4 w)
    (k0 out_3 w)
theorem ref05_Bits_p10_ok (Q : Exit → Env → World → Prop) (g : Env) (w : World) (kn : Value → Value → Value → World → Prop) (k0 : Value → World → Prop) (hn : ∀ g w, kn (g 0) (g 3) (g 4) w → Q .normal g w) (h0 : ∀ g w, k0 (g 3) w → Q (.exit 0) g w) (h : ref05_Bits_p10 kn k0 (g 0) (g 3) (g 4) w) : den pg ann_ref05_Bits (takeS 1 (bI (bI (dropS 1 (takeS 1 (dropS 2 code_ref05_Bits)))))) Q g w := by
  have e : (ref05_Bits_p10 kn k0 (g 0) (g 3) (g 4) w) = den pg ann_ref05_Bits (takeS 1 (bI (bI (dropS 1 (takeS 1 (dropS 2 code_ref05_Bits)))))) (exQ (fun g w => kn (g 0) (g 3) (g 4) w) (fun _ _ => False) [(0, fun g w => k0 (g 3) w)]) g w := by kernel_rfl
  exact den_exQ e h hn (fun _ _ h => h.elim) ⟨h0, trivial⟩

def ref05_Bits_p11 (kn : Value → Value → Value → World → Prop) (k0 : Value → World → Prop) (s_0 out_3 i_4 : Value) (w : World) : Prop :=
  ref05_Bits_p10 (fun s_0 out_3 i_4 w => ref05_Bits_p9 kn s_0 out_3 i_4 w) k0 s_0 out_3 i_4 w
theorem ref05_Bits_p11_ok (Q : Exit → Env → World → Prop) (g : Env) (w : World) (kn : Value → Value → Value → World → Prop) (k0 : Value → World → Prop) (hn : ∀ g w, kn (g 0) (g 3) (g 4) w → Q .normal g w) (h0 : ∀ g w, k0 (g 3) w → Q (.exit 0) g w) (h : ref05_Bits_p11 kn k0 (g 0) (g 3) (g 4) w) : den pg ann_ref05_Bits (bI (bI (dropS 1 (takeS 1 (dropS 2 code_ref05_Bits))))) Q g w := by
  exact den_seqs 1 (bI (bI (dropS 1 (takeS 1 (dropS 2 code_ref05_Bits))))) g w (by kernel_rfl) (ref05_Bits_p10_ok (thenE (fun g w => den pg ann_ref05_Bits (dropS 1 (bI (bI (dropS 1 (takeS 1 (dropS 2 code_ref05_Bits)))))) Q g w) Q) g w (fun s_0 out_3 i_4 w => ref05_Bits_p9 kn s_0 out_3 i_4 w) k0 (fun g w h => thenE_n (K := fun g w => den pg ann_ref05_Bits (dropS 1 (bI (bI (dropS 1 (takeS 1 (dropS 2 code_ref05_Bits)))))) Q g w) (ref05_Bits_p9_ok Q g w kn hn h)) h0 h)

def ref05_Bits_p12 (k0 : Value → World → Prop) (s_0 out_3 i_4 : Value) (w : World) : Prop :=
  LoopD (fun (X : (Value × Value) → World → Prop) (t : Value × Value) (w : World) => ref05_Bits_p11 (fun _ out_3 i_4 w => X (out_3, i_4) w) k0 s_0 t.1 t.2 w) (out_3, i_4) w
theorem ref05_Bits_p12_ok (Q : Exit → Env → World → Prop) (g : Env) (w : World) (k0 : Value → World → Prop) (h0 : ∀ g w, k0 (g 3) w → Q (.exit 0) g w) (h : ref05_Bits_p12 k0 (g 0) (g 3) (g 4) w) : den pg ann_ref05_Bits (bI (dropS 1 (takeS 1 (dropS 2 code_ref05_Bits)))) Q g w := by
  refine den_loops (T := Value × Value) (fun g : Env => (g 3, g 4)) (fun X t w => ref05_Bits_p11 (fun _ out_3 i_4 w => X (out_3, i_4) w) k0 (g 0) t.1 t.2 w) (bI (dropS 1 (takeS 1 (dropS 2 code_ref05_Bits)))) (by kernel_rfl) h (fun X g1 w1 ha h1 => ?_)
  rw [← agree_at (s := 0) ha (by kernel_rfl)] at h1
  exact (ref05_Bits_p11_ok (thenE (fun g2 w2 => X ((fun g : Env => (g 3, g 4)) g2) w2) Q) g1 w1 (fun _ out_3 i_4 w => X (out_3, i_4) w) k0 (fun _ _ h => h) h0 h1)

def ref05_Bits_p13 (kn : Value → World → Prop) (s_0 out_3 i_4 : Value) (w : World) : Prop :=
  ref05_Bits_p12 kn s_0 out_3 i_4 w
theorem ref05_Bits_p13_ok (Q : Exit → Env → World → Prop) (g : Env) (w : World) (kn : Value → World → Prop) (hn : ∀ g w, kn (g 3) w → Q .normal g w) (h : ref05_Bits_p13 kn (g 0) (g 3) (g 4) w) : den pg ann_ref05_Bits (dropS 1 (takeS 1 (dropS 2 code_ref05_Bits))) Q g w :=
  den_blk 0 (dropS 1 (takeS 1 (dropS 2 code_ref05_Bits))) g w (by kernel_rfl) (ref05_Bits_p12_ok (blk 0 Q) g w kn hn h)

def ref05_Bits_p14 (kn : Value → Value → Value → World → Prop) (s_0 out_3 : Value) (w : World) : Prop :=
  kn s_0 out_3 (.int .i64 0) w
theorem ref05_Bits_p14_ok (Q : Exit → Env → World → Prop) (g : Env) (w : World) (kn : Value → Value → Value → World → Prop) (hn : ∀ g w, kn (g 0) (g 3) (g 4) w → Q .normal g w) (h : ref05_Bits_p14 kn (g 0) (g 3) w) : den pg ann_ref05_Bits (takeS 1 (takeS 1 (dropS 2 code_ref05_Bits))) Q g w := by
  have e : (ref05_Bits_p14 kn (g 0) (g 3) w) = den pg ann_ref05_Bits (takeS 1 (takeS 1 (dropS 2 code_ref05_Bits))) (exQ (fun g w => kn (g 0) (g 3) (g 4) w) (fun _ _ => False) []) g w := by kernel_rfl
  exact den_exQ e h hn (fun _ _ h => h.elim) trivial

def ref05_Bits_p15 (kn : Value → World → Prop) (s_0 out_3 : Value) (w : World) : Prop :=
  ref05_Bits_p14 (fun s_0 out_3 i_4 w => ref05_Bits_p13 kn s_0 out_3 i_4 w) s_0 out_3 w
theorem ref05_Bits_p15_ok (Q : Exit → Env → World → Prop) (g : Env) (w : World) (kn : Value → World → Prop) (hn : ∀ g w, kn (g 3) w → Q .normal g w) (h : ref05_Bits_p15 kn (g 0) (g 3) w) : den pg ann_ref05_Bits (takeS 1 (dropS 2 code_ref05_Bits)) Q g w := by
  exact den_seqs 1 (takeS 1 (dropS 2 code_ref05_Bits)) g w (by kernel_rfl) (ref05_Bits_p14_ok (thenE (fun g w => den pg ann_ref05_Bits (dropS 1 (takeS 1 (dropS 2 code_ref05_Bits))) Q g w) Q) g w (fun s_0 out_3 i_4 w => ref05_Bits_p13 kn s_0 out_3 i_4 w) (fun g w h => thenE_n (K := fun g w => den pg ann_ref05_Bits (dropS 1 (takeS 1 (dropS 2 code_ref05_Bits))) Q g w) (ref05_Bits_p13_ok Q g w kn hn h)) h)

def ref05_Bits_p16 (R : Value → World → Prop) (s_0 out_3 : Value) (w : World) : Prop :=
  ref05_Bits_p15 (fun out_3 w => ref05_Bits_p1 R out_3 w) s_0 out_3 w
theorem ref05_Bits_p16_ok (Q : Exit → Env → World → Prop) (g : Env) (w : World) (R : Value → World → Prop) (hr : ∀ g w, (resVals pg rs_ref05_Bits g w fun vs => R (tup vs) w) → Q .ret g w) (h : ref05_Bits_p16 R (g 0) (g 3) w) : den pg ann_ref05_Bits (dropS 2 code_ref05_Bits) Q g w := by
  exact den_seqs 1 (dropS 2 code_ref05_Bits) g w (by kernel_rfl) (ref05_Bits_p15_ok (thenE (fun g w => den pg ann_ref05_Bits (dropS 1 (dropS 2 code_ref05_Bits)) Q g w) Q) g w (fun out_3 w => ref05_Bits_p1 R out_3 w) (fun g w h => thenE_n (K := fun g w => den pg ann_ref05_Bits (dropS 1 (dropS 2 code_ref05_Bits)) Q g w) (ref05_Bits_p1_ok Q g w R hr h)) h)

def ref05_Bits_p17 (kn : Value → Value → World → Prop) (s_0 : Value) (w : World) : Prop :=
  kn s_0 (.slice none 0 0) w
theorem ref05_Bits_p17_ok (Q : Exit → Env → World → Prop) (g : Env) (w : World) (kn : Value → Value → World → Prop) (hn : ∀ g w, kn (g 0) (g 3) w → Q .normal g w) (h : ref05_Bits_p17 kn (g 0) w) : den pg ann_ref05_Bits (takeS 2 code_ref05_Bits) Q g w := by
  have e : (ref05_Bits_p17 kn (g 0) w) = den pg ann_ref05_Bits (takeS 2 code_ref05_Bits) (exQ (fun g w => kn (g 0) (g 3) w) (fun _ _ => False) []) g w := by kernel_rfl
  exact den_exQ e h hn (fun _ _ h => h.elim) trivial

def ref05_Bits_p18 (R : Value → World → Prop) (s_0 : Value) (w : World) : Prop :=
  ref05_Bits_p17 (fun s_0 out_3 w => ref05_Bits_p16 R s_0 out_3 w) s_0 w
theorem ref05_Bits_p18_ok (Q : Exit → Env → World → Prop) (g : Env) (w : World) (R : Value → World → Prop) (hr : ∀ g w, (resVals pg rs_ref05_Bits g w fun vs => R (tup vs) w) → Q .ret g w) (h : ref05_Bits_p18 R (g 0) w) : den pg ann_ref05_Bits code_ref05_Bits Q g w := by
  exact den_seqs 2 code_ref05_Bits g w (by kernel_rfl) (ref05_Bits_p17_ok (thenE (fun g w => den pg ann_ref05_Bits (dropS 2 code_ref05_Bits) Q g w) Q) g w (fun s_0 out_3 w => ref05_Bits_p16 R s_0 out_3 w) (fun g w h => thenE_n (K := fun g w => den pg ann_ref05_Bits (dropS 2 code_ref05_Bits) Q g w) (ref05_Bits_p16_ok Q g w R hr h)) h)

def ref05_Bits (a0 : Value) (w : World) (R : Value → World → Prop) : Prop :=
  ref05_Bits_p18 R a0 w
theorem ref05_Bits_does {a0 : Value} {w : World} {R : Value → World → Prop} (h : ref05_Bits a0 w R) : Does pg F_ref05_Bits #[a0] w R := by
  refine does_of_den (ann := ann_ref05_Bits) (fn := Try.f48) (c := code_ref05_Bits) (args := [a0]) (rs := rs_ref05_Bits) (N := 29) TryM.mixed (by kernel_rfl) Try.func48 (by kernel_rfl) (by kernel_rfl) (by kernel_rfl) (of_decide_eq_true (by kernel_rfl)) (by kernel_rfl) ?_
  exact (ref05_Bits_p18_ok (retQ pg rs_ref05_Bits R) (envOf [a0]) w R (fun _ _ h => h) h)
-- PIECES ref05_Bits/0 ref05_Bits_p1 ref05_Bits_p12 ref05_Bits_p13 ref05_Bits_p14 ref05_Bits_p15 ref05_Bits_p16 ref05_Bits_p17 ref05_Bits_p18
-- PIECES ref05_Bits/1 ref05_Bits_p2 ref05_Bits_p4 ref05_Bits_p5 ref05_Bits_p6 ref05_Bits_p7 ref05_Bits_p8 ref05_Bits_p9 ref05_Bits_p10 ref05_Bits_p11
-- PIECES ref05_Bits/2 ref05_Bits_p3

/- (*lighterman/bits.Backward).Read -/
def ann_bits_Backward_Read : FA := ⟨F_bits_Backward_Read, fun i => match Nat.beq i 4 with | true => .leaf ([12], [(12, 15), (12, 16)]) [(false, []), (false, []), (false, []), (false, []), (false, []), (false, []), (false, []), (false, []), (false, []), (false, []), (false, []), (false, []), (true, []), (false, []), (false, []), (false, [2]), (false, [3]), (false, []), (false, [])] | false => .leaf ([], []) []⟩
def rs_bits_Backward_Read : List ResultVar := [.tmp 4]
noncomputable def code_bits_Backward_Read : Code := bodyOf Try.f49
def bits_Backward_Read_p1 (R : Value → World → Prop) (r_0 n_1 : Value) (w : World) : Prop :=
  Stp pg (sBin .eql 55 (.tmp 7) (.const (.pointer none)) r_0 (.pointer none)) w fun t8 w =>
  Gd (isB t8 false) (fun K => K n_1 w) w fun t10 w =>
  Gd (isB t8 false) (fun K => Stp pg (sBin .lss 3 (.tmp 10) (.const (.int .i64 1)) t10 (.int .i64 1)) w K) w fun t11 w =>
  Stp pg (sPick t8 (.bool true) t11) w fun t12 w =>
  Gd (isB t12 false) (fun K => K n_1 w) w fun t14 w =>
  Gd (isB t12 false) (fun K => Stp pg (sBin .gtr 3 (.tmp 14) (.const (.int .i64 56)) t14 (.int .i64 56)) w K) w fun t15 w =>
  Stp pg (sPick t12 (.bool true) t15) w fun t16 w =>
  Cnd t16
    (R (.int .u64 0) w)
    (Stp pg (sNil r_0) w fun t18 w =>
    Stp pg (sFAddr 105 t18 1) w fun t19 w =>
    Stp pg (sLoad 3 t19) w fun t20 w =>
    Stp pg (sBi .max #[3, 3] 3 [t20, (.int .i64 0)]) w fun t21 w =>
    Stp pg (sBi .min #[3, 3] 3 [t21, n_1]) w fun t23 w =>
    (dr w) = (dr w) ∧
    Stp pg (sNil r_0) (dr w) fun t25 w_ => w_ = (dr w) ∧
    Stp pg (sFAddr 105 t25 0) (dr w) fun t26 w_ => w_ = (dr w) ∧
    Stp pg (sLoad 52 t26) (dr w) fun t27 w_ => w_ = (dr w) ∧
    (dr w) = (dr w) ∧
    Stp pg (sNil r_0) (dr w) fun t29 w_ => w_ = (dr w) ∧
    Stp pg (sFAddr 105 t29 1) (dr w) fun t30 w_ => w_ = (dr w) ∧
    Stp pg (sLoad 3 t30) (dr w) fun t31 w_ => w_ = (dr w) ∧
    Stp pg (sBi .max #[3, 3] 3 [t31, (.int .i64 0)]) (dr w) fun t32 w_ => w_ = (dr w) ∧
    (dr w) = (dr w) ∧
    Stp pg (sBin .sub 3 (.tmp 32) (.tmp 33) t32 t23) (dr w) fun t34 w_ => w_ = (dr w) ∧
    (dr w) = (dr w) ∧
    Does pg F_bits_take #[t27, t34, t23] (dr w) fun t36 w4_12 =>
    w4_12 = w4_12 ∧
    w4_12 = w4_12 ∧
    Stp pg (sBin .sub 3 (.tmp 37) (.tmp 38) n_1 t23) w4_12 fun t39 w_ => w_ = w4_12 ∧
    (Same pg (sBin .sub 3 (.tmp 37) (.tmp 38) n_1 t23) t39 (dr w) ∧ True) ∧
    Stp pg (sCvt 3 50 t39) w4_12 fun t40 w_ => w_ = w4_12 ∧
    (Same pg (sCvt 3 50 t39) t40 (dr w) ∧ True) ∧
    Stp pg (sBin .shl 45 (.tmp 36) (.tmp 40) t36 t40) w4_12 fun t41 w_ => w_ = w4_12 ∧
    w4_12 = w4_12 ∧
    Stp pg (sNil r_0) w4_12 fun t43 w =>
    Stp pg (sFAddr 105 t43 1) w fun t44 w =>
    Stp pg (sLoad 3 t44) w fun t45 w =>
    Stp pg (sBin .sub 3 (.tmp 45) (.tmp 46) t45 n_1) w fun t47 w =>
    Stp pg (sNil r_0) w fun t48 w =>
    Stp pg (sFAddr 105 t48 1) w fun t49 w =>
    Stp pg (sStore 3 t49 t47) w fun _u w =>
    R t41 w)
theorem bits_Backward_Read_p1_ok (Q : Exit → Env → World → Prop) (g : Env) (w : World) (R : Value → World → Prop) (hr : ∀ g w, (resVals pg rs_bits_Backward_Read g w fun vs => R (tup vs) w) → Q .ret g w) (h : bits_Backward_Read_p1 R (g 0) (g 1) w) : den pg ann_bits_Backward_Read code_bits_Backward_Read Q g w := by
  have e : (bits_Backward_Read_p1 R (g 0) (g 1) w) = den pg ann_bits_Backward_Read code_bits_Backward_Read (exQ (fun _ _ => False) (fun g w => resVals pg rs_bits_Backward_Read g w fun vs => R (tup vs) w) []) g w := by kernel_rfl
  exact den_exQ e h (fun _ _ h => h.elim) hr trivial

def bits_Backward_Read (a0 a1 : Value) (w : World) (R : Value → World → Prop) : Prop :=
  bits_Backward_Read_p1 R a0 a1 w
theorem bits_Backward_Read_does {a0 a1 : Value} {w : World} {R : Value → World → Prop} (h : bits_Backward_Read a0 a1 w R) : Does pg F_bits_Backward_Read #[a0, a1] w R := by
  refine does_of_den (ann := ann_bits_Backward_Read) (fn := Try.f49) (c := code_bits_Backward_Read) (args := [a0, a1]) (rs := rs_bits_Backward_Read) (N := 51) TryM.mixed (by kernel_rfl) Try.func49 (by kernel_rfl) (by kernel_rfl) (by kernel_rfl) (of_decide_eq_true (by kernel_rfl)) (by kernel_rfl) ?_
  exact (bits_Backward_Read_p1_ok (retQ pg rs_bits_Backward_Read R) (envOf [a0, a1]) w R (fun _ _ h => h) h)
-- PIECES bits_Backward_Read/0 bits_Backward_Read_p1

/- lighterman/lightermanref05.Last -/
def ann_ref05_Last : FA := ⟨F_ref05_Last, fun i => .leaf ([], []) []⟩
def rs_ref05_Last : List ResultVar := [.cell 4 60, .tmp 5]
noncomputable def code_ref05_Last : Code := bodyOf Try.f50
def ref05_Last_p1 (R : Value → World → Prop) (b_2 t4 k_6 x_7 : Value) (w : World) : Prop :=
  Stp pg (sFAddr 60 b_2 0) w fun t46 w =>
  Stp pg (sLoad 58 t46) w fun t47 w =>
  Stp pg (sFAddr 60 b_2 0) w fun t48 w =>
  Stp pg (sLoad 58 t48) w fun t49 w =>
  Stp pg (sBi .len #[58] 3 [t49]) w fun t50 w =>
  Stp pg (sBin .sub 3 (.tmp 50) (.tmp 51) t50 k_6) w fun t52 w =>
  Stp pg (sSlice 58 t47 none (some t52) none) w fun t53 w =>
  Stp pg (sFAddr 60 b_2 0) w fun t54 w =>
  Stp pg (sStore 58 t54 t53) w fun _u w =>
  Stp pg (sLoad 60 b_2) w fun t55 w =>
  Stp pg (sStore 60 t4 t55) w fun _u w =>
  LdR pg 60 t4 w fun r0 => R (.tuple #[r0, x_7]) w
theorem ref05_Last_p1_ok (Q : Exit → Env → World → Prop) (g : Env) (w : World) (R : Value → World → Prop) (hr : ∀ g w, (resVals pg rs_ref05_Last g w fun vs => R (tup vs) w) → Q .ret g w) (h : ref05_Last_p1 R (g 2) (g 4) (g 6) (g 7) w) : den pg ann_ref05_Last (dropS 1 (dropS 1 (dropS 4 code_ref05_Last))) Q g w := by
  have e : (ref05_Last_p1 R (g 2) (g 4) (g 6) (g 7) w) = den pg ann_ref05_Last (dropS 1 (dropS 1 (dropS 4 code_ref05_Last))) (exQ (fun _ _ => False) (fun g w => resVals pg rs_ref05_Last g w fun vs => R (tup vs) w) []) g w := by kernel_rfl
  exact den_exQ e h (fun _ _ h => h.elim) hr trivial

def ref05_Last_p2 (kn : Value → Value → Value → Value → Value → Value → World → Prop) (k0 : Value → Value → Value → Value → World → Prop) (n_1 b_2 t4 k_6 x_7 i_8 : Value) (w : World) : Prop :=
  Stp pg (sBin .lss 3 (.tmp 35) (.tmp 36) i_8 n_1) w fun t37 w =>
  Cnd t37
    (Stp pg (sBin .mul 45 (.tmp 40) (.const (.int .u64 2)) x_7 (.int .u64 2)) w fun t41 w =>
    Stp pg (sFAddr 60 b_2 1) w fun t42 w =>
    Stp pg (sLoad 3 t42) w fun t43 w =>
    Stp pg (sBin .add 3 (.tmp 43) (.const (.int .i64 1)) t43 (.int .i64 1)) w fun t44 w =>
    Stp pg (sFAddr 60 b_2 1) w fun t45 w =>
    Stp pg (sStore 3 t45 t44) w fun _u w =>
    Stp pg (sBin .add 3 (.tmp 38) (.const (.int .i64 1)) i_8 (.int .i64 1)) w fun t39 w =>
    kn n_1 b_2 t4 k_6 t41 t39 w)
    (k0 b_2 t4 k_6 x_7 w)
theorem ref05_Last_p2_ok (Q : Exit → Env → World → Prop) (g : Env) (w : World) (kn : Value → Value → Value → Value → Value → Value → World → Prop) (k0 : Value → Value → Value → Value → World → Prop) (hn : ∀ g w, kn (g 1) (g 2) (g 4) (g 6) (g 7) (g 8) w → Q .normal g w) (h0 : ∀ g w, k0 (g 2) (g 4) (g 6) (g 7) w → Q (.exit 0) g w) (h : ref05_Last_p2 kn k0 (g 1) (g 2) (g 4) (g 6) (g 7) (g 8) w) : den pg ann_ref05_Last (bI (bI (dropS 1 (takeS 1 (dropS 1 (dropS 4 code_ref05_Last)))))) Q g w := by
  have e : (ref05_Last_p2 kn k0 (g 1) (g 2) (g 4) (g 6) (g 7) (g 8) w) = den pg ann_ref05_Last (bI (bI (dropS 1 (takeS 1 (dropS 1 (dropS 4 code_ref05_Last)))))) (exQ (fun g w => kn (g 1) (g 2) (g 4) (g 6) (g 7) (g 8) w) (fun _ _ => False) [(0, fun g w => k0 (g 2) (g 4) (g 6) (g 7) w)]) g w := by kernel_rfl
  exact den_exQ e h hn (fun _ _ h => h.elim) ⟨h0, trivial⟩

def ref05_Last_p3 (k0 : Value → Value → Value → Value → World → Prop) (n_1 b_2 t4 k_6 x_7 i_8 : Value) (w : World) : Prop :=
  LoopD (fun (X : (Value × Value) → World → Prop) (t : Value × Value) (w : World) => ref05_Last_p2 (fun _ _ _ _ x_7 i_8 w => X (x_7, i_8) w) k0 n_1 b_2 t4 k_6 t.1 t.2 w) (x_7, i_8) w
theorem ref05_Last_p3_ok (Q : Exit → Env → World → Prop) (g : Env) (w : World) (k0 : Value → Value → Value → Value → World → Prop) (h0 : ∀ g w, k0 (g 2) (g 4) (g 6) (g 7) w → Q (.exit 0) g w) (h : ref05_Last_p3 k0 (g 1) (g 2) (g 4) (g 6) (g 7) (g 8) w) : den pg ann_ref05_Last (bI (dropS 1 (takeS 1 (dropS 1 (dropS 4 code_ref05_Last))))) Q g w := by
  refine den_loops (T := Value × Value) (fun g : Env => (g 7, g 8)) (fun X t w => ref05_Last_p2 (fun _ _ _ _ x_7 i_8 w => X (x_7, i_8) w) k0 (g 1) (g 2) (g 4) (g 6) t.1 t.2 w) (bI (dropS 1 (takeS 1 (dropS 1 (dropS 4 code_ref05_Last))))) (by kernel_rfl) h (fun X g1 w1 ha h1 => ?_)
  rw [← agree_at (s := 1) ha (by kernel_rfl)] at h1
  rw [← agree_at (s := 2) ha (by kernel_rfl)] at h1
  rw [← agree_at (s := 4) ha (by kernel_rfl)] at h1
  rw [← agree_at (s := 6) ha (by kernel_rfl)] at h1
  exact (ref05_Last_p2_ok (thenE (fun g2 w2 => X ((fun g : Env => (g 7, g 8)) g2) w2) Q) g1 w1 (fun _ _ _ _ x_7 i_8 w => X (x_7, i_8) w) k0 (fun _ _ h => h) h0 h1)

def ref05_Last_p4 (kn : Value → Value → Value → Value → World → Prop) (n_1 b_2 t4 k_6 x_7 i_8 : Value) (w : World) : Prop :=
  ref05_Last_p3 kn n_1 b_2 t4 k_6 x_7 i_8 w
theorem ref05_Last_p4_ok (Q : Exit → Env → World → Prop) (g : Env) (w : World) (kn : Value → Value → Value → Value → World → Prop) (hn : ∀ g w, kn (g 2) (g 4) (g 6) (g 7) w → Q .normal g w) (h : ref05_Last_p4 kn (g 1) (g 2) (g 4) (g 6) (g 7) (g 8) w) : den pg ann_ref05_Last (dropS 1 (takeS 1 (dropS 1 (dropS 4 code_ref05_Last)))) Q g w :=
  den_blk 0 (dropS 1 (takeS 1 (dropS 1 (dropS 4 code_ref05_Last)))) g w (by kernel_rfl) (ref05_Last_p3_ok (blk 0 Q) g w kn hn h)

def ref05_Last_p5 (kn : Value → Value → Value → Value → Value → Value → World → Prop) (n_1 b_2 t4 k_6 x_7 : Value) (w : World) : Prop :=
  kn n_1 b_2 t4 k_6 x_7 k_6 w
theorem ref05_Last_p5_ok (Q : Exit → Env → World → Prop) (g : Env) (w : World) (kn : Value → Value → Value → Value → Value → Value → World → Prop) (hn : ∀ g w, kn (g 1) (g 2) (g 4) (g 6) (g 7) (g 8) w → Q .normal g w) (h : ref05_Last_p5 kn (g 1) (g 2) (g 4) (g 6) (g 7) w) : den pg ann_ref05_Last (takeS 1 (takeS 1 (dropS 1 (dropS 4 code_ref05_Last)))) Q g w := by
  have e : (ref05_Last_p5 kn (g 1) (g 2) (g 4) (g 6) (g 7) w) = den pg ann_ref05_Last (takeS 1 (takeS 1 (dropS 1 (dropS 4 code_ref05_Last)))) (exQ (fun g w => kn (g 1) (g 2) (g 4) (g 6) (g 7) (g 8) w) (fun _ _ => False) []) g w := by kernel_rfl
  exact den_exQ e h hn (fun _ _ h => h.elim) trivial

def ref05_Last_p6 (kn : Value → Value → Value → Value → World → Prop) (n_1 b_2 t4 k_6 x_7 : Value) (w : World) : Prop :=
  ref05_Last_p5 (fun n_1 b_2 t4 k_6 x_7 i_8 w => ref05_Last_p4 kn n_1 b_2 t4 k_6 x_7 i_8 w) n_1 b_2 t4 k_6 x_7 w
theorem ref05_Last_p6_ok (Q : Exit → Env → World → Prop) (g : Env) (w : World) (kn : Value → Value → Value → Value → World → Prop) (hn : ∀ g w, kn (g 2) (g 4) (g 6) (g 7) w → Q .normal g w) (h : ref05_Last_p6 kn (g 1) (g 2) (g 4) (g 6) (g 7) w) : den pg ann_ref05_Last (takeS 1 (dropS 1 (dropS 4 code_ref05_Last))) Q g w := by
  exact den_seqs 1 (takeS 1 (dropS 1 (dropS 4 code_ref05_Last))) g w (by kernel_rfl) (ref05_Last_p5_ok (thenE (fun g w => den pg ann_ref05_Last (dropS 1 (takeS 1 (dropS 1 (dropS 4 code_ref05_Last)))) Q g w) Q) g w (fun n_1 b_2 t4 k_6 x_7 i_8 w => ref05_Last_p4 kn n_1 b_2 t4 k_6 x_7 i_8 w) (fun g w h => thenE_n (K := fun g w => den pg ann_ref05_Last (dropS 1 (takeS 1 (dropS 1 (dropS 4 code_ref05_Last)))) Q g w) (ref05_Last_p4_ok Q g w kn hn h)) h)

def ref05_Last_p7 (R : Value → World → Prop) (n_1 b_2 t4 k_6 x_7 : Value) (w : World) : Prop :=
  ref05_Last_p6 (fun b_2 t4 k_6 x_7 w => ref05_Last_p1 R b_2 t4 k_6 x_7 w) n_1 b_2 t4 k_6 x_7 w
theorem ref05_Last_p7_ok (Q : Exit → Env → World → Prop) (g : Env) (w : World) (R : Value → World → Prop) (hr : ∀ g w, (resVals pg rs_ref05_Last g w fun vs => R (tup vs) w) → Q .ret g w) (h : ref05_Last_p7 R (g 1) (g 2) (g 4) (g 6) (g 7) w) : den pg ann_ref05_Last (dropS 1 (dropS 4 code_ref05_Last)) Q g w := by
  exact den_seqs 1 (dropS 1 (dropS 4 code_ref05_Last)) g w (by kernel_rfl) (ref05_Last_p6_ok (thenE (fun g w => den pg ann_ref05_Last (dropS 1 (dropS 1 (dropS 4 code_ref05_Last))) Q g w) Q) g w (fun b_2 t4 k_6 x_7 w => ref05_Last_p1 R b_2 t4 k_6 x_7 w) (fun g w h => thenE_n (K := fun g w => den pg ann_ref05_Last (dropS 1 (dropS 1 (dropS 4 code_ref05_Last))) Q g w) (ref05_Last_p1_ok Q g w R hr h)) h)

def ref05_Last_p8 (kn : Value → Value → Value → Value → Value → World → Prop) (n_1 b_2 t4 k_6 : Value) (w : World) : Prop :=
  Stp pg (sFAddr 60 b_2 0) w fun t25 w =>
  Stp pg (sLoad 58 t25) w fun t26 w =>
  Stp pg (sFAddr 60 b_2 0) w fun t27 w =>
  Stp pg (sLoad 58 t27) w fun t28 w =>
  Stp pg (sBi .len #[58] 3 [t28]) w fun t29 w =>
  Stp pg (sBin .sub 3 (.tmp 29) (.tmp 30) t29 k_6) w fun t31 w =>
  Stp pg (sSlice 58 t26 (some t31) none none) w fun t32 w =>
  Does pg F_ref05_Number #[t32] w fun t33 w =>
  kn n_1 b_2 t4 k_6 t33 w
theorem ref05_Last_p8_ok (Q : Exit → Env → World → Prop) (g : Env) (w : World) (kn : Value → Value → Value → Value → Value → World → Prop) (hn : ∀ g w, kn (g 1) (g 2) (g 4) (g 6) (g 7) w → Q .normal g w) (h : ref05_Last_p8 kn (g 1) (g 2) (g 4) (g 6) w) : den pg ann_ref05_Last (takeS 1 (dropS 4 code_ref05_Last)) Q g w := by
  have e : (ref05_Last_p8 kn (g 1) (g 2) (g 4) (g 6) w) = den pg ann_ref05_Last (takeS 1 (dropS 4 code_ref05_Last)) (exQ (fun g w => kn (g 1) (g 2) (g 4) (g 6) (g 7) w) (fun _ _ => False) []) g w := by kernel_rfl
  exact den_exQ e h hn (fun _ _ h => h.elim) trivial

def ref05_Last_p9 (R : Value → World → Prop) (n_1 b_2 t4 k_6 : Value) (w : World) : Prop :=
  ref05_Last_p8 (fun n_1 b_2 t4 k_6 x_7 w => ref05_Last_p7 R n_1 b_2 t4 k_6 x_7 w) n_1 b_2 t4 k_6 w
theorem ref05_Last_p9_ok (Q : Exit → Env → World → Prop) (g : Env) (w : World) (R : Value → World → Prop) (hr : ∀ g w, (resVals pg rs_ref05_Last g w fun vs => R (tup vs) w) → Q .ret g w) (h : ref05_Last_p9 R (g 1) (g 2) (g 4) (g 6) w) : den pg ann_ref05_Last (dropS 4 code_ref05_Last) Q g w := by
  exact den_seqs 1 (dropS 4 code_ref05_Last) g w (by kernel_rfl) (ref05_Last_p8_ok (thenE (fun g w => den pg ann_ref05_Last (dropS 1 (dropS 4 code_ref05_Last)) Q g w) Q) g w (fun n_1 b_2 t4 k_6 x_7 w => ref05_Last_p7 R n_1 b_2 t4 k_6 x_7 w) (fun g w h => thenE_n (K := fun g w => den pg ann_ref05_Last (dropS 1 (dropS 4 code_ref05_Last)) Q g w) (ref05_Last_p7_ok Q g w R hr h)) h)

def ref05_Last_p10 (kn : Value → Value → Value → Value → World → Prop) (R : Value → World → Prop) (b_0 n_1 : Value) (w : World) : Prop :=
  Stp pg (sBox 60 b_0) w fun b_2 w =>
  Stp pg (sAlloc 60) w fun t4 w =>
  Stp pg (sBin .lss 3 (.tmp 9) (.const (.int .i64 1)) n_1 (.int .i64 1)) w fun t10 w =>
  Gd (isB t10 false) (fun K => K n_1 w) w fun t12 w =>
  Gd (isB t10 false) (fun K => Stp pg (sBin .gtr 3 (.tmp 12) (.const (.int .i64 56)) t12 (.int .i64 56)) w K) w fun t13 w =>
  Stp pg (sPick t10 (.bool true) t13) w fun t14 w =>
  Cnd t14
    (Stp pg (sLoad 60 b_2) w fun t15 w =>
    Stp pg (sStore 60 t4 t15) w fun _u w =>
    LdR pg 60 t4 w fun r0 => R (.tuple #[r0, (.int .u64 0)]) w)
    (Stp pg (sFAddr 60 b_2 0) w fun t18 w =>
    Stp pg (sLoad 58 t18) w fun t19 w =>
    Stp pg (sBi .len #[58] 3 [t19]) w fun t20 w =>
    Stp pg (sBin .gtr 3 (.tmp 17) (.tmp 20) n_1 t20) w fun t21 w =>
    Cnd t21
      (Stp pg (sFAddr 60 b_2 0) w fun t22 w =>
      Stp pg (sLoad 58 t22) w fun t23 w =>
      Stp pg (sBi .len #[58] 3 [t23]) w fun t24 w =>
      kn n_1 b_2 t4 t24 w)
      (kn n_1 b_2 t4 n_1 w))
theorem ref05_Last_p10_ok (Q : Exit → Env → World → Prop) (g : Env) (w : World) (kn : Value → Value → Value → Value → World → Prop) (R : Value → World → Prop) (hn : ∀ g w, kn (g 1) (g 2) (g 4) (g 6) w → Q .normal g w) (hr : ∀ g w, (resVals pg rs_ref05_Last g w fun vs => R (tup vs) w) → Q .ret g w) (h : ref05_Last_p10 kn R (g 0) (g 1) w) : den pg ann_ref05_Last (takeS 4 code_ref05_Last) Q g w := by
  have e : (ref05_Last_p10 kn R (g 0) (g 1) w) = den pg ann_ref05_Last (takeS 4 code_ref05_Last) (exQ (fun g w => kn (g 1) (g 2) (g 4) (g 6) w) (fun g w => resVals pg rs_ref05_Last g w fun vs => R (tup vs) w) []) g w := by kernel_rfl
  exact den_exQ e h hn hr trivial

def ref05_Last_p11 (R : Value → World → Prop) (b_0 n_1 : Value) (w : World) : Prop :=
  ref05_Last_p10 (fun n_1 b_2 t4 k_6 w => ref05_Last_p9 R n_1 b_2 t4 k_6 w) R b_0 n_1 w
theorem ref05_Last_p11_ok (Q : Exit → Env → World → Prop) (g : Env) (w : World) (R : Value → World → Prop) (hr : ∀ g w, (resVals pg rs_ref05_Last g w fun vs => R (tup vs) w) → Q .ret g w) (h : ref05_Last_p11 R (g 0) (g 1) w) : den pg ann_ref05_Last code_ref05_Last Q g w := by
  exact den_seqs 4 code_ref05_Last g w (by kernel_rfl) (ref05_Last_p10_ok (thenE (fun g w => den pg ann_ref05_Last (dropS 4 code_ref05_Last) Q g w) Q) g w (fun n_1 b_2 t4 k_6 w => ref05_Last_p9 R n_1 b_2 t4 k_6 w) R (fun g w h => thenE_n (K := fun g w => den pg ann_ref05_Last (dropS 4 code_ref05_Last) Q g w) (ref05_Last_p9_ok Q g w R hr h)) hr h)

def ref05_Last (a0 a1 : Value) (w : World) (R : Value → World → Prop) : Prop :=
  ref05_Last_p11 R a0 a1 w
theorem ref05_Last_does {a0 a1 : Value} {w : World} {R : Value → World → Prop} (h : ref05_Last a0 a1 w R) : Does pg F_ref05_Last #[a0, a1] w R := by
  refine does_of_den (ann := ann_ref05_Last) (fn := Try.f50) (c := code_ref05_Last) (args := [a0, a1]) (rs := rs_ref05_Last) (N := 57) TryM.mixed (by kernel_rfl) Try.func50 (by kernel_rfl) (by kernel_rfl) (by kernel_rfl) (of_decide_eq_true (by kernel_rfl)) (by kernel_rfl) ?_
  exact (ref05_Last_p11_ok (retQ pg rs_ref05_Last R) (envOf [a0, a1]) w R (fun _ _ h => h) h)
-- PIECES ref05_Last/0 ref05_Last_p1 ref05_Last_p3 ref05_Last_p4 ref05_Last_p5 ref05_Last_p6 ref05_Last_p7 ref05_Last_p8 ref05_Last_p9 ref05_Last_p10 ref05_Last_p11
-- PIECES ref05_Last/1 ref05_Last_p2

/- lighterman/bits.NewForward -/
def ann_bits_NewForward : FA := ⟨F_bits_NewForward, fun i => .leaf ([], []) []⟩
def rs_bits_NewForward : List ResultVar := [.tmp 2]
noncomputable def code_bits_NewForward : Code := bodyOf Try.f51
def bits_NewForward_p1 (R : Value → World → Prop) (b_0 : Value) (w : World) : Prop :=
  Does pg F_slices_Clone_inst #[b_0] w fun t4 w =>
  Stp pg (sBuild 130 [(0, t4)]) w fun t5 w =>
  Stp pg (sBox 130 t5) w fun t6 w =>
  R t6 w
theorem bits_NewForward_p1_ok (Q : Exit → Env → World → Prop) (g : Env) (w : World) (R : Value → World → Prop) (hr : ∀ g w, (resVals pg rs_bits_NewForward g w fun vs => R (tup vs) w) → Q .ret g w) (h : bits_NewForward_p1 R (g 0) w) : den pg ann_bits_NewForward code_bits_NewForward Q g w := by
  have e : (bits_NewForward_p1 R (g 0) w) = den pg ann_bits_NewForward code_bits_NewForward (exQ (fun _ _ => False) (fun g w => resVals pg rs_bits_NewForward g w fun vs => R (tup vs) w) []) g w := by kernel_rfl
  exact den_exQ e h (fun _ _ h => h.elim) hr trivial

def bits_NewForward (a0 : Value) (w : World) (R : Value → World → Prop) : Prop :=
  bits_NewForward_p1 R a0 w
theorem bits_NewForward_does {a0 : Value} {w : World} {R : Value → World → Prop} (h : bits_NewForward a0 w R) : Does pg F_bits_NewForward #[a0] w R := by
  refine does_of_den (ann := ann_bits_NewForward) (fn := Try.f51) (c := code_bits_NewForward) (args := [a0]) (rs := rs_bits_NewForward) (N := 7) TryM.mixed (by kernel_rfl) Try.func51 (by kernel_rfl) (by kernel_rfl) (by kernel_rfl) (of_decide_eq_true (by kernel_rfl)) (by kernel_rfl) ?_
  exact (bits_NewForward_p1_ok (retQ pg rs_bits_NewForward R) (envOf [a0]) w R (fun _ _ h => h) h)
-- PIECES bits_NewForward/0 bits_NewForward_p1

/- (*lighterman/bits.Forward).Read -/
def ann_bits_Forward_Read : FA := ⟨F_bits_Forward_Read, fun i => match Nat.beq i 3 with | true => .leaf ([], []) [(false, []), (false, []), (false, []), (false, []), (false, []), (false, []), (false, []), (false, []), (false, []), (false, []), (false, []), (false, []), (false, []), (false, [])] | false => match Nat.beq i 5 with | true => .leaf ([9], []) [(false, []), (false, []), (false, []), (false, []), (false, []), (false, []), (false, []), (false, []), (false, []), (true, []), (false, [])] | false => .leaf ([], []) []⟩
def rs_bits_Forward_Read : List ResultVar := [.tmp 4, .tmp 5]
noncomputable def code_bits_Forward_Read : Code := bodyOf Try.f52
def bits_Forward_Read_p1 (R : Value → World → Prop) (f_0 n_1 : Value) (w : World) : Prop :=
  Stp pg (sBin .eql 112 (.tmp 8) (.const (.pointer none)) f_0 (.pointer none)) w fun t9 w =>
  Gd (isB t9 false) (fun K => K n_1 w) w fun t11 w =>
  Gd (isB t9 false) (fun K => Stp pg (sBin .lss 3 (.tmp 11) (.const (.int .i64 0)) t11 (.int .i64 0)) w K) w fun t12 w =>
  Stp pg (sPick t9 (.bool true) t12) w fun t13 w =>
  Gd (isB t13 false) (fun K => K n_1 w) w fun t15 w =>
  Gd (isB t13 false) (fun K => Stp pg (sBin .gtr 3 (.tmp 15) (.const (.int .i64 32)) t15 (.int .i64 32)) w K) w fun t16 w =>
  Stp pg (sPick t13 (.bool true) t16) w fun t17 w =>
  Cnd t17
    (R (.tuple #[(.int .u64 0), (.int .i64 1)]) w)
    ((dr w) = (dr w) ∧
    Stp pg (sNil f_0) (dr w) fun t20 w_ => w_ = (dr w) ∧
    Stp pg (sFAddr 130 t20 0) (dr w) fun t21 w_ => w_ = (dr w) ∧
    Stp pg (sLoad 52 t21) (dr w) fun t22 w_ => w_ = (dr w) ∧
    Stp pg (sBi .len #[52] 3 [t22]) (dr w) fun t23 w_ => w_ = (dr w) ∧
    Stp pg (sBin .mul 3 (.const (.int .i64 8)) (.tmp 23) (.int .i64 8) t23) (dr w) fun t24 w_ => w_ = (dr w) ∧
    (dr w) = (dr w) ∧
    Stp pg (sNil f_0) (dr w) fun t26 w_ => w_ = (dr w) ∧
    Stp pg (sFAddr 130 t26 1) (dr w) fun t27 w_ => w_ = (dr w) ∧
    Stp pg (sLoad 3 t27) (dr w) fun t28 w_ => w_ = (dr w) ∧
    Stp pg (sBin .sub 3 (.tmp 24) (.tmp 28) t24 t28) (dr w) fun t29 w_ => w_ = (dr w) ∧
    (dr w) = (dr w) ∧
    Stp pg (sBin .lss 3 (.tmp 29) (.tmp 30) t29 n_1) (dr w) fun t31 w_ => w_ = (dr w) ∧
    (dr w) = (dr w) ∧
    Cnd t31
      (R (.tuple #[(.int .u64 0), (.int .i64 10)]) (dr w))
      ((dr (dr w)) = (dr (dr w)) ∧
      Stp pg (sNil f_0) (dr (dr w)) fun t33 w_ => w_ = (dr (dr w)) ∧
      Stp pg (sFAddr 130 t33 0) (dr (dr w)) fun t34 w_ => w_ = (dr (dr w)) ∧
      Stp pg (sLoad 52 t34) (dr (dr w)) fun t35 w_ => w_ = (dr (dr w)) ∧
      (dr (dr w)) = (dr (dr w)) ∧
      Stp pg (sNil f_0) (dr (dr w)) fun t37 w_ => w_ = (dr (dr w)) ∧
      Stp pg (sFAddr 130 t37 1) (dr (dr w)) fun t38 w_ => w_ = (dr (dr w)) ∧
      Stp pg (sLoad 3 t38) (dr (dr w)) fun t39 w_ => w_ = (dr (dr w)) ∧
      (dr (dr w)) = (dr (dr w)) ∧
      Does pg F_bits_take #[t35, t39, n_1] (dr (dr w)) fun t41 w5_9 =>
      w5_9 = w5_9 ∧
      Stp pg (sNil f_0) w5_9 fun t43 w =>
      Stp pg (sFAddr 130 t43 1) w fun t44 w =>
      Stp pg (sLoad 3 t44) w fun t45 w =>
      Stp pg (sBin .add 3 (.tmp 45) (.tmp 46) t45 n_1) w fun t47 w =>
      Stp pg (sNil f_0) w fun t48 w =>
      Stp pg (sFAddr 130 t48 1) w fun t49 w =>
      Stp pg (sStore 3 t49 t47) w fun _u w =>
      R (.tuple #[t41, (.int .i64 0)]) w))
theorem bits_Forward_Read_p1_ok (Q : Exit → Env → World → Prop) (g : Env) (w : World) (R : Value → World → Prop) (hr : ∀ g w, (resVals pg rs_bits_Forward_Read g w fun vs => R (tup vs) w) → Q .ret g w) (h : bits_Forward_Read_p1 R (g 0) (g 1) w) : den pg ann_bits_Forward_Read code_bits_Forward_Read Q g w := by
  have e : (bits_Forward_Read_p1 R (g 0) (g 1) w) = den pg ann_bits_Forward_Read code_bits_Forward_Read (exQ (fun _ _ => False) (fun g w => resVals pg rs_bits_Forward_Read g w fun vs => R (tup vs) w) []) g w := by kernel_rfl
  exact den_exQ e h (fun _ _ h => h.elim) hr trivial

def bits_Forward_Read (a0 a1 : Value) (w : World) (R : Value → World → Prop) : Prop :=
  bits_Forward_Read_p1 R a0 a1 w
theorem bits_Forward_Read_does {a0 a1 : Value} {w : World} {R : Value → World → Prop} (h : bits_Forward_Read a0 a1 w R) : Does pg F_bits_Forward_Read #[a0, a1] w R := by
  refine does_of_den (ann := ann_bits_Forward_Read) (fn := Try.f52) (c := code_bits_Forward_Read) (args := [a0, a1]) (rs := rs_bits_Forward_Read) (N := 51) TryM.mixed (by kernel_rfl) Try.func52 (by kernel_rfl) (by kernel_rfl) (by kernel_rfl) (of_decide_eq_true (by kernel_rfl)) (by kernel_rfl) ?_
  exact (bits_Forward_Read_p1_ok (retQ pg rs_bits_Forward_Read R) (envOf [a0, a1]) w R (fun _ _ h => h) h)
-- PIECES bits_Forward_Read/0 bits_Forward_Read_p1

/- lighterman/normal.value -/
def ann_normal_value : FA := ⟨F_normal_value, fun i => .leaf ([], []) []⟩
def rs_normal_value : List ResultVar := [.tmp 4, .tmp 5]
noncomputable def code_normal_value : Code := bodyOf Try.f53
def normal_value_p1 (R : Value → World → Prop) (f_0 left_1 : Value) (w : World) : Prop :=
  Stp pg (sBin .add 3 (.tmp 11) (.const (.int .i64 1)) left_1 (.int .i64 1)) w fun t12 w =>
  Stp pg (sCvt 3 50 t12) w fun t13 w =>
  Does pg F_math_bits_Len #[t13] w fun t14 w =>
  Stp pg (sBin .sub 3 (.tmp 17) (.const (.int .i64 1)) t14 (.int .i64 1)) w fun t18 w =>
  Does pg F_bits_Forward_Read #[f_0, t18] w fun t19 w =>
  Stp pg (sExtr t19 0) w fun t20 w =>
  Stp pg (sExtr t19 1) w fun t21 w =>
  Stp pg (sBin .neq 29 (.tmp 22) (.const (.int .i64 0)) t21 (.int .i64 0)) w fun t23 w =>
  Cnd t23
    (R (.tuple #[(.int .i64 0), t21]) w)
    (Stp pg (sBin .shl 3 (.const (.int .i64 1)) (.tmp 25) (.int .i64 1) t14) w fun t26 w =>
    Stp pg (sBin .sub 3 (.tmp 26) (.const (.int .i64 2)) t26 (.int .i64 2)) w fun t27 w =>
    Stp pg (sBin .sub 3 (.tmp 27) (.tmp 28) t27 left_1) w fun t29 w =>
    Stp pg (sCvt 45 3 t20) w fun t31 w =>
    Stp pg (sBin .lss 3 (.tmp 31) (.tmp 32) t31 t29) w fun t33 w =>
    Cnd t33
      (Stp pg (sCvt 45 3 t20) w fun t35 w =>
      R (.tuple #[t35, (.int .i64 0)]) w)
      (Does pg F_bits_Forward_Read #[f_0, (.int .i64 1)] w fun t38 w =>
      Stp pg (sExtr t38 0) w fun t39 w =>
      Stp pg (sExtr t38 1) w fun t40 w =>
      Stp pg (sBin .neq 29 (.tmp 42) (.const (.int .i64 0)) t40 (.int .i64 0)) w fun t43 w =>
      Cnd t43
        (R (.tuple #[(.int .i64 0), t40]) w)
        (Stp pg (sBin .eql 45 (.tmp 46) (.const (.int .u64 0)) t39 (.int .u64 0)) w fun t47 w =>
        Cnd t47
          (Stp pg (sCvt 45 3 t20) w fun t49 w =>
          R (.tuple #[t49, (.int .i64 0)]) w)
          (Stp pg (sCvt 45 3 t20) w fun t51 w =>
          Stp pg (sBin .sub 3 (.tmp 52) (.const (.int .i64 1)) t14 (.int .i64 1)) w fun t53 w =>
          Stp pg (sBin .shl 3 (.const (.int .i64 1)) (.tmp 53) (.int .i64 1) t53) w fun t54 w =>
          Stp pg (sBin .add 3 (.tmp 51) (.tmp 54) t51 t54) w fun t55 w =>
          Stp pg (sBin .sub 3 (.tmp 55) (.tmp 56) t55 t29) w fun t57 w =>
          R (.tuple #[t57, (.int .i64 0)]) w))))
theorem normal_value_p1_ok (Q : Exit → Env → World → Prop) (g : Env) (w : World) (R : Value → World → Prop) (hr : ∀ g w, (resVals pg rs_normal_value g w fun vs => R (tup vs) w) → Q .ret g w) (h : normal_value_p1 R (g 0) (g 1) w) : den pg ann_normal_value code_normal_value Q g w := by
  have e : (normal_value_p1 R (g 0) (g 1) w) = den pg ann_normal_value code_normal_value (exQ (fun _ _ => False) (fun g w => resVals pg rs_normal_value g w fun vs => R (tup vs) w) []) g w := by kernel_rfl
  exact den_exQ e h (fun _ _ h => h.elim) hr trivial

def normal_value (a0 a1 : Value) (w : World) (R : Value → World → Prop) : Prop :=
  normal_value_p1 R a0 a1 w
theorem normal_value_does {a0 a1 : Value} {w : World} {R : Value → World → Prop} (h : normal_value a0 a1 w R) : Does pg F_normal_value #[a0, a1] w R := by
  refine does_of_den (ann := ann_normal_value) (fn := Try.f53) (c := code_normal_value) (args := [a0, a1]) (rs := rs_normal_value) (N := 58) TryM.mixed (by kernel_rfl) Try.func53 (by kernel_rfl) (by kernel_rfl) (by kernel_rfl) (of_decide_eq_true (by kernel_rfl)) (by kernel_rfl) ?_
  exact (normal_value_p1_ok (retQ pg rs_normal_value R) (envOf [a0, a1]) w R (fun _ _ h => h) h)
-- PIECES normal_value/0 normal_value_p1

/- lighterman/normal.parts -/
def ann_normal_parts : FA := ⟨F_normal_parts, fun i => .leaf ([], []) []⟩
def rs_normal_parts : List ResultVar := [.tmp 2]
noncomputable def code_normal_parts : Code := bodyOf Try.f54
def normal_parts_p1 (R : Value → World → Prop) (p_0 : Value) (w : World) : Prop :=
  Stp pg (sBin .lss 3 (.tmp 3) (.const (.int .i64 0)) p_0 (.int .i64 0)) w fun t4 w =>
  Cnd t4
    (R (.int .i64 1) w)
    (R p_0 w)
theorem normal_parts_p1_ok (Q : Exit → Env → World → Prop) (g : Env) (w : World) (R : Value → World → Prop) (hr : ∀ g w, (resVals pg rs_normal_parts g w fun vs => R (tup vs) w) → Q .ret g w) (h : normal_parts_p1 R (g 0) w) : den pg ann_normal_parts code_normal_parts Q g w := by
  have e : (normal_parts_p1 R (g 0) w) = den pg ann_normal_parts code_normal_parts (exQ (fun _ _ => False) (fun g w => resVals pg rs_normal_parts g w fun vs => R (tup vs) w) []) g w := by kernel_rfl
  exact den_exQ e h (fun _ _ h => h.elim) hr trivial

def normal_parts (a0 : Value) (w : World) (R : Value → World → Prop) : Prop :=
  normal_parts_p1 R a0 w
theorem normal_parts_does {a0 : Value} {w : World} {R : Value → World → Prop} (h : normal_parts a0 w R) : Does pg F_normal_parts #[a0] w R := by
  refine does_of_den (ann := ann_normal_parts) (fn := Try.f54) (c := code_normal_parts) (args := [a0]) (rs := rs_normal_parts) (N := 6) TryM.mixed (by kernel_rfl) Try.func54 (by kernel_rfl) (by kernel_rfl) (by kernel_rfl) (of_decide_eq_true (by kernel_rfl)) (by kernel_rfl) ?_
  exact (normal_parts_p1_ok (retQ pg rs_normal_parts R) (envOf [a0]) w R (fun _ _ h => h) h)
-- PIECES normal_parts/0 normal_parts_p1

/- lighterman/normal.noughts -/
def ann_normal_noughts : FA := ⟨F_normal_noughts, fun i => .leaf ([], []) []⟩
def rs_normal_noughts : List ResultVar := [.tmp 2, .tmp 3]
noncomputable def code_normal_noughts : Code := bodyOf Try.f55
def normal_noughts_p1 (R : Value → World → Prop) (n_4 : Value) (w : World) : Prop :=
  R (.tuple #[n_4, (.int .i64 0)]) w
theorem normal_noughts_p1_ok (Q : Exit → Env → World → Prop) (g : Env) (w : World) (R : Value → World → Prop) (hr : ∀ g w, (resVals pg rs_normal_noughts g w fun vs => R (tup vs) w) → Q .ret g w) (h : normal_noughts_p1 R (g 4) w) : den pg ann_normal_noughts (dropS 1 (dropS 2 (bI (dropS 1 code_normal_noughts)))) Q g w := by
  have e : (normal_noughts_p1 R (g 4) w) = den pg ann_normal_noughts (dropS 1 (dropS 2 (bI (dropS 1 code_normal_noughts)))) (exQ (fun _ _ => False) (fun g w => resVals pg rs_normal_noughts g w fun vs => R (tup vs) w) []) g w := by kernel_rfl
  exact den_exQ e h (fun _ _ h => h.elim) hr trivial

def normal_noughts_p2 (kn : Value → Value → World → Prop) (k0 : Value → World → Prop) (R : Value → World → Prop) (f_0 n_4 : Value) (w : World) : Prop :=
  Does pg F_bits_Forward_Read #[f_0, (.int .i64 2)] w fun t9 w =>
  Stp pg (sExtr t9 0) w fun t10 w =>
  Stp pg (sExtr t9 1) w fun t11 w =>
  Stp pg (sBin .neq 29 (.tmp 12) (.const (.int .i64 0)) t11 (.int .i64 0)) w fun t13 w =>
  Cnd t13
    (R (.tuple #[(.int .i64 0), t11]) w)
    (Stp pg (sCvt 45 3 t10) w fun t17 w =>
    Stp pg (sBin .add 3 (.tmp 15) (.tmp 17) n_4 t17) w fun t18 w =>
    Stp pg (sBin .lss 45 (.tmp 19) (.const (.int .u64 3)) t10 (.int .u64 3)) w fun t20 w =>
    Cnd t20
      (k0 t18 w)
      (kn f_0 t18 w))
theorem normal_noughts_p2_ok (Q : Exit → Env → World → Prop) (g : Env) (w : World) (kn : Value → Value → World → Prop) (k0 : Value → World → Prop) (R : Value → World → Prop) (hn : ∀ g w, kn (g 0) (g 4) w → Q .normal g w) (h0 : ∀ g w, k0 (g 4) w → Q (.exit 0) g w) (hr : ∀ g w, (resVals pg rs_normal_noughts g w fun vs => R (tup vs) w) → Q .ret g w) (h : normal_noughts_p2 kn k0 R (g 0) (g 4) w) : den pg ann_normal_noughts (bI (bI (takeS 1 (dropS 2 (bI (dropS 1 code_normal_noughts)))))) Q g w := by
  have e : (normal_noughts_p2 kn k0 R (g 0) (g 4) w) = den pg ann_normal_noughts (bI (bI (takeS 1 (dropS 2 (bI (dropS 1 code_normal_noughts)))))) (exQ (fun g w => kn (g 0) (g 4) w) (fun g w => resVals pg rs_normal_noughts g w fun vs => R (tup vs) w) [(0, fun g w => k0 (g 4) w)]) g w := by kernel_rfl
  exact den_exQ e h hn hr ⟨h0, trivial⟩

def normal_noughts_p3 (k0 : Value → World → Prop) (R : Value → World → Prop) (f_0 n_4 : Value) (w : World) : Prop :=
  LoopD (fun (X : Value → World → Prop) (t : Value) (w : World) => normal_noughts_p2 (fun _ n_4 w => X n_4 w) k0 R f_0 t w) n_4 w
theorem normal_noughts_p3_ok (Q : Exit → Env → World → Prop) (g : Env) (w : World) (k0 : Value → World → Prop) (R : Value → World → Prop) (h0 : ∀ g w, k0 (g 4) w → Q (.exit 0) g w) (hr : ∀ g w, (resVals pg rs_normal_noughts g w fun vs => R (tup vs) w) → Q .ret g w) (h : normal_noughts_p3 k0 R (g 0) (g 4) w) : den pg ann_normal_noughts (bI (takeS 1 (dropS 2 (bI (dropS 1 code_normal_noughts))))) Q g w := by
  refine den_loops (T := Value) (fun g : Env => g 4) (fun X t w => normal_noughts_p2 (fun _ n_4 w => X n_4 w) k0 R (g 0) t w) (bI (takeS 1 (dropS 2 (bI (dropS 1 code_normal_noughts))))) (by kernel_rfl) h (fun X g1 w1 ha h1 => ?_)
  rw [← agree_at (s := 0) ha (by kernel_rfl)] at h1
  exact (normal_noughts_p2_ok (thenE (fun g2 w2 => X ((fun g : Env => g 4) g2) w2) Q) g1 w1 (fun _ n_4 w => X n_4 w) k0 R (fun _ _ h => h) h0 hr h1)

def normal_noughts_p4 (kn : Value → World → Prop) (R : Value → World → Prop) (f_0 n_4 : Value) (w : World) : Prop :=
  normal_noughts_p3 kn R f_0 n_4 w
theorem normal_noughts_p4_ok (Q : Exit → Env → World → Prop) (g : Env) (w : World) (kn : Value → World → Prop) (R : Value → World → Prop) (hn : ∀ g w, kn (g 4) w → Q .normal g w) (hr : ∀ g w, (resVals pg rs_normal_noughts g w fun vs => R (tup vs) w) → Q .ret g w) (h : normal_noughts_p4 kn R (g 0) (g 4) w) : den pg ann_normal_noughts (takeS 1 (dropS 2 (bI (dropS 1 code_normal_noughts)))) Q g w :=
  den_blk 0 (takeS 1 (dropS 2 (bI (dropS 1 code_normal_noughts)))) g w (by kernel_rfl) (normal_noughts_p3_ok (blk 0 Q) g w kn R hn hr h)

def normal_noughts_p5 (R : Value → World → Prop) (f_0 n_4 : Value) (w : World) : Prop :=
  normal_noughts_p4 (fun n_4 w => normal_noughts_p1 R n_4 w) R f_0 n_4 w
theorem normal_noughts_p5_ok (Q : Exit → Env → World → Prop) (g : Env) (w : World) (R : Value → World → Prop) (hr : ∀ g w, (resVals pg rs_normal_noughts g w fun vs => R (tup vs) w) → Q .ret g w) (h : normal_noughts_p5 R (g 0) (g 4) w) : den pg ann_normal_noughts (dropS 2 (bI (dropS 1 code_normal_noughts))) Q g w := by
  exact den_seqs 1 (dropS 2 (bI (dropS 1 code_normal_noughts))) g w (by kernel_rfl) (normal_noughts_p4_ok (thenE (fun g w => den pg ann_normal_noughts (dropS 1 (dropS 2 (bI (dropS 1 code_normal_noughts)))) Q g w) Q) g w (fun n_4 w => normal_noughts_p1 R n_4 w) R (fun g w h => thenE_n (K := fun g w => den pg ann_normal_noughts (dropS 1 (dropS 2 (bI (dropS 1 code_normal_noughts)))) Q g w) (normal_noughts_p1_ok Q g w R hr h)) hr h)

def normal_noughts_p6 (kn : Value → Value → World → Prop) (f_0 : Value) (w : World) : Prop :=
  kn f_0 (.int .i64 0) w
theorem normal_noughts_p6_ok (Q : Exit → Env → World → Prop) (g : Env) (w : World) (kn : Value → Value → World → Prop) (hn : ∀ g w, kn (g 0) (g 4) w → Q .normal g w) (h : normal_noughts_p6 kn (g 0) w) : den pg ann_normal_noughts (takeS 2 (bI (dropS 1 code_normal_noughts))) Q g w := by
  have e : (normal_noughts_p6 kn (g 0) w) = den pg ann_normal_noughts (takeS 2 (bI (dropS 1 code_normal_noughts))) (exQ (fun g w => kn (g 0) (g 4) w) (fun _ _ => False) []) g w := by kernel_rfl
  exact den_exQ e h hn (fun _ _ h => h.elim) trivial

def normal_noughts_p7 (R : Value → World → Prop) (f_0 : Value) (w : World) : Prop :=
  normal_noughts_p6 (fun f_0 n_4 w => normal_noughts_p5 R f_0 n_4 w) f_0 w
theorem normal_noughts_p7_ok (Q : Exit → Env → World → Prop) (g : Env) (w : World) (R : Value → World → Prop) (hr : ∀ g w, (resVals pg rs_normal_noughts g w fun vs => R (tup vs) w) → Q .ret g w) (h : normal_noughts_p7 R (g 0) w) : den pg ann_normal_noughts (bI (dropS 1 code_normal_noughts)) Q g w := by
  exact den_seqs 2 (bI (dropS 1 code_normal_noughts)) g w (by kernel_rfl) (normal_noughts_p6_ok (thenE (fun g w => den pg ann_normal_noughts (dropS 2 (bI (dropS 1 code_normal_noughts))) Q g w) Q) g w (fun f_0 n_4 w => normal_noughts_p5 R f_0 n_4 w) (fun g w h => thenE_n (K := fun g w => den pg ann_normal_noughts (dropS 2 (bI (dropS 1 code_normal_noughts))) Q g w) (normal_noughts_p5_ok Q g w R hr h)) h)

def normal_noughts_p8 (R : Value → World → Prop) (f_0 : Value) (w : World) : Prop :=
  normal_noughts_p7 R f_0 w
theorem normal_noughts_p8_ok (Q : Exit → Env → World → Prop) (g : Env) (w : World) (R : Value → World → Prop) (hr : ∀ g w, (resVals pg rs_normal_noughts g w fun vs => R (tup vs) w) → Q .ret g w) (h : normal_noughts_p8 R (g 0) w) : den pg ann_normal_noughts (dropS 1 code_normal_noughts) Q g w :=
  den_scp (dropS 1 code_normal_noughts) g w (by kernel_rfl) (normal_noughts_p7_ok Q g w R hr h)

def normal_noughts_p9 (kn : Value → World → Prop) (f_0 : Value) (w : World) : Prop :=
  kn f_0 w
theorem normal_noughts_p9_ok (Q : Exit → Env → World → Prop) (g : Env) (w : World) (kn : Value → World → Prop) (hn : ∀ g w, kn (g 0) w → Q .normal g w) (h : normal_noughts_p9 kn (g 0) w) : den pg ann_normal_noughts (takeS 1 code_normal_noughts) Q g w := by
  have e : (normal_noughts_p9 kn (g 0) w) = den pg ann_normal_noughts (takeS 1 code_normal_noughts) (exQ (fun g w => kn (g 0) w) (fun _ _ => False) []) g w := by kernel_rfl
  exact den_exQ e h hn (fun _ _ h => h.elim) trivial

def normal_noughts_p10 (R : Value → World → Prop) (f_0 : Value) (w : World) : Prop :=
  normal_noughts_p9 (fun f_0 w => normal_noughts_p8 R f_0 w) f_0 w
theorem normal_noughts_p10_ok (Q : Exit → Env → World → Prop) (g : Env) (w : World) (R : Value → World → Prop) (hr : ∀ g w, (resVals pg rs_normal_noughts g w fun vs => R (tup vs) w) → Q .ret g w) (h : normal_noughts_p10 R (g 0) w) : den pg ann_normal_noughts code_normal_noughts Q g w := by
  exact den_seqs 1 code_normal_noughts g w (by kernel_rfl) (normal_noughts_p9_ok (thenE (fun g w => den pg ann_normal_noughts (dropS 1 code_normal_noughts) Q g w) Q) g w (fun f_0 w => normal_noughts_p8 R f_0 w) (fun g w h => thenE_n (K := fun g w => den pg ann_normal_noughts (dropS 1 code_normal_noughts) Q g w) (normal_noughts_p8_ok Q g w R hr h)) h)

def normal_noughts (a0 : Value) (w : World) (R : Value → World → Prop) : Prop :=
  normal_noughts_p10 R a0 w
theorem normal_noughts_does {a0 : Value} {w : World} {R : Value → World → Prop} (h : normal_noughts a0 w R) : Does pg F_normal_noughts #[a0] w R := by
  refine does_of_den (ann := ann_normal_noughts) (fn := Try.f55) (c := code_normal_noughts) (args := [a0]) (rs := rs_normal_noughts) (N := 22) TryM.mixed (by kernel_rfl) Try.func55 (by kernel_rfl) (by kernel_rfl) (by kernel_rfl) (of_decide_eq_true (by kernel_rfl)) (by kernel_rfl) ?_
  exact (normal_noughts_p10_ok (retQ pg rs_normal_noughts R) (envOf [a0]) w R (fun _ _ h => h) h)
-- PIECES normal_noughts/0 normal_noughts_p1 normal_noughts_p3 normal_noughts_p4 normal_noughts_p5 normal_noughts_p6 normal_noughts_p7 normal_noughts_p8 normal_noughts_p9 normal_noughts_p10
-- PIECES normal_noughts/1 normal_noughts_p2

/- (*lighterman/bits.Forward).Used -/
def ann_bits_Forward_Used : FA := ⟨F_bits_Forward_Used, fun i => .leaf ([], []) []⟩
def rs_bits_Forward_Used : List ResultVar := [.tmp 2]
noncomputable def code_bits_Forward_Used : Code := bodyOf Try.f56
def bits_Forward_Used_p1 (R : Value → World → Prop) (f_0 : Value) (w : World) : Prop :=
  Stp pg (sBin .eql 112 (.tmp 3) (.const (.pointer none)) f_0 (.pointer none)) w fun t4 w =>
  Cnd t4
    (R (.int .i64 0) w)
    (Stp pg (sNil f_0) w fun t6 w =>
    Stp pg (sFAddr 130 t6 1) w fun t7 w =>
    Stp pg (sLoad 3 t7) w fun t8 w =>
    Stp pg (sBin .add 3 (.tmp 8) (.const (.int .i64 7)) t8 (.int .i64 7)) w fun t9 w =>
    Stp pg (sBin .quo 3 (.tmp 9) (.const (.int .i64 8)) t9 (.int .i64 8)) w fun t10 w =>
    R t10 w)
theorem bits_Forward_Used_p1_ok (Q : Exit → Env → World → Prop) (g : Env) (w : World) (R : Value → World → Prop) (hr : ∀ g w, (resVals pg rs_bits_Forward_Used g w fun vs => R (tup vs) w) → Q .ret g w) (h : bits_Forward_Used_p1 R (g 0) w) : den pg ann_bits_Forward_Used code_bits_Forward_Used Q g w := by
  have e : (bits_Forward_Used_p1 R (g 0) w) = den pg ann_bits_Forward_Used code_bits_Forward_Used (exQ (fun _ _ => False) (fun g w => resVals pg rs_bits_Forward_Used g w fun vs => R (tup vs) w) []) g w := by kernel_rfl
  exact den_exQ e h (fun _ _ h => h.elim) hr trivial

def bits_Forward_Used (a0 : Value) (w : World) (R : Value → World → Prop) : Prop :=
  bits_Forward_Used_p1 R a0 w
theorem bits_Forward_Used_does {a0 : Value} {w : World} {R : Value → World → Prop} (h : bits_Forward_Used a0 w R) : Does pg F_bits_Forward_Used #[a0] w R := by
  refine does_of_den (ann := ann_bits_Forward_Used) (fn := Try.f56) (c := code_bits_Forward_Used) (args := [a0]) (rs := rs_bits_Forward_Used) (N := 11) TryM.mixed (by kernel_rfl) Try.func56 (by kernel_rfl) (by kernel_rfl) (by kernel_rfl) (of_decide_eq_true (by kernel_rfl)) (by kernel_rfl) ?_
  exact (bits_Forward_Used_p1_ok (retQ pg rs_bits_Forward_Used R) (envOf [a0]) w R (fun _ _ h => h) h)
-- PIECES bits_Forward_Used/0 bits_Forward_Used_p1

/- lighterman/lightermanref05.Read -/
def ann_ref05_Read : FA := ⟨F_ref05_Read, fun i => .leaf ([], []) []⟩
def rs_ref05_Read : List ResultVar := [.cell 4 119, .tmp 5, .tmp 6]
noncomputable def code_ref05_Read : Code := bodyOf Try.f57
def ref05_Read_p1 (R : Value → World → Prop) (f_0 n_1 : Value) (w : World) : Prop :=
  Stp pg (sBox 119 f_0) w fun f_2 w =>
  Stp pg (sAlloc 119) w fun t4 w =>
  Stp pg (sBin .lss 3 (.tmp 8) (.const (.int .i64 0)) n_1 (.int .i64 0)) w fun t9 w =>
  Gd (isB t9 false) (fun K => K n_1 w) w fun t11 w =>
  Gd (isB t9 false) (fun K => Stp pg (sBin .gtr 3 (.tmp 11) (.const (.int .i64 32)) t11 (.int .i64 32)) w K) w fun t12 w =>
  Stp pg (sPick t9 (.bool true) t12) w fun t13 w =>
  Cnd t13
    (Stp pg (sLoad 119 f_2) w fun t14 w =>
    Stp pg (sStore 119 t4 t14) w fun _u w =>
    LdR pg 119 t4 w fun r0 => R (.tuple #[r0, (.int .u64 0), (.int .i64 1)]) w)
    (Stp pg (sFAddr 119 f_2 0) w fun t15 w =>
    Stp pg (sLoad 58 t15) w fun t16 w =>
    Stp pg (sBi .len #[58] 3 [t16]) w fun t17 w =>
    Stp pg (sFAddr 119 f_2 1) w fun t18 w =>
    Stp pg (sLoad 3 t18) w fun t19 w =>
    Stp pg (sBin .sub 3 (.tmp 17) (.tmp 19) t17 t19) w fun t20 w =>
    Stp pg (sBin .lss 3 (.tmp 20) (.tmp 21) t20 n_1) w fun t22 w =>
    Cnd t22
      (Stp pg (sLoad 119 f_2) w fun t23 w =>
      Stp pg (sStore 119 t4 t23) w fun _u w =>
      LdR pg 119 t4 w fun r0 => R (.tuple #[r0, (.int .u64 0), (.int .i64 10)]) w)
      (Stp pg (sFAddr 119 f_2 0) w fun t24 w =>
      Stp pg (sLoad 58 t24) w fun t25 w =>
      Stp pg (sFAddr 119 f_2 1) w fun t26 w =>
      Stp pg (sLoad 3 t26) w fun t27 w =>
      Stp pg (sFAddr 119 f_2 1) w fun t28 w =>
      Stp pg (sLoad 3 t28) w fun t29 w =>
      Stp pg (sBin .add 3 (.tmp 29) (.tmp 30) t29 n_1) w fun t31 w =>
      Stp pg (sSlice 58 t25 (some t27) (some t31) none) w fun t32 w =>
      Does pg F_ref05_Number #[t32] w fun t33 w =>
      Stp pg (sFAddr 119 f_2 1) w fun t34 w =>
      Stp pg (sLoad 3 t34) w fun t35 w =>
      Stp pg (sBin .add 3 (.tmp 35) (.tmp 36) t35 n_1) w fun t37 w =>
      Stp pg (sFAddr 119 f_2 1) w fun t38 w =>
      Stp pg (sStore 3 t38 t37) w fun _u w =>
      Stp pg (sLoad 119 f_2) w fun t39 w =>
      Stp pg (sStore 119 t4 t39) w fun _u w =>
      LdR pg 119 t4 w fun r0 => R (.tuple #[r0, t33, (.int .i64 0)]) w))
theorem ref05_Read_p1_ok (Q : Exit → Env → World → Prop) (g : Env) (w : World) (R : Value → World → Prop) (hr : ∀ g w, (resVals pg rs_ref05_Read g w fun vs => R (tup vs) w) → Q .ret g w) (h : ref05_Read_p1 R (g 0) (g 1) w) : den pg ann_ref05_Read code_ref05_Read Q g w := by
  have e : (ref05_Read_p1 R (g 0) (g 1) w) = den pg ann_ref05_Read code_ref05_Read (exQ (fun _ _ => False) (fun g w => resVals pg rs_ref05_Read g w fun vs => R (tup vs) w) []) g w := by kernel_rfl
  exact den_exQ e h (fun _ _ h => h.elim) hr trivial

def ref05_Read (a0 a1 : Value) (w : World) (R : Value → World → Prop) : Prop :=
  ref05_Read_p1 R a0 a1 w
theorem ref05_Read_does {a0 a1 : Value} {w : World} {R : Value → World → Prop} (h : ref05_Read a0 a1 w R) : Does pg F_ref05_Read #[a0, a1] w R := by
  refine does_of_den (ann := ann_ref05_Read) (fn := Try.f57) (c := code_ref05_Read) (args := [a0, a1]) (rs := rs_ref05_Read) (N := 41) TryM.mixed (by kernel_rfl) Try.func57 (by kernel_rfl) (by kernel_rfl) (by kernel_rfl) (of_decide_eq_true (by kernel_rfl)) (by kernel_rfl) ?_
  exact (ref05_Read_p1_ok (retQ pg rs_ref05_Read R) (envOf [a0, a1]) w R (fun _ _ h => h) h)
-- PIECES ref05_Read/0 ref05_Read_p1

/- lighterman/lightermanref06.next -/
def ann_ref06_next : FA := ⟨F_ref06_next, fun i => .leaf ([], []) []⟩
def rs_ref06_next : List ResultVar := [.cell 4 119, .tmp 5, .tmp 6]
noncomputable def code_ref06_next : Code := bodyOf Try.f58
def ref06_next_p1 (R : Value → World → Prop) (f_0 left_1 : Value) (w : World) : Prop :=
  Stp pg (sBox 119 f_0) w fun f_2 w =>
  Stp pg (sAlloc 119) w fun t4 w =>
  Stp pg (sBin .add 3 (.tmp 13) (.const (.int .i64 1)) left_1 (.int .i64 1)) w fun t14 w =>
  Does pg F_ref06_width #[t14] w fun t15 w =>
  Stp pg (sLoad 119 f_2) w fun t17 w =>
  Stp pg (sBin .sub 3 (.tmp 18) (.const (.int .i64 1)) t15 (.int .i64 1)) w fun t19 w =>
  Does pg F_ref05_Read #[t17, t19] w fun t20 w =>
  Stp pg (sExtr t20 0) w fun t21 w =>
  Stp pg (sExtr t20 1) w fun t22 w =>
  Stp pg (sExtr t20 2) w fun t23 w =>
  Stp pg (sStore 119 f_2 t21) w fun _u w =>
  Stp pg (sBin .neq 29 (.tmp 24) (.const (.int .i64 0)) t23 (.int .i64 0)) w fun t25 w =>
  Cnd t25
    (Stp pg (sLoad 119 f_2) w fun t26 w =>
    Stp pg (sStore 119 t4 t26) w fun _u w =>
    LdR pg 119 t4 w fun r0 => R (.tuple #[r0, (.int .i64 0), t23]) w)
    (Stp pg (sBin .sub 3 (.tmp 28) (.const (.int .i64 1)) t15 (.int .i64 1)) w fun t29 w =>
    Does pg F_ref06_Power #[t29] w fun t30 w =>
    Stp pg (sBin .mul 3 (.const (.int .i64 2)) (.tmp 31) (.int .i64 2) t30) w fun t32 w =>
    Stp pg (sBin .sub 3 (.tmp 32) (.const (.int .i64 2)) t32 (.int .i64 2)) w fun t33 w =>
    Stp pg (sBin .sub 3 (.tmp 33) (.tmp 34) t33 left_1) w fun t35 w =>
    Stp pg (sCvt 45 3 t22) w fun t37 w =>
    Stp pg (sBin .lss 3 (.tmp 37) (.tmp 38) t37 t35) w fun t39 w =>
    Cnd t39
      (Stp pg (sLoad 119 f_2) w fun t40 w =>
      Stp pg (sCvt 45 3 t22) w fun t42 w =>
      Stp pg (sStore 119 t4 t40) w fun _u w =>
      LdR pg 119 t4 w fun r0 => R (.tuple #[r0, t42, (.int .i64 0)]) w)
      (Stp pg (sLoad 119 f_2) w fun t44 w =>
      Does pg F_ref05_Read #[t44, (.int .i64 1)] w fun t45 w =>
      Stp pg (sExtr t45 0) w fun t46 w =>
      Stp pg (sExtr t45 1) w fun t47 w =>
      Stp pg (sExtr t45 2) w fun t48 w =>
      Stp pg (sStore 119 f_2 t46) w fun _u w =>
      Stp pg (sBin .neq 29 (.tmp 49) (.const (.int .i64 0)) t48 (.int .i64 0)) w fun t50 w =>
      Cnd t50
        (Stp pg (sLoad 119 f_2) w fun t51 w =>
        Stp pg (sStore 119 t4 t51) w fun _u w =>
        LdR pg 119 t4 w fun r0 => R (.tuple #[r0, (.int .i64 0), t48]) w)
        (Stp pg (sBin .eql 45 (.tmp 53) (.const (.int .u64 1)) t47 (.int .u64 1)) w fun t54 w =>
        Cnd t54
          (Stp pg (sLoad 119 f_2) w fun t55 w =>
          Stp pg (sCvt 45 3 t22) w fun t57 w =>
          Stp pg (sBin .add 3 (.tmp 57) (.tmp 58) t57 t30) w fun t59 w =>
          Stp pg (sBin .sub 3 (.tmp 59) (.tmp 60) t59 t35) w fun t61 w =>
          Stp pg (sStore 119 t4 t55) w fun _u w =>
          LdR pg 119 t4 w fun r0 => R (.tuple #[r0, t61, (.int .i64 0)]) w)
          (Stp pg (sLoad 119 f_2) w fun t62 w =>
          Stp pg (sCvt 45 3 t22) w fun t64 w =>
          Stp pg (sStore 119 t4 t62) w fun _u w =>
          LdR pg 119 t4 w fun r0 => R (.tuple #[r0, t64, (.int .i64 0)]) w))))
theorem ref06_next_p1_ok (Q : Exit → Env → World → Prop) (g : Env) (w : World) (R : Value → World → Prop) (hr : ∀ g w, (resVals pg rs_ref06_next g w fun vs => R (tup vs) w) → Q .ret g w) (h : ref06_next_p1 R (g 0) (g 1) w) : den pg ann_ref06_next code_ref06_next Q g w := by
  have e : (ref06_next_p1 R (g 0) (g 1) w) = den pg ann_ref06_next code_ref06_next (exQ (fun _ _ => False) (fun g w => resVals pg rs_ref06_next g w fun vs => R (tup vs) w) []) g w := by kernel_rfl
  exact den_exQ e h (fun _ _ h => h.elim) hr trivial

def ref06_next (a0 a1 : Value) (w : World) (R : Value → World → Prop) : Prop :=
  ref06_next_p1 R a0 a1 w
theorem ref06_next_does {a0 a1 : Value} {w : World} {R : Value → World → Prop} (h : ref06_next a0 a1 w R) : Does pg F_ref06_next #[a0, a1] w R := by
  refine does_of_den (ann := ann_ref06_next) (fn := Try.f58) (c := code_ref06_next) (args := [a0, a1]) (rs := rs_ref06_next) (N := 65) TryM.mixed (by kernel_rfl) Try.func58 (by kernel_rfl) (by kernel_rfl) (by kernel_rfl) (of_decide_eq_true (by kernel_rfl)) (by kernel_rfl) ?_
  exact (ref06_next_p1_ok (retQ pg rs_ref06_next R) (envOf [a0, a1]) w R (fun _ _ h => h) h)
-- PIECES ref06_next/0 ref06_next_p1

/- lighterman/lightermanref05.Used -/
def ann_ref05_Used : FA := ⟨F_ref05_Used, fun i => .leaf ([], []) []⟩
def rs_ref05_Used : List ResultVar := [.tmp 2]
noncomputable def code_ref05_Used : Code := bodyOf Try.f59
def ref05_Used_p1 (R : Value → World → Prop) (f_0 : Value) (w : World) : Prop :=
  Stp pg (sBox 119 f_0) w fun f_1 w =>
  Stp pg (sFAddr 119 f_1 1) w fun t3 w =>
  Stp pg (sLoad 3 t3) w fun t4 w =>
  Stp pg (sBin .add 3 (.tmp 4) (.const (.int .i64 7)) t4 (.int .i64 7)) w fun t5 w =>
  Stp pg (sBin .quo 3 (.tmp 5) (.const (.int .i64 8)) t5 (.int .i64 8)) w fun t6 w =>
  R t6 w
theorem ref05_Used_p1_ok (Q : Exit → Env → World → Prop) (g : Env) (w : World) (R : Value → World → Prop) (hr : ∀ g w, (resVals pg rs_ref05_Used g w fun vs => R (tup vs) w) → Q .ret g w) (h : ref05_Used_p1 R (g 0) w) : den pg ann_ref05_Used code_ref05_Used Q g w := by
  have e : (ref05_Used_p1 R (g 0) w) = den pg ann_ref05_Used code_ref05_Used (exQ (fun _ _ => False) (fun g w => resVals pg rs_ref05_Used g w fun vs => R (tup vs) w) []) g w := by kernel_rfl
  exact den_exQ e h (fun _ _ h => h.elim) hr trivial

def ref05_Used (a0 : Value) (w : World) (R : Value → World → Prop) : Prop :=
  ref05_Used_p1 R a0 w
theorem ref05_Used_does {a0 : Value} {w : World} {R : Value → World → Prop} (h : ref05_Used a0 w R) : Does pg F_ref05_Used #[a0] w R := by
  refine does_of_den (ann := ann_ref05_Used) (fn := Try.f59) (c := code_ref05_Used) (args := [a0]) (rs := rs_ref05_Used) (N := 7) TryM.mixed (by kernel_rfl) Try.func59 (by kernel_rfl) (by kernel_rfl) (by kernel_rfl) (of_decide_eq_true (by kernel_rfl)) (by kernel_rfl) ?_
  exact (ref05_Used_p1_ok (retQ pg rs_ref05_Used R) (envOf [a0]) w R (fun _ _ h => h) h)
-- PIECES ref05_Used/0 ref05_Used_p1

/- lighterman/normal.may -/
def ann_normal_may : FA := ⟨F_normal_may, fun i => .leaf ([], []) []⟩
def rs_normal_may : List ResultVar := [.tmp 2]
noncomputable def code_normal_may : Code := bodyOf Try.f60
def normal_may_p1 (R : Value → World → Prop) (left_3 : Value) (w : World) : Prop :=
  Stp pg (sBin .eql 3 (.tmp 60) (.const (.int .i64 0)) left_3 (.int .i64 0)) w fun t61 w =>
  R t61 w
theorem normal_may_p1_ok (Q : Exit → Env → World → Prop) (g : Env) (w : World) (R : Value → World → Prop) (hr : ∀ g w, (resVals pg rs_normal_may g w fun vs => R (tup vs) w) → Q .ret g w) (h : normal_may_p1 R (g 3) w) : den pg ann_normal_may (dropS 1 (dropS 3 code_normal_may)) Q g w := by
  have e : (normal_may_p1 R (g 3) w) = den pg ann_normal_may (dropS 1 (dropS 3 code_normal_may)) (exQ (fun _ _ => False) (fun g w => resVals pg rs_normal_may g w fun vs => R (tup vs) w) []) g w := by kernel_rfl
  exact den_exQ e h (fun _ _ h => h.elim) hr trivial

def normal_may_p2 (kn : Value → Value → Value → Value → World → Prop) (k0 : Value → World → Prop) (R : Value → World → Prop) (left_3 t41 t42 t43 : Value) (w : World) : Prop :=
  Stp pg (sBin .lss 3 (.tmp 43) (.tmp 42) t43 t42) w fun t44 w =>
  Cnd t44
    (Stp pg (sIAddr 22 t41 t43) w fun t45 w =>
    Stp pg (sLoad 3 t45) w fun t46 w =>
    Stp pg (sBin .lss 3 (.tmp 47) (.const (.int .i64 (-1))) t46 (.int .i64 (-1))) w fun t48 w =>
    Gd (isB t48 false) (fun K => K t46 w) w fun t50 w =>
    Gd (isB t48 false) (fun K => Does pg F_normal_parts #[t50] w K) w fun t51 w =>
    Gd (isB t48 false) (fun K => K left_3 w) w fun t52 w =>
    Gd (isB t48 false) (fun K => Stp pg (sBin .gtr 3 (.tmp 51) (.tmp 52) t51 t52) w K) w fun t53 w =>
    Stp pg (sPick t48 (.bool true) t53) w fun t54 w =>
    Cnd t54
      (R (.bool false) w)
      (Does pg F_normal_parts #[t46] w fun t57 w =>
      Stp pg (sBin .sub 3 (.tmp 55) (.tmp 57) left_3 t57) w fun t58 w =>
      Stp pg (sBin .add 3 (.tmp 43) (.const (.int .i64 1)) t43 (.int .i64 1)) w fun t59 w =>
      kn t58 t41 t42 t59 w))
    (k0 left_3 w)
theorem normal_may_p2_ok (Q : Exit → Env → World → Prop) (g : Env) (w : World) (kn : Value → Value → Value → Value → World → Prop) (k0 : Value → World → Prop) (R : Value → World → Prop) (hn : ∀ g w, kn (g 3) (g 41) (g 42) (g 43) w → Q .normal g w) (h0 : ∀ g w, k0 (g 3) w → Q (.exit 0) g w) (hr : ∀ g w, (resVals pg rs_normal_may g w fun vs => R (tup vs) w) → Q .ret g w) (h : normal_may_p2 kn k0 R (g 3) (g 41) (g 42) (g 43) w) : den pg ann_normal_may (bI (bI (dropS 1 (takeS 1 (dropS 3 code_normal_may))))) Q g w := by
  have e : (normal_may_p2 kn k0 R (g 3) (g 41) (g 42) (g 43) w) = den pg ann_normal_may (bI (bI (dropS 1 (takeS 1 (dropS 3 code_normal_may))))) (exQ (fun g w => kn (g 3) (g 41) (g 42) (g 43) w) (fun g w => resVals pg rs_normal_may g w fun vs => R (tup vs) w) [(0, fun g w => k0 (g 3) w)]) g w := by kernel_rfl
  exact den_exQ e h hn hr ⟨h0, trivial⟩

def normal_may_p3 (k0 : Value → World → Prop) (R : Value → World → Prop) (left_3 t41 t42 t43 : Value) (w : World) : Prop :=
  LoopD (fun (X : (Value × Value) → World → Prop) (t : Value × Value) (w : World) => normal_may_p2 (fun left_3 _ _ t43 w => X (left_3, t43) w) k0 R t.1 t41 t42 t.2 w) (left_3, t43) w
theorem normal_may_p3_ok (Q : Exit → Env → World → Prop) (g : Env) (w : World) (k0 : Value → World → Prop) (R : Value → World → Prop) (h0 : ∀ g w, k0 (g 3) w → Q (.exit 0) g w) (hr : ∀ g w, (resVals pg rs_normal_may g w fun vs => R (tup vs) w) → Q .ret g w) (h : normal_may_p3 k0 R (g 3) (g 41) (g 42) (g 43) w) : den pg ann_normal_may (bI (dropS 1 (takeS 1 (dropS 3 code_normal_may)))) Q g w := by
  refine den_loops (T := Value × Value) (fun g : Env => (g 3, g 43)) (fun X t w => normal_may_p2 (fun left_3 _ _ t43 w => X (left_3, t43) w) k0 R t.1 (g 41) (g 42) t.2 w) (bI (dropS 1 (takeS 1 (dropS 3 code_normal_may)))) (by kernel_rfl) h (fun X g1 w1 ha h1 => ?_)
  rw [← agree_at (s := 41) ha (by kernel_rfl)] at h1
  rw [← agree_at (s := 42) ha (by kernel_rfl)] at h1
  exact (normal_may_p2_ok (thenE (fun g2 w2 => X ((fun g : Env => (g 3, g 43)) g2) w2) Q) g1 w1 (fun left_3 _ _ t43 w => X (left_3, t43) w) k0 R (fun _ _ h => h) h0 hr h1)

def normal_may_p4 (kn : Value → World → Prop) (R : Value → World → Prop) (left_3 t41 t42 t43 : Value) (w : World) : Prop :=
  normal_may_p3 kn R left_3 t41 t42 t43 w
theorem normal_may_p4_ok (Q : Exit → Env → World → Prop) (g : Env) (w : World) (kn : Value → World → Prop) (R : Value → World → Prop) (hn : ∀ g w, kn (g 3) w → Q .normal g w) (hr : ∀ g w, (resVals pg rs_normal_may g w fun vs => R (tup vs) w) → Q .ret g w) (h : normal_may_p4 kn R (g 3) (g 41) (g 42) (g 43) w) : den pg ann_normal_may (dropS 1 (takeS 1 (dropS 3 code_normal_may))) Q g w :=
  den_blk 0 (dropS 1 (takeS 1 (dropS 3 code_normal_may))) g w (by kernel_rfl) (normal_may_p3_ok (blk 0 Q) g w kn R hn hr h)

def normal_may_p5 (kn : Value → Value → Value → Value → World → Prop) (c_1 left_3 : Value) (w : World) : Prop :=
  Stp pg (sFAddr 24 c_1 1) w fun t40 w =>
  Stp pg (sLoad 22 t40) w fun t41 w =>
  Stp pg (sBi .len #[22] 3 [t41]) w fun t42 w =>
  kn left_3 t41 t42 (.int .i64 0) w
theorem normal_may_p5_ok (Q : Exit → Env → World → Prop) (g : Env) (w : World) (kn : Value → Value → Value → Value → World → Prop) (hn : ∀ g w, kn (g 3) (g 41) (g 42) (g 43) w → Q .normal g w) (h : normal_may_p5 kn (g 1) (g 3) w) : den pg ann_normal_may (takeS 1 (takeS 1 (dropS 3 code_normal_may))) Q g w := by
  have e : (normal_may_p5 kn (g 1) (g 3) w) = den pg ann_normal_may (takeS 1 (takeS 1 (dropS 3 code_normal_may))) (exQ (fun g w => kn (g 3) (g 41) (g 42) (g 43) w) (fun _ _ => False) []) g w := by kernel_rfl
  exact den_exQ e h hn (fun _ _ h => h.elim) trivial

def normal_may_p6 (kn : Value → World → Prop) (R : Value → World → Prop) (c_1 left_3 : Value) (w : World) : Prop :=
  normal_may_p5 (fun left_3 t41 t42 t43 w => normal_may_p4 kn R left_3 t41 t42 t43 w) c_1 left_3 w
theorem normal_may_p6_ok (Q : Exit → Env → World → Prop) (g : Env) (w : World) (kn : Value → World → Prop) (R : Value → World → Prop) (hn : ∀ g w, kn (g 3) w → Q .normal g w) (hr : ∀ g w, (resVals pg rs_normal_may g w fun vs => R (tup vs) w) → Q .ret g w) (h : normal_may_p6 kn R (g 1) (g 3) w) : den pg ann_normal_may (takeS 1 (dropS 3 code_normal_may)) Q g w := by
  exact den_seqs 1 (takeS 1 (dropS 3 code_normal_may)) g w (by kernel_rfl) (normal_may_p5_ok (thenE (fun g w => den pg ann_normal_may (dropS 1 (takeS 1 (dropS 3 code_normal_may))) Q g w) Q) g w (fun left_3 t41 t42 t43 w => normal_may_p4 kn R left_3 t41 t42 t43 w) (fun g w h => thenE_n (K := fun g w => den pg ann_normal_may (dropS 1 (takeS 1 (dropS 3 code_normal_may))) Q g w) (normal_may_p4_ok Q g w kn R hn hr h)) h)

def normal_may_p7 (R : Value → World → Prop) (c_1 left_3 : Value) (w : World) : Prop :=
  normal_may_p6 (fun left_3 w => normal_may_p1 R left_3 w) R c_1 left_3 w
theorem normal_may_p7_ok (Q : Exit → Env → World → Prop) (g : Env) (w : World) (R : Value → World → Prop) (hr : ∀ g w, (resVals pg rs_normal_may g w fun vs => R (tup vs) w) → Q .ret g w) (h : normal_may_p7 R (g 1) (g 3) w) : den pg ann_normal_may (dropS 3 code_normal_may) Q g w := by
  exact den_seqs 1 (dropS 3 code_normal_may) g w (by kernel_rfl) (normal_may_p6_ok (thenE (fun g w => den pg ann_normal_may (dropS 1 (dropS 3 code_normal_may)) Q g w) Q) g w (fun left_3 w => normal_may_p1 R left_3 w) R (fun g w h => thenE_n (K := fun g w => den pg ann_normal_may (dropS 1 (dropS 3 code_normal_may)) Q g w) (normal_may_p1_ok Q g w R hr h)) hr h)

def normal_may_p8 (kn : Value → Value → World → Prop) (R : Value → World → Prop) (c_0 : Value) (w : World) : Prop :=
  Stp pg (sBox 24 c_0) w fun c_1 w =>
  Stp pg (sFAddr 24 c_1 0) w fun t6 w =>
  Stp pg (sLoad 3 t6) w fun t7 w =>
  Stp pg (sBin .lss 3 (.tmp 7) (.const (.int .i64 5)) t7 (.int .i64 5)) w fun t8 w =>
  Gd (isB t8 false) (fun K => Stp pg (sFAddr 24 c_1 0) w K) w fun t10 w =>
  Gd (isB t8 false) (fun K => Stp pg (sLoad 3 t10) w K) w fun t11 w =>
  Gd (isB t8 false) (fun K => Stp pg (sBin .gtr 3 (.tmp 11) (.const (.int .i64 15)) t11 (.int .i64 15)) w K) w fun t12 w =>
  Stp pg (sPick t8 (.bool true) t12) w fun t13 w =>
  Gd (isB t13 false) (fun K => Stp pg (sFAddr 24 c_1 1) w K) w fun t15 w =>
  Gd (isB t13 false) (fun K => Stp pg (sLoad 22 t15) w K) w fun t16 w =>
  Gd (isB t13 false) (fun K => Stp pg (sBi .len #[22] 3 [t16]) w K) w fun t17 w =>
  Gd (isB t13 false) (fun K => Stp pg (sBin .lss 3 (.tmp 17) (.const (.int .i64 1)) t17 (.int .i64 1)) w K) w fun t18 w =>
  Stp pg (sPick t13 (.bool true) t18) w fun t19 w =>
  Gd (isB t19 false) (fun K => Stp pg (sFAddr 24 c_1 1) w K) w fun t21 w =>
  Gd (isB t19 false) (fun K => Stp pg (sLoad 22 t21) w K) w fun t22 w =>
  Gd (isB t19 false) (fun K => Stp pg (sBi .len #[22] 3 [t22]) w K) w fun t23 w =>
  Gd (isB t19 false) (fun K => Stp pg (sBin .gtr 3 (.tmp 23) (.const (.int .i64 256)) t23 (.int .i64 256)) w K) w fun t24 w =>
  Stp pg (sPick t19 (.bool true) t24) w fun t25 w =>
  Gd (isB t25 false) (fun K => Stp pg (sFAddr 24 c_1 1) w K) w fun t27 w =>
  Gd (isB t25 false) (fun K => Stp pg (sLoad 22 t27) w K) w fun t28 w =>
  Gd (isB t25 false) (fun K => Stp pg (sFAddr 24 c_1 1) w K) w fun t29 w =>
  Gd (isB t25 false) (fun K => Stp pg (sLoad 22 t29) w K) w fun t30 w =>
  Gd (isB t25 false) (fun K => Stp pg (sBi .len #[22] 3 [t30]) w K) w fun t31 w =>
  Gd (isB t25 false) (fun K => Stp pg (sBin .sub 3 (.tmp 31) (.const (.int .i64 1)) t31 (.int .i64 1)) w K) w fun t32 w =>
  Gd (isB t25 false) (fun K => Stp pg (sIAddr 22 t28 t32) w K) w fun t33 w =>
  Gd (isB t25 false) (fun K => Stp pg (sLoad 3 t33) w K) w fun t34 w =>
  Gd (isB t25 false) (fun K => Stp pg (sBin .eql 3 (.tmp 34) (.const (.int .i64 0)) t34 (.int .i64 0)) w K) w fun t35 w =>
  Stp pg (sPick t25 (.bool true) t35) w fun t36 w =>
  Cnd t36
    (R (.bool false) w)
    (Stp pg (sFAddr 24 c_1 0) w fun t37 w =>
    Stp pg (sLoad 3 t37) w fun t38 w =>
    Stp pg (sBin .shl 3 (.const (.int .i64 1)) (.tmp 38) (.int .i64 1) t38) w fun t39 w =>
    kn c_1 t39 w)
theorem normal_may_p8_ok (Q : Exit → Env → World → Prop) (g : Env) (w : World) (kn : Value → Value → World → Prop) (R : Value → World → Prop) (hn : ∀ g w, kn (g 1) (g 3) w → Q .normal g w) (hr : ∀ g w, (resVals pg rs_normal_may g w fun vs => R (tup vs) w) → Q .ret g w) (h : normal_may_p8 kn R (g 0) w) : den pg ann_normal_may (takeS 3 code_normal_may) Q g w := by
  have e : (normal_may_p8 kn R (g 0) w) = den pg ann_normal_may (takeS 3 code_normal_may) (exQ (fun g w => kn (g 1) (g 3) w) (fun g w => resVals pg rs_normal_may g w fun vs => R (tup vs) w) []) g w := by kernel_rfl
  exact den_exQ e h hn hr trivial

def normal_may_p9 (R : Value → World → Prop) (c_0 : Value) (w : World) : Prop :=
  normal_may_p8 (fun c_1 left_3 w => normal_may_p7 R c_1 left_3 w) R c_0 w
theorem normal_may_p9_ok (Q : Exit → Env → World → Prop) (g : Env) (w : World) (R : Value → World → Prop) (hr : ∀ g w, (resVals pg rs_normal_may g w fun vs => R (tup vs) w) → Q .ret g w) (h : normal_may_p9 R (g 0) w) : den pg ann_normal_may code_normal_may Q g w := by
  exact den_seqs 3 code_normal_may g w (by kernel_rfl) (normal_may_p8_ok (thenE (fun g w => den pg ann_normal_may (dropS 3 code_normal_may) Q g w) Q) g w (fun c_1 left_3 w => normal_may_p7 R c_1 left_3 w) R (fun g w h => thenE_n (K := fun g w => den pg ann_normal_may (dropS 3 code_normal_may) Q g w) (normal_may_p7_ok Q g w R hr h)) hr h)

def normal_may (a0 : Value) (w : World) (R : Value → World → Prop) : Prop :=
  normal_may_p9 R a0 w
theorem normal_may_does {a0 : Value} {w : World} {R : Value → World → Prop} (h : normal_may a0 w R) : Does pg F_normal_may #[a0] w R := by
  refine does_of_den (ann := ann_normal_may) (fn := Try.f60) (c := code_normal_may) (args := [a0]) (rs := rs_normal_may) (N := 62) TryM.mixed (by kernel_rfl) Try.func60 (by kernel_rfl) (by kernel_rfl) (by kernel_rfl) (of_decide_eq_true (by kernel_rfl)) (by kernel_rfl) ?_
  exact (normal_may_p9_ok (retQ pg rs_normal_may R) (envOf [a0]) w R (fun _ _ h => h) h)
-- PIECES normal_may/0 normal_may_p1 normal_may_p3 normal_may_p4 normal_may_p5 normal_may_p6 normal_may_p7 normal_may_p8 normal_may_p9
-- PIECES normal_may/1 normal_may_p2

/- (*lighterman/bits.Writer).Out -/
def ann_bits_Writer_Out : FA := ⟨F_bits_Writer_Out, fun i => .leaf ([], []) []⟩
def rs_bits_Writer_Out : List ResultVar := [.tmp 2]
noncomputable def code_bits_Writer_Out : Code := bodyOf Try.f61
def bits_Writer_Out_p1 (R : Value → World → Prop) (w_0 : Value) (w : World) : Prop :=
  Stp pg (sBin .eql 72 (.tmp 3) (.const (.pointer none)) w_0 (.pointer none)) w fun t4 w =>
  Cnd t4
    (R (.slice none 0 0) w)
    (Stp pg (sNil w_0) w fun t6 w =>
    Stp pg (sFAddr 111 t6 0) w fun t7 w =>
    Stp pg (sLoad 52 t7) w fun t8 w =>
    Does pg F_slices_Clone_inst #[t8] w fun t9 w =>
    R t9 w)
theorem bits_Writer_Out_p1_ok (Q : Exit → Env → World → Prop) (g : Env) (w : World) (R : Value → World → Prop) (hr : ∀ g w, (resVals pg rs_bits_Writer_Out g w fun vs => R (tup vs) w) → Q .ret g w) (h : bits_Writer_Out_p1 R (g 0) w) : den pg ann_bits_Writer_Out code_bits_Writer_Out Q g w := by
  have e : (bits_Writer_Out_p1 R (g 0) w) = den pg ann_bits_Writer_Out code_bits_Writer_Out (exQ (fun _ _ => False) (fun g w => resVals pg rs_bits_Writer_Out g w fun vs => R (tup vs) w) []) g w := by kernel_rfl
  exact den_exQ e h (fun _ _ h => h.elim) hr trivial

def bits_Writer_Out (a0 : Value) (w : World) (R : Value → World → Prop) : Prop :=
  bits_Writer_Out_p1 R a0 w
theorem bits_Writer_Out_does {a0 : Value} {w : World} {R : Value → World → Prop} (h : bits_Writer_Out a0 w R) : Does pg F_bits_Writer_Out #[a0] w R := by
  refine does_of_den (ann := ann_bits_Writer_Out) (fn := Try.f61) (c := code_bits_Writer_Out) (args := [a0]) (rs := rs_bits_Writer_Out) (N := 10) TryM.mixed (by kernel_rfl) Try.func61 (by kernel_rfl) (by kernel_rfl) (by kernel_rfl) (of_decide_eq_true (by kernel_rfl)) (by kernel_rfl) ?_
  exact (bits_Writer_Out_p1_ok (retQ pg rs_bits_Writer_Out R) (envOf [a0]) w R (fun _ _ h => h) h)
-- PIECES bits_Writer_Out/0 bits_Writer_Out_p1

/- math/bits.Len32 -/
def ann_math_bits_Len32 : FA := ⟨F_math_bits_Len32, fun i => .leaf ([], []) []⟩
def rs_math_bits_Len32 : List ResultVar := [.tmp 2]
noncomputable def code_math_bits_Len32 : Code := bodyOf Try.f62
def math_bits_Len32_p1 (R : Value → World → Prop) (x_0 n_2 : Value) (w : World) : Prop :=
  Stp pg (sCvt 90 5 x_0) w fun t15 w =>
  Stp pg (sIdx 9 (.string ⟨#[0, 1, 2, 2, 3, 3, 3, 3, 4, 4, 4, 4, 4, 4, 4, 4, 5, 5, 5, 5, 5, 5, 5, 5, 5, 5, 5, 5, 5, 5, 5, 5, 6, 6, 6, 6, 6, 6, 6, 6, 6, 6, 6, 6, 6, 6, 6, 6, 6, 6, 6, 6, 6, 6, 6, 6, 6, 6, 6, 6, 6, 6, 6, 6, 7, 7, 7, 7, 7, 7, 7, 7, 7, 7, 7, 7, 7, 7, 7, 7, 7, 7, 7, 7, 7, 7, 7, 7, 7, 7, 7, 7, 7, 7, 7, 7, 7, 7, 7, 7, 7, 7, 7, 7, 7, 7, 7, 7, 7, 7, 7, 7, 7, 7, 7, 7, 7, 7, 7, 7, 7, 7, 7, 7, 7, 7, 7, 7, 8, 8, 8, 8, 8, 8, 8, 8, 8, 8, 8, 8, 8, 8, 8, 8, 8, 8, 8, 8, 8, 8, 8, 8, 8, 8, 8, 8, 8, 8, 8, 8, 8, 8, 8, 8, 8, 8, 8, 8, 8, 8, 8, 8, 8, 8, 8, 8, 8, 8, 8, 8, 8, 8, 8, 8, 8, 8, 8, 8, 8, 8, 8, 8, 8, 8, 8, 8, 8, 8, 8, 8, 8, 8, 8, 8, 8, 8, 8, 8, 8, 8, 8, 8, 8, 8, 8, 8, 8, 8, 8, 8, 8, 8, 8, 8, 8, 8, 8, 8, 8, 8, 8, 8, 8, 8, 8, 8, 8, 8, 8, 8, 8, 8, 8, 8, 8, 8, 8, 8, 8, 8, 8, 8, 8, 8, 8, 8]⟩) t15) w fun t16 w =>
  Stp pg (sCvt 5 3 t16) w fun t17 w =>
  Stp pg (sBin .add 3 (.tmp 13) (.tmp 17) n_2 t17) w fun t18 w =>
  R t18 w
theorem math_bits_Len32_p1_ok (Q : Exit → Env → World → Prop) (g : Env) (w : World) (R : Value → World → Prop) (hr : ∀ g w, (resVals pg rs_math_bits_Len32 g w fun vs => R (tup vs) w) → Q .ret g w) (h : math_bits_Len32_p1 R (g 0) (g 2) w) : den pg ann_math_bits_Len32 (dropS 1 (dropS 2 code_math_bits_Len32)) Q g w := by
  have e : (math_bits_Len32_p1 R (g 0) (g 2) w) = den pg ann_math_bits_Len32 (dropS 1 (dropS 2 code_math_bits_Len32)) (exQ (fun _ _ => False) (fun g w => resVals pg rs_math_bits_Len32 g w fun vs => R (tup vs) w) []) g w := by kernel_rfl
  exact den_exQ e h (fun _ _ h => h.elim) hr trivial

def math_bits_Len32_p2 (kn : Value → Value → World → Prop) (x_0 n_2 : Value) (w : World) : Prop :=
  Stp pg (sBin .geq 90 (.tmp 7) (.const (.int .u32 256)) x_0 (.int .u32 256)) w fun t8 w =>
  Cnd t8
    (Stp pg (sBin .shr 90 (.tmp 9) (.const (.int .u64 8)) x_0 (.int .u64 8)) w fun t10 w =>
    Stp pg (sBin .add 3 (.tmp 11) (.const (.int .i64 8)) n_2 (.int .i64 8)) w fun t12 w =>
    kn t10 t12 w)
    (kn x_0 n_2 w)
theorem math_bits_Len32_p2_ok (Q : Exit → Env → World → Prop) (g : Env) (w : World) (kn : Value → Value → World → Prop) (hn : ∀ g w, kn (g 0) (g 2) w → Q .normal g w) (h : math_bits_Len32_p2 kn (g 0) (g 2) w) : den pg ann_math_bits_Len32 (takeS 1 (dropS 2 code_math_bits_Len32)) Q g w := by
  have e : (math_bits_Len32_p2 kn (g 0) (g 2) w) = den pg ann_math_bits_Len32 (takeS 1 (dropS 2 code_math_bits_Len32)) (exQ (fun g w => kn (g 0) (g 2) w) (fun _ _ => False) []) g w := by kernel_rfl
  exact den_exQ e h hn (fun _ _ h => h.elim) trivial

def math_bits_Len32_p3 (R : Value → World → Prop) (x_0 n_2 : Value) (w : World) : Prop :=
  math_bits_Len32_p2 (fun x_0 n_2 w => math_bits_Len32_p1 R x_0 n_2 w) x_0 n_2 w
theorem math_bits_Len32_p3_ok (Q : Exit → Env → World → Prop) (g : Env) (w : World) (R : Value → World → Prop) (hr : ∀ g w, (resVals pg rs_math_bits_Len32 g w fun vs => R (tup vs) w) → Q .ret g w) (h : math_bits_Len32_p3 R (g 0) (g 2) w) : den pg ann_math_bits_Len32 (dropS 2 code_math_bits_Len32) Q g w := by
  exact den_seqs 1 (dropS 2 code_math_bits_Len32) g w (by kernel_rfl) (math_bits_Len32_p2_ok (thenE (fun g w => den pg ann_math_bits_Len32 (dropS 1 (dropS 2 code_math_bits_Len32)) Q g w) Q) g w (fun x_0 n_2 w => math_bits_Len32_p1 R x_0 n_2 w) (fun g w h => thenE_n (K := fun g w => den pg ann_math_bits_Len32 (dropS 1 (dropS 2 code_math_bits_Len32)) Q g w) (math_bits_Len32_p1_ok Q g w R hr h)) h)

def math_bits_Len32_p4 (kn : Value → Value → World → Prop) (x_0 : Value) (w : World) : Prop :=
  Stp pg (sBin .geq 90 (.tmp 3) (.const (.int .u32 65536)) x_0 (.int .u32 65536)) w fun t4 w =>
  Cnd t4
    (Stp pg (sBin .shr 90 (.tmp 5) (.const (.int .u64 16)) x_0 (.int .u64 16)) w fun t6 w =>
    kn t6 (.int .i64 16) w)
    (kn x_0 (.int .i64 0) w)
theorem math_bits_Len32_p4_ok (Q : Exit → Env → World → Prop) (g : Env) (w : World) (kn : Value → Value → World → Prop) (hn : ∀ g w, kn (g 0) (g 2) w → Q .normal g w) (h : math_bits_Len32_p4 kn (g 0) w) : den pg ann_math_bits_Len32 (takeS 2 code_math_bits_Len32) Q g w := by
  have e : (math_bits_Len32_p4 kn (g 0) w) = den pg ann_math_bits_Len32 (takeS 2 code_math_bits_Len32) (exQ (fun g w => kn (g 0) (g 2) w) (fun _ _ => False) []) g w := by kernel_rfl
  exact den_exQ e h hn (fun _ _ h => h.elim) trivial

def math_bits_Len32_p5 (R : Value → World → Prop) (x_0 : Value) (w : World) : Prop :=
  math_bits_Len32_p4 (fun x_0 n_2 w => math_bits_Len32_p3 R x_0 n_2 w) x_0 w
theorem math_bits_Len32_p5_ok (Q : Exit → Env → World → Prop) (g : Env) (w : World) (R : Value → World → Prop) (hr : ∀ g w, (resVals pg rs_math_bits_Len32 g w fun vs => R (tup vs) w) → Q .ret g w) (h : math_bits_Len32_p5 R (g 0) w) : den pg ann_math_bits_Len32 code_math_bits_Len32 Q g w := by
  exact den_seqs 2 code_math_bits_Len32 g w (by kernel_rfl) (math_bits_Len32_p4_ok (thenE (fun g w => den pg ann_math_bits_Len32 (dropS 2 code_math_bits_Len32) Q g w) Q) g w (fun x_0 n_2 w => math_bits_Len32_p3 R x_0 n_2 w) (fun g w h => thenE_n (K := fun g w => den pg ann_math_bits_Len32 (dropS 2 code_math_bits_Len32) Q g w) (math_bits_Len32_p3_ok Q g w R hr h)) h)

def math_bits_Len32 (a0 : Value) (w : World) (R : Value → World → Prop) : Prop :=
  math_bits_Len32_p5 R a0 w
theorem math_bits_Len32_does {a0 : Value} {w : World} {R : Value → World → Prop} (h : math_bits_Len32 a0 w R) : Does pg F_math_bits_Len32 #[a0] w R := by
  refine does_of_den (ann := ann_math_bits_Len32) (fn := Try.f62) (c := code_math_bits_Len32) (args := [a0]) (rs := rs_math_bits_Len32) (N := 19) TryM.mixed (by kernel_rfl) Try.func62 (by kernel_rfl) (by kernel_rfl) (by kernel_rfl) (of_decide_eq_true (by kernel_rfl)) (by kernel_rfl) ?_
  exact (math_bits_Len32_p5_ok (retQ pg rs_math_bits_Len32 R) (envOf [a0]) w R (fun _ _ h => h) h)
-- PIECES math_bits_Len32/0 math_bits_Len32_p1 math_bits_Len32_p2 math_bits_Len32_p3 math_bits_Len32_p4 math_bits_Len32_p5

/- math/bits.Len64 -/
def ann_math_bits_Len64 : FA := ⟨F_math_bits_Len64, fun i => .leaf ([], []) []⟩
def rs_math_bits_Len64 : List ResultVar := [.tmp 2]
noncomputable def code_math_bits_Len64 : Code := bodyOf Try.f63
def math_bits_Len64_p1 (R : Value → World → Prop) (x_0 n_2 : Value) (w : World) : Prop :=
  Stp pg (sCvt 45 5 x_0) w fun t21 w =>
  Stp pg (sIdx 9 (.string ⟨#[0, 1, 2, 2, 3, 3, 3, 3, 4, 4, 4, 4, 4, 4, 4, 4, 5, 5, 5, 5, 5, 5, 5, 5, 5, 5, 5, 5, 5, 5, 5, 5, 6, 6, 6, 6, 6, 6, 6, 6, 6, 6, 6, 6, 6, 6, 6, 6, 6, 6, 6, 6, 6, 6, 6, 6, 6, 6, 6, 6, 6, 6, 6, 6, 7, 7, 7, 7, 7, 7, 7, 7, 7, 7, 7, 7, 7, 7, 7, 7, 7, 7, 7, 7, 7, 7, 7, 7, 7, 7, 7, 7, 7, 7, 7, 7, 7, 7, 7, 7, 7, 7, 7, 7, 7, 7, 7, 7, 7, 7, 7, 7, 7, 7, 7, 7, 7, 7, 7, 7, 7, 7, 7, 7, 7, 7, 7, 7, 8, 8, 8, 8, 8, 8, 8, 8, 8, 8, 8, 8, 8, 8, 8, 8, 8, 8, 8, 8, 8, 8, 8, 8, 8, 8, 8, 8, 8, 8, 8, 8, 8, 8, 8, 8, 8, 8, 8, 8, 8, 8, 8, 8, 8, 8, 8, 8, 8, 8, 8, 8, 8, 8, 8, 8, 8, 8, 8, 8, 8, 8, 8, 8, 8, 8, 8, 8, 8, 8, 8, 8, 8, 8, 8, 8, 8, 8, 8, 8, 8, 8, 8, 8, 8, 8, 8, 8, 8, 8, 8, 8, 8, 8, 8, 8, 8, 8, 8, 8, 8, 8, 8, 8, 8, 8, 8, 8, 8, 8, 8, 8, 8, 8, 8, 8, 8, 8, 8, 8, 8, 8, 8, 8, 8, 8, 8, 8]⟩) t21) w fun t22 w =>
  Stp pg (sCvt 5 3 t22) w fun t23 w =>
  Stp pg (sBin .add 3 (.tmp 19) (.tmp 23) n_2 t23) w fun t24 w =>
  R t24 w
theorem math_bits_Len64_p1_ok (Q : Exit → Env → World → Prop) (g : Env) (w : World) (R : Value → World → Prop) (hr : ∀ g w, (resVals pg rs_math_bits_Len64 g w fun vs => R (tup vs) w) → Q .ret g w) (h : math_bits_Len64_p1 R (g 0) (g 2) w) : den pg ann_math_bits_Len64 (dropS 1 (dropS 1 (dropS 2 code_math_bits_Len64))) Q g w := by
  have e : (math_bits_Len64_p1 R (g 0) (g 2) w) = den pg ann_math_bits_Len64 (dropS 1 (dropS 1 (dropS 2 code_math_bits_Len64))) (exQ (fun _ _ => False) (fun g w => resVals pg rs_math_bits_Len64 g w fun vs => R (tup vs) w) []) g w := by kernel_rfl
  exact den_exQ e h (fun _ _ h => h.elim) hr trivial

def math_bits_Len64_p2 (kn : Value → Value → World → Prop) (x_0 n_2 : Value) (w : World) : Prop :=
  Stp pg (sBin .geq 45 (.tmp 13) (.const (.int .u64 256)) x_0 (.int .u64 256)) w fun t14 w =>
  Cnd t14
    (Stp pg (sBin .shr 45 (.tmp 15) (.const (.int .u64 8)) x_0 (.int .u64 8)) w fun t16 w =>
    Stp pg (sBin .add 3 (.tmp 17) (.const (.int .i64 8)) n_2 (.int .i64 8)) w fun t18 w =>
    kn t16 t18 w)
    (kn x_0 n_2 w)
theorem math_bits_Len64_p2_ok (Q : Exit → Env → World → Prop) (g : Env) (w : World) (kn : Value → Value → World → Prop) (hn : ∀ g w, kn (g 0) (g 2) w → Q .normal g w) (h : math_bits_Len64_p2 kn (g 0) (g 2) w) : den pg ann_math_bits_Len64 (takeS 1 (dropS 1 (dropS 2 code_math_bits_Len64))) Q g w := by
  have e : (math_bits_Len64_p2 kn (g 0) (g 2) w) = den pg ann_math_bits_Len64 (takeS 1 (dropS 1 (dropS 2 code_math_bits_Len64))) (exQ (fun g w => kn (g 0) (g 2) w) (fun _ _ => False) []) g w := by kernel_rfl
  exact den_exQ e h hn (fun _ _ h => h.elim) trivial

def math_bits_Len64_p3 (R : Value → World → Prop) (x_0 n_2 : Value) (w : World) : Prop :=
  math_bits_Len64_p2 (fun x_0 n_2 w => math_bits_Len64_p1 R x_0 n_2 w) x_0 n_2 w
theorem math_bits_Len64_p3_ok (Q : Exit → Env → World → Prop) (g : Env) (w : World) (R : Value → World → Prop) (hr : ∀ g w, (resVals pg rs_math_bits_Len64 g w fun vs => R (tup vs) w) → Q .ret g w) (h : math_bits_Len64_p3 R (g 0) (g 2) w) : den pg ann_math_bits_Len64 (dropS 1 (dropS 2 code_math_bits_Len64)) Q g w := by
  exact den_seqs 1 (dropS 1 (dropS 2 code_math_bits_Len64)) g w (by kernel_rfl) (math_bits_Len64_p2_ok (thenE (fun g w => den pg ann_math_bits_Len64 (dropS 1 (dropS 1 (dropS 2 code_math_bits_Len64))) Q g w) Q) g w (fun x_0 n_2 w => math_bits_Len64_p1 R x_0 n_2 w) (fun g w h => thenE_n (K := fun g w => den pg ann_math_bits_Len64 (dropS 1 (dropS 1 (dropS 2 code_math_bits_Len64))) Q g w) (math_bits_Len64_p1_ok Q g w R hr h)) h)

def math_bits_Len64_p4 (kn : Value → Value → World → Prop) (x_0 n_2 : Value) (w : World) : Prop :=
  Stp pg (sBin .geq 45 (.tmp 7) (.const (.int .u64 65536)) x_0 (.int .u64 65536)) w fun t8 w =>
  Cnd t8
    (Stp pg (sBin .shr 45 (.tmp 9) (.const (.int .u64 16)) x_0 (.int .u64 16)) w fun t10 w =>
    Stp pg (sBin .add 3 (.tmp 11) (.const (.int .i64 16)) n_2 (.int .i64 16)) w fun t12 w =>
    kn t10 t12 w)
    (kn x_0 n_2 w)
theorem math_bits_Len64_p4_ok (Q : Exit → Env → World → Prop) (g : Env) (w : World) (kn : Value → Value → World → Prop) (hn : ∀ g w, kn (g 0) (g 2) w → Q .normal g w) (h : math_bits_Len64_p4 kn (g 0) (g 2) w) : den pg ann_math_bits_Len64 (takeS 1 (dropS 2 code_math_bits_Len64)) Q g w := by
  have e : (math_bits_Len64_p4 kn (g 0) (g 2) w) = den pg ann_math_bits_Len64 (takeS 1 (dropS 2 code_math_bits_Len64)) (exQ (fun g w => kn (g 0) (g 2) w) (fun _ _ => False) []) g w := by kernel_rfl
  exact den_exQ e h hn (fun _ _ h => h.elim) trivial

def math_bits_Len64_p5 (R : Value → World → Prop) (x_0 n_2 : Value) (w : World) : Prop :=
  math_bits_Len64_p4 (fun x_0 n_2 w => math_bits_Len64_p3 R x_0 n_2 w) x_0 n_2 w
theorem math_bits_Len64_p5_ok (Q : Exit → Env → World → Prop) (g : Env) (w : World) (R : Value → World → Prop) (hr : ∀ g w, (resVals pg rs_math_bits_Len64 g w fun vs => R (tup vs) w) → Q .ret g w) (h : math_bits_Len64_p5 R (g 0) (g 2) w) : den pg ann_math_bits_Len64 (dropS 2 code_math_bits_Len64) Q g w := by
  exact den_seqs 1 (dropS 2 code_math_bits_Len64) g w (by kernel_rfl) (math_bits_Len64_p4_ok (thenE (fun g w => den pg ann_math_bits_Len64 (dropS 1 (dropS 2 code_math_bits_Len64)) Q g w) Q) g w (fun x_0 n_2 w => math_bits_Len64_p3 R x_0 n_2 w) (fun g w h => thenE_n (K := fun g w => den pg ann_math_bits_Len64 (dropS 1 (dropS 2 code_math_bits_Len64)) Q g w) (math_bits_Len64_p3_ok Q g w R hr h)) h)

def math_bits_Len64_p6 (kn : Value → Value → World → Prop) (x_0 : Value) (w : World) : Prop :=
  Stp pg (sBin .geq 45 (.tmp 3) (.const (.int .u64 4294967296)) x_0 (.int .u64 4294967296)) w fun t4 w =>
  Cnd t4
    (Stp pg (sBin .shr 45 (.tmp 5) (.const (.int .u64 32)) x_0 (.int .u64 32)) w fun t6 w =>
    kn t6 (.int .i64 32) w)
    (kn x_0 (.int .i64 0) w)
theorem math_bits_Len64_p6_ok (Q : Exit → Env → World → Prop) (g : Env) (w : World) (kn : Value → Value → World → Prop) (hn : ∀ g w, kn (g 0) (g 2) w → Q .normal g w) (h : math_bits_Len64_p6 kn (g 0) w) : den pg ann_math_bits_Len64 (takeS 2 code_math_bits_Len64) Q g w := by
  have e : (math_bits_Len64_p6 kn (g 0) w) = den pg ann_math_bits_Len64 (takeS 2 code_math_bits_Len64) (exQ (fun g w => kn (g 0) (g 2) w) (fun _ _ => False) []) g w := by kernel_rfl
  exact den_exQ e h hn (fun _ _ h => h.elim) trivial

def math_bits_Len64_p7 (R : Value → World → Prop) (x_0 : Value) (w : World) : Prop :=
  math_bits_Len64_p6 (fun x_0 n_2 w => math_bits_Len64_p5 R x_0 n_2 w) x_0 w
theorem math_bits_Len64_p7_ok (Q : Exit → Env → World → Prop) (g : Env) (w : World) (R : Value → World → Prop) (hr : ∀ g w, (resVals pg rs_math_bits_Len64 g w fun vs => R (tup vs) w) → Q .ret g w) (h : math_bits_Len64_p7 R (g 0) w) : den pg ann_math_bits_Len64 code_math_bits_Len64 Q g w := by
  exact den_seqs 2 code_math_bits_Len64 g w (by kernel_rfl) (math_bits_Len64_p6_ok (thenE (fun g w => den pg ann_math_bits_Len64 (dropS 2 code_math_bits_Len64) Q g w) Q) g w (fun x_0 n_2 w => math_bits_Len64_p5 R x_0 n_2 w) (fun g w h => thenE_n (K := fun g w => den pg ann_math_bits_Len64 (dropS 2 code_math_bits_Len64) Q g w) (math_bits_Len64_p5_ok Q g w R hr h)) h)

def math_bits_Len64 (a0 : Value) (w : World) (R : Value → World → Prop) : Prop :=
  math_bits_Len64_p7 R a0 w
theorem math_bits_Len64_does {a0 : Value} {w : World} {R : Value → World → Prop} (h : math_bits_Len64 a0 w R) : Does pg F_math_bits_Len64 #[a0] w R := by
  refine does_of_den (ann := ann_math_bits_Len64) (fn := Try.f63) (c := code_math_bits_Len64) (args := [a0]) (rs := rs_math_bits_Len64) (N := 25) TryM.mixed (by kernel_rfl) Try.func63 (by kernel_rfl) (by kernel_rfl) (by kernel_rfl) (of_decide_eq_true (by kernel_rfl)) (by kernel_rfl) ?_
  exact (math_bits_Len64_p7_ok (retQ pg rs_math_bits_Len64 R) (envOf [a0]) w R (fun _ _ h => h) h)
-- PIECES math_bits_Len64/0 math_bits_Len64_p1 math_bits_Len64_p2 math_bits_Len64_p3 math_bits_Len64_p4 math_bits_Len64_p5 math_bits_Len64_p6 math_bits_Len64_p7

/- lighterman/bits.take -/
def ann_bits_take : FA := ⟨F_bits_take, fun i => .leaf ([], []) []⟩
def rs_bits_take : List ResultVar := [.tmp 6]
noncomputable def code_bits_take : Code := bodyOf Try.f64
def bits_take_p1 (R : Value → World → Prop) (x_7 : Value) (w : World) : Prop :=
  R x_7 w
theorem bits_take_p1_ok (Q : Exit → Env → World → Prop) (g : Env) (w : World) (R : Value → World → Prop) (hr : ∀ g w, (resVals pg rs_bits_take g w fun vs => R (tup vs) w) → Q .ret g w) (h : bits_take_p1 R (g 7) w) : den pg ann_bits_take (dropS 1 (dropS 2 code_bits_take)) Q g w := by
  have e : (bits_take_p1 R (g 7) w) = den pg ann_bits_take (dropS 1 (dropS 2 code_bits_take)) (exQ (fun _ _ => False) (fun g w => resVals pg rs_bits_take g w fun vs => R (tup vs) w) []) g w := by kernel_rfl
  exact den_exQ e h (fun _ _ h => h.elim) hr trivial

def bits_take_p2 (kn : Value → Value → Value → Value → Value → World → Prop) (k0 : Value → World → Prop) (b_0 at_1 x_7 t10 t11 : Value) (w : World) : Prop :=
  Stp pg (sBin .lss 3 (.tmp 11) (.tmp 10) t11 t10) w fun t12 w =>
  Cnd t12
    (Stp pg (sBin .add 3 (.tmp 14) (.tmp 15) at_1 t11) w fun t16 w =>
    Stp pg (sBin .quo 3 (.tmp 19) (.const (.int .i64 8)) t16 (.int .i64 8)) w fun t20 w =>
    Stp pg (sIAddr 52 b_0 t20) w fun t21 w =>
    Stp pg (sLoad 5 t21) w fun t22 w =>
    Stp pg (sBin .rem 3 (.tmp 23) (.const (.int .i64 8)) t16 (.int .i64 8)) w fun t24 w =>
    Stp pg (sBin .shr 5 (.tmp 22) (.tmp 24) t22 t24) w fun t25 w =>
    Stp pg (sBin .and 5 (.tmp 25) (.const (.int .u8 1)) t25 (.int .u8 1)) w fun t26 w =>
    Stp pg (sCvt 5 45 t26) w fun t27 w =>
    Stp pg (sCvt 3 50 t11) w fun t29 w =>
    Stp pg (sBin .shl 45 (.tmp 27) (.tmp 29) t27 t29) w fun t30 w =>
    Stp pg (sBin .or 45 (.tmp 17) (.tmp 30) x_7 t30) w fun t31 w =>
    Stp pg (sBin .add 3 (.tmp 11) (.const (.int .i64 1)) t11 (.int .i64 1)) w fun t32 w =>
    kn b_0 at_1 t31 t10 t32 w)
    (k0 x_7 w)
theorem bits_take_p2_ok (Q : Exit → Env → World → Prop) (g : Env) (w : World) (kn : Value → Value → Value → Value → Value → World → Prop) (k0 : Value → World → Prop) (hn : ∀ g w, kn (g 0) (g 1) (g 7) (g 10) (g 11) w → Q .normal g w) (h0 : ∀ g w, k0 (g 7) w → Q (.exit 0) g w) (h : bits_take_p2 kn k0 (g 0) (g 1) (g 7) (g 10) (g 11) w) : den pg ann_bits_take (bI (bI (dropS 1 (takeS 1 (dropS 2 code_bits_take))))) Q g w := by
  have e : (bits_take_p2 kn k0 (g 0) (g 1) (g 7) (g 10) (g 11) w) = den pg ann_bits_take (bI (bI (dropS 1 (takeS 1 (dropS 2 code_bits_take))))) (exQ (fun g w => kn (g 0) (g 1) (g 7) (g 10) (g 11) w) (fun _ _ => False) [(0, fun g w => k0 (g 7) w)]) g w := by kernel_rfl
  exact den_exQ e h hn (fun _ _ h => h.elim) ⟨h0, trivial⟩

def bits_take_p3 (k0 : Value → World → Prop) (b_0 at_1 x_7 t10 t11 : Value) (w : World) : Prop :=
  LoopD (fun (X : (Value × Value) → World → Prop) (t : Value × Value) (w : World) => bits_take_p2 (fun _ _ x_7 _ t11 w => X (x_7, t11) w) k0 b_0 at_1 t.1 t10 t.2 w) (x_7, t11) w
theorem bits_take_p3_ok (Q : Exit → Env → World → Prop) (g : Env) (w : World) (k0 : Value → World → Prop) (h0 : ∀ g w, k0 (g 7) w → Q (.exit 0) g w) (h : bits_take_p3 k0 (g 0) (g 1) (g 7) (g 10) (g 11) w) : den pg ann_bits_take (bI (dropS 1 (takeS 1 (dropS 2 code_bits_take)))) Q g w := by
  refine den_loops (T := Value × Value) (fun g : Env => (g 7, g 11)) (fun X t w => bits_take_p2 (fun _ _ x_7 _ t11 w => X (x_7, t11) w) k0 (g 0) (g 1) t.1 (g 10) t.2 w) (bI (dropS 1 (takeS 1 (dropS 2 code_bits_take)))) (by kernel_rfl) h (fun X g1 w1 ha h1 => ?_)
  rw [← agree_at (s := 0) ha (by kernel_rfl)] at h1
  rw [← agree_at (s := 1) ha (by kernel_rfl)] at h1
  rw [← agree_at (s := 10) ha (by kernel_rfl)] at h1
  exact (bits_take_p2_ok (thenE (fun g2 w2 => X ((fun g : Env => (g 7, g 11)) g2) w2) Q) g1 w1 (fun _ _ x_7 _ t11 w => X (x_7, t11) w) k0 (fun _ _ h => h) h0 h1)

def bits_take_p4 (kn : Value → World → Prop) (b_0 at_1 x_7 t10 t11 : Value) (w : World) : Prop :=
  bits_take_p3 kn b_0 at_1 x_7 t10 t11 w
theorem bits_take_p4_ok (Q : Exit → Env → World → Prop) (g : Env) (w : World) (kn : Value → World → Prop) (hn : ∀ g w, kn (g 7) w → Q .normal g w) (h : bits_take_p4 kn (g 0) (g 1) (g 7) (g 10) (g 11) w) : den pg ann_bits_take (dropS 1 (takeS 1 (dropS 2 code_bits_take))) Q g w :=
  den_blk 0 (dropS 1 (takeS 1 (dropS 2 code_bits_take))) g w (by kernel_rfl) (bits_take_p3_ok (blk 0 Q) g w kn hn h)

def bits_take_p5 (kn : Value → Value → Value → Value → Value → World → Prop) (b_0 at_1 n_2 x_7 : Value) (w : World) : Prop :=
  kn b_0 at_1 x_7 n_2 (.int .i64 0) w
theorem bits_take_p5_ok (Q : Exit → Env → World → Prop) (g : Env) (w : World) (kn : Value → Value → Value → Value → Value → World → Prop) (hn : ∀ g w, kn (g 0) (g 1) (g 7) (g 10) (g 11) w → Q .normal g w) (h : bits_take_p5 kn (g 0) (g 1) (g 2) (g 7) w) : den pg ann_bits_take (takeS 1 (takeS 1 (dropS 2 code_bits_take))) Q g w := by
  have e : (bits_take_p5 kn (g 0) (g 1) (g 2) (g 7) w) = den pg ann_bits_take (takeS 1 (takeS 1 (dropS 2 code_bits_take))) (exQ (fun g w => kn (g 0) (g 1) (g 7) (g 10) (g 11) w) (fun _ _ => False) []) g w := by kernel_rfl
  exact den_exQ e h hn (fun _ _ h => h.elim) trivial

def bits_take_p6 (kn : Value → World → Prop) (b_0 at_1 n_2 x_7 : Value) (w : World) : Prop :=
  bits_take_p5 (fun b_0 at_1 x_7 t10 t11 w => bits_take_p4 kn b_0 at_1 x_7 t10 t11 w) b_0 at_1 n_2 x_7 w
theorem bits_take_p6_ok (Q : Exit → Env → World → Prop) (g : Env) (w : World) (kn : Value → World → Prop) (hn : ∀ g w, kn (g 7) w → Q .normal g w) (h : bits_take_p6 kn (g 0) (g 1) (g 2) (g 7) w) : den pg ann_bits_take (takeS 1 (dropS 2 code_bits_take)) Q g w := by
  exact den_seqs 1 (takeS 1 (dropS 2 code_bits_take)) g w (by kernel_rfl) (bits_take_p5_ok (thenE (fun g w => den pg ann_bits_take (dropS 1 (takeS 1 (dropS 2 code_bits_take))) Q g w) Q) g w (fun b_0 at_1 x_7 t10 t11 w => bits_take_p4 kn b_0 at_1 x_7 t10 t11 w) (fun g w h => thenE_n (K := fun g w => den pg ann_bits_take (dropS 1 (takeS 1 (dropS 2 code_bits_take))) Q g w) (bits_take_p4_ok Q g w kn hn h)) h)

def bits_take_p7 (R : Value → World → Prop) (b_0 at_1 n_2 x_7 : Value) (w : World) : Prop :=
  bits_take_p6 (fun x_7 w => bits_take_p1 R x_7 w) b_0 at_1 n_2 x_7 w
theorem bits_take_p7_ok (Q : Exit → Env → World → Prop) (g : Env) (w : World) (R : Value → World → Prop) (hr : ∀ g w, (resVals pg rs_bits_take g w fun vs => R (tup vs) w) → Q .ret g w) (h : bits_take_p7 R (g 0) (g 1) (g 2) (g 7) w) : den pg ann_bits_take (dropS 2 code_bits_take) Q g w := by
  exact den_seqs 1 (dropS 2 code_bits_take) g w (by kernel_rfl) (bits_take_p6_ok (thenE (fun g w => den pg ann_bits_take (dropS 1 (dropS 2 code_bits_take)) Q g w) Q) g w (fun x_7 w => bits_take_p1 R x_7 w) (fun g w h => thenE_n (K := fun g w => den pg ann_bits_take (dropS 1 (dropS 2 code_bits_take)) Q g w) (bits_take_p1_ok Q g w R hr h)) h)

def bits_take_p8 (kn : Value → Value → Value → Value → World → Prop) (b_0 at_1 n_2 : Value) (w : World) : Prop :=
  kn b_0 at_1 n_2 (.int .u64 0) w
theorem bits_take_p8_ok (Q : Exit → Env → World → Prop) (g : Env) (w : World) (kn : Value → Value → Value → Value → World → Prop) (hn : ∀ g w, kn (g 0) (g 1) (g 2) (g 7) w → Q .normal g w) (h : bits_take_p8 kn (g 0) (g 1) (g 2) w) : den pg ann_bits_take (takeS 2 code_bits_take) Q g w := by
  have e : (bits_take_p8 kn (g 0) (g 1) (g 2) w) = den pg ann_bits_take (takeS 2 code_bits_take) (exQ (fun g w => kn (g 0) (g 1) (g 2) (g 7) w) (fun _ _ => False) []) g w := by kernel_rfl
  exact den_exQ e h hn (fun _ _ h => h.elim) trivial

def bits_take_p9 (R : Value → World → Prop) (b_0 at_1 n_2 : Value) (w : World) : Prop :=
  bits_take_p8 (fun b_0 at_1 n_2 x_7 w => bits_take_p7 R b_0 at_1 n_2 x_7 w) b_0 at_1 n_2 w
theorem bits_take_p9_ok (Q : Exit → Env → World → Prop) (g : Env) (w : World) (R : Value → World → Prop) (hr : ∀ g w, (resVals pg rs_bits_take g w fun vs => R (tup vs) w) → Q .ret g w) (h : bits_take_p9 R (g 0) (g 1) (g 2) w) : den pg ann_bits_take code_bits_take Q g w := by
  exact den_seqs 2 code_bits_take g w (by kernel_rfl) (bits_take_p8_ok (thenE (fun g w => den pg ann_bits_take (dropS 2 code_bits_take) Q g w) Q) g w (fun b_0 at_1 n_2 x_7 w => bits_take_p7 R b_0 at_1 n_2 x_7 w) (fun g w h => thenE_n (K := fun g w => den pg ann_bits_take (dropS 2 code_bits_take) Q g w) (bits_take_p7_ok Q g w R hr h)) h)

def bits_take (a0 a1 a2 : Value) (w : World) (R : Value → World → Prop) : Prop :=
  bits_take_p9 R a0 a1 a2 w
theorem bits_take_does {a0 a1 a2 : Value} {w : World} {R : Value → World → Prop} (h : bits_take a0 a1 a2 w R) : Does pg F_bits_take #[a0, a1, a2] w R := by
  refine does_of_den (ann := ann_bits_take) (fn := Try.f64) (c := code_bits_take) (args := [a0, a1, a2]) (rs := rs_bits_take) (N := 34) TryM.mixed (by kernel_rfl) Try.func64 (by kernel_rfl) (by kernel_rfl) (by kernel_rfl) (of_decide_eq_true (by kernel_rfl)) (by kernel_rfl) ?_
  exact (bits_take_p9_ok (retQ pg rs_bits_take R) (envOf [a0, a1, a2]) w R (fun _ _ h => h) h)
-- PIECES bits_take/0 bits_take_p1 bits_take_p3 bits_take_p4 bits_take_p5 bits_take_p6 bits_take_p7 bits_take_p8 bits_take_p9
-- PIECES bits_take/1 bits_take_p2

/- lighterman/lightermanref05.Number -/
def ann_ref05_Number : FA := ⟨F_ref05_Number, fun i => .leaf ([], []) []⟩
def rs_ref05_Number : List ResultVar := [.tmp 2]
noncomputable def code_ref05_Number : Code := bodyOf Try.f65
def ref05_Number_p1 (R : Value → World → Prop) (x_3 : Value) (w : World) : Prop :=
  R x_3 w
theorem ref05_Number_p1_ok (Q : Exit → Env → World → Prop) (g : Env) (w : World) (R : Value → World → Prop) (hr : ∀ g w, (resVals pg rs_ref05_Number g w fun vs => R (tup vs) w) → Q .ret g w) (h : ref05_Number_p1 R (g 3) w) : den pg ann_ref05_Number (dropS 1 (dropS 2 code_ref05_Number)) Q g w := by
  have e : (ref05_Number_p1 R (g 3) w) = den pg ann_ref05_Number (dropS 1 (dropS 2 code_ref05_Number)) (exQ (fun _ _ => False) (fun g w => resVals pg rs_ref05_Number g w fun vs => R (tup vs) w) []) g w := by kernel_rfl
  exact den_exQ e h (fun _ _ h => h.elim) hr trivial

def ref05_Number_p2 (kn : Value → Value → Value → World → Prop) (l_0 x_3 i_4 : Value) (w : World) : Prop :=
  Stp pg (sBin .sub 3 (.tmp 10) (.const (.int .i64 1)) i_4 (.int .i64 1)) w fun t11 w =>
  kn l_0 x_3 t11 w
theorem ref05_Number_p2_ok (Q : Exit → Env → World → Prop) (g : Env) (w : World) (kn : Value → Value → Value → World → Prop) (hn : ∀ g w, kn (g 0) (g 3) (g 4) w → Q .normal g w) (h : ref05_Number_p2 kn (g 0) (g 3) (g 4) w) : den pg ann_ref05_Number (dropS 2 (bI (bI (dropS 1 (takeS 1 (dropS 2 code_ref05_Number)))))) Q g w := by
  have e : (ref05_Number_p2 kn (g 0) (g 3) (g 4) w) = den pg ann_ref05_Number (dropS 2 (bI (bI (dropS 1 (takeS 1 (dropS 2 code_ref05_Number)))))) (exQ (fun g w => kn (g 0) (g 3) (g 4) w) (fun _ _ => False) []) g w := by kernel_rfl
  exact den_exQ e h hn (fun _ _ h => h.elim) trivial

def ref05_Number_p3 (kn : Value → Value → Value → World → Prop) (k0 : Value → World → Prop) (l_0 x_3 i_4 : Value) (w : World) : Prop :=
  Stp pg (sBin .geq 3 (.tmp 8) (.const (.int .i64 0)) i_4 (.int .i64 0)) w fun t9 w =>
  Cnd t9
    (Stp pg (sBin .mul 45 (.tmp 12) (.const (.int .u64 2)) x_3 (.int .u64 2)) w fun t13 w =>
    Stp pg (sIAddr 58 l_0 i_4) w fun t16 w =>
    Stp pg (sLoad 4 t16) w fun t17 w =>
    Cnd t17
      (Stp pg (sBin .add 45 (.tmp 18) (.const (.int .u64 1)) t13 (.int .u64 1)) w fun t19 w =>
      kn l_0 t19 i_4 w)
      (kn l_0 t13 i_4 w))
    (k0 x_3 w)
theorem ref05_Number_p3_ok (Q : Exit → Env → World → Prop) (g : Env) (w : World) (kn : Value → Value → Value → World → Prop) (k0 : Value → World → Prop) (hn : ∀ g w, kn (g 0) (g 3) (g 4) w → Q .normal g w) (h0 : ∀ g w, k0 (g 3) w → Q (.exit 0) g w) (h : ref05_Number_p3 kn k0 (g 0) (g 3) (g 4) w) : den pg ann_ref05_Number (takeS 2 (bI (bI (dropS 1 (takeS 1 (dropS 2 code_ref05_Number)))))) Q g w := by
  have e : (ref05_Number_p3 kn k0 (g 0) (g 3) (g 4) w) = den pg ann_ref05_Number (takeS 2 (bI (bI (dropS 1 (takeS 1 (dropS 2 code_ref05_Number)))))) (exQ (fun g w => kn (g 0) (g 3) (g 4) w) (fun _ _ => False) [(0, fun g w => k0 (g 3) w)]) g w := by kernel_rfl
  exact den_exQ e h hn (fun _ _ h => h.elim) ⟨h0, trivial⟩

def ref05_Number_p4 (kn : Value → Value → Value → World → Prop) (k0 : Value → World → Prop) (l_0 x_3 i_4 : Value) (w : World) : Prop :=
  ref05_Number_p3 (fun l_0 x_3 i_4 w => ref05_Number_p2 kn l_0 x_3 i_4 w) k0 l_0 x_3 i_4 w
theorem ref05_Number_p4_ok (Q : Exit → Env → World → Prop) (g : Env) (w : World) (kn : Value → Value → Value → World → Prop) (k0 : Value → World → Prop) (hn : ∀ g w, kn (g 0) (g 3) (g 4) w → Q .normal g w) (h0 : ∀ g w, k0 (g 3) w → Q (.exit 0) g w) (h : ref05_Number_p4 kn k0 (g 0) (g 3) (g 4) w) : den pg ann_ref05_Number (bI (bI (dropS 1 (takeS 1 (dropS 2 code_ref05_Number))))) Q g w := by
  exact den_seqs 2 (bI (bI (dropS 1 (takeS 1 (dropS 2 code_ref05_Number))))) g w (by kernel_rfl) (ref05_Number_p3_ok (thenE (fun g w => den pg ann_ref05_Number (dropS 2 (bI (bI (dropS 1 (takeS 1 (dropS 2 code_ref05_Number)))))) Q g w) Q) g w (fun l_0 x_3 i_4 w => ref05_Number_p2 kn l_0 x_3 i_4 w) k0 (fun g w h => thenE_n (K := fun g w => den pg ann_ref05_Number (dropS 2 (bI (bI (dropS 1 (takeS 1 (dropS 2 code_ref05_Number)))))) Q g w) (ref05_Number_p2_ok Q g w kn hn h)) h0 h)

def ref05_Number_p5 (k0 : Value → World → Prop) (l_0 x_3 i_4 : Value) (w : World) : Prop :=
  LoopD (fun (X : (Value × Value) → World → Prop) (t : Value × Value) (w : World) => ref05_Number_p4 (fun _ x_3 i_4 w => X (x_3, i_4) w) k0 l_0 t.1 t.2 w) (x_3, i_4) w
theorem ref05_Number_p5_ok (Q : Exit → Env → World → Prop) (g : Env) (w : World) (k0 : Value → World → Prop) (h0 : ∀ g w, k0 (g 3) w → Q (.exit 0) g w) (h : ref05_Number_p5 k0 (g 0) (g 3) (g 4) w) : den pg ann_ref05_Number (bI (dropS 1 (takeS 1 (dropS 2 code_ref05_Number)))) Q g w := by
  refine den_loops (T := Value × Value) (fun g : Env => (g 3, g 4)) (fun X t w => ref05_Number_p4 (fun _ x_3 i_4 w => X (x_3, i_4) w) k0 (g 0) t.1 t.2 w) (bI (dropS 1 (takeS 1 (dropS 2 code_ref05_Number)))) (by kernel_rfl) h (fun X g1 w1 ha h1 => ?_)
  rw [← agree_at (s := 0) ha (by kernel_rfl)] at h1
  exact (ref05_Number_p4_ok (thenE (fun g2 w2 => X ((fun g : Env => (g 3, g 4)) g2) w2) Q) g1 w1 (fun _ x_3 i_4 w => X (x_3, i_4) w) k0 (fun _ _ h => h) h0 h1)

def ref05_Number_p6 (kn : Value → World → Prop) (l_0 x_3 i_4 : Value) (w : World) : Prop :=
  ref05_Number_p5 kn l_0 x_3 i_4 w
theorem ref05_Number_p6_ok (Q : Exit → Env → World → Prop) (g : Env) (w : World) (kn : Value → World → Prop) (hn : ∀ g w, kn (g 3) w → Q .normal g w) (h : ref05_Number_p6 kn (g 0) (g 3) (g 4) w) : den pg ann_ref05_Number (dropS 1 (takeS 1 (dropS 2 code_ref05_Number))) Q g w :=
  den_blk 0 (dropS 1 (takeS 1 (dropS 2 code_ref05_Number))) g w (by kernel_rfl) (ref05_Number_p5_ok (blk 0 Q) g w kn hn h)

def ref05_Number_p7 (kn : Value → Value → Value → World → Prop) (l_0 x_3 : Value) (w : World) : Prop :=
  Stp pg (sBi .len #[58] 3 [l_0]) w fun t6 w =>
  Stp pg (sBin .sub 3 (.tmp 6) (.const (.int .i64 1)) t6 (.int .i64 1)) w fun t7 w =>
  kn l_0 x_3 t7 w
theorem ref05_Number_p7_ok (Q : Exit → Env → World → Prop) (g : Env) (w : World) (kn : Value → Value → Value → World → Prop) (hn : ∀ g w, kn (g 0) (g 3) (g 4) w → Q .normal g w) (h : ref05_Number_p7 kn (g 0) (g 3) w) : den pg ann_ref05_Number (takeS 1 (takeS 1 (dropS 2 code_ref05_Number))) Q g w := by
  have e : (ref05_Number_p7 kn (g 0) (g 3) w) = den pg ann_ref05_Number (takeS 1 (takeS 1 (dropS 2 code_ref05_Number))) (exQ (fun g w => kn (g 0) (g 3) (g 4) w) (fun _ _ => False) []) g w := by kernel_rfl
  exact den_exQ e h hn (fun _ _ h => h.elim) trivial

def ref05_Number_p8 (kn : Value → World → Prop) (l_0 x_3 : Value) (w : World) : Prop :=
  ref05_Number_p7 (fun l_0 x_3 i_4 w => ref05_Number_p6 kn l_0 x_3 i_4 w) l_0 x_3 w
theorem ref05_Number_p8_ok (Q : Exit → Env → World → Prop) (g : Env) (w : World) (kn : Value → World → Prop) (hn : ∀ g w, kn (g 3) w → Q .normal g w) (h : ref05_Number_p8 kn (g 0) (g 3) w) : den pg ann_ref05_Number (takeS 1 (dropS 2 code_ref05_Number)) Q g w := by
  exact den_seqs 1 (takeS 1 (dropS 2 code_ref05_Number)) g w (by kernel_rfl) (ref05_Number_p7_ok (thenE (fun g w => den pg ann_ref05_Number (dropS 1 (takeS 1 (dropS 2 code_ref05_Number))) Q g w) Q) g w (fun l_0 x_3 i_4 w => ref05_Number_p6 kn l_0 x_3 i_4 w) (fun g w h => thenE_n (K := fun g w => den pg ann_ref05_Number (dropS 1 (takeS 1 (dropS 2 code_ref05_Number))) Q g w) (ref05_Number_p6_ok Q g w kn hn h)) h)

def ref05_Number_p9 (R : Value → World → Prop) (l_0 x_3 : Value) (w : World) : Prop :=
  ref05_Number_p8 (fun x_3 w => ref05_Number_p1 R x_3 w) l_0 x_3 w
theorem ref05_Number_p9_ok (Q : Exit → Env → World → Prop) (g : Env) (w : World) (R : Value → World → Prop) (hr : ∀ g w, (resVals pg rs_ref05_Number g w fun vs => R (tup vs) w) → Q .ret g w) (h : ref05_Number_p9 R (g 0) (g 3) w) : den pg ann_ref05_Number (dropS 2 code_ref05_Number) Q g w := by
  exact den_seqs 1 (dropS 2 code_ref05_Number) g w (by kernel_rfl) (ref05_Number_p8_ok (thenE (fun g w => den pg ann_ref05_Number (dropS 1 (dropS 2 code_ref05_Number)) Q g w) Q) g w (fun x_3 w => ref05_Number_p1 R x_3 w) (fun g w h => thenE_n (K := fun g w => den pg ann_ref05_Number (dropS 1 (dropS 2 code_ref05_Number)) Q g w) (ref05_Number_p1_ok Q g w R hr h)) h)

def ref05_Number_p10 (kn : Value → Value → World → Prop) (l_0 : Value) (w : World) : Prop :=
  kn l_0 (.int .u64 0) w
theorem ref05_Number_p10_ok (Q : Exit → Env → World → Prop) (g : Env) (w : World) (kn : Value → Value → World → Prop) (hn : ∀ g w, kn (g 0) (g 3) w → Q .normal g w) (h : ref05_Number_p10 kn (g 0) w) : den pg ann_ref05_Number (takeS 2 code_ref05_Number) Q g w := by
  have e : (ref05_Number_p10 kn (g 0) w) = den pg ann_ref05_Number (takeS 2 code_ref05_Number) (exQ (fun g w => kn (g 0) (g 3) w) (fun _ _ => False) []) g w := by kernel_rfl
  exact den_exQ e h hn (fun _ _ h => h.elim) trivial

def ref05_Number_p11 (R : Value → World → Prop) (l_0 : Value) (w : World) : Prop :=
  ref05_Number_p10 (fun l_0 x_3 w => ref05_Number_p9 R l_0 x_3 w) l_0 w
theorem ref05_Number_p11_ok (Q : Exit → Env → World → Prop) (g : Env) (w : World) (R : Value → World → Prop) (hr : ∀ g w, (resVals pg rs_ref05_Number g w fun vs => R (tup vs) w) → Q .ret g w) (h : ref05_Number_p11 R (g 0) w) : den pg ann_ref05_Number code_ref05_Number Q g w := by
  exact den_seqs 2 code_ref05_Number g w (by kernel_rfl) (ref05_Number_p10_ok (thenE (fun g w => den pg ann_ref05_Number (dropS 2 code_ref05_Number) Q g w) Q) g w (fun l_0 x_3 w => ref05_Number_p9 R l_0 x_3 w) (fun g w h => thenE_n (K := fun g w => den pg ann_ref05_Number (dropS 2 code_ref05_Number) Q g w) (ref05_Number_p9_ok Q g w R hr h)) h)

def ref05_Number (a0 : Value) (w : World) (R : Value → World → Prop) : Prop :=
  ref05_Number_p11 R a0 w
theorem ref05_Number_does {a0 : Value} {w : World} {R : Value → World → Prop} (h : ref05_Number a0 w R) : Does pg F_ref05_Number #[a0] w R := by
  refine does_of_den (ann := ann_ref05_Number) (fn := Try.f65) (c := code_ref05_Number) (args := [a0]) (rs := rs_ref05_Number) (N := 21) TryM.mixed (by kernel_rfl) Try.func65 (by kernel_rfl) (by kernel_rfl) (by kernel_rfl) (of_decide_eq_true (by kernel_rfl)) (by kernel_rfl) ?_
  exact (ref05_Number_p11_ok (retQ pg rs_ref05_Number R) (envOf [a0]) w R (fun _ _ h => h) h)
-- PIECES ref05_Number/0 ref05_Number_p1 ref05_Number_p5 ref05_Number_p6 ref05_Number_p7 ref05_Number_p8 ref05_Number_p9 ref05_Number_p10 ref05_Number_p11
-- PIECES ref05_Number/1 ref05_Number_p2 ref05_Number_p3 ref05_Number_p4

/- lighterman/lightermanref06.width -/
def ann_ref06_width : FA := ⟨F_ref06_width, fun i => .leaf ([], []) []⟩
def rs_ref06_width : List ResultVar := [.tmp 2]
noncomputable def code_ref06_width : Code := bodyOf Try.f66
def ref06_width_p1 (R : Value → World → Prop) (n_3 : Value) (w : World) : Prop :=
  R n_3 w
theorem ref06_width_p1_ok (Q : Exit → Env → World → Prop) (g : Env) (w : World) (R : Value → World → Prop) (hr : ∀ g w, (resVals pg rs_ref06_width g w fun vs => R (tup vs) w) → Q .ret g w) (h : ref06_width_p1 R (g 3) w) : den pg ann_ref06_width (dropS 1 (dropS 2 code_ref06_width)) Q g w := by
  have e : (ref06_width_p1 R (g 3) w) = den pg ann_ref06_width (dropS 1 (dropS 2 code_ref06_width)) (exQ (fun _ _ => False) (fun g w => resVals pg rs_ref06_width g w fun vs => R (tup vs) w) []) g w := by kernel_rfl
  exact den_exQ e h (fun _ _ h => h.elim) hr trivial

def ref06_width_p2 (kn : Value → Value → World → Prop) (k0 : Value → World → Prop) (x_0 n_3 : Value) (w : World) : Prop :=
  Stp pg (sBin .gtr 3 (.tmp 4) (.const (.int .i64 0)) x_0 (.int .i64 0)) w fun t5 w =>
  Cnd t5
    (Stp pg (sBin .quo 3 (.tmp 6) (.const (.int .i64 2)) x_0 (.int .i64 2)) w fun t7 w =>
    Stp pg (sBin .add 3 (.tmp 8) (.const (.int .i64 1)) n_3 (.int .i64 1)) w fun t9 w =>
    kn t7 t9 w)
    (k0 n_3 w)
theorem ref06_width_p2_ok (Q : Exit → Env → World → Prop) (g : Env) (w : World) (kn : Value → Value → World → Prop) (k0 : Value → World → Prop) (hn : ∀ g w, kn (g 0) (g 3) w → Q .normal g w) (h0 : ∀ g w, k0 (g 3) w → Q (.exit 0) g w) (h : ref06_width_p2 kn k0 (g 0) (g 3) w) : den pg ann_ref06_width (bI (bI (takeS 1 (dropS 2 code_ref06_width)))) Q g w := by
  have e : (ref06_width_p2 kn k0 (g 0) (g 3) w) = den pg ann_ref06_width (bI (bI (takeS 1 (dropS 2 code_ref06_width)))) (exQ (fun g w => kn (g 0) (g 3) w) (fun _ _ => False) [(0, fun g w => k0 (g 3) w)]) g w := by kernel_rfl
  exact den_exQ e h hn (fun _ _ h => h.elim) ⟨h0, trivial⟩

def ref06_width_p3 (k0 : Value → World → Prop) (x_0 n_3 : Value) (w : World) : Prop :=
  LoopD (fun (X : (Value × Value) → World → Prop) (t : Value × Value) (w : World) => ref06_width_p2 (fun x_0 n_3 w => X (x_0, n_3) w) k0 t.1 t.2 w) (x_0, n_3) w
theorem ref06_width_p3_ok (Q : Exit → Env → World → Prop) (g : Env) (w : World) (k0 : Value → World → Prop) (h0 : ∀ g w, k0 (g 3) w → Q (.exit 0) g w) (h : ref06_width_p3 k0 (g 0) (g 3) w) : den pg ann_ref06_width (bI (takeS 1 (dropS 2 code_ref06_width))) Q g w := by
  refine den_loops (T := Value × Value) (fun g : Env => (g 0, g 3)) (fun X t w => ref06_width_p2 (fun x_0 n_3 w => X (x_0, n_3) w) k0 t.1 t.2 w) (bI (takeS 1 (dropS 2 code_ref06_width))) (by kernel_rfl) h (fun X g1 w1 ha h1 => ?_)
  exact (ref06_width_p2_ok (thenE (fun g2 w2 => X ((fun g : Env => (g 0, g 3)) g2) w2) Q) g1 w1 (fun x_0 n_3 w => X (x_0, n_3) w) k0 (fun _ _ h => h) h0 h1)

def ref06_width_p4 (kn : Value → World → Prop) (x_0 n_3 : Value) (w : World) : Prop :=
  ref06_width_p3 kn x_0 n_3 w
theorem ref06_width_p4_ok (Q : Exit → Env → World → Prop) (g : Env) (w : World) (kn : Value → World → Prop) (hn : ∀ g w, kn (g 3) w → Q .normal g w) (h : ref06_width_p4 kn (g 0) (g 3) w) : den pg ann_ref06_width (takeS 1 (dropS 2 code_ref06_width)) Q g w :=
  den_blk 0 (takeS 1 (dropS 2 code_ref06_width)) g w (by kernel_rfl) (ref06_width_p3_ok (blk 0 Q) g w kn hn h)

def ref06_width_p5 (R : Value → World → Prop) (x_0 n_3 : Value) (w : World) : Prop :=
  ref06_width_p4 (fun n_3 w => ref06_width_p1 R n_3 w) x_0 n_3 w
theorem ref06_width_p5_ok (Q : Exit → Env → World → Prop) (g : Env) (w : World) (R : Value → World → Prop) (hr : ∀ g w, (resVals pg rs_ref06_width g w fun vs => R (tup vs) w) → Q .ret g w) (h : ref06_width_p5 R (g 0) (g 3) w) : den pg ann_ref06_width (dropS 2 code_ref06_width) Q g w := by
  exact den_seqs 1 (dropS 2 code_ref06_width) g w (by kernel_rfl) (ref06_width_p4_ok (thenE (fun g w => den pg ann_ref06_width (dropS 1 (dropS 2 code_ref06_width)) Q g w) Q) g w (fun n_3 w => ref06_width_p1 R n_3 w) (fun g w h => thenE_n (K := fun g w => den pg ann_ref06_width (dropS 1 (dropS 2 code_ref06_width)) Q g w) (ref06_width_p1_ok Q g w R hr h)) h)

def ref06_width_p6 (kn : Value → Value → World → Prop) (x_0 : Value) (w : World) : Prop :=
  kn x_0 (.int .i64 0) w
theorem ref06_width_p6_ok (Q : Exit → Env → World → Prop) (g : Env) (w : World) (kn : Value → Value → World → Prop) (hn : ∀ g w, kn (g 0) (g 3) w → Q .normal g w) (h : ref06_width_p6 kn (g 0) w) : den pg ann_ref06_width (takeS 2 code_ref06_width) Q g w := by
  have e : (ref06_width_p6 kn (g 0) w) = den pg ann_ref06_width (takeS 2 code_ref06_width) (exQ (fun g w => kn (g 0) (g 3) w) (fun _ _ => False) []) g w := by kernel_rfl
  exact den_exQ e h hn (fun _ _ h => h.elim) trivial

def ref06_width_p7 (R : Value → World → Prop) (x_0 : Value) (w : World) : Prop :=
  ref06_width_p6 (fun x_0 n_3 w => ref06_width_p5 R x_0 n_3 w) x_0 w
theorem ref06_width_p7_ok (Q : Exit → Env → World → Prop) (g : Env) (w : World) (R : Value → World → Prop) (hr : ∀ g w, (resVals pg rs_ref06_width g w fun vs => R (tup vs) w) → Q .ret g w) (h : ref06_width_p7 R (g 0) w) : den pg ann_ref06_width code_ref06_width Q g w := by
  exact den_seqs 2 code_ref06_width g w (by kernel_rfl) (ref06_width_p6_ok (thenE (fun g w => den pg ann_ref06_width (dropS 2 code_ref06_width) Q g w) Q) g w (fun x_0 n_3 w => ref06_width_p5 R x_0 n_3 w) (fun g w h => thenE_n (K := fun g w => den pg ann_ref06_width (dropS 2 code_ref06_width) Q g w) (ref06_width_p5_ok Q g w R hr h)) h)

def ref06_width (a0 : Value) (w : World) (R : Value → World → Prop) : Prop :=
  ref06_width_p7 R a0 w
theorem ref06_width_does {a0 : Value} {w : World} {R : Value → World → Prop} (h : ref06_width a0 w R) : Does pg F_ref06_width #[a0] w R := by
  refine does_of_den (ann := ann_ref06_width) (fn := Try.f66) (c := code_ref06_width) (args := [a0]) (rs := rs_ref06_width) (N := 11) TryM.mixed (by kernel_rfl) Try.func66 (by kernel_rfl) (by kernel_rfl) (by kernel_rfl) (of_decide_eq_true (by kernel_rfl)) (by kernel_rfl) ?_
  exact (ref06_width_p7_ok (retQ pg rs_ref06_width R) (envOf [a0]) w R (fun _ _ h => h) h)
-- PIECES ref06_width/0 ref06_width_p1 ref06_width_p3 ref06_width_p4 ref06_width_p5 ref06_width_p6 ref06_width_p7
-- PIECES ref06_width/1 ref06_width_p2

end Go.Proofs.Ytcbkdccobhkbpaa

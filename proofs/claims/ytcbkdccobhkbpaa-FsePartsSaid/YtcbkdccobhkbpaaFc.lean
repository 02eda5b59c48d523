/- The pieces of bodies, written by a program of ours off the loaded code, each with its proof. -/
import Derived.Test.YtcbkdccobhkbpaaF
namespace Go.Proofs.Ytcbkdccobhkbpaa
open Go Go.En
set_option linter.unusedVariables false
set_option maxRecDepth 20000
attribute [local irreducible] Go.En.den

/- (*lighterman/bits.Writer).Write -/
def ann_bits_Writer_Write : FA := ⟨F_bits_Writer_Write, fun i => match Nat.beq i 6 with | true => .leaf ([25], []) [(false, []), (false, []), (false, []), (false, []), (false, []), (false, []), (false, []), (false, []), (false, []), (false, []), (false, []), (false, []), (false, []), (false, []), (false, []), (false, []), (false, []), (false, []), (false, []), (false, []), (false, []), (false, []), (false, []), (false, []), (false, []), (true, [])] | false => .leaf ([], []) []⟩
def rs_bits_Writer_Write : List ResultVar := []
noncomputable def code_bits_Writer_Write : Code := bodyOf Try.f31
def bits_Writer_Write_p1 (kn : Value → Value → Value → Value → World → Prop) (w_0 x_1 t17 t18 : Value) (w : World) : Prop :=
  Stp pg (sBin .add 3 (.tmp 18) (.const (.int .i64 1)) t18 (.int .i64 1)) w fun t68 w =>
  kn w_0 x_1 t17 t68 w
theorem bits_Writer_Write_p1_ok (Q : Exit → Env → World → Prop) (g : Env) (w : World) (kn : Value → Value → Value → Value → World → Prop) (hn : ∀ g w, kn (g 0) (g 1) (g 17) (g 18) w → Q .normal g w) (h : bits_Writer_Write_p1 kn (g 0) (g 1) (g 17) (g 18) w) : den pg ann_bits_Writer_Write (dropS 1 (dropS 2 (bI (bI (dropS 2 code_bits_Writer_Write))))) Q g w := by
  have e : (bits_Writer_Write_p1 kn (g 0) (g 1) (g 17) (g 18) w) = den pg ann_bits_Writer_Write (dropS 1 (dropS 2 (bI (bI (dropS 2 code_bits_Writer_Write))))) (exQ (fun g w => kn (g 0) (g 1) (g 17) (g 18) w) (fun _ _ => False) []) g w := by kernel_rfl
  exact den_exQ e h hn (fun _ _ h => h.elim) trivial

def bits_Writer_Write_p2 (kn : Value → Value → Value → Value → World → Prop) (w_0 x_1 i_6 t17 t18 : Value) (w : World) : Prop :=
  (dr w) = (dr w) ∧
  Stp pg (sNil w_0) (dr w) fun t37 w_ => w_ = (dr w) ∧
  Stp pg (sFAddr 111 t37 0) (dr w) fun t38 w_ => w_ = (dr w) ∧
  Stp pg (sLoad 52 t38) (dr w) fun t39 w_ => w_ = (dr w) ∧
  (dr w) = (dr w) ∧
  Stp pg (sNil w_0) (dr w) fun t41 w_ => w_ = (dr w) ∧
  Stp pg (sFAddr 111 t41 1) (dr w) fun t42 w_ => w_ = (dr w) ∧
  Stp pg (sLoad 3 t42) (dr w) fun t43 w_ => w_ = (dr w) ∧
  Stp pg (sBin .quo 3 (.tmp 43) (.const (.int .i64 8)) t43 (.int .i64 8)) (dr w) fun t44 w_ => w_ = (dr w) ∧
  Stp pg (sIAddr 52 t39 t44) (dr w) fun t45 w_ => w_ = (dr w) ∧
  Stp pg (sLoad 5 t45) (dr w) fun t46 w_ => w_ = (dr w) ∧
  (dr w) = (dr w) ∧
  (dr w) = (dr w) ∧
  Stp pg (sCvt 3 50 i_6) (dr w) fun t49 w_ => w_ = (dr w) ∧
  Stp pg (sBin .shr 45 (.tmp 47) (.tmp 49) x_1 t49) (dr w) fun t50 w_ => w_ = (dr w) ∧
  Stp pg (sBin .and 45 (.tmp 50) (.const (.int .u64 1)) t50 (.int .u64 1)) (dr w) fun t51 w_ => w_ = (dr w) ∧
  Stp pg (sCvt 45 5 t51) (dr w) fun t52 w_ => w_ = (dr w) ∧
  (dr w) = (dr w) ∧
  Stp pg (sNil w_0) (dr w) fun t54 w_ => w_ = (dr w) ∧
  Stp pg (sFAddr 111 t54 1) (dr w) fun t55 w_ => w_ = (dr w) ∧
  Stp pg (sLoad 3 t55) (dr w) fun t56 w_ => w_ = (dr w) ∧
  Stp pg (sBin .rem 3 (.tmp 56) (.const (.int .i64 8)) t56 (.int .i64 8)) (dr w) fun t57 w_ => w_ = (dr w) ∧
  Stp pg (sBin .shl 5 (.tmp 52) (.tmp 57) t52 t57) (dr w) fun t58 w_ => w_ = (dr w) ∧
  Stp pg (sBin .or 5 (.tmp 46) (.tmp 58) t46 t58) (dr w) fun t59 w_ => w_ = (dr w) ∧
  Stp pg (sIAddr 52 t39 t44) (dr w) fun t60 w_ => w_ = (dr w) ∧
  Stp pg (sStore 5 t60 t59) (dr w) fun _u25 w6_25 =>
  Stp pg (sNil w_0) w6_25 fun t62 w =>
  Stp pg (sFAddr 111 t62 1) w fun t63 w =>
  Stp pg (sLoad 3 t63) w fun t64 w =>
  Stp pg (sBin .add 3 (.tmp 64) (.const (.int .i64 1)) t64 (.int .i64 1)) w fun t65 w =>
  Stp pg (sNil w_0) w fun t66 w =>
  Stp pg (sFAddr 111 t66 1) w fun t67 w =>
  Stp pg (sStore 3 t67 t65) w fun _u w =>
  kn w_0 x_1 t17 t18 w
theorem bits_Writer_Write_p2_ok (Q : Exit → Env → World → Prop) (g : Env) (w : World) (kn : Value → Value → Value → Value → World → Prop) (hn : ∀ g w, kn (g 0) (g 1) (g 17) (g 18) w → Q .normal g w) (h : bits_Writer_Write_p2 kn (g 0) (g 1) (g 6) (g 17) (g 18) w) : den pg ann_bits_Writer_Write (dropS 2 (bI (takeS 1 (dropS 2 (bI (bI (dropS 2 code_bits_Writer_Write))))))) Q g w := by
  have e : (bits_Writer_Write_p2 kn (g 0) (g 1) (g 6) (g 17) (g 18) w) = den pg ann_bits_Writer_Write (dropS 2 (bI (takeS 1 (dropS 2 (bI (bI (dropS 2 code_bits_Writer_Write))))))) (exQ (fun g w => kn (g 0) (g 1) (g 17) (g 18) w) (fun _ _ => False) []) g w := by kernel_rfl
  exact den_exQ e h hn (fun _ _ h => h.elim) trivial

def bits_Writer_Write_p3 (kn : Value → Value → Value → Value → Value → World → Prop) (w_0 x_1 t17 t18 : Value) (w : World) : Prop :=
  Stp pg (sNil w_0) w fun t22 w =>
  Stp pg (sFAddr 111 t22 1) w fun t23 w =>
  Stp pg (sLoad 3 t23) w fun t24 w =>
  Stp pg (sBin .rem 3 (.tmp 24) (.const (.int .i64 8)) t24 (.int .i64 8)) w fun t25 w =>
  Stp pg (sBin .eql 3 (.tmp 25) (.const (.int .i64 0)) t25 (.int .i64 0)) w fun t26 w =>
  Cnd t26
    (Stp pg (sNil w_0) w fun t29 w =>
    Stp pg (sFAddr 111 t29 0) w fun t30 w =>
    Stp pg (sLoad 52 t30) w fun t31 w =>
    Stp pg (sBuildSlice 52 1 [(0, (.int .u8 0))]) w fun t32 w =>
    Stp pg (sBi .append #[52, 52] 52 [t31, t32]) w fun t33 w =>
    Stp pg (sNil w_0) w fun t34 w =>
    Stp pg (sFAddr 111 t34 0) w fun t35 w =>
    Stp pg (sStore 52 t35 t33) w fun _u w =>
    kn w_0 x_1 t18 t17 t18 w)
    (kn w_0 x_1 t18 t17 t18 w)
theorem bits_Writer_Write_p3_ok (Q : Exit → Env → World → Prop) (g : Env) (w : World) (kn : Value → Value → Value → Value → Value → World → Prop) (hn : ∀ g w, kn (g 0) (g 1) (g 6) (g 17) (g 18) w → Q .normal g w) (h : bits_Writer_Write_p3 kn (g 0) (g 1) (g 17) (g 18) w) : den pg ann_bits_Writer_Write (takeS 2 (bI (takeS 1 (dropS 2 (bI (bI (dropS 2 code_bits_Writer_Write))))))) Q g w := by
  have e : (bits_Writer_Write_p3 kn (g 0) (g 1) (g 17) (g 18) w) = den pg ann_bits_Writer_Write (takeS 2 (bI (takeS 1 (dropS 2 (bI (bI (dropS 2 code_bits_Writer_Write))))))) (exQ (fun g w => kn (g 0) (g 1) (g 6) (g 17) (g 18) w) (fun _ _ => False) []) g w := by kernel_rfl
  exact den_exQ e h hn (fun _ _ h => h.elim) trivial

def bits_Writer_Write_p4 (kn : Value → Value → Value → Value → World → Prop) (w_0 x_1 t17 t18 : Value) (w : World) : Prop :=
  bits_Writer_Write_p3 (fun w_0 x_1 i_6 t17 t18 w => bits_Writer_Write_p2 kn w_0 x_1 i_6 t17 t18 w) w_0 x_1 t17 t18 w
theorem bits_Writer_Write_p4_ok (Q : Exit → Env → World → Prop) (g : Env) (w : World) (kn : Value → Value → Value → Value → World → Prop) (hn : ∀ g w, kn (g 0) (g 1) (g 17) (g 18) w → Q .normal g w) (h : bits_Writer_Write_p4 kn (g 0) (g 1) (g 17) (g 18) w) : den pg ann_bits_Writer_Write (bI (takeS 1 (dropS 2 (bI (bI (dropS 2 code_bits_Writer_Write)))))) Q g w := by
  exact den_seqs 2 (bI (takeS 1 (dropS 2 (bI (bI (dropS 2 code_bits_Writer_Write)))))) g w (by kernel_rfl) (bits_Writer_Write_p3_ok (thenE (fun g w => den pg ann_bits_Writer_Write (dropS 2 (bI (takeS 1 (dropS 2 (bI (bI (dropS 2 code_bits_Writer_Write))))))) Q g w) Q) g w (fun w_0 x_1 i_6 t17 t18 w => bits_Writer_Write_p2 kn w_0 x_1 i_6 t17 t18 w) (fun g w h => thenE_n (K := fun g w => den pg ann_bits_Writer_Write (dropS 2 (bI (takeS 1 (dropS 2 (bI (bI (dropS 2 code_bits_Writer_Write))))))) Q g w) (bits_Writer_Write_p2_ok Q g w kn hn h)) h)

def bits_Writer_Write_p5 (kn : Value → Value → Value → Value → World → Prop) (w_0 x_1 t17 t18 : Value) (w : World) : Prop :=
  bits_Writer_Write_p4 kn w_0 x_1 t17 t18 w
theorem bits_Writer_Write_p5_ok (Q : Exit → Env → World → Prop) (g : Env) (w : World) (kn : Value → Value → Value → Value → World → Prop) (hn : ∀ g w, kn (g 0) (g 1) (g 17) (g 18) w → Q .normal g w) (h : bits_Writer_Write_p5 kn (g 0) (g 1) (g 17) (g 18) w) : den pg ann_bits_Writer_Write (takeS 1 (dropS 2 (bI (bI (dropS 2 code_bits_Writer_Write))))) Q g w :=
  den_blk 1 (takeS 1 (dropS 2 (bI (bI (dropS 2 code_bits_Writer_Write))))) g w (by kernel_rfl) (bits_Writer_Write_p4_ok (blk 1 Q) g w kn hn h)

def bits_Writer_Write_p6 (kn : Value → Value → Value → Value → World → Prop) (w_0 x_1 t17 t18 : Value) (w : World) : Prop :=
  bits_Writer_Write_p5 (fun w_0 x_1 t17 t18 w => bits_Writer_Write_p1 kn w_0 x_1 t17 t18 w) w_0 x_1 t17 t18 w
theorem bits_Writer_Write_p6_ok (Q : Exit → Env → World → Prop) (g : Env) (w : World) (kn : Value → Value → Value → Value → World → Prop) (hn : ∀ g w, kn (g 0) (g 1) (g 17) (g 18) w → Q .normal g w) (h : bits_Writer_Write_p6 kn (g 0) (g 1) (g 17) (g 18) w) : den pg ann_bits_Writer_Write (dropS 2 (bI (bI (dropS 2 code_bits_Writer_Write)))) Q g w := by
  exact den_seqs 1 (dropS 2 (bI (bI (dropS 2 code_bits_Writer_Write)))) g w (by kernel_rfl) (bits_Writer_Write_p5_ok (thenE (fun g w => den pg ann_bits_Writer_Write (dropS 1 (dropS 2 (bI (bI (dropS 2 code_bits_Writer_Write))))) Q g w) Q) g w (fun w_0 x_1 t17 t18 w => bits_Writer_Write_p1 kn w_0 x_1 t17 t18 w) (fun g w h => thenE_n (K := fun g w => den pg ann_bits_Writer_Write (dropS 1 (dropS 2 (bI (bI (dropS 2 code_bits_Writer_Write))))) Q g w) (bits_Writer_Write_p1_ok Q g w kn hn h)) h)

def bits_Writer_Write_p7 (kn : Value → Value → Value → Value → World → Prop) (k0 : World → Prop) (w_0 x_1 t17 t18 : Value) (w : World) : Prop :=
  Stp pg (sBin .lss 3 (.tmp 18) (.tmp 17) t18 t17) w fun t19 w =>
  Cnd t19
    (kn w_0 x_1 t17 t18 w)
    (k0 w)
theorem bits_Writer_Write_p7_ok (Q : Exit → Env → World → Prop) (g : Env) (w : World) (kn : Value → Value → Value → Value → World → Prop) (k0 : World → Prop) (hn : ∀ g w, kn (g 0) (g 1) (g 17) (g 18) w → Q .normal g w) (h0 : ∀ g w, k0 w → Q (.exit 0) g w) (h : bits_Writer_Write_p7 kn k0 (g 0) (g 1) (g 17) (g 18) w) : den pg ann_bits_Writer_Write (takeS 2 (bI (bI (dropS 2 code_bits_Writer_Write)))) Q g w := by
  have e : (bits_Writer_Write_p7 kn k0 (g 0) (g 1) (g 17) (g 18) w) = den pg ann_bits_Writer_Write (takeS 2 (bI (bI (dropS 2 code_bits_Writer_Write)))) (exQ (fun g w => kn (g 0) (g 1) (g 17) (g 18) w) (fun _ _ => False) [(0, fun g w => k0 w)]) g w := by kernel_rfl
  exact den_exQ e h hn (fun _ _ h => h.elim) ⟨h0, trivial⟩

def bits_Writer_Write_p8 (kn : Value → Value → Value → Value → World → Prop) (k0 : World → Prop) (w_0 x_1 t17 t18 : Value) (w : World) : Prop :=
  bits_Writer_Write_p7 (fun w_0 x_1 t17 t18 w => bits_Writer_Write_p6 kn w_0 x_1 t17 t18 w) k0 w_0 x_1 t17 t18 w
theorem bits_Writer_Write_p8_ok (Q : Exit → Env → World → Prop) (g : Env) (w : World) (kn : Value → Value → Value → Value → World → Prop) (k0 : World → Prop) (hn : ∀ g w, kn (g 0) (g 1) (g 17) (g 18) w → Q .normal g w) (h0 : ∀ g w, k0 w → Q (.exit 0) g w) (h : bits_Writer_Write_p8 kn k0 (g 0) (g 1) (g 17) (g 18) w) : den pg ann_bits_Writer_Write (bI (bI (dropS 2 code_bits_Writer_Write))) Q g w := by
  exact den_seqs 2 (bI (bI (dropS 2 code_bits_Writer_Write))) g w (by kernel_rfl) (bits_Writer_Write_p7_ok (thenE (fun g w => den pg ann_bits_Writer_Write (dropS 2 (bI (bI (dropS 2 code_bits_Writer_Write)))) Q g w) Q) g w (fun w_0 x_1 t17 t18 w => bits_Writer_Write_p6 kn w_0 x_1 t17 t18 w) k0 (fun g w h => thenE_n (K := fun g w => den pg ann_bits_Writer_Write (dropS 2 (bI (bI (dropS 2 code_bits_Writer_Write)))) Q g w) (bits_Writer_Write_p6_ok Q g w kn hn h)) h0 h)

def bits_Writer_Write_p9 (k0 : World → Prop) (w_0 x_1 t17 t18 : Value) (w : World) : Prop :=
  LoopD (fun (X : Value → World → Prop) (t : Value) (w : World) => bits_Writer_Write_p8 (fun _ _ _ t18 w => X t18 w) k0 w_0 x_1 t17 t w) t18 w
theorem bits_Writer_Write_p9_ok (Q : Exit → Env → World → Prop) (g : Env) (w : World) (k0 : World → Prop) (h0 : ∀ g w, k0 w → Q (.exit 0) g w) (h : bits_Writer_Write_p9 k0 (g 0) (g 1) (g 17) (g 18) w) : den pg ann_bits_Writer_Write (bI (dropS 2 code_bits_Writer_Write)) Q g w := by
  refine den_loops (T := Value) (fun g : Env => g 18) (fun X t w => bits_Writer_Write_p8 (fun _ _ _ t18 w => X t18 w) k0 (g 0) (g 1) (g 17) t w) (bI (dropS 2 code_bits_Writer_Write)) (by kernel_rfl) h (fun X g1 w1 ha h1 => ?_)
  rw [← agree_at (s := 0) ha (by kernel_rfl)] at h1
  rw [← agree_at (s := 1) ha (by kernel_rfl)] at h1
  rw [← agree_at (s := 17) ha (by kernel_rfl)] at h1
  exact (bits_Writer_Write_p8_ok (thenE (fun g2 w2 => X ((fun g : Env => g 18) g2) w2) Q) g1 w1 (fun _ _ _ t18 w => X t18 w) k0 (fun _ _ h => h) h0 h1)

def bits_Writer_Write_p10 (kn : World → Prop) (w_0 x_1 t17 t18 : Value) (w : World) : Prop :=
  bits_Writer_Write_p9 kn w_0 x_1 t17 t18 w
theorem bits_Writer_Write_p10_ok (Q : Exit → Env → World → Prop) (g : Env) (w : World) (kn : World → Prop) (hn : ∀ g w, kn w → Q .normal g w) (h : bits_Writer_Write_p10 kn (g 0) (g 1) (g 17) (g 18) w) : den pg ann_bits_Writer_Write (dropS 2 code_bits_Writer_Write) Q g w :=
  den_blk 0 (dropS 2 code_bits_Writer_Write) g w (by kernel_rfl) (bits_Writer_Write_p9_ok (blk 0 Q) g w kn hn h)

def bits_Writer_Write_p11 (kn : Value → Value → Value → Value → World → Prop) (R : Value → World → Prop) (w_0 x_1 n_2 : Value) (w : World) : Prop :=
  Stp pg (sBin .eql 72 (.tmp 7) (.const (.pointer none)) w_0 (.pointer none)) w fun t8 w =>
  Gd (isB t8 false) (fun K => K n_2 w) w fun t10 w =>
  Gd (isB t8 false) (fun K => Stp pg (sBin .lss 3 (.tmp 10) (.const (.int .i64 1)) t10 (.int .i64 1)) w K) w fun t11 w =>
  Stp pg (sPick t8 (.bool true) t11) w fun t12 w =>
  Gd (isB t12 false) (fun K => K n_2 w) w fun t14 w =>
  Gd (isB t12 false) (fun K => Stp pg (sBin .gtr 3 (.tmp 14) (.const (.int .i64 56)) t14 (.int .i64 56)) w K) w fun t15 w =>
  Stp pg (sPick t12 (.bool true) t15) w fun t16 w =>
  Cnd t16
    (R (.tuple #[]) w)
    (kn w_0 x_1 n_2 (.int .i64 0) w)
theorem bits_Writer_Write_p11_ok (Q : Exit → Env → World → Prop) (g : Env) (w : World) (kn : Value → Value → Value → Value → World → Prop) (R : Value → World → Prop) (hn : ∀ g w, kn (g 0) (g 1) (g 17) (g 18) w → Q .normal g w) (hr : ∀ g w, (resVals pg rs_bits_Writer_Write g w fun vs => R (tup vs) w) → Q .ret g w) (h : bits_Writer_Write_p11 kn R (g 0) (g 1) (g 2) w) : den pg ann_bits_Writer_Write (takeS 2 code_bits_Writer_Write) Q g w := by
  have e : (bits_Writer_Write_p11 kn R (g 0) (g 1) (g 2) w) = den pg ann_bits_Writer_Write (takeS 2 code_bits_Writer_Write) (exQ (fun g w => kn (g 0) (g 1) (g 17) (g 18) w) (fun g w => resVals pg rs_bits_Writer_Write g w fun vs => R (tup vs) w) []) g w := by kernel_rfl
  exact den_exQ e h hn hr trivial

def bits_Writer_Write_p12 (kn : World → Prop) (R : Value → World → Prop) (w_0 x_1 n_2 : Value) (w : World) : Prop :=
  bits_Writer_Write_p11 (fun w_0 x_1 t17 t18 w => bits_Writer_Write_p10 kn w_0 x_1 t17 t18 w) R w_0 x_1 n_2 w
theorem bits_Writer_Write_p12_ok (Q : Exit → Env → World → Prop) (g : Env) (w : World) (kn : World → Prop) (R : Value → World → Prop) (hn : ∀ g w, kn w → Q .normal g w) (hr : ∀ g w, (resVals pg rs_bits_Writer_Write g w fun vs => R (tup vs) w) → Q .ret g w) (h : bits_Writer_Write_p12 kn R (g 0) (g 1) (g 2) w) : den pg ann_bits_Writer_Write code_bits_Writer_Write Q g w := by
  exact den_seqs 2 code_bits_Writer_Write g w (by kernel_rfl) (bits_Writer_Write_p11_ok (thenE (fun g w => den pg ann_bits_Writer_Write (dropS 2 code_bits_Writer_Write) Q g w) Q) g w (fun w_0 x_1 t17 t18 w => bits_Writer_Write_p10 kn w_0 x_1 t17 t18 w) R (fun g w h => thenE_n (K := fun g w => den pg ann_bits_Writer_Write (dropS 2 code_bits_Writer_Write) Q g w) (bits_Writer_Write_p10_ok Q g w kn hn h)) hr h)

def bits_Writer_Write (a0 a1 a2 : Value) (w : World) (R : Value → World → Prop) : Prop :=
  bits_Writer_Write_p12 (fun  w => R (.tuple #[]) w) R a0 a1 a2 w
theorem bits_Writer_Write_does {a0 a1 a2 : Value} {w : World} {R : Value → World → Prop} (h : bits_Writer_Write a0 a1 a2 w R) : Does pg F_bits_Writer_Write #[a0, a1, a2] w R := by
  refine does_of_den (ann := ann_bits_Writer_Write) (fn := Try.f31) (c := code_bits_Writer_Write) (args := [a0, a1, a2]) (rs := rs_bits_Writer_Write) (N := 69) TryM.mixed (by kernel_rfl) Try.func31 (by kernel_rfl) (by kernel_rfl) (by kernel_rfl) (of_decide_eq_true (by kernel_rfl)) (by kernel_rfl) ?_
  exact (bits_Writer_Write_p12_ok (retQ pg rs_bits_Writer_Write R) (envOf [a0, a1, a2]) w (fun  w => R (.tuple #[]) w) R (fun _ _ h => h) (fun _ _ h => h) h)
-- PIECES bits_Writer_Write/0 bits_Writer_Write_p9 bits_Writer_Write_p10 bits_Writer_Write_p11 bits_Writer_Write_p12
-- PIECES bits_Writer_Write/1 bits_Writer_Write_p1 bits_Writer_Write_p2 bits_Writer_Write_p3 bits_Writer_Write_p4 bits_Writer_Write_p5 bits_Writer_Write_p6 bits_Writer_Write_p7 bits_Writer_Write_p8

/- (*lighterman/bits.Writer).Closed -/
def ann_bits_Writer_Closed : FA := ⟨F_bits_Writer_Closed, fun i => match Nat.beq i 3 with | true => .leaf ([4, 10], [(4, 6), (4, 7), (4, 8)]) [(false, []), (false, []), (false, []), (false, []), (true, []), (false, []), (false, [1]), (false, [2]), (false, [3]), (false, []), (true, []), (false, [])] | false => .leaf ([], []) []⟩
def rs_bits_Writer_Closed : List ResultVar := [.tmp 2]
noncomputable def code_bits_Writer_Closed : Code := bodyOf Try.f32
def bits_Writer_Closed_p1 (R : Value → World → Prop) (w_0 : Value) (w : World) : Prop :=
  Stp pg (sBin .eql 72 (.tmp 4) (.const (.pointer none)) w_0 (.pointer none)) w fun t5 w =>
  Cnd t5
    (R (.slice none 0 0) w)
    ((dr w) = (dr w) ∧
    Stp pg (sNil w_0) (dr w) fun t7 w_ => w_ = (dr w) ∧
    Stp pg (sFAddr 111 t7 0) (dr w) fun t8 w_ => w_ = (dr w) ∧
    Stp pg (sLoad 52 t8) (dr w) fun t9 w_ => w_ = (dr w) ∧
    Does pg F_slices_Clone_inst #[t9] (dr w) fun t10 w3_4 =>
    w3_4 = w3_4 ∧
    Stp pg (sNil w_0) w3_4 fun t12 w_ => w_ = w3_4 ∧
    (Same pg (sNil w_0) t12 (dr w) ∧ True) ∧
    Stp pg (sFAddr 111 t12 1) w3_4 fun t13 w_ => w_ = w3_4 ∧
    (Same pg (sFAddr 111 t12 1) t13 (dr w) ∧ True) ∧
    Stp pg (sLoad 3 t13) w3_4 fun t14 w_ => w_ = w3_4 ∧
    (Same pg (sLoad 3 t13) t14 (dr w) ∧ True) ∧
    Stp pg (sBuild 111 [(0, t10), (1, t14)]) w3_4 fun t15 w_ => w_ = w3_4 ∧
    Stp pg (sBox 111 t15) w3_4 fun t16 w3_10 =>
    w3_10 = w3_10 ∧
    Does pg F_bits_Writer_Write #[t16, (.int .u64 1), (.int .i64 1)] w3_10 fun t18 w =>
    Stp pg (sNil t16) w fun t20 w =>
    Stp pg (sFAddr 111 t20 0) w fun t21 w =>
    Stp pg (sLoad 52 t21) w fun t22 w =>
    R t22 w)
theorem bits_Writer_Closed_p1_ok (Q : Exit → Env → World → Prop) (g : Env) (w : World) (R : Value → World → Prop) (hr : ∀ g w, (resVals pg rs_bits_Writer_Closed g w fun vs => R (tup vs) w) → Q .ret g w) (h : bits_Writer_Closed_p1 R (g 0) w) : den pg ann_bits_Writer_Closed code_bits_Writer_Closed Q g w := by
  have e : (bits_Writer_Closed_p1 R (g 0) w) = den pg ann_bits_Writer_Closed code_bits_Writer_Closed (exQ (fun _ _ => False) (fun g w => resVals pg rs_bits_Writer_Closed g w fun vs => R (tup vs) w) []) g w := by kernel_rfl
  exact den_exQ e h (fun _ _ h => h.elim) hr trivial

def bits_Writer_Closed (a0 : Value) (w : World) (R : Value → World → Prop) : Prop :=
  bits_Writer_Closed_p1 R a0 w
theorem bits_Writer_Closed_does {a0 : Value} {w : World} {R : Value → World → Prop} (h : bits_Writer_Closed a0 w R) : Does pg F_bits_Writer_Closed #[a0] w R := by
  refine does_of_den (ann := ann_bits_Writer_Closed) (fn := Try.f32) (c := code_bits_Writer_Closed) (args := [a0]) (rs := rs_bits_Writer_Closed) (N := 23) TryM.mixed (by kernel_rfl) Try.func32 (by kernel_rfl) (by kernel_rfl) (by kernel_rfl) (of_decide_eq_true (by kernel_rfl)) (by kernel_rfl) ?_
  exact (bits_Writer_Closed_p1_ok (retQ pg rs_bits_Writer_Closed R) (envOf [a0]) w R (fun _ _ h => h) h)
-- PIECES bits_Writer_Closed/0 bits_Writer_Closed_p1

/- lighterman/lightermanlaw06.awake -/
def ann_law06_awake : FA := ⟨F_law06_awake, fun i => .leaf ([], []) []⟩
def rs_law06_awake : List ResultVar := [.tmp 0]
noncomputable def code_law06_awake : Code := bodyOf Try.f33
def law06_awake_p1 (R : Value → World → Prop)  (w : World) : Prop :=
  Stp pg (sBuildSlice 22 2 [(0, (.int .i64 16)), (1, (.int .i64 16))]) w fun t9 w =>
  Stp pg (sBuild 24 [(0, (.int .i64 5)), (1, t9)]) w fun t10 w =>
  Does pg F_normal_Check #[t10, (.int .i64 9)] w fun t11 w =>
  Stp pg (sBuildSlice 22 5 [(0, (.int .i64 20)), (1, (.int .i64 0)), (2, (.int .i64 0)), (3, (.int .i64 (-1))), (4, (.int .i64 11))]) w fun t13 w =>
  Stp pg (sBuild 24 [(0, (.int .i64 5)), (1, t13)]) w fun t14 w =>
  Does pg F_normal_Write #[t14] w fun t15 w =>
  Stp pg (sExtr t15 0) w fun t16 w =>
  Stp pg (sExtr t15 1) w fun t17 w =>
  Does pg F_normal_Read #[t16, (.int .i64 9), (.int .i64 9)] w fun t20 w =>
  Stp pg (sExtr t20 0) w fun t21 w =>
  Stp pg (sExtr t20 1) w fun t22 w =>
  Stp pg (sExtr t20 2) w fun t23 w =>
  Stp pg (sAlloc 24) w fun c_4 w =>
  Stp pg (sStore 24 c_4 t21) w fun _u w =>
  Stp pg (sBuildSlice 89 3 [(0, (.int .u32 3)), (1, (.int .u32 0)), (2, (.int .u32 1))]) w fun t25 w =>
  Does pg F_normal_Of #[t25, (.int .i64 5)] w fun t26 w =>
  Stp pg (sExtr t26 0) w fun t27 w =>
  Stp pg (sExtr t26 1) w fun t28 w =>
  Stp pg (sAlloc 24) w fun o_7 w =>
  Stp pg (sStore 24 o_7 t27) w fun _u w =>
  Stp pg (sBin .eql 29 (.tmp 29) (.const (.int .i64 0)) t11 (.int .i64 0)) w fun t30 w =>
  Gd (isB t30 true) (fun K => K t17 w) w fun t32 w =>
  Gd (isB t30 true) (fun K => Stp pg (sBin .eql 29 (.tmp 32) (.const (.int .i64 0)) t32 (.int .i64 0)) w K) w fun t33 w =>
  Stp pg (sPick t30 t33 (.bool false)) w fun t34 w =>
  Gd (isB t34 true) (fun K => K t16 w) w fun t36 w =>
  Gd (isB t34 true) (fun K => Stp pg (sBi .len #[52] 3 [t36]) w K) w fun t37 w =>
  Gd (isB t34 true) (fun K => Stp pg (sBin .gtr 3 (.tmp 37) (.const (.int .i64 0)) t37 (.int .i64 0)) w K) w fun t38 w =>
  Stp pg (sPick t34 t38 (.bool false)) w fun t39 w =>
  Gd (isB t39 true) (fun K => K t23 w) w fun t41 w =>
  Gd (isB t39 true) (fun K => Stp pg (sBin .eql 29 (.tmp 41) (.const (.int .i64 0)) t41 (.int .i64 0)) w K) w fun t42 w =>
  Stp pg (sPick t39 t42 (.bool false)) w fun t43 w =>
  Gd (isB t43 true) (fun K => K t22 w) w fun t45 w =>
  Gd (isB t43 true) (fun K => K t16 w) w fun t46 w =>
  Gd (isB t43 true) (fun K => Stp pg (sBi .len #[52] 3 [t46]) w K) w fun t47 w =>
  Gd (isB t43 true) (fun K => Stp pg (sBin .eql 3 (.tmp 45) (.tmp 47) t45 t47) w K) w fun t48 w =>
  Stp pg (sPick t43 t48 (.bool false)) w fun t49 w =>
  Gd (isB t49 true) (fun K => Stp pg (sFAddr 24 c_4 0) w K) w fun t51 w =>
  Gd (isB t49 true) (fun K => Stp pg (sLoad 3 t51) w K) w fun t52 w =>
  Gd (isB t49 true) (fun K => Stp pg (sBin .eql 3 (.tmp 52) (.const (.int .i64 5)) t52 (.int .i64 5)) w K) w fun t53 w =>
  Stp pg (sPick t49 t53 (.bool false)) w fun t54 w =>
  Gd (isB t54 true) (fun K => Stp pg (sFAddr 24 c_4 1) w K) w fun t56 w =>
  Gd (isB t54 true) (fun K => Stp pg (sLoad 22 t56) w K) w fun t57 w =>
  Gd (isB t54 true) (fun K => Stp pg (sBi .len #[22] 3 [t57]) w K) w fun t58 w =>
  Gd (isB t54 true) (fun K => Stp pg (sBin .eql 3 (.tmp 58) (.const (.int .i64 5)) t58 (.int .i64 5)) w K) w fun t59 w =>
  Stp pg (sPick t54 t59 (.bool false)) w fun t60 w =>
  Gd (isB t60 true) (fun K => Stp pg (sFAddr 24 c_4 1) w K) w fun t62 w =>
  Gd (isB t60 true) (fun K => Stp pg (sLoad 22 t62) w K) w fun t63 w =>
  Gd (isB t60 true) (fun K => Stp pg (sIAddr 22 t63 (.int .i64 0)) w K) w fun t64 w =>
  Gd (isB t60 true) (fun K => Stp pg (sLoad 3 t64) w K) w fun t65 w =>
  Gd (isB t60 true) (fun K => Stp pg (sBin .eql 3 (.tmp 65) (.const (.int .i64 20)) t65 (.int .i64 20)) w K) w fun t66 w =>
  Stp pg (sPick t60 t66 (.bool false)) w fun t67 w =>
  Gd (isB t67 true) (fun K => Stp pg (sFAddr 24 c_4 1) w K) w fun t69 w =>
  Gd (isB t67 true) (fun K => Stp pg (sLoad 22 t69) w K) w fun t70 w =>
  Gd (isB t67 true) (fun K => Stp pg (sIAddr 22 t70 (.int .i64 3)) w K) w fun t71 w =>
  Gd (isB t67 true) (fun K => Stp pg (sLoad 3 t71) w K) w fun t72 w =>
  Gd (isB t67 true) (fun K => Stp pg (sBin .eql 3 (.tmp 72) (.const (.int .i64 (-1))) t72 (.int .i64 (-1))) w K) w fun t73 w =>
  Stp pg (sPick t67 t73 (.bool false)) w fun t74 w =>
  Gd (isB t74 true) (fun K => K t28 w) w fun t76 w =>
  Gd (isB t74 true) (fun K => Stp pg (sBin .eql 29 (.tmp 76) (.const (.int .i64 0)) t76 (.int .i64 0)) w K) w fun t77 w =>
  Stp pg (sPick t74 t77 (.bool false)) w fun t78 w =>
  Gd (isB t78 true) (fun K => Stp pg (sFAddr 24 o_7 1) w K) w fun t80 w =>
  Gd (isB t78 true) (fun K => Stp pg (sLoad 22 t80) w K) w fun t81 w =>
  Gd (isB t78 true) (fun K => Stp pg (sBi .len #[22] 3 [t81]) w K) w fun t82 w =>
  Gd (isB t78 true) (fun K => Stp pg (sBin .eql 3 (.tmp 82) (.const (.int .i64 3)) t82 (.int .i64 3)) w K) w fun t83 w =>
  Stp pg (sPick t78 t83 (.bool false)) w fun t84 w =>
  R t84 w
theorem law06_awake_p1_ok (Q : Exit → Env → World → Prop) (g : Env) (w : World) (R : Value → World → Prop) (hr : ∀ g w, (resVals pg rs_law06_awake g w fun vs => R (tup vs) w) → Q .ret g w) (h : law06_awake_p1 R w) : den pg ann_law06_awake code_law06_awake Q g w := by
  have e : (law06_awake_p1 R w) = den pg ann_law06_awake code_law06_awake (exQ (fun _ _ => False) (fun g w => resVals pg rs_law06_awake g w fun vs => R (tup vs) w) []) g w := by kernel_rfl
  exact den_exQ e h (fun _ _ h => h.elim) hr trivial

def law06_awake (w : World) (R : Value → World → Prop) : Prop :=
  law06_awake_p1 R w
theorem law06_awake_does {w : World} {R : Value → World → Prop} (h : law06_awake w R) : Does pg F_law06_awake #[] w R := by
  refine does_of_den (ann := ann_law06_awake) (fn := Try.f33) (c := code_law06_awake) (args := []) (rs := rs_law06_awake) (N := 85) TryM.mixed (by kernel_rfl) Try.func33 (by kernel_rfl) (by kernel_rfl) (by kernel_rfl) (of_decide_eq_true (by kernel_rfl)) (by kernel_rfl) ?_
  exact (law06_awake_p1_ok (retQ pg rs_law06_awake R) (envOf []) w R (fun _ _ h => h) h)
-- PIECES law06_awake/0 law06_awake_p1

/- lighterman/normal.Read -/
def ann_normal_Read : FA := ⟨F_normal_Read, fun i => match Nat.beq i 25 with | true => .leaf ([2, 3], [(0, 2)]) [(false, []), (false, []), (true, [1]), (true, []), (false, []), (false, [])] | false => .leaf ([], []) []⟩
def rs_normal_Read : List ResultVar := [.cell 6 24, .tmp 7, .tmp 8]
noncomputable def code_normal_Read : Code := bodyOf Try.f34
def normal_Read_p1 (R : Value → World → Prop) (t6 f_9 c_12 : Value) (w : World) : Prop :=
  Stp pg (sLoad 24 c_12) (dr w) fun t101 w_ => w_ = (dr w) ∧
  (dr w) = (dr w) ∧
  Does pg F_bits_Forward_Used #[f_9] (dr w) fun t103 w25_2 =>
  (Same pg (sLoad 24 c_12) t101 w25_2 ∧ True) ∧
  Stp pg (sStore 24 t6 t101) w25_2 fun _u3 w25_3 =>
  w25_3 = w25_3 ∧
  w25_3 = w25_3 ∧
  LdR pg 24 t6 w25_3 fun r0 => R (.tuple #[r0, t103, (.int .i64 0)]) w25_3
theorem normal_Read_p1_ok (Q : Exit → Env → World → Prop) (g : Env) (w : World) (R : Value → World → Prop) (hr : ∀ g w, (resVals pg rs_normal_Read g w fun vs => R (tup vs) w) → Q .ret g w) (h : normal_Read_p1 R (g 6) (g 9) (g 12) w) : den pg ann_normal_Read (dropS 1 (dropS 7 code_normal_Read)) Q g w := by
  have e : (normal_Read_p1 R (g 6) (g 9) (g 12) w) = den pg ann_normal_Read (dropS 1 (dropS 7 code_normal_Read)) (exQ (fun _ _ => False) (fun g w => resVals pg rs_normal_Read g w fun vs => R (tup vs) w) []) g w := by kernel_rfl
  exact den_exQ e h (fun _ _ h => h.elim) hr trivial

def normal_Read_p2 (kn : Value → Value → Value → Value → Value → World → Prop) (R : Value → World → Prop) (symbols_2 t6 f_9 c_12 left_13 : Value) (w : World) : Prop :=
  Stp pg (sFAddr 24 c_12 1) w fun t91 w =>
  Stp pg (sLoad 22 t91) w fun t92 w =>
  Stp pg (sBi .len #[22] 3 [t92]) w fun t93 w =>
  Stp pg (sBin .gtr 3 (.tmp 93) (.tmp 94) t93 symbols_2) w fun t95 w =>
  Gd (isB t95 false) (fun K => K left_13 w) w fun t97 w =>
  Gd (isB t95 false) (fun K => Stp pg (sBin .lss 3 (.tmp 97) (.const (.int .i64 0)) t97 (.int .i64 0)) w K) w fun t98 w =>
  Stp pg (sPick t95 (.bool true) t98) w fun t99 w =>
  Cnd t99
    (Stp pg (sBuild 24 []) w fun t100 w =>
    Stp pg (sStore 24 t6 t100) w fun _u w =>
    LdR pg 24 t6 w fun r0 => R (.tuple #[r0, (.int .i64 0), (.int .i64 11)]) w)
    (kn symbols_2 t6 f_9 c_12 left_13 w)
theorem normal_Read_p2_ok (Q : Exit → Env → World → Prop) (g : Env) (w : World) (kn : Value → Value → Value → Value → Value → World → Prop) (R : Value → World → Prop) (hn : ∀ g w, kn (g 2) (g 6) (g 9) (g 12) (g 13) w → Q .normal g w) (hr : ∀ g w, (resVals pg rs_normal_Read g w fun vs => R (tup vs) w) → Q .ret g w) (h : normal_Read_p2 kn R (g 2) (g 6) (g 9) (g 12) (g 13) w) : den pg ann_normal_Read (dropS 6 (bI (dropS 1 (bI (bI (takeS 1 (dropS 7 code_normal_Read))))))) Q g w := by
  have e : (normal_Read_p2 kn R (g 2) (g 6) (g 9) (g 12) (g 13) w) = den pg ann_normal_Read (dropS 6 (bI (dropS 1 (bI (bI (takeS 1 (dropS 7 code_normal_Read))))))) (exQ (fun g w => kn (g 2) (g 6) (g 9) (g 12) (g 13) w) (fun g w => resVals pg rs_normal_Read g w fun vs => R (tup vs) w) []) g w := by kernel_rfl
  exact den_exQ e h hn hr trivial

def normal_Read_p3 (kn : Value → Value → Value → Value → Value → World → Prop) (R : Value → World → Prop) (symbols_2 t6 f_9 c_12 left_13 : Value) (w : World) : Prop :=
  Does pg F_normal_value #[f_9, left_13] w fun t52 w =>
  Stp pg (sExtr t52 0) w fun t53 w =>
  Stp pg (sExtr t52 1) w fun t54 w =>
  Stp pg (sBin .neq 29 (.tmp 55) (.const (.int .i64 0)) t54 (.int .i64 0)) w fun t56 w =>
  Cnd t56
    (Stp pg (sBuild 24 []) w fun t57 w =>
    Stp pg (sStore 24 t6 t57) w fun _u w =>
    LdR pg 24 t6 w fun r0 => R (.tuple #[r0, (.int .i64 0), t54]) w)
    (Stp pg (sBin .sub 3 (.tmp 59) (.const (.int .i64 1)) t53 (.int .i64 1)) w fun t60 w =>
    Does pg F_normal_parts #[t60] w fun t63 w =>
    Stp pg (sBin .sub 3 (.tmp 61) (.tmp 63) left_13 t63) w fun t64 w =>
    Stp pg (sFAddr 24 c_12 1) w fun t65 w =>
    Stp pg (sLoad 22 t65) w fun t66 w =>
    Stp pg (sBuildSlice 22 1 [(0, t60)]) w fun t68 w =>
    Stp pg (sBi .append #[22, 22] 22 [t66, t68]) w fun t69 w =>
    Stp pg (sFAddr 24 c_12 1) w fun t70 w =>
    Stp pg (sStore 22 t70 t69) w fun _u w =>
    Stp pg (sBin .eql 3 (.tmp 71) (.const (.int .i64 0)) t60 (.int .i64 0)) w fun t72 w =>
    Cnd t72
      (Does pg F_normal_noughts #[f_9] w fun t75 w =>
      Stp pg (sExtr t75 0) w fun t76 w =>
      Stp pg (sExtr t75 1) w fun t77 w =>
      Stp pg (sBin .neq 29 (.tmp 78) (.const (.int .i64 0)) t77 (.int .i64 0)) w fun t79 w =>
      Cnd t79
        (Stp pg (sBuild 24 []) w fun t80 w =>
        Stp pg (sStore 24 t6 t80) w fun _u w =>
        LdR pg 24 t6 w fun r0 => R (.tuple #[r0, (.int .i64 0), t77]) w)
        (Stp pg (sBin .gtr 3 (.tmp 82) (.tmp 83) t76 symbols_2) w fun t84 w =>
        Cnd t84
          (Stp pg (sBuild 24 []) w fun t85 w =>
          Stp pg (sStore 24 t6 t85) w fun _u w =>
          LdR pg 24 t6 w fun r0 => R (.tuple #[r0, (.int .i64 0), (.int .i64 11)]) w)
          (Stp pg (sFAddr 24 c_12 1) w fun t86 w =>
          Stp pg (sLoad 22 t86) w fun t87 w =>
          Stp pg (sBi .append #[22, 3] 22 [t87, t76]) w fun t89 w =>
          Stp pg (sFAddr 24 c_12 1) w fun t90 w =>
          Stp pg (sStore 22 t90 t89) w fun _u w =>
          kn symbols_2 t6 f_9 c_12 t64 w)))
      (kn symbols_2 t6 f_9 c_12 t64 w))
theorem normal_Read_p3_ok (Q : Exit → Env → World → Prop) (g : Env) (w : World) (kn : Value → Value → Value → Value → Value → World → Prop) (R : Value → World → Prop) (hn : ∀ g w, kn (g 2) (g 6) (g 9) (g 12) (g 13) w → Q .normal g w) (hr : ∀ g w, (resVals pg rs_normal_Read g w fun vs => R (tup vs) w) → Q .ret g w) (h : normal_Read_p3 kn R (g 2) (g 6) (g 9) (g 12) (g 13) w) : den pg ann_normal_Read (takeS 6 (bI (dropS 1 (bI (bI (takeS 1 (dropS 7 code_normal_Read))))))) Q g w := by
  have e : (normal_Read_p3 kn R (g 2) (g 6) (g 9) (g 12) (g 13) w) = den pg ann_normal_Read (takeS 6 (bI (dropS 1 (bI (bI (takeS 1 (dropS 7 code_normal_Read))))))) (exQ (fun g w => kn (g 2) (g 6) (g 9) (g 12) (g 13) w) (fun g w => resVals pg rs_normal_Read g w fun vs => R (tup vs) w) []) g w := by kernel_rfl
  exact den_exQ e h hn hr trivial

def normal_Read_p4 (kn : Value → Value → Value → Value → Value → World → Prop) (R : Value → World → Prop) (symbols_2 t6 f_9 c_12 left_13 : Value) (w : World) : Prop :=
  normal_Read_p3 (fun symbols_2 t6 f_9 c_12 left_13 w => normal_Read_p2 kn R symbols_2 t6 f_9 c_12 left_13 w) R symbols_2 t6 f_9 c_12 left_13 w
theorem normal_Read_p4_ok (Q : Exit → Env → World → Prop) (g : Env) (w : World) (kn : Value → Value → Value → Value → Value → World → Prop) (R : Value → World → Prop) (hn : ∀ g w, kn (g 2) (g 6) (g 9) (g 12) (g 13) w → Q .normal g w) (hr : ∀ g w, (resVals pg rs_normal_Read g w fun vs => R (tup vs) w) → Q .ret g w) (h : normal_Read_p4 kn R (g 2) (g 6) (g 9) (g 12) (g 13) w) : den pg ann_normal_Read (bI (dropS 1 (bI (bI (takeS 1 (dropS 7 code_normal_Read)))))) Q g w := by
  exact den_seqs 6 (bI (dropS 1 (bI (bI (takeS 1 (dropS 7 code_normal_Read)))))) g w (by kernel_rfl) (normal_Read_p3_ok (thenE (fun g w => den pg ann_normal_Read (dropS 6 (bI (dropS 1 (bI (bI (takeS 1 (dropS 7 code_normal_Read))))))) Q g w) Q) g w (fun symbols_2 t6 f_9 c_12 left_13 w => normal_Read_p2 kn R symbols_2 t6 f_9 c_12 left_13 w) R (fun g w h => thenE_n (K := fun g w => den pg ann_normal_Read (dropS 6 (bI (dropS 1 (bI (bI (takeS 1 (dropS 7 code_normal_Read))))))) Q g w) (normal_Read_p2_ok Q g w kn R hn hr h)) hr h)

def normal_Read_p5 (kn : Value → Value → Value → Value → Value → World → Prop) (R : Value → World → Prop) (symbols_2 t6 f_9 c_12 left_13 : Value) (w : World) : Prop :=
  normal_Read_p4 kn R symbols_2 t6 f_9 c_12 left_13 w
theorem normal_Read_p5_ok (Q : Exit → Env → World → Prop) (g : Env) (w : World) (kn : Value → Value → Value → Value → Value → World → Prop) (R : Value → World → Prop) (hn : ∀ g w, kn (g 2) (g 6) (g 9) (g 12) (g 13) w → Q .normal g w) (hr : ∀ g w, (resVals pg rs_normal_Read g w fun vs => R (tup vs) w) → Q .ret g w) (h : normal_Read_p5 kn R (g 2) (g 6) (g 9) (g 12) (g 13) w) : den pg ann_normal_Read (dropS 1 (bI (bI (takeS 1 (dropS 7 code_normal_Read))))) Q g w :=
  den_blk 1 (dropS 1 (bI (bI (takeS 1 (dropS 7 code_normal_Read))))) g w (by kernel_rfl) (normal_Read_p4_ok (blk 1 Q) g w kn R hn hr h)

def normal_Read_p6 (kn : Value → Value → Value → Value → Value → World → Prop) (k0 : Value → Value → Value → World → Prop) (symbols_2 t6 f_9 c_12 left_13 : Value) (w : World) : Prop :=
  Stp pg (sBin .gtr 3 (.tmp 47) (.const (.int .i64 0)) left_13 (.int .i64 0)) w fun t48 w =>
  Cnd t48
    (kn symbols_2 t6 f_9 c_12 left_13 w)
    (k0 t6 f_9 c_12 w)
theorem normal_Read_p6_ok (Q : Exit → Env → World → Prop) (g : Env) (w : World) (kn : Value → Value → Value → Value → Value → World → Prop) (k0 : Value → Value → Value → World → Prop) (hn : ∀ g w, kn (g 2) (g 6) (g 9) (g 12) (g 13) w → Q .normal g w) (h0 : ∀ g w, k0 (g 6) (g 9) (g 12) w → Q (.exit 0) g w) (h : normal_Read_p6 kn k0 (g 2) (g 6) (g 9) (g 12) (g 13) w) : den pg ann_normal_Read (takeS 1 (bI (bI (takeS 1 (dropS 7 code_normal_Read))))) Q g w := by
  have e : (normal_Read_p6 kn k0 (g 2) (g 6) (g 9) (g 12) (g 13) w) = den pg ann_normal_Read (takeS 1 (bI (bI (takeS 1 (dropS 7 code_normal_Read))))) (exQ (fun g w => kn (g 2) (g 6) (g 9) (g 12) (g 13) w) (fun _ _ => False) [(0, fun g w => k0 (g 6) (g 9) (g 12) w)]) g w := by kernel_rfl
  exact den_exQ e h hn (fun _ _ h => h.elim) ⟨h0, trivial⟩

def normal_Read_p7 (kn : Value → Value → Value → Value → Value → World → Prop) (k0 : Value → Value → Value → World → Prop) (R : Value → World → Prop) (symbols_2 t6 f_9 c_12 left_13 : Value) (w : World) : Prop :=
  normal_Read_p6 (fun symbols_2 t6 f_9 c_12 left_13 w => normal_Read_p5 kn R symbols_2 t6 f_9 c_12 left_13 w) k0 symbols_2 t6 f_9 c_12 left_13 w
theorem normal_Read_p7_ok (Q : Exit → Env → World → Prop) (g : Env) (w : World) (kn : Value → Value → Value → Value → Value → World → Prop) (k0 : Value → Value → Value → World → Prop) (R : Value → World → Prop) (hn : ∀ g w, kn (g 2) (g 6) (g 9) (g 12) (g 13) w → Q .normal g w) (h0 : ∀ g w, k0 (g 6) (g 9) (g 12) w → Q (.exit 0) g w) (hr : ∀ g w, (resVals pg rs_normal_Read g w fun vs => R (tup vs) w) → Q .ret g w) (h : normal_Read_p7 kn k0 R (g 2) (g 6) (g 9) (g 12) (g 13) w) : den pg ann_normal_Read (bI (bI (takeS 1 (dropS 7 code_normal_Read)))) Q g w := by
  exact den_seqs 1 (bI (bI (takeS 1 (dropS 7 code_normal_Read)))) g w (by kernel_rfl) (normal_Read_p6_ok (thenE (fun g w => den pg ann_normal_Read (dropS 1 (bI (bI (takeS 1 (dropS 7 code_normal_Read))))) Q g w) Q) g w (fun symbols_2 t6 f_9 c_12 left_13 w => normal_Read_p5 kn R symbols_2 t6 f_9 c_12 left_13 w) k0 (fun g w h => thenE_n (K := fun g w => den pg ann_normal_Read (dropS 1 (bI (bI (takeS 1 (dropS 7 code_normal_Read))))) Q g w) (normal_Read_p5_ok Q g w kn R hn hr h)) h0 h)

def normal_Read_p8 (k0 : Value → Value → Value → World → Prop) (R : Value → World → Prop) (symbols_2 t6 f_9 c_12 left_13 : Value) (w : World) : Prop :=
  LoopD (fun (X : Value → World → Prop) (t : Value) (w : World) => normal_Read_p7 (fun _ _ _ _ left_13 w => X left_13 w) k0 R symbols_2 t6 f_9 c_12 t w) left_13 w
theorem normal_Read_p8_ok (Q : Exit → Env → World → Prop) (g : Env) (w : World) (k0 : Value → Value → Value → World → Prop) (R : Value → World → Prop) (h0 : ∀ g w, k0 (g 6) (g 9) (g 12) w → Q (.exit 0) g w) (hr : ∀ g w, (resVals pg rs_normal_Read g w fun vs => R (tup vs) w) → Q .ret g w) (h : normal_Read_p8 k0 R (g 2) (g 6) (g 9) (g 12) (g 13) w) : den pg ann_normal_Read (bI (takeS 1 (dropS 7 code_normal_Read))) Q g w := by
  refine den_loops (T := Value) (fun g : Env => g 13) (fun X t w => normal_Read_p7 (fun _ _ _ _ left_13 w => X left_13 w) k0 R (g 2) (g 6) (g 9) (g 12) t w) (bI (takeS 1 (dropS 7 code_normal_Read))) (by kernel_rfl) h (fun X g1 w1 ha h1 => ?_)
  rw [← agree_at (s := 2) ha (by kernel_rfl)] at h1
  rw [← agree_at (s := 6) ha (by kernel_rfl)] at h1
  rw [← agree_at (s := 9) ha (by kernel_rfl)] at h1
  rw [← agree_at (s := 12) ha (by kernel_rfl)] at h1
  exact (normal_Read_p7_ok (thenE (fun g2 w2 => X ((fun g : Env => g 13) g2) w2) Q) g1 w1 (fun _ _ _ _ left_13 w => X left_13 w) k0 R (fun _ _ h => h) h0 hr h1)

def normal_Read_p9 (kn : Value → Value → Value → World → Prop) (R : Value → World → Prop) (symbols_2 t6 f_9 c_12 left_13 : Value) (w : World) : Prop :=
  normal_Read_p8 kn R symbols_2 t6 f_9 c_12 left_13 w
theorem normal_Read_p9_ok (Q : Exit → Env → World → Prop) (g : Env) (w : World) (kn : Value → Value → Value → World → Prop) (R : Value → World → Prop) (hn : ∀ g w, kn (g 6) (g 9) (g 12) w → Q .normal g w) (hr : ∀ g w, (resVals pg rs_normal_Read g w fun vs => R (tup vs) w) → Q .ret g w) (h : normal_Read_p9 kn R (g 2) (g 6) (g 9) (g 12) (g 13) w) : den pg ann_normal_Read (takeS 1 (dropS 7 code_normal_Read)) Q g w :=
  den_blk 0 (takeS 1 (dropS 7 code_normal_Read)) g w (by kernel_rfl) (normal_Read_p8_ok (blk 0 Q) g w kn R hn hr h)

def normal_Read_p10 (R : Value → World → Prop) (symbols_2 t6 f_9 c_12 left_13 : Value) (w : World) : Prop :=
  normal_Read_p9 (fun t6 f_9 c_12 w => normal_Read_p1 R t6 f_9 c_12 w) R symbols_2 t6 f_9 c_12 left_13 w
theorem normal_Read_p10_ok (Q : Exit → Env → World → Prop) (g : Env) (w : World) (R : Value → World → Prop) (hr : ∀ g w, (resVals pg rs_normal_Read g w fun vs => R (tup vs) w) → Q .ret g w) (h : normal_Read_p10 R (g 2) (g 6) (g 9) (g 12) (g 13) w) : den pg ann_normal_Read (dropS 7 code_normal_Read) Q g w := by
  exact den_seqs 1 (dropS 7 code_normal_Read) g w (by kernel_rfl) (normal_Read_p9_ok (thenE (fun g w => den pg ann_normal_Read (dropS 1 (dropS 7 code_normal_Read)) Q g w) Q) g w (fun t6 f_9 c_12 w => normal_Read_p1 R t6 f_9 c_12 w) R (fun g w h => thenE_n (K := fun g w => den pg ann_normal_Read (dropS 1 (dropS 7 code_normal_Read)) Q g w) (normal_Read_p1_ok Q g w R hr h)) hr h)

def normal_Read_p11 (kn : Value → Value → Value → Value → Value → World → Prop) (R : Value → World → Prop) (b_0 most_1 symbols_2 : Value) (w : World) : Prop :=
  Stp pg (sAlloc 24) w fun t6 w =>
  Does pg F_bits_NewForward #[b_0] w fun t20 w =>
  Does pg F_bits_Forward_Read #[t20, (.int .i64 4)] w fun t23 w =>
  Stp pg (sExtr t23 0) w fun t24 w =>
  Stp pg (sExtr t23 1) w fun t25 w =>
  Stp pg (sBin .neq 29 (.tmp 26) (.const (.int .i64 0)) t25 (.int .i64 0)) w fun t27 w =>
  Cnd t27
    (Stp pg (sBuild 24 []) w fun t28 w =>
    Stp pg (sStore 24 t6 t28) w fun _u w =>
    LdR pg 24 t6 w fun r0 => R (.tuple #[r0, (.int .i64 0), t25]) w)
    (Stp pg (sCvt 45 3 t24) w fun t31 w =>
    Stp pg (sBin .add 3 (.tmp 31) (.const (.int .i64 5)) t31 (.int .i64 5)) w fun t32 w =>
    Stp pg (sBuild 24 [(0, t32)]) w fun t33 w =>
    Stp pg (sAlloc 24) w fun c_12 w =>
    Stp pg (sStore 24 c_12 t33) w fun _u w =>
    Stp pg (sFAddr 24 c_12 0) w fun t34 w =>
    Stp pg (sLoad 3 t34) w fun t35 w =>
    Stp pg (sBin .gtr 3 (.tmp 35) (.tmp 36) t35 most_1) w fun t37 w =>
    Gd (isB t37 false) (fun K => Stp pg (sFAddr 24 c_12 0) w K) w fun t39 w =>
    Gd (isB t37 false) (fun K => Stp pg (sLoad 3 t39) w K) w fun t40 w =>
    Gd (isB t37 false) (fun K => Stp pg (sBin .gtr 3 (.tmp 40) (.const (.int .i64 15)) t40 (.int .i64 15)) w K) w fun t41 w =>
    Stp pg (sPick t37 (.bool true) t41) w fun t42 w =>
    Cnd t42
      (Stp pg (sBuild 24 []) w fun t43 w =>
      Stp pg (sStore 24 t6 t43) w fun _u w =>
      LdR pg 24 t6 w fun r0 => R (.tuple #[r0, (.int .i64 0), (.int .i64 12)]) w)
      (Stp pg (sFAddr 24 c_12 0) w fun t44 w =>
      Stp pg (sLoad 3 t44) w fun t45 w =>
      Stp pg (sBin .shl 3 (.const (.int .i64 1)) (.tmp 45) (.int .i64 1) t45) w fun t46 w =>
      kn symbols_2 t6 t20 c_12 t46 w))
theorem normal_Read_p11_ok (Q : Exit → Env → World → Prop) (g : Env) (w : World) (kn : Value → Value → Value → Value → Value → World → Prop) (R : Value → World → Prop) (hn : ∀ g w, kn (g 2) (g 6) (g 9) (g 12) (g 13) w → Q .normal g w) (hr : ∀ g w, (resVals pg rs_normal_Read g w fun vs => R (tup vs) w) → Q .ret g w) (h : normal_Read_p11 kn R (g 0) (g 1) (g 2) w) : den pg ann_normal_Read (takeS 7 code_normal_Read) Q g w := by
  have e : (normal_Read_p11 kn R (g 0) (g 1) (g 2) w) = den pg ann_normal_Read (takeS 7 code_normal_Read) (exQ (fun g w => kn (g 2) (g 6) (g 9) (g 12) (g 13) w) (fun g w => resVals pg rs_normal_Read g w fun vs => R (tup vs) w) []) g w := by kernel_rfl
  exact den_exQ e h hn hr trivial

def normal_Read_p12 (R : Value → World → Prop) (b_0 most_1 symbols_2 : Value) (w : World) : Prop :=
  normal_Read_p11 (fun symbols_2 t6 f_9 c_12 left_13 w => normal_Read_p10 R symbols_2 t6 f_9 c_12 left_13 w) R b_0 most_1 symbols_2 w
theorem normal_Read_p12_ok (Q : Exit → Env → World → Prop) (g : Env) (w : World) (R : Value → World → Prop) (hr : ∀ g w, (resVals pg rs_normal_Read g w fun vs => R (tup vs) w) → Q .ret g w) (h : normal_Read_p12 R (g 0) (g 1) (g 2) w) : den pg ann_normal_Read code_normal_Read Q g w := by
  exact den_seqs 7 code_normal_Read g w (by kernel_rfl) (normal_Read_p11_ok (thenE (fun g w => den pg ann_normal_Read (dropS 7 code_normal_Read) Q g w) Q) g w (fun symbols_2 t6 f_9 c_12 left_13 w => normal_Read_p10 R symbols_2 t6 f_9 c_12 left_13 w) R (fun g w h => thenE_n (K := fun g w => den pg ann_normal_Read (dropS 7 code_normal_Read) Q g w) (normal_Read_p10_ok Q g w R hr h)) hr h)

def normal_Read (a0 a1 a2 : Value) (w : World) (R : Value → World → Prop) : Prop :=
  normal_Read_p12 R a0 a1 a2 w
theorem normal_Read_does {a0 a1 a2 : Value} {w : World} {R : Value → World → Prop} (h : normal_Read a0 a1 a2 w R) : Does pg F_normal_Read #[a0, a1, a2] w R := by
  refine does_of_den (ann := ann_normal_Read) (fn := Try.f34) (c := code_normal_Read) (args := [a0, a1, a2]) (rs := rs_normal_Read) (N := 104) TryM.mixed (by kernel_rfl) Try.func34 (by kernel_rfl) (by kernel_rfl) (by kernel_rfl) (of_decide_eq_true (by kernel_rfl)) (by kernel_rfl) ?_
  exact (normal_Read_p12_ok (retQ pg rs_normal_Read R) (envOf [a0, a1, a2]) w R (fun _ _ h => h) h)
-- PIECES normal_Read/0 normal_Read_p1 normal_Read_p8 normal_Read_p9 normal_Read_p10 normal_Read_p11 normal_Read_p12
-- PIECES normal_Read/1 normal_Read_p2 normal_Read_p3 normal_Read_p4 normal_Read_p5 normal_Read_p6 normal_Read_p7

/- lighterman/lightermanref06.Read -/
def ann_ref06_Read : FA := ⟨F_ref06_Read, fun i => match Nat.beq i 30 with | true => .leaf ([2, 3], [(0, 2)]) [(false, []), (false, []), (true, [1]), (true, []), (false, []), (false, [])] | false => .leaf ([], []) []⟩
def rs_ref06_Read : List ResultVar := [.cell 6 37, .tmp 7, .tmp 8]
noncomputable def code_ref06_Read : Code := bodyOf Try.f35
def ref06_Read_p1 (R : Value → World → Prop) (t6 f_9 c_12 : Value) (w : World) : Prop :=
  Stp pg (sLoad 37 c_12) (dr w) fun t111 w_ => w_ = (dr w) ∧
  Stp pg (sLoad 119 f_9) (dr w) fun t112 w_ => w_ = (dr w) ∧
  Does pg F_ref05_Used #[t112] (dr w) fun t113 w30_2 =>
  (Same pg (sLoad 37 c_12) t111 w30_2 ∧ True) ∧
  Stp pg (sStore 37 t6 t111) w30_2 fun _u3 w30_3 =>
  w30_3 = w30_3 ∧
  w30_3 = w30_3 ∧
  LdR pg 37 t6 w30_3 fun r0 => R (.tuple #[r0, t113, (.int .i64 0)]) w30_3
theorem ref06_Read_p1_ok (Q : Exit → Env → World → Prop) (g : Env) (w : World) (R : Value → World → Prop) (hr : ∀ g w, (resVals pg rs_ref06_Read g w fun vs => R (tup vs) w) → Q .ret g w) (h : ref06_Read_p1 R (g 6) (g 9) (g 12) w) : den pg ann_ref06_Read (dropS 1 (dropS 7 code_ref06_Read)) Q g w := by
  have e : (ref06_Read_p1 R (g 6) (g 9) (g 12) w) = den pg ann_ref06_Read (dropS 1 (dropS 7 code_ref06_Read)) (exQ (fun _ _ => False) (fun g w => resVals pg rs_ref06_Read g w fun vs => R (tup vs) w) []) g w := by kernel_rfl
  exact den_exQ e h (fun _ _ h => h.elim) hr trivial

def ref06_Read_p2 (kn : Value → Value → Value → Value → Value → World → Prop) (R : Value → World → Prop) (symbols_2 t6 f_9 c_12 left_13 : Value) (w : World) : Prop :=
  Stp pg (sFAddr 37 c_12 1) w fun t101 w =>
  Stp pg (sLoad 22 t101) w fun t102 w =>
  Stp pg (sBi .len #[22] 3 [t102]) w fun t103 w =>
  Stp pg (sBin .gtr 3 (.tmp 103) (.tmp 104) t103 symbols_2) w fun t105 w =>
  Gd (isB t105 false) (fun K => K left_13 w) w fun t107 w =>
  Gd (isB t105 false) (fun K => Stp pg (sBin .lss 3 (.tmp 107) (.const (.int .i64 0)) t107 (.int .i64 0)) w K) w fun t108 w =>
  Stp pg (sPick t105 (.bool true) t108) w fun t109 w =>
  Cnd t109
    (Stp pg (sBuild 37 []) w fun t110 w =>
    Stp pg (sStore 37 t6 t110) w fun _u w =>
    LdR pg 37 t6 w fun r0 => R (.tuple #[r0, (.int .i64 0), (.int .i64 11)]) w)
    (kn symbols_2 t6 f_9 c_12 left_13 w)
theorem ref06_Read_p2_ok (Q : Exit → Env → World → Prop) (g : Env) (w : World) (kn : Value → Value → Value → Value → Value → World → Prop) (R : Value → World → Prop) (hn : ∀ g w, kn (g 2) (g 6) (g 9) (g 12) (g 13) w → Q .normal g w) (hr : ∀ g w, (resVals pg rs_ref06_Read g w fun vs => R (tup vs) w) → Q .ret g w) (h : ref06_Read_p2 kn R (g 2) (g 6) (g 9) (g 12) (g 13) w) : den pg ann_ref06_Read (dropS 1 (dropS 1 (dropS 5 (bI (dropS 1 (bI (bI (takeS 1 (dropS 7 code_ref06_Read))))))))) Q g w := by
  have e : (ref06_Read_p2 kn R (g 2) (g 6) (g 9) (g 12) (g 13) w) = den pg ann_ref06_Read (dropS 1 (dropS 1 (dropS 5 (bI (dropS 1 (bI (bI (takeS 1 (dropS 7 code_ref06_Read))))))))) (exQ (fun g w => kn (g 2) (g 6) (g 9) (g 12) (g 13) w) (fun g w => resVals pg rs_ref06_Read g w fun vs => R (tup vs) w) []) g w := by kernel_rfl
  exact den_exQ e h hn hr trivial

def ref06_Read_p3 (kn : Value → Value → Value → Value → Value → Value → World → Prop) (symbols_2 t6 f_9 x_10 c_12 left_13 : Value) (w : World) : Prop :=
  Stp pg (sBin .eql 45 (.tmp 99) (.const (.int .u64 3)) x_10 (.int .u64 3)) w fun t100 w =>
  kn symbols_2 t6 f_9 c_12 left_13 t100 w
theorem ref06_Read_p3_ok (Q : Exit → Env → World → Prop) (g : Env) (w : World) (kn : Value → Value → Value → Value → Value → Value → World → Prop) (hn : ∀ g w, kn (g 2) (g 6) (g 9) (g 12) (g 13) (g 15) w → Q .normal g w) (h : ref06_Read_p3 kn (g 2) (g 6) (g 9) (g 10) (g 12) (g 13) w) : den pg ann_ref06_Read (dropS 1 (dropS 2 (bI (dropS 1 (bI (bI (takeS 1 (dropS 1 (dropS 5 (bI (dropS 1 (bI (bI (takeS 1 (dropS 7 code_ref06_Read))))))))))))))) Q g w := by
  have e : (ref06_Read_p3 kn (g 2) (g 6) (g 9) (g 10) (g 12) (g 13) w) = den pg ann_ref06_Read (dropS 1 (dropS 2 (bI (dropS 1 (bI (bI (takeS 1 (dropS 1 (dropS 5 (bI (dropS 1 (bI (bI (takeS 1 (dropS 7 code_ref06_Read))))))))))))))) (exQ (fun g w => kn (g 2) (g 6) (g 9) (g 12) (g 13) (g 15) w) (fun _ _ => False) []) g w := by kernel_rfl
  exact den_exQ e h hn (fun _ _ h => h.elim) trivial

def ref06_Read_p4 (kn : Value → Value → Value → Value → Value → Value → Value → World → Prop) (k4 : Value → Value → Value → Value → Value → Value → World → Prop) (symbols_2 t6 f_9 x_10 c_12 left_13 i_16 : Value) (w : World) : Prop :=
  Stp pg (sCvt 45 3 x_10) w fun t90 w =>
  Stp pg (sBin .lss 3 (.tmp 88) (.tmp 90) i_16 t90) w fun t91 w =>
  Cnd t91
    (Stp pg (sFAddr 37 c_12 1) w fun t94 w =>
    Stp pg (sLoad 22 t94) w fun t95 w =>
    Stp pg (sBuildSlice 22 1 [(0, (.int .i64 0))]) w fun t96 w =>
    Stp pg (sBi .append #[22, 22] 22 [t95, t96]) w fun t97 w =>
    Stp pg (sFAddr 37 c_12 1) w fun t98 w =>
    Stp pg (sStore 22 t98 t97) w fun _u w =>
    Stp pg (sBin .add 3 (.tmp 92) (.const (.int .i64 1)) i_16 (.int .i64 1)) w fun t93 w =>
    kn symbols_2 t6 f_9 x_10 c_12 left_13 t93 w)
    (k4 symbols_2 t6 f_9 x_10 c_12 left_13 w)
theorem ref06_Read_p4_ok (Q : Exit → Env → World → Prop) (g : Env) (w : World) (kn : Value → Value → Value → Value → Value → Value → Value → World → Prop) (k4 : Value → Value → Value → Value → Value → Value → World → Prop) (hn : ∀ g w, kn (g 2) (g 6) (g 9) (g 10) (g 12) (g 13) (g 16) w → Q .normal g w) (h4 : ∀ g w, k4 (g 2) (g 6) (g 9) (g 10) (g 12) (g 13) w → Q (.exit 4) g w) (h : ref06_Read_p4 kn k4 (g 2) (g 6) (g 9) (g 10) (g 12) (g 13) (g 16) w) : den pg ann_ref06_Read (bI (bI (dropS 1 (takeS 1 (dropS 2 (bI (dropS 1 (bI (bI (takeS 1 (dropS 1 (dropS 5 (bI (dropS 1 (bI (bI (takeS 1 (dropS 7 code_ref06_Read)))))))))))))))))) Q g w := by
  have e : (ref06_Read_p4 kn k4 (g 2) (g 6) (g 9) (g 10) (g 12) (g 13) (g 16) w) = den pg ann_ref06_Read (bI (bI (dropS 1 (takeS 1 (dropS 2 (bI (dropS 1 (bI (bI (takeS 1 (dropS 1 (dropS 5 (bI (dropS 1 (bI (bI (takeS 1 (dropS 7 code_ref06_Read)))))))))))))))))) (exQ (fun g w => kn (g 2) (g 6) (g 9) (g 10) (g 12) (g 13) (g 16) w) (fun _ _ => False) [(4, fun g w => k4 (g 2) (g 6) (g 9) (g 10) (g 12) (g 13) w)]) g w := by kernel_rfl
  exact den_exQ e h hn (fun _ _ h => h.elim) ⟨h4, trivial⟩

def ref06_Read_p5 (k4 : Value → Value → Value → Value → Value → Value → World → Prop) (symbols_2 t6 f_9 x_10 c_12 left_13 i_16 : Value) (w : World) : Prop :=
  LoopD (fun (X : Value → World → Prop) (t : Value) (w : World) => ref06_Read_p4 (fun _ _ _ _ _ _ i_16 w => X i_16 w) k4 symbols_2 t6 f_9 x_10 c_12 left_13 t w) i_16 w
theorem ref06_Read_p5_ok (Q : Exit → Env → World → Prop) (g : Env) (w : World) (k4 : Value → Value → Value → Value → Value → Value → World → Prop) (h4 : ∀ g w, k4 (g 2) (g 6) (g 9) (g 10) (g 12) (g 13) w → Q (.exit 4) g w) (h : ref06_Read_p5 k4 (g 2) (g 6) (g 9) (g 10) (g 12) (g 13) (g 16) w) : den pg ann_ref06_Read (bI (dropS 1 (takeS 1 (dropS 2 (bI (dropS 1 (bI (bI (takeS 1 (dropS 1 (dropS 5 (bI (dropS 1 (bI (bI (takeS 1 (dropS 7 code_ref06_Read))))))))))))))))) Q g w := by
  refine den_loops (T := Value) (fun g : Env => g 16) (fun X t w => ref06_Read_p4 (fun _ _ _ _ _ _ i_16 w => X i_16 w) k4 (g 2) (g 6) (g 9) (g 10) (g 12) (g 13) t w) (bI (dropS 1 (takeS 1 (dropS 2 (bI (dropS 1 (bI (bI (takeS 1 (dropS 1 (dropS 5 (bI (dropS 1 (bI (bI (takeS 1 (dropS 7 code_ref06_Read))))))))))))))))) (by kernel_rfl) h (fun X g1 w1 ha h1 => ?_)
  rw [← agree_at (s := 2) ha (by kernel_rfl)] at h1
  rw [← agree_at (s := 6) ha (by kernel_rfl)] at h1
  rw [← agree_at (s := 9) ha (by kernel_rfl)] at h1
  rw [← agree_at (s := 10) ha (by kernel_rfl)] at h1
  rw [← agree_at (s := 12) ha (by kernel_rfl)] at h1
  rw [← agree_at (s := 13) ha (by kernel_rfl)] at h1
  exact (ref06_Read_p4_ok (thenE (fun g2 w2 => X ((fun g : Env => g 16) g2) w2) Q) g1 w1 (fun _ _ _ _ _ _ i_16 w => X i_16 w) k4 (fun _ _ h => h) h4 h1)

def ref06_Read_p6 (kn : Value → Value → Value → Value → Value → Value → World → Prop) (symbols_2 t6 f_9 x_10 c_12 left_13 i_16 : Value) (w : World) : Prop :=
  ref06_Read_p5 kn symbols_2 t6 f_9 x_10 c_12 left_13 i_16 w
theorem ref06_Read_p6_ok (Q : Exit → Env → World → Prop) (g : Env) (w : World) (kn : Value → Value → Value → Value → Value → Value → World → Prop) (hn : ∀ g w, kn (g 2) (g 6) (g 9) (g 10) (g 12) (g 13) w → Q .normal g w) (h : ref06_Read_p6 kn (g 2) (g 6) (g 9) (g 10) (g 12) (g 13) (g 16) w) : den pg ann_ref06_Read (dropS 1 (takeS 1 (dropS 2 (bI (dropS 1 (bI (bI (takeS 1 (dropS 1 (dropS 5 (bI (dropS 1 (bI (bI (takeS 1 (dropS 7 code_ref06_Read)))))))))))))))) Q g w :=
  den_blk 4 (dropS 1 (takeS 1 (dropS 2 (bI (dropS 1 (bI (bI (takeS 1 (dropS 1 (dropS 5 (bI (dropS 1 (bI (bI (takeS 1 (dropS 7 code_ref06_Read)))))))))))))))) g w (by kernel_rfl) (ref06_Read_p5_ok (blk 4 Q) g w kn hn h)

def ref06_Read_p7 (kn : Value → Value → Value → Value → Value → Value → Value → World → Prop) (symbols_2 t6 f_9 x_10 c_12 left_13 : Value) (w : World) : Prop :=
  kn symbols_2 t6 f_9 x_10 c_12 left_13 (.int .i64 0) w
theorem ref06_Read_p7_ok (Q : Exit → Env → World → Prop) (g : Env) (w : World) (kn : Value → Value → Value → Value → Value → Value → Value → World → Prop) (hn : ∀ g w, kn (g 2) (g 6) (g 9) (g 10) (g 12) (g 13) (g 16) w → Q .normal g w) (h : ref06_Read_p7 kn (g 2) (g 6) (g 9) (g 10) (g 12) (g 13) w) : den pg ann_ref06_Read (takeS 1 (takeS 1 (dropS 2 (bI (dropS 1 (bI (bI (takeS 1 (dropS 1 (dropS 5 (bI (dropS 1 (bI (bI (takeS 1 (dropS 7 code_ref06_Read)))))))))))))))) Q g w := by
  have e : (ref06_Read_p7 kn (g 2) (g 6) (g 9) (g 10) (g 12) (g 13) w) = den pg ann_ref06_Read (takeS 1 (takeS 1 (dropS 2 (bI (dropS 1 (bI (bI (takeS 1 (dropS 1 (dropS 5 (bI (dropS 1 (bI (bI (takeS 1 (dropS 7 code_ref06_Read)))))))))))))))) (exQ (fun g w => kn (g 2) (g 6) (g 9) (g 10) (g 12) (g 13) (g 16) w) (fun _ _ => False) []) g w := by kernel_rfl
  exact den_exQ e h hn (fun _ _ h => h.elim) trivial

def ref06_Read_p8 (kn : Value → Value → Value → Value → Value → Value → World → Prop) (symbols_2 t6 f_9 x_10 c_12 left_13 : Value) (w : World) : Prop :=
  ref06_Read_p7 (fun symbols_2 t6 f_9 x_10 c_12 left_13 i_16 w => ref06_Read_p6 kn symbols_2 t6 f_9 x_10 c_12 left_13 i_16 w) symbols_2 t6 f_9 x_10 c_12 left_13 w
theorem ref06_Read_p8_ok (Q : Exit → Env → World → Prop) (g : Env) (w : World) (kn : Value → Value → Value → Value → Value → Value → World → Prop) (hn : ∀ g w, kn (g 2) (g 6) (g 9) (g 10) (g 12) (g 13) w → Q .normal g w) (h : ref06_Read_p8 kn (g 2) (g 6) (g 9) (g 10) (g 12) (g 13) w) : den pg ann_ref06_Read (takeS 1 (dropS 2 (bI (dropS 1 (bI (bI (takeS 1 (dropS 1 (dropS 5 (bI (dropS 1 (bI (bI (takeS 1 (dropS 7 code_ref06_Read))))))))))))))) Q g w := by
  exact den_seqs 1 (takeS 1 (dropS 2 (bI (dropS 1 (bI (bI (takeS 1 (dropS 1 (dropS 5 (bI (dropS 1 (bI (bI (takeS 1 (dropS 7 code_ref06_Read))))))))))))))) g w (by kernel_rfl) (ref06_Read_p7_ok (thenE (fun g w => den pg ann_ref06_Read (dropS 1 (takeS 1 (dropS 2 (bI (dropS 1 (bI (bI (takeS 1 (dropS 1 (dropS 5 (bI (dropS 1 (bI (bI (takeS 1 (dropS 7 code_ref06_Read)))))))))))))))) Q g w) Q) g w (fun symbols_2 t6 f_9 x_10 c_12 left_13 i_16 w => ref06_Read_p6 kn symbols_2 t6 f_9 x_10 c_12 left_13 i_16 w) (fun g w h => thenE_n (K := fun g w => den pg ann_ref06_Read (dropS 1 (takeS 1 (dropS 2 (bI (dropS 1 (bI (bI (takeS 1 (dropS 1 (dropS 5 (bI (dropS 1 (bI (bI (takeS 1 (dropS 7 code_ref06_Read)))))))))))))))) Q g w) (ref06_Read_p6_ok Q g w kn hn h)) h)

def ref06_Read_p9 (kn : Value → Value → Value → Value → Value → Value → World → Prop) (symbols_2 t6 f_9 x_10 c_12 left_13 : Value) (w : World) : Prop :=
  ref06_Read_p8 (fun symbols_2 t6 f_9 x_10 c_12 left_13 w => ref06_Read_p3 kn symbols_2 t6 f_9 x_10 c_12 left_13 w) symbols_2 t6 f_9 x_10 c_12 left_13 w
theorem ref06_Read_p9_ok (Q : Exit → Env → World → Prop) (g : Env) (w : World) (kn : Value → Value → Value → Value → Value → Value → World → Prop) (hn : ∀ g w, kn (g 2) (g 6) (g 9) (g 12) (g 13) (g 15) w → Q .normal g w) (h : ref06_Read_p9 kn (g 2) (g 6) (g 9) (g 10) (g 12) (g 13) w) : den pg ann_ref06_Read (dropS 2 (bI (dropS 1 (bI (bI (takeS 1 (dropS 1 (dropS 5 (bI (dropS 1 (bI (bI (takeS 1 (dropS 7 code_ref06_Read)))))))))))))) Q g w := by
  exact den_seqs 1 (dropS 2 (bI (dropS 1 (bI (bI (takeS 1 (dropS 1 (dropS 5 (bI (dropS 1 (bI (bI (takeS 1 (dropS 7 code_ref06_Read)))))))))))))) g w (by kernel_rfl) (ref06_Read_p8_ok (thenE (fun g w => den pg ann_ref06_Read (dropS 1 (dropS 2 (bI (dropS 1 (bI (bI (takeS 1 (dropS 1 (dropS 5 (bI (dropS 1 (bI (bI (takeS 1 (dropS 7 code_ref06_Read))))))))))))))) Q g w) Q) g w (fun symbols_2 t6 f_9 x_10 c_12 left_13 w => ref06_Read_p3 kn symbols_2 t6 f_9 x_10 c_12 left_13 w) (fun g w h => thenE_n (K := fun g w => den pg ann_ref06_Read (dropS 1 (dropS 2 (bI (dropS 1 (bI (bI (takeS 1 (dropS 1 (dropS 5 (bI (dropS 1 (bI (bI (takeS 1 (dropS 7 code_ref06_Read))))))))))))))) Q g w) (ref06_Read_p3_ok Q g w kn hn h)) h)

def ref06_Read_p10 (kn : Value → Value → Value → Value → Value → Value → World → Prop) (R : Value → World → Prop) (symbols_2 t6 f_9 c_12 left_13 : Value) (w : World) : Prop :=
  Stp pg (sLoad 119 f_9) w fun t79 w =>
  Does pg F_ref05_Read #[t79, (.int .i64 2)] w fun t80 w =>
  Stp pg (sExtr t80 0) w fun t81 w =>
  Stp pg (sExtr t80 1) w fun t82 w =>
  Stp pg (sExtr t80 2) w fun t83 w =>
  Stp pg (sStore 119 f_9 t81) w fun _u w =>
  Stp pg (sBin .neq 29 (.tmp 84) (.const (.int .i64 0)) t83 (.int .i64 0)) w fun t85 w =>
  Cnd t85
    (Stp pg (sBuild 37 []) w fun t86 w =>
    Stp pg (sStore 37 t6 t86) w fun _u w =>
    LdR pg 37 t6 w fun r0 => R (.tuple #[r0, (.int .i64 0), t83]) w)
    (kn symbols_2 t6 f_9 t82 c_12 left_13 w)
theorem ref06_Read_p10_ok (Q : Exit → Env → World → Prop) (g : Env) (w : World) (kn : Value → Value → Value → Value → Value → Value → World → Prop) (R : Value → World → Prop) (hn : ∀ g w, kn (g 2) (g 6) (g 9) (g 10) (g 12) (g 13) w → Q .normal g w) (hr : ∀ g w, (resVals pg rs_ref06_Read g w fun vs => R (tup vs) w) → Q .ret g w) (h : ref06_Read_p10 kn R (g 2) (g 6) (g 9) (g 12) (g 13) w) : den pg ann_ref06_Read (takeS 2 (bI (dropS 1 (bI (bI (takeS 1 (dropS 1 (dropS 5 (bI (dropS 1 (bI (bI (takeS 1 (dropS 7 code_ref06_Read)))))))))))))) Q g w := by
  have e : (ref06_Read_p10 kn R (g 2) (g 6) (g 9) (g 12) (g 13) w) = den pg ann_ref06_Read (takeS 2 (bI (dropS 1 (bI (bI (takeS 1 (dropS 1 (dropS 5 (bI (dropS 1 (bI (bI (takeS 1 (dropS 7 code_ref06_Read)))))))))))))) (exQ (fun g w => kn (g 2) (g 6) (g 9) (g 10) (g 12) (g 13) w) (fun g w => resVals pg rs_ref06_Read g w fun vs => R (tup vs) w) []) g w := by kernel_rfl
  exact den_exQ e h hn hr trivial

def ref06_Read_p11 (kn : Value → Value → Value → Value → Value → Value → World → Prop) (R : Value → World → Prop) (symbols_2 t6 f_9 c_12 left_13 : Value) (w : World) : Prop :=
  ref06_Read_p10 (fun symbols_2 t6 f_9 x_10 c_12 left_13 w => ref06_Read_p9 kn symbols_2 t6 f_9 x_10 c_12 left_13 w) R symbols_2 t6 f_9 c_12 left_13 w
theorem ref06_Read_p11_ok (Q : Exit → Env → World → Prop) (g : Env) (w : World) (kn : Value → Value → Value → Value → Value → Value → World → Prop) (R : Value → World → Prop) (hn : ∀ g w, kn (g 2) (g 6) (g 9) (g 12) (g 13) (g 15) w → Q .normal g w) (hr : ∀ g w, (resVals pg rs_ref06_Read g w fun vs => R (tup vs) w) → Q .ret g w) (h : ref06_Read_p11 kn R (g 2) (g 6) (g 9) (g 12) (g 13) w) : den pg ann_ref06_Read (bI (dropS 1 (bI (bI (takeS 1 (dropS 1 (dropS 5 (bI (dropS 1 (bI (bI (takeS 1 (dropS 7 code_ref06_Read))))))))))))) Q g w := by
  exact den_seqs 2 (bI (dropS 1 (bI (bI (takeS 1 (dropS 1 (dropS 5 (bI (dropS 1 (bI (bI (takeS 1 (dropS 7 code_ref06_Read))))))))))))) g w (by kernel_rfl) (ref06_Read_p10_ok (thenE (fun g w => den pg ann_ref06_Read (dropS 2 (bI (dropS 1 (bI (bI (takeS 1 (dropS 1 (dropS 5 (bI (dropS 1 (bI (bI (takeS 1 (dropS 7 code_ref06_Read)))))))))))))) Q g w) Q) g w (fun symbols_2 t6 f_9 x_10 c_12 left_13 w => ref06_Read_p9 kn symbols_2 t6 f_9 x_10 c_12 left_13 w) R (fun g w h => thenE_n (K := fun g w => den pg ann_ref06_Read (dropS 2 (bI (dropS 1 (bI (bI (takeS 1 (dropS 1 (dropS 5 (bI (dropS 1 (bI (bI (takeS 1 (dropS 7 code_ref06_Read)))))))))))))) Q g w) (ref06_Read_p9_ok Q g w kn hn h)) hr h)

def ref06_Read_p12 (kn : Value → Value → Value → Value → Value → Value → World → Prop) (R : Value → World → Prop) (symbols_2 t6 f_9 c_12 left_13 : Value) (w : World) : Prop :=
  ref06_Read_p11 kn R symbols_2 t6 f_9 c_12 left_13 w
theorem ref06_Read_p12_ok (Q : Exit → Env → World → Prop) (g : Env) (w : World) (kn : Value → Value → Value → Value → Value → Value → World → Prop) (R : Value → World → Prop) (hn : ∀ g w, kn (g 2) (g 6) (g 9) (g 12) (g 13) (g 15) w → Q .normal g w) (hr : ∀ g w, (resVals pg rs_ref06_Read g w fun vs => R (tup vs) w) → Q .ret g w) (h : ref06_Read_p12 kn R (g 2) (g 6) (g 9) (g 12) (g 13) w) : den pg ann_ref06_Read (dropS 1 (bI (bI (takeS 1 (dropS 1 (dropS 5 (bI (dropS 1 (bI (bI (takeS 1 (dropS 7 code_ref06_Read)))))))))))) Q g w :=
  den_blk 3 (dropS 1 (bI (bI (takeS 1 (dropS 1 (dropS 5 (bI (dropS 1 (bI (bI (takeS 1 (dropS 7 code_ref06_Read)))))))))))) g w (by kernel_rfl) (ref06_Read_p11_ok (blk 3 Q) g w kn R hn hr h)

def ref06_Read_p13 (kn : Value → Value → Value → Value → Value → World → Prop) (k2 : Value → Value → Value → Value → Value → World → Prop) (symbols_2 t6 f_9 c_12 left_13 t15 : Value) (w : World) : Prop :=
  Cnd t15
    (kn symbols_2 t6 f_9 c_12 left_13 w)
    (k2 symbols_2 t6 f_9 c_12 left_13 w)
theorem ref06_Read_p13_ok (Q : Exit → Env → World → Prop) (g : Env) (w : World) (kn : Value → Value → Value → Value → Value → World → Prop) (k2 : Value → Value → Value → Value → Value → World → Prop) (hn : ∀ g w, kn (g 2) (g 6) (g 9) (g 12) (g 13) w → Q .normal g w) (h2 : ∀ g w, k2 (g 2) (g 6) (g 9) (g 12) (g 13) w → Q (.exit 2) g w) (h : ref06_Read_p13 kn k2 (g 2) (g 6) (g 9) (g 12) (g 13) (g 15) w) : den pg ann_ref06_Read (takeS 1 (bI (bI (takeS 1 (dropS 1 (dropS 5 (bI (dropS 1 (bI (bI (takeS 1 (dropS 7 code_ref06_Read)))))))))))) Q g w := by
  have e : (ref06_Read_p13 kn k2 (g 2) (g 6) (g 9) (g 12) (g 13) (g 15) w) = den pg ann_ref06_Read (takeS 1 (bI (bI (takeS 1 (dropS 1 (dropS 5 (bI (dropS 1 (bI (bI (takeS 1 (dropS 7 code_ref06_Read)))))))))))) (exQ (fun g w => kn (g 2) (g 6) (g 9) (g 12) (g 13) w) (fun _ _ => False) [(2, fun g w => k2 (g 2) (g 6) (g 9) (g 12) (g 13) w)]) g w := by kernel_rfl
  exact den_exQ e h hn (fun _ _ h => h.elim) ⟨h2, trivial⟩

def ref06_Read_p14 (kn : Value → Value → Value → Value → Value → Value → World → Prop) (k2 : Value → Value → Value → Value → Value → World → Prop) (R : Value → World → Prop) (symbols_2 t6 f_9 c_12 left_13 t15 : Value) (w : World) : Prop :=
  ref06_Read_p13 (fun symbols_2 t6 f_9 c_12 left_13 w => ref06_Read_p12 kn R symbols_2 t6 f_9 c_12 left_13 w) k2 symbols_2 t6 f_9 c_12 left_13 t15 w
theorem ref06_Read_p14_ok (Q : Exit → Env → World → Prop) (g : Env) (w : World) (kn : Value → Value → Value → Value → Value → Value → World → Prop) (k2 : Value → Value → Value → Value → Value → World → Prop) (R : Value → World → Prop) (hn : ∀ g w, kn (g 2) (g 6) (g 9) (g 12) (g 13) (g 15) w → Q .normal g w) (h2 : ∀ g w, k2 (g 2) (g 6) (g 9) (g 12) (g 13) w → Q (.exit 2) g w) (hr : ∀ g w, (resVals pg rs_ref06_Read g w fun vs => R (tup vs) w) → Q .ret g w) (h : ref06_Read_p14 kn k2 R (g 2) (g 6) (g 9) (g 12) (g 13) (g 15) w) : den pg ann_ref06_Read (bI (bI (takeS 1 (dropS 1 (dropS 5 (bI (dropS 1 (bI (bI (takeS 1 (dropS 7 code_ref06_Read))))))))))) Q g w := by
  exact den_seqs 1 (bI (bI (takeS 1 (dropS 1 (dropS 5 (bI (dropS 1 (bI (bI (takeS 1 (dropS 7 code_ref06_Read))))))))))) g w (by kernel_rfl) (ref06_Read_p13_ok (thenE (fun g w => den pg ann_ref06_Read (dropS 1 (bI (bI (takeS 1 (dropS 1 (dropS 5 (bI (dropS 1 (bI (bI (takeS 1 (dropS 7 code_ref06_Read)))))))))))) Q g w) Q) g w (fun symbols_2 t6 f_9 c_12 left_13 w => ref06_Read_p12 kn R symbols_2 t6 f_9 c_12 left_13 w) k2 (fun g w h => thenE_n (K := fun g w => den pg ann_ref06_Read (dropS 1 (bI (bI (takeS 1 (dropS 1 (dropS 5 (bI (dropS 1 (bI (bI (takeS 1 (dropS 7 code_ref06_Read)))))))))))) Q g w) (ref06_Read_p12_ok Q g w kn R hn hr h)) h2 h)

def ref06_Read_p15 (k2 : Value → Value → Value → Value → Value → World → Prop) (R : Value → World → Prop) (symbols_2 t6 f_9 c_12 left_13 t15 : Value) (w : World) : Prop :=
  LoopD (fun (X : Value → World → Prop) (t : Value) (w : World) => ref06_Read_p14 (fun _ _ _ _ _ t15 w => X t15 w) k2 R symbols_2 t6 f_9 c_12 left_13 t w) t15 w
theorem ref06_Read_p15_ok (Q : Exit → Env → World → Prop) (g : Env) (w : World) (k2 : Value → Value → Value → Value → Value → World → Prop) (R : Value → World → Prop) (h2 : ∀ g w, k2 (g 2) (g 6) (g 9) (g 12) (g 13) w → Q (.exit 2) g w) (hr : ∀ g w, (resVals pg rs_ref06_Read g w fun vs => R (tup vs) w) → Q .ret g w) (h : ref06_Read_p15 k2 R (g 2) (g 6) (g 9) (g 12) (g 13) (g 15) w) : den pg ann_ref06_Read (bI (takeS 1 (dropS 1 (dropS 5 (bI (dropS 1 (bI (bI (takeS 1 (dropS 7 code_ref06_Read)))))))))) Q g w := by
  refine den_loops (T := Value) (fun g : Env => g 15) (fun X t w => ref06_Read_p14 (fun _ _ _ _ _ t15 w => X t15 w) k2 R (g 2) (g 6) (g 9) (g 12) (g 13) t w) (bI (takeS 1 (dropS 1 (dropS 5 (bI (dropS 1 (bI (bI (takeS 1 (dropS 7 code_ref06_Read)))))))))) (by kernel_rfl) h (fun X g1 w1 ha h1 => ?_)
  rw [← agree_at (s := 2) ha (by kernel_rfl)] at h1
  rw [← agree_at (s := 6) ha (by kernel_rfl)] at h1
  rw [← agree_at (s := 9) ha (by kernel_rfl)] at h1
  rw [← agree_at (s := 12) ha (by kernel_rfl)] at h1
  rw [← agree_at (s := 13) ha (by kernel_rfl)] at h1
  exact (ref06_Read_p14_ok (thenE (fun g2 w2 => X ((fun g : Env => g 15) g2) w2) Q) g1 w1 (fun _ _ _ _ _ t15 w => X t15 w) k2 R (fun _ _ h => h) h2 hr h1)

def ref06_Read_p16 (kn : Value → Value → Value → Value → Value → World → Prop) (R : Value → World → Prop) (symbols_2 t6 f_9 c_12 left_13 t15 : Value) (w : World) : Prop :=
  ref06_Read_p15 kn R symbols_2 t6 f_9 c_12 left_13 t15 w
theorem ref06_Read_p16_ok (Q : Exit → Env → World → Prop) (g : Env) (w : World) (kn : Value → Value → Value → Value → Value → World → Prop) (R : Value → World → Prop) (hn : ∀ g w, kn (g 2) (g 6) (g 9) (g 12) (g 13) w → Q .normal g w) (hr : ∀ g w, (resVals pg rs_ref06_Read g w fun vs => R (tup vs) w) → Q .ret g w) (h : ref06_Read_p16 kn R (g 2) (g 6) (g 9) (g 12) (g 13) (g 15) w) : den pg ann_ref06_Read (takeS 1 (dropS 1 (dropS 5 (bI (dropS 1 (bI (bI (takeS 1 (dropS 7 code_ref06_Read))))))))) Q g w :=
  den_blk 2 (takeS 1 (dropS 1 (dropS 5 (bI (dropS 1 (bI (bI (takeS 1 (dropS 7 code_ref06_Read))))))))) g w (by kernel_rfl) (ref06_Read_p15_ok (blk 2 Q) g w kn R hn hr h)

def ref06_Read_p17 (kn : Value → Value → Value → Value → Value → World → Prop) (R : Value → World → Prop) (symbols_2 t6 f_9 c_12 left_13 t15 : Value) (w : World) : Prop :=
  ref06_Read_p16 (fun symbols_2 t6 f_9 c_12 left_13 w => ref06_Read_p2 kn R symbols_2 t6 f_9 c_12 left_13 w) R symbols_2 t6 f_9 c_12 left_13 t15 w
theorem ref06_Read_p17_ok (Q : Exit → Env → World → Prop) (g : Env) (w : World) (kn : Value → Value → Value → Value → Value → World → Prop) (R : Value → World → Prop) (hn : ∀ g w, kn (g 2) (g 6) (g 9) (g 12) (g 13) w → Q .normal g w) (hr : ∀ g w, (resVals pg rs_ref06_Read g w fun vs => R (tup vs) w) → Q .ret g w) (h : ref06_Read_p17 kn R (g 2) (g 6) (g 9) (g 12) (g 13) (g 15) w) : den pg ann_ref06_Read (dropS 1 (dropS 5 (bI (dropS 1 (bI (bI (takeS 1 (dropS 7 code_ref06_Read)))))))) Q g w := by
  exact den_seqs 1 (dropS 1 (dropS 5 (bI (dropS 1 (bI (bI (takeS 1 (dropS 7 code_ref06_Read)))))))) g w (by kernel_rfl) (ref06_Read_p16_ok (thenE (fun g w => den pg ann_ref06_Read (dropS 1 (dropS 1 (dropS 5 (bI (dropS 1 (bI (bI (takeS 1 (dropS 7 code_ref06_Read))))))))) Q g w) Q) g w (fun symbols_2 t6 f_9 c_12 left_13 w => ref06_Read_p2 kn R symbols_2 t6 f_9 c_12 left_13 w) R (fun g w h => thenE_n (K := fun g w => den pg ann_ref06_Read (dropS 1 (dropS 1 (dropS 5 (bI (dropS 1 (bI (bI (takeS 1 (dropS 7 code_ref06_Read))))))))) Q g w) (ref06_Read_p2_ok Q g w kn R hn hr h)) hr h)

def ref06_Read_p18 (kn : Value → Value → Value → Value → Value → Value → World → Prop) (symbols_2 t6 f_9 c_12 left_13 v_14 : Value) (w : World) : Prop :=
  Stp pg (sBin .eql 3 (.tmp 75) (.const (.int .i64 1)) v_14 (.int .i64 1)) w fun t76 w =>
  kn symbols_2 t6 f_9 c_12 left_13 t76 w
theorem ref06_Read_p18_ok (Q : Exit → Env → World → Prop) (g : Env) (w : World) (kn : Value → Value → Value → Value → Value → Value → World → Prop) (hn : ∀ g w, kn (g 2) (g 6) (g 9) (g 12) (g 13) (g 15) w → Q .normal g w) (h : ref06_Read_p18 kn (g 2) (g 6) (g 9) (g 12) (g 13) (g 14) w) : den pg ann_ref06_Read (takeS 1 (dropS 5 (bI (dropS 1 (bI (bI (takeS 1 (dropS 7 code_ref06_Read)))))))) Q g w := by
  have e : (ref06_Read_p18 kn (g 2) (g 6) (g 9) (g 12) (g 13) (g 14) w) = den pg ann_ref06_Read (takeS 1 (dropS 5 (bI (dropS 1 (bI (bI (takeS 1 (dropS 7 code_ref06_Read)))))))) (exQ (fun g w => kn (g 2) (g 6) (g 9) (g 12) (g 13) (g 15) w) (fun _ _ => False) []) g w := by kernel_rfl
  exact den_exQ e h hn (fun _ _ h => h.elim) trivial

def ref06_Read_p19 (kn : Value → Value → Value → Value → Value → World → Prop) (R : Value → World → Prop) (symbols_2 t6 f_9 c_12 left_13 v_14 : Value) (w : World) : Prop :=
  ref06_Read_p18 (fun symbols_2 t6 f_9 c_12 left_13 t15 w => ref06_Read_p17 kn R symbols_2 t6 f_9 c_12 left_13 t15 w) symbols_2 t6 f_9 c_12 left_13 v_14 w
theorem ref06_Read_p19_ok (Q : Exit → Env → World → Prop) (g : Env) (w : World) (kn : Value → Value → Value → Value → Value → World → Prop) (R : Value → World → Prop) (hn : ∀ g w, kn (g 2) (g 6) (g 9) (g 12) (g 13) w → Q .normal g w) (hr : ∀ g w, (resVals pg rs_ref06_Read g w fun vs => R (tup vs) w) → Q .ret g w) (h : ref06_Read_p19 kn R (g 2) (g 6) (g 9) (g 12) (g 13) (g 14) w) : den pg ann_ref06_Read (dropS 5 (bI (dropS 1 (bI (bI (takeS 1 (dropS 7 code_ref06_Read))))))) Q g w := by
  exact den_seqs 1 (dropS 5 (bI (dropS 1 (bI (bI (takeS 1 (dropS 7 code_ref06_Read))))))) g w (by kernel_rfl) (ref06_Read_p18_ok (thenE (fun g w => den pg ann_ref06_Read (dropS 1 (dropS 5 (bI (dropS 1 (bI (bI (takeS 1 (dropS 7 code_ref06_Read)))))))) Q g w) Q) g w (fun symbols_2 t6 f_9 c_12 left_13 t15 w => ref06_Read_p17 kn R symbols_2 t6 f_9 c_12 left_13 t15 w) (fun g w h => thenE_n (K := fun g w => den pg ann_ref06_Read (dropS 1 (dropS 5 (bI (dropS 1 (bI (bI (takeS 1 (dropS 7 code_ref06_Read)))))))) Q g w) (ref06_Read_p17_ok Q g w kn R hn hr h)) h)

def ref06_Read_p20 (kn : Value → Value → Value → Value → Value → Value → World → Prop) (R : Value → World → Prop) (symbols_2 t6 f_9 c_12 left_13 : Value) (w : World) : Prop :=
  Stp pg (sLoad 119 f_9) w fun t50 w =>
  Does pg F_ref06_next #[t50, left_13] w fun t52 w =>
  Stp pg (sExtr t52 0) w fun t53 w =>
  Stp pg (sExtr t52 1) w fun t54 w =>
  Stp pg (sExtr t52 2) w fun t55 w =>
  Stp pg (sStore 119 f_9 t53) w fun _u w =>
  Stp pg (sBin .neq 29 (.tmp 56) (.const (.int .i64 0)) t55 (.int .i64 0)) w fun t57 w =>
  Cnd t57
    (Stp pg (sBuild 37 []) w fun t58 w =>
    Stp pg (sStore 37 t6 t58) w fun _u w =>
    LdR pg 37 t6 w fun r0 => R (.tuple #[r0, (.int .i64 0), t55]) w)
    (Stp pg (sFAddr 37 c_12 1) w fun t60 w =>
    Stp pg (sLoad 22 t60) w fun t61 w =>
    Stp pg (sBin .sub 3 (.tmp 62) (.const (.int .i64 1)) t54 (.int .i64 1)) w fun t63 w =>
    Stp pg (sBuildSlice 22 1 [(0, t63)]) w fun t64 w =>
    Stp pg (sBi .append #[22, 22] 22 [t61, t64]) w fun t65 w =>
    Stp pg (sFAddr 37 c_12 1) w fun t66 w =>
    Stp pg (sStore 22 t66 t65) w fun _u w =>
    Stp pg (sBin .eql 3 (.tmp 67) (.const (.int .i64 0)) t54 (.int .i64 0)) w fun t68 w =>
    Cnd t68
      (Stp pg (sBin .sub 3 (.tmp 69) (.const (.int .i64 1)) left_13 (.int .i64 1)) w fun t70 w =>
      kn symbols_2 t6 f_9 c_12 t70 t54 w)
      (Stp pg (sBin .sub 3 (.tmp 72) (.const (.int .i64 1)) t54 (.int .i64 1)) w fun t73 w =>
      Stp pg (sBin .sub 3 (.tmp 71) (.tmp 73) left_13 t73) w fun t74 w =>
      kn symbols_2 t6 f_9 c_12 t74 t54 w))
theorem ref06_Read_p20_ok (Q : Exit → Env → World → Prop) (g : Env) (w : World) (kn : Value → Value → Value → Value → Value → Value → World → Prop) (R : Value → World → Prop) (hn : ∀ g w, kn (g 2) (g 6) (g 9) (g 12) (g 13) (g 14) w → Q .normal g w) (hr : ∀ g w, (resVals pg rs_ref06_Read g w fun vs => R (tup vs) w) → Q .ret g w) (h : ref06_Read_p20 kn R (g 2) (g 6) (g 9) (g 12) (g 13) w) : den pg ann_ref06_Read (takeS 5 (bI (dropS 1 (bI (bI (takeS 1 (dropS 7 code_ref06_Read))))))) Q g w := by
  have e : (ref06_Read_p20 kn R (g 2) (g 6) (g 9) (g 12) (g 13) w) = den pg ann_ref06_Read (takeS 5 (bI (dropS 1 (bI (bI (takeS 1 (dropS 7 code_ref06_Read))))))) (exQ (fun g w => kn (g 2) (g 6) (g 9) (g 12) (g 13) (g 14) w) (fun g w => resVals pg rs_ref06_Read g w fun vs => R (tup vs) w) []) g w := by kernel_rfl
  exact den_exQ e h hn hr trivial

def ref06_Read_p21 (kn : Value → Value → Value → Value → Value → World → Prop) (R : Value → World → Prop) (symbols_2 t6 f_9 c_12 left_13 : Value) (w : World) : Prop :=
  ref06_Read_p20 (fun symbols_2 t6 f_9 c_12 left_13 v_14 w => ref06_Read_p19 kn R symbols_2 t6 f_9 c_12 left_13 v_14 w) R symbols_2 t6 f_9 c_12 left_13 w
theorem ref06_Read_p21_ok (Q : Exit → Env → World → Prop) (g : Env) (w : World) (kn : Value → Value → Value → Value → Value → World → Prop) (R : Value → World → Prop) (hn : ∀ g w, kn (g 2) (g 6) (g 9) (g 12) (g 13) w → Q .normal g w) (hr : ∀ g w, (resVals pg rs_ref06_Read g w fun vs => R (tup vs) w) → Q .ret g w) (h : ref06_Read_p21 kn R (g 2) (g 6) (g 9) (g 12) (g 13) w) : den pg ann_ref06_Read (bI (dropS 1 (bI (bI (takeS 1 (dropS 7 code_ref06_Read)))))) Q g w := by
  exact den_seqs 5 (bI (dropS 1 (bI (bI (takeS 1 (dropS 7 code_ref06_Read)))))) g w (by kernel_rfl) (ref06_Read_p20_ok (thenE (fun g w => den pg ann_ref06_Read (dropS 5 (bI (dropS 1 (bI (bI (takeS 1 (dropS 7 code_ref06_Read))))))) Q g w) Q) g w (fun symbols_2 t6 f_9 c_12 left_13 v_14 w => ref06_Read_p19 kn R symbols_2 t6 f_9 c_12 left_13 v_14 w) R (fun g w h => thenE_n (K := fun g w => den pg ann_ref06_Read (dropS 5 (bI (dropS 1 (bI (bI (takeS 1 (dropS 7 code_ref06_Read))))))) Q g w) (ref06_Read_p19_ok Q g w kn R hn hr h)) hr h)

def ref06_Read_p22 (kn : Value → Value → Value → Value → Value → World → Prop) (R : Value → World → Prop) (symbols_2 t6 f_9 c_12 left_13 : Value) (w : World) : Prop :=
  ref06_Read_p21 kn R symbols_2 t6 f_9 c_12 left_13 w
theorem ref06_Read_p22_ok (Q : Exit → Env → World → Prop) (g : Env) (w : World) (kn : Value → Value → Value → Value → Value → World → Prop) (R : Value → World → Prop) (hn : ∀ g w, kn (g 2) (g 6) (g 9) (g 12) (g 13) w → Q .normal g w) (hr : ∀ g w, (resVals pg rs_ref06_Read g w fun vs => R (tup vs) w) → Q .ret g w) (h : ref06_Read_p22 kn R (g 2) (g 6) (g 9) (g 12) (g 13) w) : den pg ann_ref06_Read (dropS 1 (bI (bI (takeS 1 (dropS 7 code_ref06_Read))))) Q g w :=
  den_blk 1 (dropS 1 (bI (bI (takeS 1 (dropS 7 code_ref06_Read))))) g w (by kernel_rfl) (ref06_Read_p21_ok (blk 1 Q) g w kn R hn hr h)

def ref06_Read_p23 (kn : Value → Value → Value → Value → Value → World → Prop) (k0 : Value → Value → Value → World → Prop) (symbols_2 t6 f_9 c_12 left_13 : Value) (w : World) : Prop :=
  Stp pg (sBin .gtr 3 (.tmp 47) (.const (.int .i64 0)) left_13 (.int .i64 0)) w fun t48 w =>
  Cnd t48
    (kn symbols_2 t6 f_9 c_12 left_13 w)
    (k0 t6 f_9 c_12 w)
theorem ref06_Read_p23_ok (Q : Exit → Env → World → Prop) (g : Env) (w : World) (kn : Value → Value → Value → Value → Value → World → Prop) (k0 : Value → Value → Value → World → Prop) (hn : ∀ g w, kn (g 2) (g 6) (g 9) (g 12) (g 13) w → Q .normal g w) (h0 : ∀ g w, k0 (g 6) (g 9) (g 12) w → Q (.exit 0) g w) (h : ref06_Read_p23 kn k0 (g 2) (g 6) (g 9) (g 12) (g 13) w) : den pg ann_ref06_Read (takeS 1 (bI (bI (takeS 1 (dropS 7 code_ref06_Read))))) Q g w := by
  have e : (ref06_Read_p23 kn k0 (g 2) (g 6) (g 9) (g 12) (g 13) w) = den pg ann_ref06_Read (takeS 1 (bI (bI (takeS 1 (dropS 7 code_ref06_Read))))) (exQ (fun g w => kn (g 2) (g 6) (g 9) (g 12) (g 13) w) (fun _ _ => False) [(0, fun g w => k0 (g 6) (g 9) (g 12) w)]) g w := by kernel_rfl
  exact den_exQ e h hn (fun _ _ h => h.elim) ⟨h0, trivial⟩

def ref06_Read_p24 (kn : Value → Value → Value → Value → Value → World → Prop) (k0 : Value → Value → Value → World → Prop) (R : Value → World → Prop) (symbols_2 t6 f_9 c_12 left_13 : Value) (w : World) : Prop :=
  ref06_Read_p23 (fun symbols_2 t6 f_9 c_12 left_13 w => ref06_Read_p22 kn R symbols_2 t6 f_9 c_12 left_13 w) k0 symbols_2 t6 f_9 c_12 left_13 w
theorem ref06_Read_p24_ok (Q : Exit → Env → World → Prop) (g : Env) (w : World) (kn : Value → Value → Value → Value → Value → World → Prop) (k0 : Value → Value → Value → World → Prop) (R : Value → World → Prop) (hn : ∀ g w, kn (g 2) (g 6) (g 9) (g 12) (g 13) w → Q .normal g w) (h0 : ∀ g w, k0 (g 6) (g 9) (g 12) w → Q (.exit 0) g w) (hr : ∀ g w, (resVals pg rs_ref06_Read g w fun vs => R (tup vs) w) → Q .ret g w) (h : ref06_Read_p24 kn k0 R (g 2) (g 6) (g 9) (g 12) (g 13) w) : den pg ann_ref06_Read (bI (bI (takeS 1 (dropS 7 code_ref06_Read)))) Q g w := by
  exact den_seqs 1 (bI (bI (takeS 1 (dropS 7 code_ref06_Read)))) g w (by kernel_rfl) (ref06_Read_p23_ok (thenE (fun g w => den pg ann_ref06_Read (dropS 1 (bI (bI (takeS 1 (dropS 7 code_ref06_Read))))) Q g w) Q) g w (fun symbols_2 t6 f_9 c_12 left_13 w => ref06_Read_p22 kn R symbols_2 t6 f_9 c_12 left_13 w) k0 (fun g w h => thenE_n (K := fun g w => den pg ann_ref06_Read (dropS 1 (bI (bI (takeS 1 (dropS 7 code_ref06_Read))))) Q g w) (ref06_Read_p22_ok Q g w kn R hn hr h)) h0 h)

def ref06_Read_p25 (k0 : Value → Value → Value → World → Prop) (R : Value → World → Prop) (symbols_2 t6 f_9 c_12 left_13 : Value) (w : World) : Prop :=
  LoopD (fun (X : Value → World → Prop) (t : Value) (w : World) => ref06_Read_p24 (fun _ _ _ _ left_13 w => X left_13 w) k0 R symbols_2 t6 f_9 c_12 t w) left_13 w
theorem ref06_Read_p25_ok (Q : Exit → Env → World → Prop) (g : Env) (w : World) (k0 : Value → Value → Value → World → Prop) (R : Value → World → Prop) (h0 : ∀ g w, k0 (g 6) (g 9) (g 12) w → Q (.exit 0) g w) (hr : ∀ g w, (resVals pg rs_ref06_Read g w fun vs => R (tup vs) w) → Q .ret g w) (h : ref06_Read_p25 k0 R (g 2) (g 6) (g 9) (g 12) (g 13) w) : den pg ann_ref06_Read (bI (takeS 1 (dropS 7 code_ref06_Read))) Q g w := by
  refine den_loops (T := Value) (fun g : Env => g 13) (fun X t w => ref06_Read_p24 (fun _ _ _ _ left_13 w => X left_13 w) k0 R (g 2) (g 6) (g 9) (g 12) t w) (bI (takeS 1 (dropS 7 code_ref06_Read))) (by kernel_rfl) h (fun X g1 w1 ha h1 => ?_)
  rw [← agree_at (s := 2) ha (by kernel_rfl)] at h1
  rw [← agree_at (s := 6) ha (by kernel_rfl)] at h1
  rw [← agree_at (s := 9) ha (by kernel_rfl)] at h1
  rw [← agree_at (s := 12) ha (by kernel_rfl)] at h1
  exact (ref06_Read_p24_ok (thenE (fun g2 w2 => X ((fun g : Env => g 13) g2) w2) Q) g1 w1 (fun _ _ _ _ left_13 w => X left_13 w) k0 R (fun _ _ h => h) h0 hr h1)

def ref06_Read_p26 (kn : Value → Value → Value → World → Prop) (R : Value → World → Prop) (symbols_2 t6 f_9 c_12 left_13 : Value) (w : World) : Prop :=
  ref06_Read_p25 kn R symbols_2 t6 f_9 c_12 left_13 w
theorem ref06_Read_p26_ok (Q : Exit → Env → World → Prop) (g : Env) (w : World) (kn : Value → Value → Value → World → Prop) (R : Value → World → Prop) (hn : ∀ g w, kn (g 6) (g 9) (g 12) w → Q .normal g w) (hr : ∀ g w, (resVals pg rs_ref06_Read g w fun vs => R (tup vs) w) → Q .ret g w) (h : ref06_Read_p26 kn R (g 2) (g 6) (g 9) (g 12) (g 13) w) : den pg ann_ref06_Read (takeS 1 (dropS 7 code_ref06_Read)) Q g w :=
  den_blk 0 (takeS 1 (dropS 7 code_ref06_Read)) g w (by kernel_rfl) (ref06_Read_p25_ok (blk 0 Q) g w kn R hn hr h)

def ref06_Read_p27 (R : Value → World → Prop) (symbols_2 t6 f_9 c_12 left_13 : Value) (w : World) : Prop :=
  ref06_Read_p26 (fun t6 f_9 c_12 w => ref06_Read_p1 R t6 f_9 c_12 w) R symbols_2 t6 f_9 c_12 left_13 w
theorem ref06_Read_p27_ok (Q : Exit → Env → World → Prop) (g : Env) (w : World) (R : Value → World → Prop) (hr : ∀ g w, (resVals pg rs_ref06_Read g w fun vs => R (tup vs) w) → Q .ret g w) (h : ref06_Read_p27 R (g 2) (g 6) (g 9) (g 12) (g 13) w) : den pg ann_ref06_Read (dropS 7 code_ref06_Read) Q g w := by
  exact den_seqs 1 (dropS 7 code_ref06_Read) g w (by kernel_rfl) (ref06_Read_p26_ok (thenE (fun g w => den pg ann_ref06_Read (dropS 1 (dropS 7 code_ref06_Read)) Q g w) Q) g w (fun t6 f_9 c_12 w => ref06_Read_p1 R t6 f_9 c_12 w) R (fun g w h => thenE_n (K := fun g w => den pg ann_ref06_Read (dropS 1 (dropS 7 code_ref06_Read)) Q g w) (ref06_Read_p1_ok Q g w R hr h)) hr h)

def ref06_Read_p28 (kn : Value → Value → Value → Value → Value → World → Prop) (R : Value → World → Prop) (b_0 most_1 symbols_2 : Value) (w : World) : Prop :=
  Stp pg (sAlloc 37) w fun t6 w =>
  Does pg F_ref05_Bits #[b_0] w fun t18 w =>
  Stp pg (sBuild 119 [(0, t18)]) w fun t19 w =>
  Stp pg (sAlloc 119) w fun f_9 w =>
  Stp pg (sStore 119 f_9 t19) w fun _u w =>
  Stp pg (sLoad 119 f_9) w fun t21 w =>
  Does pg F_ref05_Read #[t21, (.int .i64 4)] w fun t22 w =>
  Stp pg (sExtr t22 0) w fun t23 w =>
  Stp pg (sExtr t22 1) w fun t24 w =>
  Stp pg (sExtr t22 2) w fun t25 w =>
  Stp pg (sStore 119 f_9 t23) w fun _u w =>
  Stp pg (sBin .neq 29 (.tmp 26) (.const (.int .i64 0)) t25 (.int .i64 0)) w fun t27 w =>
  Cnd t27
    (Stp pg (sBuild 37 []) w fun t28 w =>
    Stp pg (sStore 37 t6 t28) w fun _u w =>
    LdR pg 37 t6 w fun r0 => R (.tuple #[r0, (.int .i64 0), t25]) w)
    (Stp pg (sCvt 45 3 t24) w fun t31 w =>
    Stp pg (sBin .add 3 (.tmp 31) (.const (.int .i64 5)) t31 (.int .i64 5)) w fun t32 w =>
    Stp pg (sBuild 37 [(0, t32)]) w fun t33 w =>
    Stp pg (sAlloc 37) w fun c_12 w =>
    Stp pg (sStore 37 c_12 t33) w fun _u w =>
    Stp pg (sFAddr 37 c_12 0) w fun t34 w =>
    Stp pg (sLoad 3 t34) w fun t35 w =>
    Stp pg (sBin .gtr 3 (.tmp 35) (.tmp 36) t35 most_1) w fun t37 w =>
    Gd (isB t37 false) (fun K => Stp pg (sFAddr 37 c_12 0) w K) w fun t39 w =>
    Gd (isB t37 false) (fun K => Stp pg (sLoad 3 t39) w K) w fun t40 w =>
    Gd (isB t37 false) (fun K => Stp pg (sBin .gtr 3 (.tmp 40) (.const (.int .i64 15)) t40 (.int .i64 15)) w K) w fun t41 w =>
    Stp pg (sPick t37 (.bool true) t41) w fun t42 w =>
    Cnd t42
      (Stp pg (sBuild 37 []) w fun t43 w =>
      Stp pg (sStore 37 t6 t43) w fun _u w =>
      LdR pg 37 t6 w fun r0 => R (.tuple #[r0, (.int .i64 0), (.int .i64 12)]) w)
      (Stp pg (sFAddr 37 c_12 0) w fun t44 w =>
      Stp pg (sLoad 3 t44) w fun t45 w =>
      Does pg F_ref06_Power #[t45] w fun t46 w =>
      kn symbols_2 t6 f_9 c_12 t46 w))
theorem ref06_Read_p28_ok (Q : Exit → Env → World → Prop) (g : Env) (w : World) (kn : Value → Value → Value → Value → Value → World → Prop) (R : Value → World → Prop) (hn : ∀ g w, kn (g 2) (g 6) (g 9) (g 12) (g 13) w → Q .normal g w) (hr : ∀ g w, (resVals pg rs_ref06_Read g w fun vs => R (tup vs) w) → Q .ret g w) (h : ref06_Read_p28 kn R (g 0) (g 1) (g 2) w) : den pg ann_ref06_Read (takeS 7 code_ref06_Read) Q g w := by
  have e : (ref06_Read_p28 kn R (g 0) (g 1) (g 2) w) = den pg ann_ref06_Read (takeS 7 code_ref06_Read) (exQ (fun g w => kn (g 2) (g 6) (g 9) (g 12) (g 13) w) (fun g w => resVals pg rs_ref06_Read g w fun vs => R (tup vs) w) []) g w := by kernel_rfl
  exact den_exQ e h hn hr trivial

def ref06_Read_p29 (R : Value → World → Prop) (b_0 most_1 symbols_2 : Value) (w : World) : Prop :=
  ref06_Read_p28 (fun symbols_2 t6 f_9 c_12 left_13 w => ref06_Read_p27 R symbols_2 t6 f_9 c_12 left_13 w) R b_0 most_1 symbols_2 w
theorem ref06_Read_p29_ok (Q : Exit → Env → World → Prop) (g : Env) (w : World) (R : Value → World → Prop) (hr : ∀ g w, (resVals pg rs_ref06_Read g w fun vs => R (tup vs) w) → Q .ret g w) (h : ref06_Read_p29 R (g 0) (g 1) (g 2) w) : den pg ann_ref06_Read code_ref06_Read Q g w := by
  exact den_seqs 7 code_ref06_Read g w (by kernel_rfl) (ref06_Read_p28_ok (thenE (fun g w => den pg ann_ref06_Read (dropS 7 code_ref06_Read) Q g w) Q) g w (fun symbols_2 t6 f_9 c_12 left_13 w => ref06_Read_p27 R symbols_2 t6 f_9 c_12 left_13 w) R (fun g w h => thenE_n (K := fun g w => den pg ann_ref06_Read (dropS 7 code_ref06_Read) Q g w) (ref06_Read_p27_ok Q g w R hr h)) hr h)

def ref06_Read (a0 a1 a2 : Value) (w : World) (R : Value → World → Prop) : Prop :=
  ref06_Read_p29 R a0 a1 a2 w
theorem ref06_Read_does {a0 a1 a2 : Value} {w : World} {R : Value → World → Prop} (h : ref06_Read a0 a1 a2 w R) : Does pg F_ref06_Read #[a0, a1, a2] w R := by
  refine does_of_den (ann := ann_ref06_Read) (fn := Try.f35) (c := code_ref06_Read) (args := [a0, a1, a2]) (rs := rs_ref06_Read) (N := 114) TryM.mixed (by kernel_rfl) Try.func35 (by kernel_rfl) (by kernel_rfl) (by kernel_rfl) (of_decide_eq_true (by kernel_rfl)) (by kernel_rfl) ?_
  exact (ref06_Read_p29_ok (retQ pg rs_ref06_Read R) (envOf [a0, a1, a2]) w R (fun _ _ h => h) h)
-- PIECES ref06_Read/0 ref06_Read_p1 ref06_Read_p25 ref06_Read_p26 ref06_Read_p27 ref06_Read_p28 ref06_Read_p29
-- PIECES ref06_Read/1 ref06_Read_p2 ref06_Read_p15 ref06_Read_p16 ref06_Read_p17 ref06_Read_p18 ref06_Read_p19 ref06_Read_p20 ref06_Read_p21 ref06_Read_p22 ref06_Read_p23 ref06_Read_p24
-- PIECES ref06_Read/2 ref06_Read_p3 ref06_Read_p5 ref06_Read_p6 ref06_Read_p7 ref06_Read_p8 ref06_Read_p9 ref06_Read_p10 ref06_Read_p11 ref06_Read_p12 ref06_Read_p13 ref06_Read_p14
-- PIECES ref06_Read/3 ref06_Read_p4

/- lighterman/lightermanref06.Same -/
def ann_ref06_Same : FA := ⟨F_ref06_Same, fun i => match Nat.beq i 6 with | true => .leaf ([], []) [(false, []), (false, []), (false, []), (false, []), (false, []), (false, []), (false, []), (false, []), (false, []), (false, []), (false, [])] | false => .leaf ([], []) []⟩
def rs_ref06_Same : List ResultVar := [.tmp 4]
noncomputable def code_ref06_Same : Code := bodyOf Try.f36
def ref06_Same_p1 (R : Value → World → Prop)  (w : World) : Prop :=
  R (.bool true) w
theorem ref06_Same_p1_ok (Q : Exit → Env → World → Prop) (g : Env) (w : World) (R : Value → World → Prop) (hr : ∀ g w, (resVals pg rs_ref06_Same g w fun vs => R (tup vs) w) → Q .ret g w) (h : ref06_Same_p1 R w) : den pg ann_ref06_Same (dropS 1 (dropS 2 code_ref06_Same)) Q g w := by
  have e : (ref06_Same_p1 R w) = den pg ann_ref06_Same (dropS 1 (dropS 2 code_ref06_Same)) (exQ (fun _ _ => False) (fun g w => resVals pg rs_ref06_Same g w fun vs => R (tup vs) w) []) g w := by kernel_rfl
  exact den_exQ e h (fun _ _ h => h.elim) hr trivial

def ref06_Same_p2 (kn : Value → Value → Value → World → Prop) (k0 : World → Prop) (R : Value → World → Prop) (a_2 b_3 i_5 : Value) (w : World) : Prop :=
  Stp pg (sFAddr 37 a_2 1) w fun t21 w =>
  Stp pg (sLoad 22 t21) w fun t22 w =>
  Stp pg (sBi .len #[22] 3 [t22]) w fun t23 w =>
  Stp pg (sBin .lss 3 (.tmp 20) (.tmp 23) i_5 t23) w fun t24 w =>
  Cnd t24
    (Stp pg (sFAddr 37 a_2 1) (dr w) fun t27 w_ => w_ = (dr w) ∧
    Stp pg (sLoad 22 t27) (dr w) fun t28 w_ => w_ = (dr w) ∧
    (dr w) = (dr w) ∧
    Stp pg (sIAddr 22 t28 i_5) (dr w) fun t30 w_ => w_ = (dr w) ∧
    Stp pg (sLoad 3 t30) (dr w) fun t31 w_ => w_ = (dr w) ∧
    Stp pg (sFAddr 37 b_3 1) (dr w) fun t32 w_ => w_ = (dr w) ∧
    Stp pg (sLoad 22 t32) (dr w) fun t33 w_ => w_ = (dr w) ∧
    (dr w) = (dr w) ∧
    Stp pg (sIAddr 22 t33 i_5) (dr w) fun t35 w_ => w_ = (dr w) ∧
    Stp pg (sLoad 3 t35) (dr w) fun t36 w_ => w_ = (dr w) ∧
    Stp pg (sBin .neq 3 (.tmp 31) (.tmp 36) t31 t36) (dr w) fun t37 w_ => w_ = (dr w) ∧
    Cnd t37
      (R (.bool false) (dr w))
      (Stp pg (sBin .add 3 (.tmp 25) (.const (.int .i64 1)) i_5 (.int .i64 1)) (dr w) fun t26 w =>
      kn a_2 b_3 t26 w))
    (k0 w)
theorem ref06_Same_p2_ok (Q : Exit → Env → World → Prop) (g : Env) (w : World) (kn : Value → Value → Value → World → Prop) (k0 : World → Prop) (R : Value → World → Prop) (hn : ∀ g w, kn (g 2) (g 3) (g 5) w → Q .normal g w) (h0 : ∀ g w, k0 w → Q (.exit 0) g w) (hr : ∀ g w, (resVals pg rs_ref06_Same g w fun vs => R (tup vs) w) → Q .ret g w) (h : ref06_Same_p2 kn k0 R (g 2) (g 3) (g 5) w) : den pg ann_ref06_Same (bI (bI (dropS 1 (takeS 1 (dropS 2 code_ref06_Same))))) Q g w := by
  have e : (ref06_Same_p2 kn k0 R (g 2) (g 3) (g 5) w) = den pg ann_ref06_Same (bI (bI (dropS 1 (takeS 1 (dropS 2 code_ref06_Same))))) (exQ (fun g w => kn (g 2) (g 3) (g 5) w) (fun g w => resVals pg rs_ref06_Same g w fun vs => R (tup vs) w) [(0, fun g w => k0 w)]) g w := by kernel_rfl
  exact den_exQ e h hn hr ⟨h0, trivial⟩

def ref06_Same_p3 (k0 : World → Prop) (R : Value → World → Prop) (a_2 b_3 i_5 : Value) (w : World) : Prop :=
  LoopD (fun (X : Value → World → Prop) (t : Value) (w : World) => ref06_Same_p2 (fun _ _ i_5 w => X i_5 w) k0 R a_2 b_3 t w) i_5 w
theorem ref06_Same_p3_ok (Q : Exit → Env → World → Prop) (g : Env) (w : World) (k0 : World → Prop) (R : Value → World → Prop) (h0 : ∀ g w, k0 w → Q (.exit 0) g w) (hr : ∀ g w, (resVals pg rs_ref06_Same g w fun vs => R (tup vs) w) → Q .ret g w) (h : ref06_Same_p3 k0 R (g 2) (g 3) (g 5) w) : den pg ann_ref06_Same (bI (dropS 1 (takeS 1 (dropS 2 code_ref06_Same)))) Q g w := by
  refine den_loops (T := Value) (fun g : Env => g 5) (fun X t w => ref06_Same_p2 (fun _ _ i_5 w => X i_5 w) k0 R (g 2) (g 3) t w) (bI (dropS 1 (takeS 1 (dropS 2 code_ref06_Same)))) (by kernel_rfl) h (fun X g1 w1 ha h1 => ?_)
  rw [← agree_at (s := 2) ha (by kernel_rfl)] at h1
  rw [← agree_at (s := 3) ha (by kernel_rfl)] at h1
  exact (ref06_Same_p2_ok (thenE (fun g2 w2 => X ((fun g : Env => g 5) g2) w2) Q) g1 w1 (fun _ _ i_5 w => X i_5 w) k0 R (fun _ _ h => h) h0 hr h1)

def ref06_Same_p4 (kn : World → Prop) (R : Value → World → Prop) (a_2 b_3 i_5 : Value) (w : World) : Prop :=
  ref06_Same_p3 kn R a_2 b_3 i_5 w
theorem ref06_Same_p4_ok (Q : Exit → Env → World → Prop) (g : Env) (w : World) (kn : World → Prop) (R : Value → World → Prop) (hn : ∀ g w, kn w → Q .normal g w) (hr : ∀ g w, (resVals pg rs_ref06_Same g w fun vs => R (tup vs) w) → Q .ret g w) (h : ref06_Same_p4 kn R (g 2) (g 3) (g 5) w) : den pg ann_ref06_Same (dropS 1 (takeS 1 (dropS 2 code_ref06_Same))) Q g w :=
  den_blk 0 (dropS 1 (takeS 1 (dropS 2 code_ref06_Same))) g w (by kernel_rfl) (ref06_Same_p3_ok (blk 0 Q) g w kn R hn hr h)

def ref06_Same_p5 (kn : Value → Value → Value → World → Prop) (a_2 b_3 : Value) (w : World) : Prop :=
  kn a_2 b_3 (.int .i64 0) w
theorem ref06_Same_p5_ok (Q : Exit → Env → World → Prop) (g : Env) (w : World) (kn : Value → Value → Value → World → Prop) (hn : ∀ g w, kn (g 2) (g 3) (g 5) w → Q .normal g w) (h : ref06_Same_p5 kn (g 2) (g 3) w) : den pg ann_ref06_Same (takeS 1 (takeS 1 (dropS 2 code_ref06_Same))) Q g w := by
  have e : (ref06_Same_p5 kn (g 2) (g 3) w) = den pg ann_ref06_Same (takeS 1 (takeS 1 (dropS 2 code_ref06_Same))) (exQ (fun g w => kn (g 2) (g 3) (g 5) w) (fun _ _ => False) []) g w := by kernel_rfl
  exact den_exQ e h hn (fun _ _ h => h.elim) trivial

def ref06_Same_p6 (kn : World → Prop) (R : Value → World → Prop) (a_2 b_3 : Value) (w : World) : Prop :=
  ref06_Same_p5 (fun a_2 b_3 i_5 w => ref06_Same_p4 kn R a_2 b_3 i_5 w) a_2 b_3 w
theorem ref06_Same_p6_ok (Q : Exit → Env → World → Prop) (g : Env) (w : World) (kn : World → Prop) (R : Value → World → Prop) (hn : ∀ g w, kn w → Q .normal g w) (hr : ∀ g w, (resVals pg rs_ref06_Same g w fun vs => R (tup vs) w) → Q .ret g w) (h : ref06_Same_p6 kn R (g 2) (g 3) w) : den pg ann_ref06_Same (takeS 1 (dropS 2 code_ref06_Same)) Q g w := by
  exact den_seqs 1 (takeS 1 (dropS 2 code_ref06_Same)) g w (by kernel_rfl) (ref06_Same_p5_ok (thenE (fun g w => den pg ann_ref06_Same (dropS 1 (takeS 1 (dropS 2 code_ref06_Same))) Q g w) Q) g w (fun a_2 b_3 i_5 w => ref06_Same_p4 kn R a_2 b_3 i_5 w) (fun g w h => thenE_n (K := fun g w => den pg ann_ref06_Same (dropS 1 (takeS 1 (dropS 2 code_ref06_Same))) Q g w) (ref06_Same_p4_ok Q g w kn R hn hr h)) h)

def ref06_Same_p7 (R : Value → World → Prop) (a_2 b_3 : Value) (w : World) : Prop :=
  ref06_Same_p6 (fun  w => ref06_Same_p1 R w) R a_2 b_3 w
theorem ref06_Same_p7_ok (Q : Exit → Env → World → Prop) (g : Env) (w : World) (R : Value → World → Prop) (hr : ∀ g w, (resVals pg rs_ref06_Same g w fun vs => R (tup vs) w) → Q .ret g w) (h : ref06_Same_p7 R (g 2) (g 3) w) : den pg ann_ref06_Same (dropS 2 code_ref06_Same) Q g w := by
  exact den_seqs 1 (dropS 2 code_ref06_Same) g w (by kernel_rfl) (ref06_Same_p6_ok (thenE (fun g w => den pg ann_ref06_Same (dropS 1 (dropS 2 code_ref06_Same)) Q g w) Q) g w (fun  w => ref06_Same_p1 R w) R (fun g w h => thenE_n (K := fun g w => den pg ann_ref06_Same (dropS 1 (dropS 2 code_ref06_Same)) Q g w) (ref06_Same_p1_ok Q g w R hr h)) hr h)

def ref06_Same_p8 (kn : Value → Value → World → Prop) (R : Value → World → Prop) (a_0 b_1 : Value) (w : World) : Prop :=
  Stp pg (sBox 37 a_0) w fun a_2 w =>
  Stp pg (sBox 37 b_1) w fun b_3 w =>
  Stp pg (sFAddr 37 a_2 0) w fun t6 w =>
  Stp pg (sLoad 3 t6) w fun t7 w =>
  Stp pg (sFAddr 37 b_3 0) w fun t8 w =>
  Stp pg (sLoad 3 t8) w fun t9 w =>
  Stp pg (sBin .neq 3 (.tmp 7) (.tmp 9) t7 t9) w fun t10 w =>
  Gd (isB t10 false) (fun K => Stp pg (sFAddr 37 a_2 1) w K) w fun t12 w =>
  Gd (isB t10 false) (fun K => Stp pg (sLoad 22 t12) w K) w fun t13 w =>
  Gd (isB t10 false) (fun K => Stp pg (sBi .len #[22] 3 [t13]) w K) w fun t14 w =>
  Gd (isB t10 false) (fun K => Stp pg (sFAddr 37 b_3 1) w K) w fun t15 w =>
  Gd (isB t10 false) (fun K => Stp pg (sLoad 22 t15) w K) w fun t16 w =>
  Gd (isB t10 false) (fun K => Stp pg (sBi .len #[22] 3 [t16]) w K) w fun t17 w =>
  Gd (isB t10 false) (fun K => Stp pg (sBin .neq 3 (.tmp 14) (.tmp 17) t14 t17) w K) w fun t18 w =>
  Stp pg (sPick t10 (.bool true) t18) w fun t19 w =>
  Cnd t19
    (R (.bool false) w)
    (kn a_2 b_3 w)
theorem ref06_Same_p8_ok (Q : Exit → Env → World → Prop) (g : Env) (w : World) (kn : Value → Value → World → Prop) (R : Value → World → Prop) (hn : ∀ g w, kn (g 2) (g 3) w → Q .normal g w) (hr : ∀ g w, (resVals pg rs_ref06_Same g w fun vs => R (tup vs) w) → Q .ret g w) (h : ref06_Same_p8 kn R (g 0) (g 1) w) : den pg ann_ref06_Same (takeS 2 code_ref06_Same) Q g w := by
  have e : (ref06_Same_p8 kn R (g 0) (g 1) w) = den pg ann_ref06_Same (takeS 2 code_ref06_Same) (exQ (fun g w => kn (g 2) (g 3) w) (fun g w => resVals pg rs_ref06_Same g w fun vs => R (tup vs) w) []) g w := by kernel_rfl
  exact den_exQ e h hn hr trivial

def ref06_Same_p9 (R : Value → World → Prop) (a_0 b_1 : Value) (w : World) : Prop :=
  ref06_Same_p8 (fun a_2 b_3 w => ref06_Same_p7 R a_2 b_3 w) R a_0 b_1 w
theorem ref06_Same_p9_ok (Q : Exit → Env → World → Prop) (g : Env) (w : World) (R : Value → World → Prop) (hr : ∀ g w, (resVals pg rs_ref06_Same g w fun vs => R (tup vs) w) → Q .ret g w) (h : ref06_Same_p9 R (g 0) (g 1) w) : den pg ann_ref06_Same code_ref06_Same Q g w := by
  exact den_seqs 2 code_ref06_Same g w (by kernel_rfl) (ref06_Same_p8_ok (thenE (fun g w => den pg ann_ref06_Same (dropS 2 code_ref06_Same) Q g w) Q) g w (fun a_2 b_3 w => ref06_Same_p7 R a_2 b_3 w) R (fun g w h => thenE_n (K := fun g w => den pg ann_ref06_Same (dropS 2 code_ref06_Same) Q g w) (ref06_Same_p7_ok Q g w R hr h)) hr h)

def ref06_Same (a0 a1 : Value) (w : World) (R : Value → World → Prop) : Prop :=
  ref06_Same_p9 R a0 a1 w
theorem ref06_Same_does {a0 a1 : Value} {w : World} {R : Value → World → Prop} (h : ref06_Same a0 a1 w R) : Does pg F_ref06_Same #[a0, a1] w R := by
  refine does_of_den (ann := ann_ref06_Same) (fn := Try.f36) (c := code_ref06_Same) (args := [a0, a1]) (rs := rs_ref06_Same) (N := 38) TryM.mixed (by kernel_rfl) Try.func36 (by kernel_rfl) (by kernel_rfl) (by kernel_rfl) (of_decide_eq_true (by kernel_rfl)) (by kernel_rfl) ?_
  exact (ref06_Same_p9_ok (retQ pg rs_ref06_Same R) (envOf [a0, a1]) w R (fun _ _ h => h) h)
-- PIECES ref06_Same/0 ref06_Same_p1 ref06_Same_p3 ref06_Same_p4 ref06_Same_p5 ref06_Same_p6 ref06_Same_p7 ref06_Same_p8 ref06_Same_p9
-- PIECES ref06_Same/1 ref06_Same_p2

/- lighterman/lightermanlaw06.modelOf -/
def ann_law06_modelOf : FA := ⟨F_law06_modelOf, fun i => .leaf ([], []) []⟩
def rs_law06_modelOf : List ResultVar := [.cell 2 37]
noncomputable def code_law06_modelOf : Code := bodyOf Try.f37
def law06_modelOf_p1 (R : Value → World → Prop) (c_0 : Value) (w : World) : Prop :=
  Stp pg (sBox 24 c_0) w fun c_1 w =>
  Stp pg (sAlloc 37) w fun t2 w =>
  Stp pg (sFAddr 24 c_1 0) w fun t3 w =>
  Stp pg (sLoad 3 t3) w fun t4 w =>
  Stp pg (sFAddr 24 c_1 1) w fun t5 w =>
  Stp pg (sLoad 22 t5) w fun t6 w =>
  Stp pg (sBuild 37 [(0, t4), (1, t6)]) w fun t7 w =>
  Stp pg (sStore 37 t2 t7) w fun _u w =>
  LdR pg 37 t2 w fun r0 => R r0 w
theorem law06_modelOf_p1_ok (Q : Exit → Env → World → Prop) (g : Env) (w : World) (R : Value → World → Prop) (hr : ∀ g w, (resVals pg rs_law06_modelOf g w fun vs => R (tup vs) w) → Q .ret g w) (h : law06_modelOf_p1 R (g 0) w) : den pg ann_law06_modelOf code_law06_modelOf Q g w := by
  have e : (law06_modelOf_p1 R (g 0) w) = den pg ann_law06_modelOf code_law06_modelOf (exQ (fun _ _ => False) (fun g w => resVals pg rs_law06_modelOf g w fun vs => R (tup vs) w) []) g w := by kernel_rfl
  exact den_exQ e h (fun _ _ h => h.elim) hr trivial

def law06_modelOf (a0 : Value) (w : World) (R : Value → World → Prop) : Prop :=
  law06_modelOf_p1 R a0 w
theorem law06_modelOf_does {a0 : Value} {w : World} {R : Value → World → Prop} (h : law06_modelOf a0 w R) : Does pg F_law06_modelOf #[a0] w R := by
  refine does_of_den (ann := ann_law06_modelOf) (fn := Try.f37) (c := code_law06_modelOf) (args := [a0]) (rs := rs_law06_modelOf) (N := 8) TryM.mixed (by kernel_rfl) Try.func37 (by kernel_rfl) (by kernel_rfl) (by kernel_rfl) (of_decide_eq_true (by kernel_rfl)) (by kernel_rfl) ?_
  exact (law06_modelOf_p1_ok (retQ pg rs_law06_modelOf R) (envOf [a0]) w R (fun _ _ h => h) h)
-- PIECES law06_modelOf/0 law06_modelOf_p1

/- lighterman/normal.Check -/
def ann_normal_Check : FA := ⟨F_normal_Check, fun i => .leaf ([], []) []⟩
def rs_normal_Check : List ResultVar := [.tmp 4]
noncomputable def code_normal_Check : Code := bodyOf Try.f38
def normal_Check_p1 (R : Value → World → Prop) (c_0 most_1 : Value) (w : World) : Prop :=
  Stp pg (sBox 24 c_0) w fun c_2 w =>
  Stp pg (sLoad 24 c_2) w fun t6 w =>
  Does pg F_normal_may #[t6] w fun t7 w =>
  Stp pg (sUn .not t7) w fun t8 w =>
  Cnd t8
    (R (.int .i64 1) w)
    (Stp pg (sFAddr 24 c_2 0) w fun t10 w =>
    Stp pg (sLoad 3 t10) w fun t11 w =>
    Stp pg (sBin .gtr 3 (.tmp 11) (.tmp 12) t11 most_1) w fun t13 w =>
    Cnd t13
      (R (.int .i64 12) w)
      (R (.int .i64 0) w))
theorem normal_Check_p1_ok (Q : Exit → Env → World → Prop) (g : Env) (w : World) (R : Value → World → Prop) (hr : ∀ g w, (resVals pg rs_normal_Check g w fun vs => R (tup vs) w) → Q .ret g w) (h : normal_Check_p1 R (g 0) (g 1) w) : den pg ann_normal_Check code_normal_Check Q g w := by
  have e : (normal_Check_p1 R (g 0) (g 1) w) = den pg ann_normal_Check code_normal_Check (exQ (fun _ _ => False) (fun g w => resVals pg rs_normal_Check g w fun vs => R (tup vs) w) []) g w := by kernel_rfl
  exact den_exQ e h (fun _ _ h => h.elim) hr trivial

def normal_Check (a0 a1 : Value) (w : World) (R : Value → World → Prop) : Prop :=
  normal_Check_p1 R a0 a1 w
theorem normal_Check_does {a0 a1 : Value} {w : World} {R : Value → World → Prop} (h : normal_Check a0 a1 w R) : Does pg F_normal_Check #[a0, a1] w R := by
  refine does_of_den (ann := ann_normal_Check) (fn := Try.f38) (c := code_normal_Check) (args := [a0, a1]) (rs := rs_normal_Check) (N := 14) TryM.mixed (by kernel_rfl) Try.func38 (by kernel_rfl) (by kernel_rfl) (by kernel_rfl) (of_decide_eq_true (by kernel_rfl)) (by kernel_rfl) ?_
  exact (normal_Check_p1_ok (retQ pg rs_normal_Check R) (envOf [a0, a1]) w R (fun _ _ h => h) h)
-- PIECES normal_Check/0 normal_Check_p1

/- lighterman/normal.Write -/
def ann_normal_Write : FA := ⟨F_normal_Write, fun i => .leaf ([], []) []⟩
def rs_normal_Write : List ResultVar := [.tmp 2, .tmp 3]
noncomputable def code_normal_Write : Code := bodyOf Try.f39
def normal_Write_p1 (R : Value → World → Prop) (w_4 : Value) (w : World) : Prop :=
  Does pg F_bits_Writer_Out #[w_4] w fun t107 w =>
  R (.tuple #[t107, (.int .i64 0)]) w
theorem normal_Write_p1_ok (Q : Exit → Env → World → Prop) (g : Env) (w : World) (R : Value → World → Prop) (hr : ∀ g w, (resVals pg rs_normal_Write g w fun vs => R (tup vs) w) → Q .ret g w) (h : normal_Write_p1 R (g 4) w) : den pg ann_normal_Write (dropS 1 (dropS 5 code_normal_Write)) Q g w := by
  have e : (normal_Write_p1 R (g 4) w) = den pg ann_normal_Write (dropS 1 (dropS 5 code_normal_Write)) (exQ (fun _ _ => False) (fun g w => resVals pg rs_normal_Write g w fun vs => R (tup vs) w) []) g w := by kernel_rfl
  exact den_exQ e h (fun _ _ h => h.elim) hr trivial

def normal_Write_p2 (kn : Value → Value → Value → Value → World → Prop) (c_1 w_4 left_5 i_6 : Value) (w : World) : Prop :=
  Stp pg (sBin .add 3 (.tmp 30) (.const (.int .i64 1)) i_6 (.int .i64 1)) w fun t31 w =>
  kn c_1 w_4 left_5 t31 w
theorem normal_Write_p2_ok (Q : Exit → Env → World → Prop) (g : Env) (w : World) (kn : Value → Value → Value → Value → World → Prop) (hn : ∀ g w, kn (g 1) (g 4) (g 5) (g 6) w → Q .normal g w) (h : normal_Write_p2 kn (g 1) (g 4) (g 5) (g 6) w) : den pg ann_normal_Write (dropS 1 (dropS 1 (bI (bI (dropS 1 (takeS 1 (dropS 5 code_normal_Write))))))) Q g w := by
  have e : (normal_Write_p2 kn (g 1) (g 4) (g 5) (g 6) w) = den pg ann_normal_Write (dropS 1 (dropS 1 (bI (bI (dropS 1 (takeS 1 (dropS 5 code_normal_Write))))))) (exQ (fun g w => kn (g 1) (g 4) (g 5) (g 6) w) (fun _ _ => False) []) g w := by kernel_rfl
  exact den_exQ e h hn (fun _ _ h => h.elim) trivial

def normal_Write_p3 (kn : Value → Value → Value → Value → World → Prop) (c_1 w_4 left_5 i_6 run_11 : Value) (w : World) : Prop :=
  Stp pg (sCvt 3 45 run_11) w fun t104 w =>
  Does pg F_bits_Writer_Write #[w_4, t104, (.int .i64 2)] w fun t105 w =>
  kn c_1 w_4 left_5 i_6 w
theorem normal_Write_p3_ok (Q : Exit → Env → World → Prop) (g : Env) (w : World) (kn : Value → Value → Value → Value → World → Prop) (hn : ∀ g w, kn (g 1) (g 4) (g 5) (g 6) w → Q .normal g w) (h : normal_Write_p3 kn (g 1) (g 4) (g 5) (g 6) (g 11) w) : den pg ann_normal_Write (dropS 1 (dropS 1 (dropS 1 (dropS 3 (dropS 5 (bI (takeS 1 (dropS 1 (bI (bI (dropS 1 (takeS 1 (dropS 5 code_normal_Write))))))))))))) Q g w := by
  have e : (normal_Write_p3 kn (g 1) (g 4) (g 5) (g 6) (g 11) w) = den pg ann_normal_Write (dropS 1 (dropS 1 (dropS 1 (dropS 3 (dropS 5 (bI (takeS 1 (dropS 1 (bI (bI (dropS 1 (takeS 1 (dropS 5 code_normal_Write))))))))))))) (exQ (fun g w => kn (g 1) (g 4) (g 5) (g 6) w) (fun _ _ => False) []) g w := by kernel_rfl
  exact den_exQ e h hn (fun _ _ h => h.elim) trivial

def normal_Write_p4 (kn : Value → Value → Value → Value → Value → World → Prop) (k5 : Value → Value → Value → Value → Value → World → Prop) (c_1 w_4 left_5 i_6 run_11 : Value) (w : World) : Prop :=
  Stp pg (sBin .geq 3 (.tmp 96) (.const (.int .i64 3)) run_11 (.int .i64 3)) w fun t97 w =>
  Cnd t97
    (Does pg F_bits_Writer_Write #[w_4, (.int .u64 3), (.int .i64 2)] w fun t101 w =>
    Stp pg (sBin .sub 3 (.tmp 98) (.const (.int .i64 3)) run_11 (.int .i64 3)) w fun t99 w =>
    kn c_1 w_4 left_5 i_6 t99 w)
    (k5 c_1 w_4 left_5 i_6 run_11 w)
theorem normal_Write_p4_ok (Q : Exit → Env → World → Prop) (g : Env) (w : World) (kn : Value → Value → Value → Value → Value → World → Prop) (k5 : Value → Value → Value → Value → Value → World → Prop) (hn : ∀ g w, kn (g 1) (g 4) (g 5) (g 6) (g 11) w → Q .normal g w) (h5 : ∀ g w, k5 (g 1) (g 4) (g 5) (g 6) (g 11) w → Q (.exit 5) g w) (h : normal_Write_p4 kn k5 (g 1) (g 4) (g 5) (g 6) (g 11) w) : den pg ann_normal_Write (bI (bI (takeS 1 (dropS 1 (dropS 1 (dropS 3 (dropS 5 (bI (takeS 1 (dropS 1 (bI (bI (dropS 1 (takeS 1 (dropS 5 code_normal_Write))))))))))))))) Q g w := by
  have e : (normal_Write_p4 kn k5 (g 1) (g 4) (g 5) (g 6) (g 11) w) = den pg ann_normal_Write (bI (bI (takeS 1 (dropS 1 (dropS 1 (dropS 3 (dropS 5 (bI (takeS 1 (dropS 1 (bI (bI (dropS 1 (takeS 1 (dropS 5 code_normal_Write))))))))))))))) (exQ (fun g w => kn (g 1) (g 4) (g 5) (g 6) (g 11) w) (fun _ _ => False) [(5, fun g w => k5 (g 1) (g 4) (g 5) (g 6) (g 11) w)]) g w := by kernel_rfl
  exact den_exQ e h hn (fun _ _ h => h.elim) ⟨h5, trivial⟩

def normal_Write_p5 (k5 : Value → Value → Value → Value → Value → World → Prop) (c_1 w_4 left_5 i_6 run_11 : Value) (w : World) : Prop :=
  LoopD (fun (X : Value → World → Prop) (t : Value) (w : World) => normal_Write_p4 (fun _ _ _ _ run_11 w => X run_11 w) k5 c_1 w_4 left_5 i_6 t w) run_11 w
theorem normal_Write_p5_ok (Q : Exit → Env → World → Prop) (g : Env) (w : World) (k5 : Value → Value → Value → Value → Value → World → Prop) (h5 : ∀ g w, k5 (g 1) (g 4) (g 5) (g 6) (g 11) w → Q (.exit 5) g w) (h : normal_Write_p5 k5 (g 1) (g 4) (g 5) (g 6) (g 11) w) : den pg ann_normal_Write (bI (takeS 1 (dropS 1 (dropS 1 (dropS 3 (dropS 5 (bI (takeS 1 (dropS 1 (bI (bI (dropS 1 (takeS 1 (dropS 5 code_normal_Write)))))))))))))) Q g w := by
  refine den_loops (T := Value) (fun g : Env => g 11) (fun X t w => normal_Write_p4 (fun _ _ _ _ run_11 w => X run_11 w) k5 (g 1) (g 4) (g 5) (g 6) t w) (bI (takeS 1 (dropS 1 (dropS 1 (dropS 3 (dropS 5 (bI (takeS 1 (dropS 1 (bI (bI (dropS 1 (takeS 1 (dropS 5 code_normal_Write)))))))))))))) (by kernel_rfl) h (fun X g1 w1 ha h1 => ?_)
  rw [← agree_at (s := 1) ha (by kernel_rfl)] at h1
  rw [← agree_at (s := 4) ha (by kernel_rfl)] at h1
  rw [← agree_at (s := 5) ha (by kernel_rfl)] at h1
  rw [← agree_at (s := 6) ha (by kernel_rfl)] at h1
  exact (normal_Write_p4_ok (thenE (fun g2 w2 => X ((fun g : Env => g 11) g2) w2) Q) g1 w1 (fun _ _ _ _ run_11 w => X run_11 w) k5 (fun _ _ h => h) h5 h1)

def normal_Write_p6 (kn : Value → Value → Value → Value → Value → World → Prop) (c_1 w_4 left_5 i_6 run_11 : Value) (w : World) : Prop :=
  normal_Write_p5 kn c_1 w_4 left_5 i_6 run_11 w
theorem normal_Write_p6_ok (Q : Exit → Env → World → Prop) (g : Env) (w : World) (kn : Value → Value → Value → Value → Value → World → Prop) (hn : ∀ g w, kn (g 1) (g 4) (g 5) (g 6) (g 11) w → Q .normal g w) (h : normal_Write_p6 kn (g 1) (g 4) (g 5) (g 6) (g 11) w) : den pg ann_normal_Write (takeS 1 (dropS 1 (dropS 1 (dropS 3 (dropS 5 (bI (takeS 1 (dropS 1 (bI (bI (dropS 1 (takeS 1 (dropS 5 code_normal_Write))))))))))))) Q g w :=
  den_blk 5 (takeS 1 (dropS 1 (dropS 1 (dropS 3 (dropS 5 (bI (takeS 1 (dropS 1 (bI (bI (dropS 1 (takeS 1 (dropS 5 code_normal_Write))))))))))))) g w (by kernel_rfl) (normal_Write_p5_ok (blk 5 Q) g w kn hn h)

def normal_Write_p7 (kn : Value → Value → Value → Value → World → Prop) (c_1 w_4 left_5 i_6 run_11 : Value) (w : World) : Prop :=
  normal_Write_p6 (fun c_1 w_4 left_5 i_6 run_11 w => normal_Write_p3 kn c_1 w_4 left_5 i_6 run_11 w) c_1 w_4 left_5 i_6 run_11 w
theorem normal_Write_p7_ok (Q : Exit → Env → World → Prop) (g : Env) (w : World) (kn : Value → Value → Value → Value → World → Prop) (hn : ∀ g w, kn (g 1) (g 4) (g 5) (g 6) w → Q .normal g w) (h : normal_Write_p7 kn (g 1) (g 4) (g 5) (g 6) (g 11) w) : den pg ann_normal_Write (dropS 1 (dropS 1 (dropS 3 (dropS 5 (bI (takeS 1 (dropS 1 (bI (bI (dropS 1 (takeS 1 (dropS 5 code_normal_Write)))))))))))) Q g w := by
  exact den_seqs 1 (dropS 1 (dropS 1 (dropS 3 (dropS 5 (bI (takeS 1 (dropS 1 (bI (bI (dropS 1 (takeS 1 (dropS 5 code_normal_Write)))))))))))) g w (by kernel_rfl) (normal_Write_p6_ok (thenE (fun g w => den pg ann_normal_Write (dropS 1 (dropS 1 (dropS 1 (dropS 3 (dropS 5 (bI (takeS 1 (dropS 1 (bI (bI (dropS 1 (takeS 1 (dropS 5 code_normal_Write))))))))))))) Q g w) Q) g w (fun c_1 w_4 left_5 i_6 run_11 w => normal_Write_p3 kn c_1 w_4 left_5 i_6 run_11 w) (fun g w h => thenE_n (K := fun g w => den pg ann_normal_Write (dropS 1 (dropS 1 (dropS 1 (dropS 3 (dropS 5 (bI (takeS 1 (dropS 1 (bI (bI (dropS 1 (takeS 1 (dropS 5 code_normal_Write))))))))))))) Q g w) (normal_Write_p3_ok Q g w kn hn h)) h)

def normal_Write_p8 (kn : Value → Value → Value → Value → Value → World → Prop) (c_1 w_4 left_5 i_6 run_11 : Value) (w : World) : Prop :=
  Stp pg (sBin .add 3 (.tmp 93) (.tmp 94) i_6 run_11) w fun t95 w =>
  kn c_1 w_4 left_5 t95 run_11 w
theorem normal_Write_p8_ok (Q : Exit → Env → World → Prop) (g : Env) (w : World) (kn : Value → Value → Value → Value → Value → World → Prop) (hn : ∀ g w, kn (g 1) (g 4) (g 5) (g 6) (g 11) w → Q .normal g w) (h : normal_Write_p8 kn (g 1) (g 4) (g 5) (g 6) (g 11) w) : den pg ann_normal_Write (takeS 1 (dropS 1 (dropS 3 (dropS 5 (bI (takeS 1 (dropS 1 (bI (bI (dropS 1 (takeS 1 (dropS 5 code_normal_Write)))))))))))) Q g w := by
  have e : (normal_Write_p8 kn (g 1) (g 4) (g 5) (g 6) (g 11) w) = den pg ann_normal_Write (takeS 1 (dropS 1 (dropS 3 (dropS 5 (bI (takeS 1 (dropS 1 (bI (bI (dropS 1 (takeS 1 (dropS 5 code_normal_Write)))))))))))) (exQ (fun g w => kn (g 1) (g 4) (g 5) (g 6) (g 11) w) (fun _ _ => False) []) g w := by kernel_rfl
  exact den_exQ e h hn (fun _ _ h => h.elim) trivial

def normal_Write_p9 (kn : Value → Value → Value → Value → World → Prop) (c_1 w_4 left_5 i_6 run_11 : Value) (w : World) : Prop :=
  normal_Write_p8 (fun c_1 w_4 left_5 i_6 run_11 w => normal_Write_p7 kn c_1 w_4 left_5 i_6 run_11 w) c_1 w_4 left_5 i_6 run_11 w
theorem normal_Write_p9_ok (Q : Exit → Env → World → Prop) (g : Env) (w : World) (kn : Value → Value → Value → Value → World → Prop) (hn : ∀ g w, kn (g 1) (g 4) (g 5) (g 6) w → Q .normal g w) (h : normal_Write_p9 kn (g 1) (g 4) (g 5) (g 6) (g 11) w) : den pg ann_normal_Write (dropS 1 (dropS 3 (dropS 5 (bI (takeS 1 (dropS 1 (bI (bI (dropS 1 (takeS 1 (dropS 5 code_normal_Write))))))))))) Q g w := by
  exact den_seqs 1 (dropS 1 (dropS 3 (dropS 5 (bI (takeS 1 (dropS 1 (bI (bI (dropS 1 (takeS 1 (dropS 5 code_normal_Write))))))))))) g w (by kernel_rfl) (normal_Write_p8_ok (thenE (fun g w => den pg ann_normal_Write (dropS 1 (dropS 1 (dropS 3 (dropS 5 (bI (takeS 1 (dropS 1 (bI (bI (dropS 1 (takeS 1 (dropS 5 code_normal_Write)))))))))))) Q g w) Q) g w (fun c_1 w_4 left_5 i_6 run_11 w => normal_Write_p7 kn c_1 w_4 left_5 i_6 run_11 w) (fun g w h => thenE_n (K := fun g w => den pg ann_normal_Write (dropS 1 (dropS 1 (dropS 3 (dropS 5 (bI (takeS 1 (dropS 1 (bI (bI (dropS 1 (takeS 1 (dropS 5 code_normal_Write)))))))))))) Q g w) (normal_Write_p7_ok Q g w kn hn h)) h)

def normal_Write_p10 (kn : Value → Value → Value → Value → Value → World → Prop) (k3 : Value → Value → Value → Value → Value → World → Prop) (c_1 w_4 left_5 i_6 run_11 : Value) (w : World) : Prop :=
  Stp pg (sFAddr 24 c_1 1) w fun t82 w =>
  Stp pg (sLoad 22 t82) w fun t83 w =>
  Stp pg (sBin .add 3 (.tmp 84) (.const (.int .i64 1)) i_6 (.int .i64 1)) w fun t85 w =>
  Stp pg (sBin .add 3 (.tmp 85) (.tmp 86) t85 run_11) w fun t87 w =>
  Stp pg (sIAddr 22 t83 t87) w fun t88 w =>
  Stp pg (sLoad 3 t88) w fun t89 w =>
  Stp pg (sBin .eql 3 (.tmp 89) (.const (.int .i64 0)) t89 (.int .i64 0)) w fun t90 w =>
  Cnd t90
    (Stp pg (sBin .add 3 (.tmp 91) (.const (.int .i64 1)) run_11 (.int .i64 1)) w fun t92 w =>
    kn c_1 w_4 left_5 i_6 t92 w)
    (k3 c_1 w_4 left_5 i_6 run_11 w)
theorem normal_Write_p10_ok (Q : Exit → Env → World → Prop) (g : Env) (w : World) (kn : Value → Value → Value → Value → Value → World → Prop) (k3 : Value → Value → Value → Value → Value → World → Prop) (hn : ∀ g w, kn (g 1) (g 4) (g 5) (g 6) (g 11) w → Q .normal g w) (h3 : ∀ g w, k3 (g 1) (g 4) (g 5) (g 6) (g 11) w → Q (.exit 3) g w) (h : normal_Write_p10 kn k3 (g 1) (g 4) (g 5) (g 6) (g 11) w) : den pg ann_normal_Write (bI (bI (takeS 1 (dropS 3 (dropS 5 (bI (takeS 1 (dropS 1 (bI (bI (dropS 1 (takeS 1 (dropS 5 code_normal_Write))))))))))))) Q g w := by
  have e : (normal_Write_p10 kn k3 (g 1) (g 4) (g 5) (g 6) (g 11) w) = den pg ann_normal_Write (bI (bI (takeS 1 (dropS 3 (dropS 5 (bI (takeS 1 (dropS 1 (bI (bI (dropS 1 (takeS 1 (dropS 5 code_normal_Write))))))))))))) (exQ (fun g w => kn (g 1) (g 4) (g 5) (g 6) (g 11) w) (fun _ _ => False) [(3, fun g w => k3 (g 1) (g 4) (g 5) (g 6) (g 11) w)]) g w := by kernel_rfl
  exact den_exQ e h hn (fun _ _ h => h.elim) ⟨h3, trivial⟩

def normal_Write_p11 (k3 : Value → Value → Value → Value → Value → World → Prop) (c_1 w_4 left_5 i_6 run_11 : Value) (w : World) : Prop :=
  LoopD (fun (X : Value → World → Prop) (t : Value) (w : World) => normal_Write_p10 (fun _ _ _ _ run_11 w => X run_11 w) k3 c_1 w_4 left_5 i_6 t w) run_11 w
theorem normal_Write_p11_ok (Q : Exit → Env → World → Prop) (g : Env) (w : World) (k3 : Value → Value → Value → Value → Value → World → Prop) (h3 : ∀ g w, k3 (g 1) (g 4) (g 5) (g 6) (g 11) w → Q (.exit 3) g w) (h : normal_Write_p11 k3 (g 1) (g 4) (g 5) (g 6) (g 11) w) : den pg ann_normal_Write (bI (takeS 1 (dropS 3 (dropS 5 (bI (takeS 1 (dropS 1 (bI (bI (dropS 1 (takeS 1 (dropS 5 code_normal_Write)))))))))))) Q g w := by
  refine den_loops (T := Value) (fun g : Env => g 11) (fun X t w => normal_Write_p10 (fun _ _ _ _ run_11 w => X run_11 w) k3 (g 1) (g 4) (g 5) (g 6) t w) (bI (takeS 1 (dropS 3 (dropS 5 (bI (takeS 1 (dropS 1 (bI (bI (dropS 1 (takeS 1 (dropS 5 code_normal_Write)))))))))))) (by kernel_rfl) h (fun X g1 w1 ha h1 => ?_)
  rw [← agree_at (s := 1) ha (by kernel_rfl)] at h1
  rw [← agree_at (s := 4) ha (by kernel_rfl)] at h1
  rw [← agree_at (s := 5) ha (by kernel_rfl)] at h1
  rw [← agree_at (s := 6) ha (by kernel_rfl)] at h1
  exact (normal_Write_p10_ok (thenE (fun g2 w2 => X ((fun g : Env => g 11) g2) w2) Q) g1 w1 (fun _ _ _ _ run_11 w => X run_11 w) k3 (fun _ _ h => h) h3 h1)

def normal_Write_p12 (kn : Value → Value → Value → Value → Value → World → Prop) (c_1 w_4 left_5 i_6 run_11 : Value) (w : World) : Prop :=
  normal_Write_p11 kn c_1 w_4 left_5 i_6 run_11 w
theorem normal_Write_p12_ok (Q : Exit → Env → World → Prop) (g : Env) (w : World) (kn : Value → Value → Value → Value → Value → World → Prop) (hn : ∀ g w, kn (g 1) (g 4) (g 5) (g 6) (g 11) w → Q .normal g w) (h : normal_Write_p12 kn (g 1) (g 4) (g 5) (g 6) (g 11) w) : den pg ann_normal_Write (takeS 1 (dropS 3 (dropS 5 (bI (takeS 1 (dropS 1 (bI (bI (dropS 1 (takeS 1 (dropS 5 code_normal_Write))))))))))) Q g w :=
  den_blk 3 (takeS 1 (dropS 3 (dropS 5 (bI (takeS 1 (dropS 1 (bI (bI (dropS 1 (takeS 1 (dropS 5 code_normal_Write))))))))))) g w (by kernel_rfl) (normal_Write_p11_ok (blk 3 Q) g w kn hn h)

def normal_Write_p13 (kn : Value → Value → Value → Value → World → Prop) (c_1 w_4 left_5 i_6 run_11 : Value) (w : World) : Prop :=
  normal_Write_p12 (fun c_1 w_4 left_5 i_6 run_11 w => normal_Write_p9 kn c_1 w_4 left_5 i_6 run_11 w) c_1 w_4 left_5 i_6 run_11 w
theorem normal_Write_p13_ok (Q : Exit → Env → World → Prop) (g : Env) (w : World) (kn : Value → Value → Value → Value → World → Prop) (hn : ∀ g w, kn (g 1) (g 4) (g 5) (g 6) w → Q .normal g w) (h : normal_Write_p13 kn (g 1) (g 4) (g 5) (g 6) (g 11) w) : den pg ann_normal_Write (dropS 3 (dropS 5 (bI (takeS 1 (dropS 1 (bI (bI (dropS 1 (takeS 1 (dropS 5 code_normal_Write)))))))))) Q g w := by
  exact den_seqs 1 (dropS 3 (dropS 5 (bI (takeS 1 (dropS 1 (bI (bI (dropS 1 (takeS 1 (dropS 5 code_normal_Write)))))))))) g w (by kernel_rfl) (normal_Write_p12_ok (thenE (fun g w => den pg ann_normal_Write (dropS 1 (dropS 3 (dropS 5 (bI (takeS 1 (dropS 1 (bI (bI (dropS 1 (takeS 1 (dropS 5 code_normal_Write))))))))))) Q g w) Q) g w (fun c_1 w_4 left_5 i_6 run_11 w => normal_Write_p9 kn c_1 w_4 left_5 i_6 run_11 w) (fun g w h => thenE_n (K := fun g w => den pg ann_normal_Write (dropS 1 (dropS 3 (dropS 5 (bI (takeS 1 (dropS 1 (bI (bI (dropS 1 (takeS 1 (dropS 5 code_normal_Write))))))))))) Q g w) (normal_Write_p9_ok Q g w kn hn h)) h)

def normal_Write_p14 (kn : Value → Value → Value → Value → Value → World → Prop) (k1 : Value → Value → Value → Value → World → Prop) (c_1 w_4 left_5 i_6 p_7 : Value) (w : World) : Prop :=
  Does pg F_normal_parts #[p_7] w fun t78 w =>
  Stp pg (sBin .sub 3 (.tmp 76) (.tmp 78) left_5 t78) w fun t79 w =>
  Stp pg (sBin .neq 3 (.tmp 80) (.const (.int .i64 0)) p_7 (.int .i64 0)) w fun t81 w =>
  Cnd t81
    (k1 c_1 w_4 t79 i_6 w)
    (kn c_1 w_4 t79 i_6 (.int .i64 0) w)
theorem normal_Write_p14_ok (Q : Exit → Env → World → Prop) (g : Env) (w : World) (kn : Value → Value → Value → Value → Value → World → Prop) (k1 : Value → Value → Value → Value → World → Prop) (hn : ∀ g w, kn (g 1) (g 4) (g 5) (g 6) (g 11) w → Q .normal g w) (h1 : ∀ g w, k1 (g 1) (g 4) (g 5) (g 6) w → Q (.exit 1) g w) (h : normal_Write_p14 kn k1 (g 1) (g 4) (g 5) (g 6) (g 7) w) : den pg ann_normal_Write (takeS 3 (dropS 5 (bI (takeS 1 (dropS 1 (bI (bI (dropS 1 (takeS 1 (dropS 5 code_normal_Write)))))))))) Q g w := by
  have e : (normal_Write_p14 kn k1 (g 1) (g 4) (g 5) (g 6) (g 7) w) = den pg ann_normal_Write (takeS 3 (dropS 5 (bI (takeS 1 (dropS 1 (bI (bI (dropS 1 (takeS 1 (dropS 5 code_normal_Write)))))))))) (exQ (fun g w => kn (g 1) (g 4) (g 5) (g 6) (g 11) w) (fun _ _ => False) [(1, fun g w => k1 (g 1) (g 4) (g 5) (g 6) w)]) g w := by kernel_rfl
  exact den_exQ e h hn (fun _ _ h => h.elim) ⟨h1, trivial⟩

def normal_Write_p15 (kn : Value → Value → Value → Value → World → Prop) (k1 : Value → Value → Value → Value → World → Prop) (c_1 w_4 left_5 i_6 p_7 : Value) (w : World) : Prop :=
  normal_Write_p14 (fun c_1 w_4 left_5 i_6 run_11 w => normal_Write_p13 kn c_1 w_4 left_5 i_6 run_11 w) k1 c_1 w_4 left_5 i_6 p_7 w
theorem normal_Write_p15_ok (Q : Exit → Env → World → Prop) (g : Env) (w : World) (kn : Value → Value → Value → Value → World → Prop) (k1 : Value → Value → Value → Value → World → Prop) (hn : ∀ g w, kn (g 1) (g 4) (g 5) (g 6) w → Q .normal g w) (h1 : ∀ g w, k1 (g 1) (g 4) (g 5) (g 6) w → Q (.exit 1) g w) (h : normal_Write_p15 kn k1 (g 1) (g 4) (g 5) (g 6) (g 7) w) : den pg ann_normal_Write (dropS 5 (bI (takeS 1 (dropS 1 (bI (bI (dropS 1 (takeS 1 (dropS 5 code_normal_Write))))))))) Q g w := by
  exact den_seqs 3 (dropS 5 (bI (takeS 1 (dropS 1 (bI (bI (dropS 1 (takeS 1 (dropS 5 code_normal_Write))))))))) g w (by kernel_rfl) (normal_Write_p14_ok (thenE (fun g w => den pg ann_normal_Write (dropS 3 (dropS 5 (bI (takeS 1 (dropS 1 (bI (bI (dropS 1 (takeS 1 (dropS 5 code_normal_Write)))))))))) Q g w) Q) g w (fun c_1 w_4 left_5 i_6 run_11 w => normal_Write_p13 kn c_1 w_4 left_5 i_6 run_11 w) k1 (fun g w h => thenE_n (K := fun g w => den pg ann_normal_Write (dropS 3 (dropS 5 (bI (takeS 1 (dropS 1 (bI (bI (dropS 1 (takeS 1 (dropS 5 code_normal_Write)))))))))) Q g w) (normal_Write_p13_ok Q g w kn hn h)) h1 h)

def normal_Write_p16 (kn : Value → Value → Value → Value → Value → World → Prop) (c_1 w_4 left_5 i_6 : Value) (w : World) : Prop :=
  Stp pg (sFAddr 24 c_1 1) w fun t32 w =>
  Stp pg (sLoad 22 t32) w fun t33 w =>
  Stp pg (sIAddr 22 t33 i_6) w fun t35 w =>
  Stp pg (sLoad 3 t35) w fun t36 w =>
  Stp pg (sBin .add 3 (.tmp 37) (.const (.int .i64 1)) left_5 (.int .i64 1)) w fun t38 w =>
  Stp pg (sCvt 3 50 t38) w fun t39 w =>
  Does pg F_math_bits_Len #[t39] w fun t40 w =>
  Stp pg (sBin .shl 3 (.const (.int .i64 1)) (.tmp 41) (.int .i64 1) t40) w fun t42 w =>
  Stp pg (sBin .sub 3 (.tmp 42) (.const (.int .i64 2)) t42 (.int .i64 2)) w fun t43 w =>
  Stp pg (sBin .sub 3 (.tmp 43) (.tmp 44) t43 left_5) w fun t45 w =>
  Stp pg (sBin .add 3 (.tmp 46) (.const (.int .i64 1)) t36 (.int .i64 1)) w fun t47 w =>
  Stp pg (sBin .lss 3 (.tmp 56) (.tmp 57) t47 t45) w fun t58 w =>
  Cnd t58
    (Stp pg (sCvt 3 45 t47) w fun t61 w =>
    Stp pg (sBin .sub 3 (.tmp 62) (.const (.int .i64 1)) t40 (.int .i64 1)) w fun t63 w =>
    Does pg F_bits_Writer_Write #[w_4, t61, t63] w fun t64 w =>
    kn c_1 w_4 left_5 i_6 t36 w)
    (Stp pg (sBin .sub 3 (.tmp 67) (.const (.int .i64 1)) t40 (.int .i64 1)) w fun t68 w =>
    Stp pg (sBin .shl 3 (.const (.int .i64 1)) (.tmp 68) (.int .i64 1) t68) w fun t69 w =>
    Stp pg (sBin .lss 3 (.tmp 66) (.tmp 69) t47 t69) w fun t70 w =>
    Cnd t70
      (Stp pg (sCvt 3 45 t47) w fun t73 w =>
      Does pg F_bits_Writer_Write #[w_4, t73, t40] w fun t75 w =>
      kn c_1 w_4 left_5 i_6 t36 w)
      (Stp pg (sBin .add 3 (.tmp 49) (.tmp 50) t47 t45) w fun t51 w =>
      Stp pg (sCvt 3 45 t51) w fun t52 w =>
      Does pg F_bits_Writer_Write #[w_4, t52, t40] w fun t54 w =>
      kn c_1 w_4 left_5 i_6 t36 w))
theorem normal_Write_p16_ok (Q : Exit → Env → World → Prop) (g : Env) (w : World) (kn : Value → Value → Value → Value → Value → World → Prop) (hn : ∀ g w, kn (g 1) (g 4) (g 5) (g 6) (g 7) w → Q .normal g w) (h : normal_Write_p16 kn (g 1) (g 4) (g 5) (g 6) w) : den pg ann_normal_Write (takeS 5 (bI (takeS 1 (dropS 1 (bI (bI (dropS 1 (takeS 1 (dropS 5 code_normal_Write))))))))) Q g w := by
  have e : (normal_Write_p16 kn (g 1) (g 4) (g 5) (g 6) w) = den pg ann_normal_Write (takeS 5 (bI (takeS 1 (dropS 1 (bI (bI (dropS 1 (takeS 1 (dropS 5 code_normal_Write))))))))) (exQ (fun g w => kn (g 1) (g 4) (g 5) (g 6) (g 7) w) (fun _ _ => False) []) g w := by kernel_rfl
  exact den_exQ e h hn (fun _ _ h => h.elim) trivial

def normal_Write_p17 (kn : Value → Value → Value → Value → World → Prop) (k1 : Value → Value → Value → Value → World → Prop) (c_1 w_4 left_5 i_6 : Value) (w : World) : Prop :=
  normal_Write_p16 (fun c_1 w_4 left_5 i_6 p_7 w => normal_Write_p15 kn k1 c_1 w_4 left_5 i_6 p_7 w) c_1 w_4 left_5 i_6 w
theorem normal_Write_p17_ok (Q : Exit → Env → World → Prop) (g : Env) (w : World) (kn : Value → Value → Value → Value → World → Prop) (k1 : Value → Value → Value → Value → World → Prop) (hn : ∀ g w, kn (g 1) (g 4) (g 5) (g 6) w → Q .normal g w) (h1 : ∀ g w, k1 (g 1) (g 4) (g 5) (g 6) w → Q (.exit 1) g w) (h : normal_Write_p17 kn k1 (g 1) (g 4) (g 5) (g 6) w) : den pg ann_normal_Write (bI (takeS 1 (dropS 1 (bI (bI (dropS 1 (takeS 1 (dropS 5 code_normal_Write)))))))) Q g w := by
  exact den_seqs 5 (bI (takeS 1 (dropS 1 (bI (bI (dropS 1 (takeS 1 (dropS 5 code_normal_Write)))))))) g w (by kernel_rfl) (normal_Write_p16_ok (thenE (fun g w => den pg ann_normal_Write (dropS 5 (bI (takeS 1 (dropS 1 (bI (bI (dropS 1 (takeS 1 (dropS 5 code_normal_Write))))))))) Q g w) Q) g w (fun c_1 w_4 left_5 i_6 p_7 w => normal_Write_p15 kn k1 c_1 w_4 left_5 i_6 p_7 w) (fun g w h => thenE_n (K := fun g w => den pg ann_normal_Write (dropS 5 (bI (takeS 1 (dropS 1 (bI (bI (dropS 1 (takeS 1 (dropS 5 code_normal_Write))))))))) Q g w) (normal_Write_p15_ok Q g w kn k1 hn h1 h)) h)

def normal_Write_p18 (kn : Value → Value → Value → Value → World → Prop) (c_1 w_4 left_5 i_6 : Value) (w : World) : Prop :=
  normal_Write_p17 kn kn c_1 w_4 left_5 i_6 w
theorem normal_Write_p18_ok (Q : Exit → Env → World → Prop) (g : Env) (w : World) (kn : Value → Value → Value → Value → World → Prop) (hn : ∀ g w, kn (g 1) (g 4) (g 5) (g 6) w → Q .normal g w) (h : normal_Write_p18 kn (g 1) (g 4) (g 5) (g 6) w) : den pg ann_normal_Write (takeS 1 (dropS 1 (bI (bI (dropS 1 (takeS 1 (dropS 5 code_normal_Write))))))) Q g w :=
  den_blk 1 (takeS 1 (dropS 1 (bI (bI (dropS 1 (takeS 1 (dropS 5 code_normal_Write))))))) g w (by kernel_rfl) (normal_Write_p17_ok (blk 1 Q) g w kn kn hn hn h)

def normal_Write_p19 (kn : Value → Value → Value → Value → World → Prop) (c_1 w_4 left_5 i_6 : Value) (w : World) : Prop :=
  normal_Write_p18 (fun c_1 w_4 left_5 i_6 w => normal_Write_p2 kn c_1 w_4 left_5 i_6 w) c_1 w_4 left_5 i_6 w
theorem normal_Write_p19_ok (Q : Exit → Env → World → Prop) (g : Env) (w : World) (kn : Value → Value → Value → Value → World → Prop) (hn : ∀ g w, kn (g 1) (g 4) (g 5) (g 6) w → Q .normal g w) (h : normal_Write_p19 kn (g 1) (g 4) (g 5) (g 6) w) : den pg ann_normal_Write (dropS 1 (bI (bI (dropS 1 (takeS 1 (dropS 5 code_normal_Write)))))) Q g w := by
  exact den_seqs 1 (dropS 1 (bI (bI (dropS 1 (takeS 1 (dropS 5 code_normal_Write)))))) g w (by kernel_rfl) (normal_Write_p18_ok (thenE (fun g w => den pg ann_normal_Write (dropS 1 (dropS 1 (bI (bI (dropS 1 (takeS 1 (dropS 5 code_normal_Write))))))) Q g w) Q) g w (fun c_1 w_4 left_5 i_6 w => normal_Write_p2 kn c_1 w_4 left_5 i_6 w) (fun g w h => thenE_n (K := fun g w => den pg ann_normal_Write (dropS 1 (dropS 1 (bI (bI (dropS 1 (takeS 1 (dropS 5 code_normal_Write))))))) Q g w) (normal_Write_p2_ok Q g w kn hn h)) h)

def normal_Write_p20 (kn : Value → Value → Value → Value → World → Prop) (k0 : Value → World → Prop) (c_1 w_4 left_5 i_6 : Value) (w : World) : Prop :=
  Stp pg (sFAddr 24 c_1 1) w fun t26 w =>
  Stp pg (sLoad 22 t26) w fun t27 w =>
  Stp pg (sBi .len #[22] 3 [t27]) w fun t28 w =>
  Stp pg (sBin .lss 3 (.tmp 25) (.tmp 28) i_6 t28) w fun t29 w =>
  Cnd t29
    (kn c_1 w_4 left_5 i_6 w)
    (k0 w_4 w)
theorem normal_Write_p20_ok (Q : Exit → Env → World → Prop) (g : Env) (w : World) (kn : Value → Value → Value → Value → World → Prop) (k0 : Value → World → Prop) (hn : ∀ g w, kn (g 1) (g 4) (g 5) (g 6) w → Q .normal g w) (h0 : ∀ g w, k0 (g 4) w → Q (.exit 0) g w) (h : normal_Write_p20 kn k0 (g 1) (g 4) (g 5) (g 6) w) : den pg ann_normal_Write (takeS 1 (bI (bI (dropS 1 (takeS 1 (dropS 5 code_normal_Write)))))) Q g w := by
  have e : (normal_Write_p20 kn k0 (g 1) (g 4) (g 5) (g 6) w) = den pg ann_normal_Write (takeS 1 (bI (bI (dropS 1 (takeS 1 (dropS 5 code_normal_Write)))))) (exQ (fun g w => kn (g 1) (g 4) (g 5) (g 6) w) (fun _ _ => False) [(0, fun g w => k0 (g 4) w)]) g w := by kernel_rfl
  exact den_exQ e h hn (fun _ _ h => h.elim) ⟨h0, trivial⟩

def normal_Write_p21 (kn : Value → Value → Value → Value → World → Prop) (k0 : Value → World → Prop) (c_1 w_4 left_5 i_6 : Value) (w : World) : Prop :=
  normal_Write_p20 (fun c_1 w_4 left_5 i_6 w => normal_Write_p19 kn c_1 w_4 left_5 i_6 w) k0 c_1 w_4 left_5 i_6 w
theorem normal_Write_p21_ok (Q : Exit → Env → World → Prop) (g : Env) (w : World) (kn : Value → Value → Value → Value → World → Prop) (k0 : Value → World → Prop) (hn : ∀ g w, kn (g 1) (g 4) (g 5) (g 6) w → Q .normal g w) (h0 : ∀ g w, k0 (g 4) w → Q (.exit 0) g w) (h : normal_Write_p21 kn k0 (g 1) (g 4) (g 5) (g 6) w) : den pg ann_normal_Write (bI (bI (dropS 1 (takeS 1 (dropS 5 code_normal_Write))))) Q g w := by
  exact den_seqs 1 (bI (bI (dropS 1 (takeS 1 (dropS 5 code_normal_Write))))) g w (by kernel_rfl) (normal_Write_p20_ok (thenE (fun g w => den pg ann_normal_Write (dropS 1 (bI (bI (dropS 1 (takeS 1 (dropS 5 code_normal_Write)))))) Q g w) Q) g w (fun c_1 w_4 left_5 i_6 w => normal_Write_p19 kn c_1 w_4 left_5 i_6 w) k0 (fun g w h => thenE_n (K := fun g w => den pg ann_normal_Write (dropS 1 (bI (bI (dropS 1 (takeS 1 (dropS 5 code_normal_Write)))))) Q g w) (normal_Write_p19_ok Q g w kn hn h)) h0 h)

def normal_Write_p22 (k0 : Value → World → Prop) (c_1 w_4 left_5 i_6 : Value) (w : World) : Prop :=
  LoopD (fun (X : (Value × Value) → World → Prop) (t : Value × Value) (w : World) => normal_Write_p21 (fun _ _ left_5 i_6 w => X (left_5, i_6) w) k0 c_1 w_4 t.1 t.2 w) (left_5, i_6) w
theorem normal_Write_p22_ok (Q : Exit → Env → World → Prop) (g : Env) (w : World) (k0 : Value → World → Prop) (h0 : ∀ g w, k0 (g 4) w → Q (.exit 0) g w) (h : normal_Write_p22 k0 (g 1) (g 4) (g 5) (g 6) w) : den pg ann_normal_Write (bI (dropS 1 (takeS 1 (dropS 5 code_normal_Write)))) Q g w := by
  refine den_loops (T := Value × Value) (fun g : Env => (g 5, g 6)) (fun X t w => normal_Write_p21 (fun _ _ left_5 i_6 w => X (left_5, i_6) w) k0 (g 1) (g 4) t.1 t.2 w) (bI (dropS 1 (takeS 1 (dropS 5 code_normal_Write)))) (by kernel_rfl) h (fun X g1 w1 ha h1 => ?_)
  rw [← agree_at (s := 1) ha (by kernel_rfl)] at h1
  rw [← agree_at (s := 4) ha (by kernel_rfl)] at h1
  exact (normal_Write_p21_ok (thenE (fun g2 w2 => X ((fun g : Env => (g 5, g 6)) g2) w2) Q) g1 w1 (fun _ _ left_5 i_6 w => X (left_5, i_6) w) k0 (fun _ _ h => h) h0 h1)

def normal_Write_p23 (kn : Value → World → Prop) (c_1 w_4 left_5 i_6 : Value) (w : World) : Prop :=
  normal_Write_p22 kn c_1 w_4 left_5 i_6 w
theorem normal_Write_p23_ok (Q : Exit → Env → World → Prop) (g : Env) (w : World) (kn : Value → World → Prop) (hn : ∀ g w, kn (g 4) w → Q .normal g w) (h : normal_Write_p23 kn (g 1) (g 4) (g 5) (g 6) w) : den pg ann_normal_Write (dropS 1 (takeS 1 (dropS 5 code_normal_Write))) Q g w :=
  den_blk 0 (dropS 1 (takeS 1 (dropS 5 code_normal_Write))) g w (by kernel_rfl) (normal_Write_p22_ok (blk 0 Q) g w kn hn h)

def normal_Write_p24 (kn : Value → Value → Value → Value → World → Prop) (c_1 w_4 left_5 : Value) (w : World) : Prop :=
  kn c_1 w_4 left_5 (.int .i64 0) w
theorem normal_Write_p24_ok (Q : Exit → Env → World → Prop) (g : Env) (w : World) (kn : Value → Value → Value → Value → World → Prop) (hn : ∀ g w, kn (g 1) (g 4) (g 5) (g 6) w → Q .normal g w) (h : normal_Write_p24 kn (g 1) (g 4) (g 5) w) : den pg ann_normal_Write (takeS 1 (takeS 1 (dropS 5 code_normal_Write))) Q g w := by
  have e : (normal_Write_p24 kn (g 1) (g 4) (g 5) w) = den pg ann_normal_Write (takeS 1 (takeS 1 (dropS 5 code_normal_Write))) (exQ (fun g w => kn (g 1) (g 4) (g 5) (g 6) w) (fun _ _ => False) []) g w := by kernel_rfl
  exact den_exQ e h hn (fun _ _ h => h.elim) trivial

def normal_Write_p25 (kn : Value → World → Prop) (c_1 w_4 left_5 : Value) (w : World) : Prop :=
  normal_Write_p24 (fun c_1 w_4 left_5 i_6 w => normal_Write_p23 kn c_1 w_4 left_5 i_6 w) c_1 w_4 left_5 w
theorem normal_Write_p25_ok (Q : Exit → Env → World → Prop) (g : Env) (w : World) (kn : Value → World → Prop) (hn : ∀ g w, kn (g 4) w → Q .normal g w) (h : normal_Write_p25 kn (g 1) (g 4) (g 5) w) : den pg ann_normal_Write (takeS 1 (dropS 5 code_normal_Write)) Q g w := by
  exact den_seqs 1 (takeS 1 (dropS 5 code_normal_Write)) g w (by kernel_rfl) (normal_Write_p24_ok (thenE (fun g w => den pg ann_normal_Write (dropS 1 (takeS 1 (dropS 5 code_normal_Write))) Q g w) Q) g w (fun c_1 w_4 left_5 i_6 w => normal_Write_p23 kn c_1 w_4 left_5 i_6 w) (fun g w h => thenE_n (K := fun g w => den pg ann_normal_Write (dropS 1 (takeS 1 (dropS 5 code_normal_Write))) Q g w) (normal_Write_p23_ok Q g w kn hn h)) h)

def normal_Write_p26 (R : Value → World → Prop) (c_1 w_4 left_5 : Value) (w : World) : Prop :=
  normal_Write_p25 (fun w_4 w => normal_Write_p1 R w_4 w) c_1 w_4 left_5 w
theorem normal_Write_p26_ok (Q : Exit → Env → World → Prop) (g : Env) (w : World) (R : Value → World → Prop) (hr : ∀ g w, (resVals pg rs_normal_Write g w fun vs => R (tup vs) w) → Q .ret g w) (h : normal_Write_p26 R (g 1) (g 4) (g 5) w) : den pg ann_normal_Write (dropS 5 code_normal_Write) Q g w := by
  exact den_seqs 1 (dropS 5 code_normal_Write) g w (by kernel_rfl) (normal_Write_p25_ok (thenE (fun g w => den pg ann_normal_Write (dropS 1 (dropS 5 code_normal_Write)) Q g w) Q) g w (fun w_4 w => normal_Write_p1 R w_4 w) (fun g w h => thenE_n (K := fun g w => den pg ann_normal_Write (dropS 1 (dropS 5 code_normal_Write)) Q g w) (normal_Write_p1_ok Q g w R hr h)) h)

def normal_Write_p27 (kn : Value → Value → Value → World → Prop) (R : Value → World → Prop) (c_0 : Value) (w : World) : Prop :=
  Stp pg (sBox 24 c_0) w fun c_1 w =>
  Stp pg (sLoad 24 c_1) w fun t12 w =>
  Does pg F_normal_may #[t12] w fun t13 w =>
  Stp pg (sUn .not t13) w fun t14 w =>
  Cnd t14
    (R (.tuple #[(.slice none 0 0), (.int .i64 1)]) w)
    (Does pg F_bits_NewWriter #[] w fun t15 w =>
    Stp pg (sFAddr 24 c_1 0) w fun t17 w =>
    Stp pg (sLoad 3 t17) w fun t18 w =>
    Stp pg (sBin .sub 3 (.tmp 18) (.const (.int .i64 5)) t18 (.int .i64 5)) w fun t19 w =>
    Stp pg (sCvt 3 45 t19) w fun t20 w =>
    Does pg F_bits_Writer_Write #[t15, t20, (.int .i64 4)] w fun t21 w =>
    Stp pg (sFAddr 24 c_1 0) w fun t22 w =>
    Stp pg (sLoad 3 t22) w fun t23 w =>
    Stp pg (sBin .shl 3 (.const (.int .i64 1)) (.tmp 23) (.int .i64 1) t23) w fun t24 w =>
    kn c_1 t15 t24 w)
theorem normal_Write_p27_ok (Q : Exit → Env → World → Prop) (g : Env) (w : World) (kn : Value → Value → Value → World → Prop) (R : Value → World → Prop) (hn : ∀ g w, kn (g 1) (g 4) (g 5) w → Q .normal g w) (hr : ∀ g w, (resVals pg rs_normal_Write g w fun vs => R (tup vs) w) → Q .ret g w) (h : normal_Write_p27 kn R (g 0) w) : den pg ann_normal_Write (takeS 5 code_normal_Write) Q g w := by
  have e : (normal_Write_p27 kn R (g 0) w) = den pg ann_normal_Write (takeS 5 code_normal_Write) (exQ (fun g w => kn (g 1) (g 4) (g 5) w) (fun g w => resVals pg rs_normal_Write g w fun vs => R (tup vs) w) []) g w := by kernel_rfl
  exact den_exQ e h hn hr trivial

def normal_Write_p28 (R : Value → World → Prop) (c_0 : Value) (w : World) : Prop :=
  normal_Write_p27 (fun c_1 w_4 left_5 w => normal_Write_p26 R c_1 w_4 left_5 w) R c_0 w
theorem normal_Write_p28_ok (Q : Exit → Env → World → Prop) (g : Env) (w : World) (R : Value → World → Prop) (hr : ∀ g w, (resVals pg rs_normal_Write g w fun vs => R (tup vs) w) → Q .ret g w) (h : normal_Write_p28 R (g 0) w) : den pg ann_normal_Write code_normal_Write Q g w := by
  exact den_seqs 5 code_normal_Write g w (by kernel_rfl) (normal_Write_p27_ok (thenE (fun g w => den pg ann_normal_Write (dropS 5 code_normal_Write) Q g w) Q) g w (fun c_1 w_4 left_5 w => normal_Write_p26 R c_1 w_4 left_5 w) R (fun g w h => thenE_n (K := fun g w => den pg ann_normal_Write (dropS 5 code_normal_Write) Q g w) (normal_Write_p26_ok Q g w R hr h)) hr h)

def normal_Write (a0 : Value) (w : World) (R : Value → World → Prop) : Prop :=
  normal_Write_p28 R a0 w
theorem normal_Write_does {a0 : Value} {w : World} {R : Value → World → Prop} (h : normal_Write a0 w R) : Does pg F_normal_Write #[a0] w R := by
  refine does_of_den (ann := ann_normal_Write) (fn := Try.f39) (c := code_normal_Write) (args := [a0]) (rs := rs_normal_Write) (N := 108) TryM.mixed (by kernel_rfl) Try.func39 (by kernel_rfl) (by kernel_rfl) (by kernel_rfl) (of_decide_eq_true (by kernel_rfl)) (by kernel_rfl) ?_
  exact (normal_Write_p28_ok (retQ pg rs_normal_Write R) (envOf [a0]) w R (fun _ _ h => h) h)
-- PIECES normal_Write/0 normal_Write_p1 normal_Write_p22 normal_Write_p23 normal_Write_p24 normal_Write_p25 normal_Write_p26 normal_Write_p27 normal_Write_p28
-- PIECES normal_Write/1 normal_Write_p2 normal_Write_p3 normal_Write_p5 normal_Write_p6 normal_Write_p7 normal_Write_p8 normal_Write_p9 normal_Write_p11 normal_Write_p12 normal_Write_p13 normal_Write_p14 normal_Write_p15 normal_Write_p16 normal_Write_p17 normal_Write_p18 normal_Write_p19 normal_Write_p20 normal_Write_p21
-- PIECES normal_Write/2 normal_Write_p4
-- PIECES normal_Write/3 normal_Write_p10

/- lighterman/lightermanref06.Check -/
def ann_ref06_Check : FA := ⟨F_ref06_Check, fun i => .leaf ([], []) []⟩
def rs_ref06_Check : List ResultVar := [.tmp 4]
noncomputable def code_ref06_Check : Code := bodyOf Try.f40
def ref06_Check_p1 (R : Value → World → Prop) (c_0 most_1 : Value) (w : World) : Prop :=
  Stp pg (sBox 37 c_0) w fun c_2 w =>
  Stp pg (sLoad 37 c_2) w fun t6 w =>
  Does pg F_ref06_May #[t6] w fun t7 w =>
  Stp pg (sUn .not t7) w fun t9 w =>
  Cnd t9
    (R (.int .i64 1) w)
    (Stp pg (sFAddr 37 c_2 0) w fun t10 w =>
    Stp pg (sLoad 3 t10) w fun t11 w =>
    Stp pg (sBin .gtr 3 (.tmp 11) (.tmp 12) t11 most_1) w fun t13 w =>
    Cnd t13
      (R (.int .i64 12) w)
      (R (.int .i64 0) w))
theorem ref06_Check_p1_ok (Q : Exit → Env → World → Prop) (g : Env) (w : World) (R : Value → World → Prop) (hr : ∀ g w, (resVals pg rs_ref06_Check g w fun vs => R (tup vs) w) → Q .ret g w) (h : ref06_Check_p1 R (g 0) (g 1) w) : den pg ann_ref06_Check code_ref06_Check Q g w := by
  have e : (ref06_Check_p1 R (g 0) (g 1) w) = den pg ann_ref06_Check code_ref06_Check (exQ (fun _ _ => False) (fun g w => resVals pg rs_ref06_Check g w fun vs => R (tup vs) w) []) g w := by kernel_rfl
  exact den_exQ e h (fun _ _ h => h.elim) hr trivial

def ref06_Check (a0 a1 : Value) (w : World) (R : Value → World → Prop) : Prop :=
  ref06_Check_p1 R a0 a1 w
theorem ref06_Check_does {a0 a1 : Value} {w : World} {R : Value → World → Prop} (h : ref06_Check a0 a1 w R) : Does pg F_ref06_Check #[a0, a1] w R := by
  refine does_of_den (ann := ann_ref06_Check) (fn := Try.f40) (c := code_ref06_Check) (args := [a0, a1]) (rs := rs_ref06_Check) (N := 14) TryM.mixed (by kernel_rfl) Try.func40 (by kernel_rfl) (by kernel_rfl) (by kernel_rfl) (of_decide_eq_true (by kernel_rfl)) (by kernel_rfl) ?_
  exact (ref06_Check_p1_ok (retQ pg rs_ref06_Check R) (envOf [a0, a1]) w R (fun _ _ h => h) h)
-- PIECES ref06_Check/0 ref06_Check_p1

/- lighterman/lightermanref06.May -/
def ann_ref06_May : FA := ⟨F_ref06_May, fun i => .leaf ([], []) []⟩
def rs_ref06_May : List ResultVar := [.tmp 2]
noncomputable def code_ref06_May : Code := bodyOf Try.f41
def ref06_May_p1 (R : Value → World → Prop) (c_1 sum_3 : Value) (w : World) : Prop :=
  Stp pg (sFAddr 37 c_1 0) w fun t61 w =>
  Stp pg (sLoad 3 t61) w fun t62 w =>
  Does pg F_ref06_Power #[t62] w fun t63 w =>
  Stp pg (sBin .eql 3 (.tmp 60) (.tmp 63) sum_3 t63) w fun t64 w =>
  R t64 w
theorem ref06_May_p1_ok (Q : Exit → Env → World → Prop) (g : Env) (w : World) (R : Value → World → Prop) (hr : ∀ g w, (resVals pg rs_ref06_May g w fun vs => R (tup vs) w) → Q .ret g w) (h : ref06_May_p1 R (g 1) (g 3) w) : den pg ann_ref06_May (dropS 1 (dropS 3 code_ref06_May)) Q g w := by
  have e : (ref06_May_p1 R (g 1) (g 3) w) = den pg ann_ref06_May (dropS 1 (dropS 3 code_ref06_May)) (exQ (fun _ _ => False) (fun g w => resVals pg rs_ref06_May g w fun vs => R (tup vs) w) []) g w := by kernel_rfl
  exact den_exQ e h (fun _ _ h => h.elim) hr trivial

def ref06_May_p2 (kn : Value → Value → Value → World → Prop) (c_1 sum_3 i_4 : Value) (w : World) : Prop :=
  Stp pg (sBin .add 3 (.tmp 42) (.const (.int .i64 1)) i_4 (.int .i64 1)) w fun t43 w =>
  kn c_1 sum_3 t43 w
theorem ref06_May_p2_ok (Q : Exit → Env → World → Prop) (g : Env) (w : World) (kn : Value → Value → Value → World → Prop) (hn : ∀ g w, kn (g 1) (g 3) (g 4) w → Q .normal g w) (h : ref06_May_p2 kn (g 1) (g 3) (g 4) w) : den pg ann_ref06_May (dropS 1 (dropS 1 (bI (bI (dropS 1 (takeS 1 (dropS 3 code_ref06_May))))))) Q g w := by
  have e : (ref06_May_p2 kn (g 1) (g 3) (g 4) w) = den pg ann_ref06_May (dropS 1 (dropS 1 (bI (bI (dropS 1 (takeS 1 (dropS 3 code_ref06_May))))))) (exQ (fun g w => kn (g 1) (g 3) (g 4) w) (fun _ _ => False) []) g w := by kernel_rfl
  exact den_exQ e h hn (fun _ _ h => h.elim) trivial

def ref06_May_p3 (kn : Value → Value → Value → World → Prop) (c_1 sum_3 i_4 p_5 : Value) (w : World) : Prop :=
  Stp pg (sBin .add 3 (.tmp 57) (.tmp 58) sum_3 p_5) w fun t59 w =>
  kn c_1 t59 i_4 w
theorem ref06_May_p3_ok (Q : Exit → Env → World → Prop) (g : Env) (w : World) (kn : Value → Value → Value → World → Prop) (hn : ∀ g w, kn (g 1) (g 3) (g 4) w → Q .normal g w) (h : ref06_May_p3 kn (g 1) (g 3) (g 4) (g 5) w) : den pg ann_ref06_May (dropS 3 (bI (takeS 1 (dropS 1 (bI (bI (dropS 1 (takeS 1 (dropS 3 code_ref06_May))))))))) Q g w := by
  have e : (ref06_May_p3 kn (g 1) (g 3) (g 4) (g 5) w) = den pg ann_ref06_May (dropS 3 (bI (takeS 1 (dropS 1 (bI (bI (dropS 1 (takeS 1 (dropS 3 code_ref06_May))))))))) (exQ (fun g w => kn (g 1) (g 3) (g 4) w) (fun _ _ => False) []) g w := by kernel_rfl
  exact den_exQ e h hn (fun _ _ h => h.elim) trivial

def ref06_May_p4 (kn : Value → Value → Value → Value → World → Prop) (R : Value → World → Prop) (c_1 sum_3 i_4 : Value) (w : World) : Prop :=
  Stp pg (sFAddr 37 c_1 1) w fun t44 w =>
  Stp pg (sLoad 22 t44) w fun t45 w =>
  Stp pg (sIAddr 22 t45 i_4) w fun t47 w =>
  Stp pg (sLoad 3 t47) w fun t48 w =>
  Stp pg (sBin .lss 3 (.tmp 49) (.const (.int .i64 (-1))) t48 (.int .i64 (-1))) w fun t50 w =>
  Gd (isB t50 false) (fun K => K t48 w) w fun t52 w =>
  Gd (isB t50 false) (fun K => Stp pg (sBin .gtr 3 (.tmp 52) (.const (.int .i64 32768)) t52 (.int .i64 32768)) w K) w fun t53 w =>
  Stp pg (sPick t50 (.bool true) t53) w fun t54 w =>
  Cnd t54
    (R (.bool false) w)
    (Stp pg (sBin .lss 3 (.tmp 55) (.const (.int .i64 0)) t48 (.int .i64 0)) w fun t56 w =>
    Cnd t56
      (kn c_1 sum_3 i_4 (.int .i64 1) w)
      (kn c_1 sum_3 i_4 t48 w))
theorem ref06_May_p4_ok (Q : Exit → Env → World → Prop) (g : Env) (w : World) (kn : Value → Value → Value → Value → World → Prop) (R : Value → World → Prop) (hn : ∀ g w, kn (g 1) (g 3) (g 4) (g 5) w → Q .normal g w) (hr : ∀ g w, (resVals pg rs_ref06_May g w fun vs => R (tup vs) w) → Q .ret g w) (h : ref06_May_p4 kn R (g 1) (g 3) (g 4) w) : den pg ann_ref06_May (takeS 3 (bI (takeS 1 (dropS 1 (bI (bI (dropS 1 (takeS 1 (dropS 3 code_ref06_May))))))))) Q g w := by
  have e : (ref06_May_p4 kn R (g 1) (g 3) (g 4) w) = den pg ann_ref06_May (takeS 3 (bI (takeS 1 (dropS 1 (bI (bI (dropS 1 (takeS 1 (dropS 3 code_ref06_May))))))))) (exQ (fun g w => kn (g 1) (g 3) (g 4) (g 5) w) (fun g w => resVals pg rs_ref06_May g w fun vs => R (tup vs) w) []) g w := by kernel_rfl
  exact den_exQ e h hn hr trivial

def ref06_May_p5 (kn : Value → Value → Value → World → Prop) (R : Value → World → Prop) (c_1 sum_3 i_4 : Value) (w : World) : Prop :=
  ref06_May_p4 (fun c_1 sum_3 i_4 p_5 w => ref06_May_p3 kn c_1 sum_3 i_4 p_5 w) R c_1 sum_3 i_4 w
theorem ref06_May_p5_ok (Q : Exit → Env → World → Prop) (g : Env) (w : World) (kn : Value → Value → Value → World → Prop) (R : Value → World → Prop) (hn : ∀ g w, kn (g 1) (g 3) (g 4) w → Q .normal g w) (hr : ∀ g w, (resVals pg rs_ref06_May g w fun vs => R (tup vs) w) → Q .ret g w) (h : ref06_May_p5 kn R (g 1) (g 3) (g 4) w) : den pg ann_ref06_May (bI (takeS 1 (dropS 1 (bI (bI (dropS 1 (takeS 1 (dropS 3 code_ref06_May)))))))) Q g w := by
  exact den_seqs 3 (bI (takeS 1 (dropS 1 (bI (bI (dropS 1 (takeS 1 (dropS 3 code_ref06_May)))))))) g w (by kernel_rfl) (ref06_May_p4_ok (thenE (fun g w => den pg ann_ref06_May (dropS 3 (bI (takeS 1 (dropS 1 (bI (bI (dropS 1 (takeS 1 (dropS 3 code_ref06_May))))))))) Q g w) Q) g w (fun c_1 sum_3 i_4 p_5 w => ref06_May_p3 kn c_1 sum_3 i_4 p_5 w) R (fun g w h => thenE_n (K := fun g w => den pg ann_ref06_May (dropS 3 (bI (takeS 1 (dropS 1 (bI (bI (dropS 1 (takeS 1 (dropS 3 code_ref06_May))))))))) Q g w) (ref06_May_p3_ok Q g w kn hn h)) hr h)

def ref06_May_p6 (kn : Value → Value → Value → World → Prop) (R : Value → World → Prop) (c_1 sum_3 i_4 : Value) (w : World) : Prop :=
  ref06_May_p5 kn R c_1 sum_3 i_4 w
theorem ref06_May_p6_ok (Q : Exit → Env → World → Prop) (g : Env) (w : World) (kn : Value → Value → Value → World → Prop) (R : Value → World → Prop) (hn : ∀ g w, kn (g 1) (g 3) (g 4) w → Q .normal g w) (hr : ∀ g w, (resVals pg rs_ref06_May g w fun vs => R (tup vs) w) → Q .ret g w) (h : ref06_May_p6 kn R (g 1) (g 3) (g 4) w) : den pg ann_ref06_May (takeS 1 (dropS 1 (bI (bI (dropS 1 (takeS 1 (dropS 3 code_ref06_May))))))) Q g w :=
  den_blk 1 (takeS 1 (dropS 1 (bI (bI (dropS 1 (takeS 1 (dropS 3 code_ref06_May))))))) g w (by kernel_rfl) (ref06_May_p5_ok (blk 1 Q) g w kn R hn hr h)

def ref06_May_p7 (kn : Value → Value → Value → World → Prop) (R : Value → World → Prop) (c_1 sum_3 i_4 : Value) (w : World) : Prop :=
  ref06_May_p6 (fun c_1 sum_3 i_4 w => ref06_May_p2 kn c_1 sum_3 i_4 w) R c_1 sum_3 i_4 w
theorem ref06_May_p7_ok (Q : Exit → Env → World → Prop) (g : Env) (w : World) (kn : Value → Value → Value → World → Prop) (R : Value → World → Prop) (hn : ∀ g w, kn (g 1) (g 3) (g 4) w → Q .normal g w) (hr : ∀ g w, (resVals pg rs_ref06_May g w fun vs => R (tup vs) w) → Q .ret g w) (h : ref06_May_p7 kn R (g 1) (g 3) (g 4) w) : den pg ann_ref06_May (dropS 1 (bI (bI (dropS 1 (takeS 1 (dropS 3 code_ref06_May)))))) Q g w := by
  exact den_seqs 1 (dropS 1 (bI (bI (dropS 1 (takeS 1 (dropS 3 code_ref06_May)))))) g w (by kernel_rfl) (ref06_May_p6_ok (thenE (fun g w => den pg ann_ref06_May (dropS 1 (dropS 1 (bI (bI (dropS 1 (takeS 1 (dropS 3 code_ref06_May))))))) Q g w) Q) g w (fun c_1 sum_3 i_4 w => ref06_May_p2 kn c_1 sum_3 i_4 w) R (fun g w h => thenE_n (K := fun g w => den pg ann_ref06_May (dropS 1 (dropS 1 (bI (bI (dropS 1 (takeS 1 (dropS 3 code_ref06_May))))))) Q g w) (ref06_May_p2_ok Q g w kn hn h)) hr h)

def ref06_May_p8 (kn : Value → Value → Value → World → Prop) (k0 : Value → Value → World → Prop) (c_1 sum_3 i_4 : Value) (w : World) : Prop :=
  Stp pg (sFAddr 37 c_1 1) w fun t38 w =>
  Stp pg (sLoad 22 t38) w fun t39 w =>
  Stp pg (sBi .len #[22] 3 [t39]) w fun t40 w =>
  Stp pg (sBin .lss 3 (.tmp 37) (.tmp 40) i_4 t40) w fun t41 w =>
  Cnd t41
    (kn c_1 sum_3 i_4 w)
    (k0 c_1 sum_3 w)
theorem ref06_May_p8_ok (Q : Exit → Env → World → Prop) (g : Env) (w : World) (kn : Value → Value → Value → World → Prop) (k0 : Value → Value → World → Prop) (hn : ∀ g w, kn (g 1) (g 3) (g 4) w → Q .normal g w) (h0 : ∀ g w, k0 (g 1) (g 3) w → Q (.exit 0) g w) (h : ref06_May_p8 kn k0 (g 1) (g 3) (g 4) w) : den pg ann_ref06_May (takeS 1 (bI (bI (dropS 1 (takeS 1 (dropS 3 code_ref06_May)))))) Q g w := by
  have e : (ref06_May_p8 kn k0 (g 1) (g 3) (g 4) w) = den pg ann_ref06_May (takeS 1 (bI (bI (dropS 1 (takeS 1 (dropS 3 code_ref06_May)))))) (exQ (fun g w => kn (g 1) (g 3) (g 4) w) (fun _ _ => False) [(0, fun g w => k0 (g 1) (g 3) w)]) g w := by kernel_rfl
  exact den_exQ e h hn (fun _ _ h => h.elim) ⟨h0, trivial⟩

def ref06_May_p9 (kn : Value → Value → Value → World → Prop) (k0 : Value → Value → World → Prop) (R : Value → World → Prop) (c_1 sum_3 i_4 : Value) (w : World) : Prop :=
  ref06_May_p8 (fun c_1 sum_3 i_4 w => ref06_May_p7 kn R c_1 sum_3 i_4 w) k0 c_1 sum_3 i_4 w
theorem ref06_May_p9_ok (Q : Exit → Env → World → Prop) (g : Env) (w : World) (kn : Value → Value → Value → World → Prop) (k0 : Value → Value → World → Prop) (R : Value → World → Prop) (hn : ∀ g w, kn (g 1) (g 3) (g 4) w → Q .normal g w) (h0 : ∀ g w, k0 (g 1) (g 3) w → Q (.exit 0) g w) (hr : ∀ g w, (resVals pg rs_ref06_May g w fun vs => R (tup vs) w) → Q .ret g w) (h : ref06_May_p9 kn k0 R (g 1) (g 3) (g 4) w) : den pg ann_ref06_May (bI (bI (dropS 1 (takeS 1 (dropS 3 code_ref06_May))))) Q g w := by
  exact den_seqs 1 (bI (bI (dropS 1 (takeS 1 (dropS 3 code_ref06_May))))) g w (by kernel_rfl) (ref06_May_p8_ok (thenE (fun g w => den pg ann_ref06_May (dropS 1 (bI (bI (dropS 1 (takeS 1 (dropS 3 code_ref06_May)))))) Q g w) Q) g w (fun c_1 sum_3 i_4 w => ref06_May_p7 kn R c_1 sum_3 i_4 w) k0 (fun g w h => thenE_n (K := fun g w => den pg ann_ref06_May (dropS 1 (bI (bI (dropS 1 (takeS 1 (dropS 3 code_ref06_May)))))) Q g w) (ref06_May_p7_ok Q g w kn R hn hr h)) h0 h)

def ref06_May_p10 (k0 : Value → Value → World → Prop) (R : Value → World → Prop) (c_1 sum_3 i_4 : Value) (w : World) : Prop :=
  LoopD (fun (X : (Value × Value) → World → Prop) (t : Value × Value) (w : World) => ref06_May_p9 (fun _ sum_3 i_4 w => X (sum_3, i_4) w) k0 R c_1 t.1 t.2 w) (sum_3, i_4) w
theorem ref06_May_p10_ok (Q : Exit → Env → World → Prop) (g : Env) (w : World) (k0 : Value → Value → World → Prop) (R : Value → World → Prop) (h0 : ∀ g w, k0 (g 1) (g 3) w → Q (.exit 0) g w) (hr : ∀ g w, (resVals pg rs_ref06_May g w fun vs => R (tup vs) w) → Q .ret g w) (h : ref06_May_p10 k0 R (g 1) (g 3) (g 4) w) : den pg ann_ref06_May (bI (dropS 1 (takeS 1 (dropS 3 code_ref06_May)))) Q g w := by
  refine den_loops (T := Value × Value) (fun g : Env => (g 3, g 4)) (fun X t w => ref06_May_p9 (fun _ sum_3 i_4 w => X (sum_3, i_4) w) k0 R (g 1) t.1 t.2 w) (bI (dropS 1 (takeS 1 (dropS 3 code_ref06_May)))) (by kernel_rfl) h (fun X g1 w1 ha h1 => ?_)
  rw [← agree_at (s := 1) ha (by kernel_rfl)] at h1
  exact (ref06_May_p9_ok (thenE (fun g2 w2 => X ((fun g : Env => (g 3, g 4)) g2) w2) Q) g1 w1 (fun _ sum_3 i_4 w => X (sum_3, i_4) w) k0 R (fun _ _ h => h) h0 hr h1)

def ref06_May_p11 (kn : Value → Value → World → Prop) (R : Value → World → Prop) (c_1 sum_3 i_4 : Value) (w : World) : Prop :=
  ref06_May_p10 kn R c_1 sum_3 i_4 w
theorem ref06_May_p11_ok (Q : Exit → Env → World → Prop) (g : Env) (w : World) (kn : Value → Value → World → Prop) (R : Value → World → Prop) (hn : ∀ g w, kn (g 1) (g 3) w → Q .normal g w) (hr : ∀ g w, (resVals pg rs_ref06_May g w fun vs => R (tup vs) w) → Q .ret g w) (h : ref06_May_p11 kn R (g 1) (g 3) (g 4) w) : den pg ann_ref06_May (dropS 1 (takeS 1 (dropS 3 code_ref06_May))) Q g w :=
  den_blk 0 (dropS 1 (takeS 1 (dropS 3 code_ref06_May))) g w (by kernel_rfl) (ref06_May_p10_ok (blk 0 Q) g w kn R hn hr h)

def ref06_May_p12 (kn : Value → Value → Value → World → Prop) (c_1 sum_3 : Value) (w : World) : Prop :=
  kn c_1 sum_3 (.int .i64 0) w
theorem ref06_May_p12_ok (Q : Exit → Env → World → Prop) (g : Env) (w : World) (kn : Value → Value → Value → World → Prop) (hn : ∀ g w, kn (g 1) (g 3) (g 4) w → Q .normal g w) (h : ref06_May_p12 kn (g 1) (g 3) w) : den pg ann_ref06_May (takeS 1 (takeS 1 (dropS 3 code_ref06_May))) Q g w := by
  have e : (ref06_May_p12 kn (g 1) (g 3) w) = den pg ann_ref06_May (takeS 1 (takeS 1 (dropS 3 code_ref06_May))) (exQ (fun g w => kn (g 1) (g 3) (g 4) w) (fun _ _ => False) []) g w := by kernel_rfl
  exact den_exQ e h hn (fun _ _ h => h.elim) trivial

def ref06_May_p13 (kn : Value → Value → World → Prop) (R : Value → World → Prop) (c_1 sum_3 : Value) (w : World) : Prop :=
  ref06_May_p12 (fun c_1 sum_3 i_4 w => ref06_May_p11 kn R c_1 sum_3 i_4 w) c_1 sum_3 w
theorem ref06_May_p13_ok (Q : Exit → Env → World → Prop) (g : Env) (w : World) (kn : Value → Value → World → Prop) (R : Value → World → Prop) (hn : ∀ g w, kn (g 1) (g 3) w → Q .normal g w) (hr : ∀ g w, (resVals pg rs_ref06_May g w fun vs => R (tup vs) w) → Q .ret g w) (h : ref06_May_p13 kn R (g 1) (g 3) w) : den pg ann_ref06_May (takeS 1 (dropS 3 code_ref06_May)) Q g w := by
  exact den_seqs 1 (takeS 1 (dropS 3 code_ref06_May)) g w (by kernel_rfl) (ref06_May_p12_ok (thenE (fun g w => den pg ann_ref06_May (dropS 1 (takeS 1 (dropS 3 code_ref06_May))) Q g w) Q) g w (fun c_1 sum_3 i_4 w => ref06_May_p11 kn R c_1 sum_3 i_4 w) (fun g w h => thenE_n (K := fun g w => den pg ann_ref06_May (dropS 1 (takeS 1 (dropS 3 code_ref06_May))) Q g w) (ref06_May_p11_ok Q g w kn R hn hr h)) h)

def ref06_May_p14 (R : Value → World → Prop) (c_1 sum_3 : Value) (w : World) : Prop :=
  ref06_May_p13 (fun c_1 sum_3 w => ref06_May_p1 R c_1 sum_3 w) R c_1 sum_3 w
theorem ref06_May_p14_ok (Q : Exit → Env → World → Prop) (g : Env) (w : World) (R : Value → World → Prop) (hr : ∀ g w, (resVals pg rs_ref06_May g w fun vs => R (tup vs) w) → Q .ret g w) (h : ref06_May_p14 R (g 1) (g 3) w) : den pg ann_ref06_May (dropS 3 code_ref06_May) Q g w := by
  exact den_seqs 1 (dropS 3 code_ref06_May) g w (by kernel_rfl) (ref06_May_p13_ok (thenE (fun g w => den pg ann_ref06_May (dropS 1 (dropS 3 code_ref06_May)) Q g w) Q) g w (fun c_1 sum_3 w => ref06_May_p1 R c_1 sum_3 w) R (fun g w h => thenE_n (K := fun g w => den pg ann_ref06_May (dropS 1 (dropS 3 code_ref06_May)) Q g w) (ref06_May_p1_ok Q g w R hr h)) hr h)

def ref06_May_p15 (kn : Value → Value → World → Prop) (R : Value → World → Prop) (c_0 : Value) (w : World) : Prop :=
  Stp pg (sBox 37 c_0) w fun c_1 w =>
  Stp pg (sFAddr 37 c_1 0) w fun t6 w =>
  Stp pg (sLoad 3 t6) w fun t7 w =>
  Stp pg (sBin .lss 3 (.tmp 7) (.const (.int .i64 5)) t7 (.int .i64 5)) w fun t8 w =>
  Gd (isB t8 false) (fun K => Stp pg (sFAddr 37 c_1 0) w K) w fun t10 w =>
  Gd (isB t8 false) (fun K => Stp pg (sLoad 3 t10) w K) w fun t11 w =>
  Gd (isB t8 false) (fun K => Stp pg (sBin .gtr 3 (.tmp 11) (.const (.int .i64 15)) t11 (.int .i64 15)) w K) w fun t12 w =>
  Stp pg (sPick t8 (.bool true) t12) w fun t13 w =>
  Gd (isB t13 false) (fun K => Stp pg (sFAddr 37 c_1 1) w K) w fun t15 w =>
  Gd (isB t13 false) (fun K => Stp pg (sLoad 22 t15) w K) w fun t16 w =>
  Gd (isB t13 false) (fun K => Stp pg (sBi .len #[22] 3 [t16]) w K) w fun t17 w =>
  Gd (isB t13 false) (fun K => Stp pg (sBin .eql 3 (.tmp 17) (.const (.int .i64 0)) t17 (.int .i64 0)) w K) w fun t18 w =>
  Stp pg (sPick t13 (.bool true) t18) w fun t19 w =>
  Gd (isB t19 false) (fun K => Stp pg (sFAddr 37 c_1 1) w K) w fun t21 w =>
  Gd (isB t19 false) (fun K => Stp pg (sLoad 22 t21) w K) w fun t22 w =>
  Gd (isB t19 false) (fun K => Stp pg (sBi .len #[22] 3 [t22]) w K) w fun t23 w =>
  Gd (isB t19 false) (fun K => Stp pg (sBin .gtr 3 (.tmp 23) (.const (.int .i64 256)) t23 (.int .i64 256)) w K) w fun t24 w =>
  Stp pg (sPick t19 (.bool true) t24) w fun t25 w =>
  Gd (isB t25 false) (fun K => Stp pg (sFAddr 37 c_1 1) w K) w fun t27 w =>
  Gd (isB t25 false) (fun K => Stp pg (sLoad 22 t27) w K) w fun t28 w =>
  Gd (isB t25 false) (fun K => Stp pg (sFAddr 37 c_1 1) w K) w fun t29 w =>
  Gd (isB t25 false) (fun K => Stp pg (sLoad 22 t29) w K) w fun t30 w =>
  Gd (isB t25 false) (fun K => Stp pg (sBi .len #[22] 3 [t30]) w K) w fun t31 w =>
  Gd (isB t25 false) (fun K => Stp pg (sBin .sub 3 (.tmp 31) (.const (.int .i64 1)) t31 (.int .i64 1)) w K) w fun t32 w =>
  Gd (isB t25 false) (fun K => Stp pg (sIAddr 22 t28 t32) w K) w fun t33 w =>
  Gd (isB t25 false) (fun K => Stp pg (sLoad 3 t33) w K) w fun t34 w =>
  Gd (isB t25 false) (fun K => Stp pg (sBin .eql 3 (.tmp 34) (.const (.int .i64 0)) t34 (.int .i64 0)) w K) w fun t35 w =>
  Stp pg (sPick t25 (.bool true) t35) w fun t36 w =>
  Cnd t36
    (R (.bool false) w)
    (kn c_1 (.int .i64 0) w)
theorem ref06_May_p15_ok (Q : Exit → Env → World → Prop) (g : Env) (w : World) (kn : Value → Value → World → Prop) (R : Value → World → Prop) (hn : ∀ g w, kn (g 1) (g 3) w → Q .normal g w) (hr : ∀ g w, (resVals pg rs_ref06_May g w fun vs => R (tup vs) w) → Q .ret g w) (h : ref06_May_p15 kn R (g 0) w) : den pg ann_ref06_May (takeS 3 code_ref06_May) Q g w := by
  have e : (ref06_May_p15 kn R (g 0) w) = den pg ann_ref06_May (takeS 3 code_ref06_May) (exQ (fun g w => kn (g 1) (g 3) w) (fun g w => resVals pg rs_ref06_May g w fun vs => R (tup vs) w) []) g w := by kernel_rfl
  exact den_exQ e h hn hr trivial

def ref06_May_p16 (R : Value → World → Prop) (c_0 : Value) (w : World) : Prop :=
  ref06_May_p15 (fun c_1 sum_3 w => ref06_May_p14 R c_1 sum_3 w) R c_0 w
theorem ref06_May_p16_ok (Q : Exit → Env → World → Prop) (g : Env) (w : World) (R : Value → World → Prop) (hr : ∀ g w, (resVals pg rs_ref06_May g w fun vs => R (tup vs) w) → Q .ret g w) (h : ref06_May_p16 R (g 0) w) : den pg ann_ref06_May code_ref06_May Q g w := by
  exact den_seqs 3 code_ref06_May g w (by kernel_rfl) (ref06_May_p15_ok (thenE (fun g w => den pg ann_ref06_May (dropS 3 code_ref06_May) Q g w) Q) g w (fun c_1 sum_3 w => ref06_May_p14 R c_1 sum_3 w) R (fun g w h => thenE_n (K := fun g w => den pg ann_ref06_May (dropS 3 code_ref06_May) Q g w) (ref06_May_p14_ok Q g w R hr h)) hr h)

def ref06_May (a0 : Value) (w : World) (R : Value → World → Prop) : Prop :=
  ref06_May_p16 R a0 w
theorem ref06_May_does {a0 : Value} {w : World} {R : Value → World → Prop} (h : ref06_May a0 w R) : Does pg F_ref06_May #[a0] w R := by
  refine does_of_den (ann := ann_ref06_May) (fn := Try.f41) (c := code_ref06_May) (args := [a0]) (rs := rs_ref06_May) (N := 65) TryM.mixed (by kernel_rfl) Try.func41 (by kernel_rfl) (by kernel_rfl) (by kernel_rfl) (of_decide_eq_true (by kernel_rfl)) (by kernel_rfl) ?_
  exact (ref06_May_p16_ok (retQ pg rs_ref06_May R) (envOf [a0]) w R (fun _ _ h => h) h)
-- PIECES ref06_May/0 ref06_May_p1 ref06_May_p10 ref06_May_p11 ref06_May_p12 ref06_May_p13 ref06_May_p14 ref06_May_p15 ref06_May_p16
-- PIECES ref06_May/1 ref06_May_p2 ref06_May_p3 ref06_May_p4 ref06_May_p5 ref06_May_p6 ref06_May_p7 ref06_May_p8 ref06_May_p9

/- lighterman/lightermanref06.Power -/
def ann_ref06_Power : FA := ⟨F_ref06_Power, fun i => .leaf ([], []) []⟩
def rs_ref06_Power : List ResultVar := [.tmp 2]
noncomputable def code_ref06_Power : Code := bodyOf Try.f42
def ref06_Power_p1 (R : Value → World → Prop) (x_3 : Value) (w : World) : Prop :=
  R x_3 w
theorem ref06_Power_p1_ok (Q : Exit → Env → World → Prop) (g : Env) (w : World) (R : Value → World → Prop) (hr : ∀ g w, (resVals pg rs_ref06_Power g w fun vs => R (tup vs) w) → Q .ret g w) (h : ref06_Power_p1 R (g 3) w) : den pg ann_ref06_Power (dropS 1 (dropS 2 code_ref06_Power)) Q g w := by
  have e : (ref06_Power_p1 R (g 3) w) = den pg ann_ref06_Power (dropS 1 (dropS 2 code_ref06_Power)) (exQ (fun _ _ => False) (fun g w => resVals pg rs_ref06_Power g w fun vs => R (tup vs) w) []) g w := by kernel_rfl
  exact den_exQ e h (fun _ _ h => h.elim) hr trivial

def ref06_Power_p2 (kn : Value → Value → Value → World → Prop) (k0 : Value → World → Prop) (n_0 x_3 i_4 : Value) (w : World) : Prop :=
  Stp pg (sBin .lss 3 (.tmp 5) (.tmp 6) i_4 n_0) w fun t7 w =>
  Gd (isB t7 true) (fun K => K i_4 w) w fun t9 w =>
  Gd (isB t7 true) (fun K => Stp pg (sBin .lss 3 (.tmp 9) (.const (.int .i64 40)) t9 (.int .i64 40)) w K) w fun t10 w =>
  Stp pg (sPick t7 t10 (.bool false)) w fun t11 w =>
  Cnd t11
    (Stp pg (sBin .mul 3 (.tmp 14) (.const (.int .i64 2)) x_3 (.int .i64 2)) w fun t15 w =>
    Stp pg (sBin .add 3 (.tmp 12) (.const (.int .i64 1)) i_4 (.int .i64 1)) w fun t13 w =>
    kn n_0 t15 t13 w)
    (k0 x_3 w)
theorem ref06_Power_p2_ok (Q : Exit → Env → World → Prop) (g : Env) (w : World) (kn : Value → Value → Value → World → Prop) (k0 : Value → World → Prop) (hn : ∀ g w, kn (g 0) (g 3) (g 4) w → Q .normal g w) (h0 : ∀ g w, k0 (g 3) w → Q (.exit 0) g w) (h : ref06_Power_p2 kn k0 (g 0) (g 3) (g 4) w) : den pg ann_ref06_Power (bI (bI (dropS 1 (takeS 1 (dropS 2 code_ref06_Power))))) Q g w := by
  have e : (ref06_Power_p2 kn k0 (g 0) (g 3) (g 4) w) = den pg ann_ref06_Power (bI (bI (dropS 1 (takeS 1 (dropS 2 code_ref06_Power))))) (exQ (fun g w => kn (g 0) (g 3) (g 4) w) (fun _ _ => False) [(0, fun g w => k0 (g 3) w)]) g w := by kernel_rfl
  exact den_exQ e h hn (fun _ _ h => h.elim) ⟨h0, trivial⟩

def ref06_Power_p3 (k0 : Value → World → Prop) (n_0 x_3 i_4 : Value) (w : World) : Prop :=
  LoopD (fun (X : (Value × Value) → World → Prop) (t : Value × Value) (w : World) => ref06_Power_p2 (fun _ x_3 i_4 w => X (x_3, i_4) w) k0 n_0 t.1 t.2 w) (x_3, i_4) w
theorem ref06_Power_p3_ok (Q : Exit → Env → World → Prop) (g : Env) (w : World) (k0 : Value → World → Prop) (h0 : ∀ g w, k0 (g 3) w → Q (.exit 0) g w) (h : ref06_Power_p3 k0 (g 0) (g 3) (g 4) w) : den pg ann_ref06_Power (bI (dropS 1 (takeS 1 (dropS 2 code_ref06_Power)))) Q g w := by
  refine den_loops (T := Value × Value) (fun g : Env => (g 3, g 4)) (fun X t w => ref06_Power_p2 (fun _ x_3 i_4 w => X (x_3, i_4) w) k0 (g 0) t.1 t.2 w) (bI (dropS 1 (takeS 1 (dropS 2 code_ref06_Power)))) (by kernel_rfl) h (fun X g1 w1 ha h1 => ?_)
  rw [← agree_at (s := 0) ha (by kernel_rfl)] at h1
  exact (ref06_Power_p2_ok (thenE (fun g2 w2 => X ((fun g : Env => (g 3, g 4)) g2) w2) Q) g1 w1 (fun _ x_3 i_4 w => X (x_3, i_4) w) k0 (fun _ _ h => h) h0 h1)

def ref06_Power_p4 (kn : Value → World → Prop) (n_0 x_3 i_4 : Value) (w : World) : Prop :=
  ref06_Power_p3 kn n_0 x_3 i_4 w
theorem ref06_Power_p4_ok (Q : Exit → Env → World → Prop) (g : Env) (w : World) (kn : Value → World → Prop) (hn : ∀ g w, kn (g 3) w → Q .normal g w) (h : ref06_Power_p4 kn (g 0) (g 3) (g 4) w) : den pg ann_ref06_Power (dropS 1 (takeS 1 (dropS 2 code_ref06_Power))) Q g w :=
  den_blk 0 (dropS 1 (takeS 1 (dropS 2 code_ref06_Power))) g w (by kernel_rfl) (ref06_Power_p3_ok (blk 0 Q) g w kn hn h)

def ref06_Power_p5 (kn : Value → Value → Value → World → Prop) (n_0 x_3 : Value) (w : World) : Prop :=
  kn n_0 x_3 (.int .i64 0) w
theorem ref06_Power_p5_ok (Q : Exit → Env → World → Prop) (g : Env) (w : World) (kn : Value → Value → Value → World → Prop) (hn : ∀ g w, kn (g 0) (g 3) (g 4) w → Q .normal g w) (h : ref06_Power_p5 kn (g 0) (g 3) w) : den pg ann_ref06_Power (takeS 1 (takeS 1 (dropS 2 code_ref06_Power))) Q g w := by
  have e : (ref06_Power_p5 kn (g 0) (g 3) w) = den pg ann_ref06_Power (takeS 1 (takeS 1 (dropS 2 code_ref06_Power))) (exQ (fun g w => kn (g 0) (g 3) (g 4) w) (fun _ _ => False) []) g w := by kernel_rfl
  exact den_exQ e h hn (fun _ _ h => h.elim) trivial

def ref06_Power_p6 (kn : Value → World → Prop) (n_0 x_3 : Value) (w : World) : Prop :=
  ref06_Power_p5 (fun n_0 x_3 i_4 w => ref06_Power_p4 kn n_0 x_3 i_4 w) n_0 x_3 w
theorem ref06_Power_p6_ok (Q : Exit → Env → World → Prop) (g : Env) (w : World) (kn : Value → World → Prop) (hn : ∀ g w, kn (g 3) w → Q .normal g w) (h : ref06_Power_p6 kn (g 0) (g 3) w) : den pg ann_ref06_Power (takeS 1 (dropS 2 code_ref06_Power)) Q g w := by
  exact den_seqs 1 (takeS 1 (dropS 2 code_ref06_Power)) g w (by kernel_rfl) (ref06_Power_p5_ok (thenE (fun g w => den pg ann_ref06_Power (dropS 1 (takeS 1 (dropS 2 code_ref06_Power))) Q g w) Q) g w (fun n_0 x_3 i_4 w => ref06_Power_p4 kn n_0 x_3 i_4 w) (fun g w h => thenE_n (K := fun g w => den pg ann_ref06_Power (dropS 1 (takeS 1 (dropS 2 code_ref06_Power))) Q g w) (ref06_Power_p4_ok Q g w kn hn h)) h)

def ref06_Power_p7 (R : Value → World → Prop) (n_0 x_3 : Value) (w : World) : Prop :=
  ref06_Power_p6 (fun x_3 w => ref06_Power_p1 R x_3 w) n_0 x_3 w
theorem ref06_Power_p7_ok (Q : Exit → Env → World → Prop) (g : Env) (w : World) (R : Value → World → Prop) (hr : ∀ g w, (resVals pg rs_ref06_Power g w fun vs => R (tup vs) w) → Q .ret g w) (h : ref06_Power_p7 R (g 0) (g 3) w) : den pg ann_ref06_Power (dropS 2 code_ref06_Power) Q g w := by
  exact den_seqs 1 (dropS 2 code_ref06_Power) g w (by kernel_rfl) (ref06_Power_p6_ok (thenE (fun g w => den pg ann_ref06_Power (dropS 1 (dropS 2 code_ref06_Power)) Q g w) Q) g w (fun x_3 w => ref06_Power_p1 R x_3 w) (fun g w h => thenE_n (K := fun g w => den pg ann_ref06_Power (dropS 1 (dropS 2 code_ref06_Power)) Q g w) (ref06_Power_p1_ok Q g w R hr h)) h)

def ref06_Power_p8 (kn : Value → Value → World → Prop) (n_0 : Value) (w : World) : Prop :=
  kn n_0 (.int .i64 1) w
theorem ref06_Power_p8_ok (Q : Exit → Env → World → Prop) (g : Env) (w : World) (kn : Value → Value → World → Prop) (hn : ∀ g w, kn (g 0) (g 3) w → Q .normal g w) (h : ref06_Power_p8 kn (g 0) w) : den pg ann_ref06_Power (takeS 2 code_ref06_Power) Q g w := by
  have e : (ref06_Power_p8 kn (g 0) w) = den pg ann_ref06_Power (takeS 2 code_ref06_Power) (exQ (fun g w => kn (g 0) (g 3) w) (fun _ _ => False) []) g w := by kernel_rfl
  exact den_exQ e h hn (fun _ _ h => h.elim) trivial

def ref06_Power_p9 (R : Value → World → Prop) (n_0 : Value) (w : World) : Prop :=
  ref06_Power_p8 (fun n_0 x_3 w => ref06_Power_p7 R n_0 x_3 w) n_0 w
theorem ref06_Power_p9_ok (Q : Exit → Env → World → Prop) (g : Env) (w : World) (R : Value → World → Prop) (hr : ∀ g w, (resVals pg rs_ref06_Power g w fun vs => R (tup vs) w) → Q .ret g w) (h : ref06_Power_p9 R (g 0) w) : den pg ann_ref06_Power code_ref06_Power Q g w := by
  exact den_seqs 2 code_ref06_Power g w (by kernel_rfl) (ref06_Power_p8_ok (thenE (fun g w => den pg ann_ref06_Power (dropS 2 code_ref06_Power) Q g w) Q) g w (fun n_0 x_3 w => ref06_Power_p7 R n_0 x_3 w) (fun g w h => thenE_n (K := fun g w => den pg ann_ref06_Power (dropS 2 code_ref06_Power) Q g w) (ref06_Power_p7_ok Q g w R hr h)) h)

def ref06_Power (a0 : Value) (w : World) (R : Value → World → Prop) : Prop :=
  ref06_Power_p9 R a0 w
theorem ref06_Power_does {a0 : Value} {w : World} {R : Value → World → Prop} (h : ref06_Power a0 w R) : Does pg F_ref06_Power #[a0] w R := by
  refine does_of_den (ann := ann_ref06_Power) (fn := Try.f42) (c := code_ref06_Power) (args := [a0]) (rs := rs_ref06_Power) (N := 17) TryM.mixed (by kernel_rfl) Try.func42 (by kernel_rfl) (by kernel_rfl) (by kernel_rfl) (of_decide_eq_true (by kernel_rfl)) (by kernel_rfl) ?_
  exact (ref06_Power_p9_ok (retQ pg rs_ref06_Power R) (envOf [a0]) w R (fun _ _ h => h) h)
-- PIECES ref06_Power/0 ref06_Power_p1 ref06_Power_p3 ref06_Power_p4 ref06_Power_p5 ref06_Power_p6 ref06_Power_p7 ref06_Power_p8 ref06_Power_p9
-- PIECES ref06_Power/1 ref06_Power_p2

/- lighterman/normal.Of -/
def ann_normal_Of : FA := ⟨F_normal_Of, fun i => match Nat.beq i 22 with | true => .leaf ([], []) [(false, []), (false, []), (false, []), (false, []), (false, []), (false, []), (false, []), (false, []), (false, []), (false, []), (false, [])] | false => .leaf ([], []) []⟩
def rs_normal_Of : List ResultVar := [.cell 4 24, .tmp 5]
noncomputable def code_normal_Of : Code := bodyOf Try.f43
def normal_Of_p1 (R : Value → World → Prop) (t4 c_11 left_12 greatest_13 : Value) (w : World) : Prop :=
  Stp pg (sFAddr 24 c_11 1) w fun t120 w =>
  Stp pg (sLoad 22 t120) w fun t121 w =>
  Stp pg (sIAddr 22 t121 greatest_13) w fun t123 w =>
  Stp pg (sLoad 3 t123) w fun t124 w =>
  Stp pg (sBin .add 3 (.tmp 124) (.tmp 125) t124 left_12) w fun t126 w =>
  Stp pg (sIAddr 22 t121 greatest_13) w fun t127 w =>
  Stp pg (sStore 3 t127 t126) w fun _u w =>
  Stp pg (sLoad 24 c_11) w fun t128 w =>
  Stp pg (sStore 24 t4 t128) w fun _u w =>
  LdR pg 24 t4 w fun r0 => R (.tuple #[r0, (.int .i64 0)]) w
theorem normal_Of_p1_ok (Q : Exit → Env → World → Prop) (g : Env) (w : World) (R : Value → World → Prop) (hr : ∀ g w, (resVals pg rs_normal_Of g w fun vs => R (tup vs) w) → Q .ret g w) (h : normal_Of_p1 R (g 4) (g 11) (g 12) (g 13) w) : den pg ann_normal_Of (dropS 1 (dropS 4 (dropS 1 (dropS 3 code_normal_Of)))) Q g w := by
  have e : (normal_Of_p1 R (g 4) (g 11) (g 12) (g 13) w) = den pg ann_normal_Of (dropS 1 (dropS 4 (dropS 1 (dropS 3 code_normal_Of)))) (exQ (fun _ _ => False) (fun g w => resVals pg rs_normal_Of g w fun vs => R (tup vs) w) []) g w := by kernel_rfl
  exact den_exQ e h (fun _ _ h => h.elim) hr trivial

def normal_Of_p2 (kn : Value → Value → Value → Value → Value → Value → Value → Value → Value → Value → World → Prop) (log_1 t4 sum_6 t7 c_11 left_12 greatest_13 t78 t79 t80 : Value) (w : World) : Prop :=
  Stp pg (sBin .add 3 (.tmp 80) (.const (.int .i64 1)) t80 (.int .i64 1)) w fun t119 w =>
  kn log_1 t4 sum_6 t7 c_11 left_12 greatest_13 t78 t79 t119 w
theorem normal_Of_p2_ok (Q : Exit → Env → World → Prop) (g : Env) (w : World) (kn : Value → Value → Value → Value → Value → Value → Value → Value → Value → Value → World → Prop) (hn : ∀ g w, kn (g 1) (g 4) (g 6) (g 7) (g 11) (g 12) (g 13) (g 78) (g 79) (g 80) w → Q .normal g w) (h : normal_Of_p2 kn (g 1) (g 4) (g 6) (g 7) (g 11) (g 12) (g 13) (g 78) (g 79) (g 80) w) : den pg ann_normal_Of (dropS 3 (bI (bI (dropS 1 (takeS 1 (dropS 4 (dropS 1 (dropS 3 code_normal_Of)))))))) Q g w := by
  have e : (normal_Of_p2 kn (g 1) (g 4) (g 6) (g 7) (g 11) (g 12) (g 13) (g 78) (g 79) (g 80) w) = den pg ann_normal_Of (dropS 3 (bI (bI (dropS 1 (takeS 1 (dropS 4 (dropS 1 (dropS 3 code_normal_Of)))))))) (exQ (fun g w => kn (g 1) (g 4) (g 6) (g 7) (g 11) (g 12) (g 13) (g 78) (g 79) (g 80) w) (fun _ _ => False) []) g w := by kernel_rfl
  exact den_exQ e h hn (fun _ _ h => h.elim) trivial

def normal_Of_p3 (kn : Value → Value → Value → Value → Value → Value → Value → Value → Value → Value → World → Prop) (k2 : Value → Value → Value → Value → World → Prop) (log_1 t4 sum_6 t7 c_11 left_12 greatest_13 t78 t79 t80 : Value) (w : World) : Prop :=
  Stp pg (sBin .lss 3 (.tmp 80) (.tmp 79) t80 t79) w fun t81 w =>
  Cnd t81
    (Stp pg (sIAddr 89 t78 t80) w fun t83 w =>
    Stp pg (sLoad 90 t83) w fun t84 w =>
    Stp pg (sBin .eql 90 (.tmp 85) (.const (.int .u32 0)) t84 (.int .u32 0)) w fun t86 w =>
    Cnd t86
      (kn log_1 t4 sum_6 t7 c_11 left_12 greatest_13 t78 t79 t80 w)
      (Stp pg (sCvt 90 45 t84) w fun t88 w =>
      Stp pg (sBin .shl 3 (.const (.int .i64 1)) (.tmp 89) (.int .i64 1) log_1) w fun t90 w =>
      Stp pg (sBin .sub 3 (.tmp 90) (.tmp 91) t90 t7) w fun t92 w =>
      Stp pg (sCvt 3 45 t92) w fun t93 w =>
      Stp pg (sBin .mul 45 (.tmp 88) (.tmp 93) t88 t93) w fun t94 w =>
      Stp pg (sBin .quo 45 (.tmp 94) (.tmp 95) t94 sum_6) w fun t96 w =>
      Stp pg (sCvt 45 3 t96) w fun t97 w =>
      Stp pg (sFAddr 24 c_11 1) w fun t98 w =>
      Stp pg (sLoad 22 t98) w fun t99 w =>
      Stp pg (sBin .add 3 (.const (.int .i64 1)) (.tmp 101) (.int .i64 1) t97) w fun t102 w =>
      Stp pg (sIAddr 22 t99 t80) w fun t103 w =>
      Stp pg (sStore 3 t103 t102) w fun _u w =>
      Stp pg (sBin .sub 3 (.tmp 104) (.tmp 105) left_12 t97) w fun t106 w =>
      Stp pg (sFAddr 24 c_11 1) (dr w) fun t107 w_ => w_ = (dr w) ∧
      Stp pg (sLoad 22 t107) (dr w) fun t108 w_ => w_ = (dr w) ∧
      (dr w) = (dr w) ∧
      Stp pg (sIAddr 22 t108 t80) (dr w) fun t110 w_ => w_ = (dr w) ∧
      Stp pg (sLoad 3 t110) (dr w) fun t111 w_ => w_ = (dr w) ∧
      Stp pg (sFAddr 24 c_11 1) (dr w) fun t112 w_ => w_ = (dr w) ∧
      Stp pg (sLoad 22 t112) (dr w) fun t113 w_ => w_ = (dr w) ∧
      (dr w) = (dr w) ∧
      Stp pg (sIAddr 22 t113 greatest_13) (dr w) fun t115 w_ => w_ = (dr w) ∧
      Stp pg (sLoad 3 t115) (dr w) fun t116 w_ => w_ = (dr w) ∧
      Stp pg (sBin .gtr 3 (.tmp 111) (.tmp 116) t111 t116) (dr w) fun t117 w_ => w_ = (dr w) ∧
      Cnd t117
        (kn log_1 t4 sum_6 t7 c_11 t106 t80 t78 t79 t80 (dr w))
        (kn log_1 t4 sum_6 t7 c_11 t106 greatest_13 t78 t79 t80 (dr w))))
    (k2 t4 c_11 left_12 greatest_13 w)
theorem normal_Of_p3_ok (Q : Exit → Env → World → Prop) (g : Env) (w : World) (kn : Value → Value → Value → Value → Value → Value → Value → Value → Value → Value → World → Prop) (k2 : Value → Value → Value → Value → World → Prop) (hn : ∀ g w, kn (g 1) (g 4) (g 6) (g 7) (g 11) (g 12) (g 13) (g 78) (g 79) (g 80) w → Q .normal g w) (h2 : ∀ g w, k2 (g 4) (g 11) (g 12) (g 13) w → Q (.exit 2) g w) (h : normal_Of_p3 kn k2 (g 1) (g 4) (g 6) (g 7) (g 11) (g 12) (g 13) (g 78) (g 79) (g 80) w) : den pg ann_normal_Of (takeS 3 (bI (bI (dropS 1 (takeS 1 (dropS 4 (dropS 1 (dropS 3 code_normal_Of)))))))) Q g w := by
  have e : (normal_Of_p3 kn k2 (g 1) (g 4) (g 6) (g 7) (g 11) (g 12) (g 13) (g 78) (g 79) (g 80) w) = den pg ann_normal_Of (takeS 3 (bI (bI (dropS 1 (takeS 1 (dropS 4 (dropS 1 (dropS 3 code_normal_Of)))))))) (exQ (fun g w => kn (g 1) (g 4) (g 6) (g 7) (g 11) (g 12) (g 13) (g 78) (g 79) (g 80) w) (fun _ _ => False) [(2, fun g w => k2 (g 4) (g 11) (g 12) (g 13) w)]) g w := by kernel_rfl
  exact den_exQ e h hn (fun _ _ h => h.elim) ⟨h2, trivial⟩

def normal_Of_p4 (kn : Value → Value → Value → Value → Value → Value → Value → Value → Value → Value → World → Prop) (k2 : Value → Value → Value → Value → World → Prop) (log_1 t4 sum_6 t7 c_11 left_12 greatest_13 t78 t79 t80 : Value) (w : World) : Prop :=
  normal_Of_p3 (fun log_1 t4 sum_6 t7 c_11 left_12 greatest_13 t78 t79 t80 w => normal_Of_p2 kn log_1 t4 sum_6 t7 c_11 left_12 greatest_13 t78 t79 t80 w) k2 log_1 t4 sum_6 t7 c_11 left_12 greatest_13 t78 t79 t80 w
theorem normal_Of_p4_ok (Q : Exit → Env → World → Prop) (g : Env) (w : World) (kn : Value → Value → Value → Value → Value → Value → Value → Value → Value → Value → World → Prop) (k2 : Value → Value → Value → Value → World → Prop) (hn : ∀ g w, kn (g 1) (g 4) (g 6) (g 7) (g 11) (g 12) (g 13) (g 78) (g 79) (g 80) w → Q .normal g w) (h2 : ∀ g w, k2 (g 4) (g 11) (g 12) (g 13) w → Q (.exit 2) g w) (h : normal_Of_p4 kn k2 (g 1) (g 4) (g 6) (g 7) (g 11) (g 12) (g 13) (g 78) (g 79) (g 80) w) : den pg ann_normal_Of (bI (bI (dropS 1 (takeS 1 (dropS 4 (dropS 1 (dropS 3 code_normal_Of))))))) Q g w := by
  exact den_seqs 3 (bI (bI (dropS 1 (takeS 1 (dropS 4 (dropS 1 (dropS 3 code_normal_Of))))))) g w (by kernel_rfl) (normal_Of_p3_ok (thenE (fun g w => den pg ann_normal_Of (dropS 3 (bI (bI (dropS 1 (takeS 1 (dropS 4 (dropS 1 (dropS 3 code_normal_Of)))))))) Q g w) Q) g w (fun log_1 t4 sum_6 t7 c_11 left_12 greatest_13 t78 t79 t80 w => normal_Of_p2 kn log_1 t4 sum_6 t7 c_11 left_12 greatest_13 t78 t79 t80 w) k2 (fun g w h => thenE_n (K := fun g w => den pg ann_normal_Of (dropS 3 (bI (bI (dropS 1 (takeS 1 (dropS 4 (dropS 1 (dropS 3 code_normal_Of)))))))) Q g w) (normal_Of_p2_ok Q g w kn hn h)) h2 h)

def normal_Of_p5 (k2 : Value → Value → Value → Value → World → Prop) (log_1 t4 sum_6 t7 c_11 left_12 greatest_13 t78 t79 t80 : Value) (w : World) : Prop :=
  LoopD (fun (X : (Value × Value × Value) → World → Prop) (t : Value × Value × Value) (w : World) => normal_Of_p4 (fun _ _ _ _ _ left_12 greatest_13 _ _ t80 w => X (left_12, greatest_13, t80) w) k2 log_1 t4 sum_6 t7 c_11 t.1 t.2.1 t78 t79 t.2.2 w) (left_12, greatest_13, t80) w
theorem normal_Of_p5_ok (Q : Exit → Env → World → Prop) (g : Env) (w : World) (k2 : Value → Value → Value → Value → World → Prop) (h2 : ∀ g w, k2 (g 4) (g 11) (g 12) (g 13) w → Q (.exit 2) g w) (h : normal_Of_p5 k2 (g 1) (g 4) (g 6) (g 7) (g 11) (g 12) (g 13) (g 78) (g 79) (g 80) w) : den pg ann_normal_Of (bI (dropS 1 (takeS 1 (dropS 4 (dropS 1 (dropS 3 code_normal_Of)))))) Q g w := by
  refine den_loops (T := Value × Value × Value) (fun g : Env => (g 12, g 13, g 80)) (fun X t w => normal_Of_p4 (fun _ _ _ _ _ left_12 greatest_13 _ _ t80 w => X (left_12, greatest_13, t80) w) k2 (g 1) (g 4) (g 6) (g 7) (g 11) t.1 t.2.1 (g 78) (g 79) t.2.2 w) (bI (dropS 1 (takeS 1 (dropS 4 (dropS 1 (dropS 3 code_normal_Of)))))) (by kernel_rfl) h (fun X g1 w1 ha h1 => ?_)
  rw [← agree_at (s := 1) ha (by kernel_rfl)] at h1
  rw [← agree_at (s := 4) ha (by kernel_rfl)] at h1
  rw [← agree_at (s := 6) ha (by kernel_rfl)] at h1
  rw [← agree_at (s := 7) ha (by kernel_rfl)] at h1
  rw [← agree_at (s := 11) ha (by kernel_rfl)] at h1
  rw [← agree_at (s := 78) ha (by kernel_rfl)] at h1
  rw [← agree_at (s := 79) ha (by kernel_rfl)] at h1
  exact (normal_Of_p4_ok (thenE (fun g2 w2 => X ((fun g : Env => (g 12, g 13, g 80)) g2) w2) Q) g1 w1 (fun _ _ _ _ _ left_12 greatest_13 _ _ t80 w => X (left_12, greatest_13, t80) w) k2 (fun _ _ h => h) h2 h1)

def normal_Of_p6 (kn : Value → Value → Value → Value → World → Prop) (log_1 t4 sum_6 t7 c_11 left_12 greatest_13 t78 t79 t80 : Value) (w : World) : Prop :=
  normal_Of_p5 kn log_1 t4 sum_6 t7 c_11 left_12 greatest_13 t78 t79 t80 w
theorem normal_Of_p6_ok (Q : Exit → Env → World → Prop) (g : Env) (w : World) (kn : Value → Value → Value → Value → World → Prop) (hn : ∀ g w, kn (g 4) (g 11) (g 12) (g 13) w → Q .normal g w) (h : normal_Of_p6 kn (g 1) (g 4) (g 6) (g 7) (g 11) (g 12) (g 13) (g 78) (g 79) (g 80) w) : den pg ann_normal_Of (dropS 1 (takeS 1 (dropS 4 (dropS 1 (dropS 3 code_normal_Of))))) Q g w :=
  den_blk 2 (dropS 1 (takeS 1 (dropS 4 (dropS 1 (dropS 3 code_normal_Of))))) g w (by kernel_rfl) (normal_Of_p5_ok (blk 2 Q) g w kn hn h)

def normal_Of_p7 (kn : Value → Value → Value → Value → Value → Value → Value → Value → Value → Value → World → Prop) (often_0 log_1 t4 sum_6 t7 last_8 c_11 left_12 greatest_13 : Value) (w : World) : Prop :=
  Stp pg (sBin .add 3 (.tmp 76) (.const (.int .i64 1)) last_8 (.int .i64 1)) w fun t77 w =>
  Stp pg (sSlice 89 often_0 none (some t77) none) w fun t78 w =>
  Stp pg (sBi .len #[89] 3 [t78]) w fun t79 w =>
  kn log_1 t4 sum_6 t7 c_11 left_12 greatest_13 t78 t79 (.int .i64 0) w
theorem normal_Of_p7_ok (Q : Exit → Env → World → Prop) (g : Env) (w : World) (kn : Value → Value → Value → Value → Value → Value → Value → Value → Value → Value → World → Prop) (hn : ∀ g w, kn (g 1) (g 4) (g 6) (g 7) (g 11) (g 12) (g 13) (g 78) (g 79) (g 80) w → Q .normal g w) (h : normal_Of_p7 kn (g 0) (g 1) (g 4) (g 6) (g 7) (g 8) (g 11) (g 12) (g 13) w) : den pg ann_normal_Of (takeS 1 (takeS 1 (dropS 4 (dropS 1 (dropS 3 code_normal_Of))))) Q g w := by
  have e : (normal_Of_p7 kn (g 0) (g 1) (g 4) (g 6) (g 7) (g 8) (g 11) (g 12) (g 13) w) = den pg ann_normal_Of (takeS 1 (takeS 1 (dropS 4 (dropS 1 (dropS 3 code_normal_Of))))) (exQ (fun g w => kn (g 1) (g 4) (g 6) (g 7) (g 11) (g 12) (g 13) (g 78) (g 79) (g 80) w) (fun _ _ => False) []) g w := by kernel_rfl
  exact den_exQ e h hn (fun _ _ h => h.elim) trivial

def normal_Of_p8 (kn : Value → Value → Value → Value → World → Prop) (often_0 log_1 t4 sum_6 t7 last_8 c_11 left_12 greatest_13 : Value) (w : World) : Prop :=
  normal_Of_p7 (fun log_1 t4 sum_6 t7 c_11 left_12 greatest_13 t78 t79 t80 w => normal_Of_p6 kn log_1 t4 sum_6 t7 c_11 left_12 greatest_13 t78 t79 t80 w) often_0 log_1 t4 sum_6 t7 last_8 c_11 left_12 greatest_13 w
theorem normal_Of_p8_ok (Q : Exit → Env → World → Prop) (g : Env) (w : World) (kn : Value → Value → Value → Value → World → Prop) (hn : ∀ g w, kn (g 4) (g 11) (g 12) (g 13) w → Q .normal g w) (h : normal_Of_p8 kn (g 0) (g 1) (g 4) (g 6) (g 7) (g 8) (g 11) (g 12) (g 13) w) : den pg ann_normal_Of (takeS 1 (dropS 4 (dropS 1 (dropS 3 code_normal_Of)))) Q g w := by
  exact den_seqs 1 (takeS 1 (dropS 4 (dropS 1 (dropS 3 code_normal_Of)))) g w (by kernel_rfl) (normal_Of_p7_ok (thenE (fun g w => den pg ann_normal_Of (dropS 1 (takeS 1 (dropS 4 (dropS 1 (dropS 3 code_normal_Of))))) Q g w) Q) g w (fun log_1 t4 sum_6 t7 c_11 left_12 greatest_13 t78 t79 t80 w => normal_Of_p6 kn log_1 t4 sum_6 t7 c_11 left_12 greatest_13 t78 t79 t80 w) (fun g w h => thenE_n (K := fun g w => den pg ann_normal_Of (dropS 1 (takeS 1 (dropS 4 (dropS 1 (dropS 3 code_normal_Of))))) Q g w) (normal_Of_p6_ok Q g w kn hn h)) h)

def normal_Of_p9 (R : Value → World → Prop) (often_0 log_1 t4 sum_6 t7 last_8 c_11 left_12 greatest_13 : Value) (w : World) : Prop :=
  normal_Of_p8 (fun t4 c_11 left_12 greatest_13 w => normal_Of_p1 R t4 c_11 left_12 greatest_13 w) often_0 log_1 t4 sum_6 t7 last_8 c_11 left_12 greatest_13 w
theorem normal_Of_p9_ok (Q : Exit → Env → World → Prop) (g : Env) (w : World) (R : Value → World → Prop) (hr : ∀ g w, (resVals pg rs_normal_Of g w fun vs => R (tup vs) w) → Q .ret g w) (h : normal_Of_p9 R (g 0) (g 1) (g 4) (g 6) (g 7) (g 8) (g 11) (g 12) (g 13) w) : den pg ann_normal_Of (dropS 4 (dropS 1 (dropS 3 code_normal_Of))) Q g w := by
  exact den_seqs 1 (dropS 4 (dropS 1 (dropS 3 code_normal_Of))) g w (by kernel_rfl) (normal_Of_p8_ok (thenE (fun g w => den pg ann_normal_Of (dropS 1 (dropS 4 (dropS 1 (dropS 3 code_normal_Of)))) Q g w) Q) g w (fun t4 c_11 left_12 greatest_13 w => normal_Of_p1 R t4 c_11 left_12 greatest_13 w) (fun g w h => thenE_n (K := fun g w => den pg ann_normal_Of (dropS 1 (dropS 4 (dropS 1 (dropS 3 code_normal_Of)))) Q g w) (normal_Of_p1_ok Q g w R hr h)) h)

def normal_Of_p10 (kn : Value → Value → Value → Value → Value → Value → Value → Value → Value → World → Prop) (R : Value → World → Prop) (often_0 log_1 t4 sum_6 t7 last_8 : Value) (w : World) : Prop :=
  Stp pg (sBin .lss 3 (.tmp 34) (.const (.int .i64 5)) log_1 (.int .i64 5)) w fun t35 w =>
  Gd (isB t35 false) (fun K => K log_1 w) w fun t37 w =>
  Gd (isB t35 false) (fun K => Stp pg (sBin .gtr 3 (.tmp 37) (.const (.int .i64 15)) t37 (.int .i64 15)) w K) w fun t38 w =>
  Stp pg (sPick t35 (.bool true) t38) w fun t39 w =>
  Gd (isB t39 false) (fun K => K often_0 w) w fun t41 w =>
  Gd (isB t39 false) (fun K => Stp pg (sBi .len #[89] 3 [t41]) w K) w fun t42 w =>
  Gd (isB t39 false) (fun K => Stp pg (sBin .lss 3 (.tmp 42) (.const (.int .i64 1)) t42 (.int .i64 1)) w K) w fun t43 w =>
  Stp pg (sPick t39 (.bool true) t43) w fun t44 w =>
  Gd (isB t44 false) (fun K => K often_0 w) w fun t46 w =>
  Gd (isB t44 false) (fun K => Stp pg (sBi .len #[89] 3 [t46]) w K) w fun t47 w =>
  Gd (isB t44 false) (fun K => Stp pg (sBin .gtr 3 (.tmp 47) (.const (.int .i64 256)) t47 (.int .i64 256)) w K) w fun t48 w =>
  Stp pg (sPick t44 (.bool true) t48) w fun t49 w =>
  Gd (isB t49 false) (fun K => K t7 w) w fun t51 w =>
  Gd (isB t49 false) (fun K => Stp pg (sBin .lss 3 (.tmp 51) (.const (.int .i64 2)) t51 (.int .i64 2)) w K) w fun t52 w =>
  Stp pg (sPick t49 (.bool true) t52) w fun t53 w =>
  Gd (isB t53 false) (fun K => K t7 w) w fun t55 w =>
  Gd (isB t53 false) (fun K => K log_1 w) w fun t56 w =>
  Gd (isB t53 false) (fun K => Stp pg (sBin .shl 3 (.const (.int .i64 1)) (.tmp 56) (.int .i64 1) t56) w K) w fun t57 w =>
  Gd (isB t53 false) (fun K => Stp pg (sBin .gtr 3 (.tmp 55) (.tmp 57) t55 t57) w K) w fun t58 w =>
  Stp pg (sPick t53 (.bool true) t58) w fun t59 w =>
  Gd (isB t59 false) (fun K => K sum_6 w) w fun t61 w =>
  Gd (isB t59 false) (fun K => Stp pg (sBin .gtr 45 (.tmp 61) (.const (.int .u64 2147483647)) t61 (.int .u64 2147483647)) w K) w fun t62 w =>
  Stp pg (sPick t59 (.bool true) t62) w fun t63 w =>
  Cnd t63
    (Stp pg (sBuild 24 []) w fun t64 w =>
    Stp pg (sStore 24 t4 t64) w fun _u w =>
    LdR pg 24 t4 w fun r0 => R (.tuple #[r0, (.int .i64 1)]) w)
    (Stp pg (sBin .add 3 (.tmp 66) (.const (.int .i64 1)) last_8 (.int .i64 1)) w fun t67 w =>
    Stp pg (sMkSlice 22 t67 t67) w fun t68 w =>
    Stp pg (sBuild 24 [(0, log_1), (1, t68)]) w fun t69 w =>
    Stp pg (sAlloc 24) w fun c_11 w =>
    Stp pg (sStore 24 c_11 t69) w fun _u w =>
    Stp pg (sBin .shl 3 (.const (.int .i64 1)) (.tmp 70) (.int .i64 1) log_1) w fun t71 w =>
    Stp pg (sBin .sub 3 (.tmp 71) (.tmp 72) t71 t7) w fun t73 w =>
    kn often_0 log_1 t4 sum_6 t7 last_8 c_11 t73 last_8 w)
theorem normal_Of_p10_ok (Q : Exit → Env → World → Prop) (g : Env) (w : World) (kn : Value → Value → Value → Value → Value → Value → Value → Value → Value → World → Prop) (R : Value → World → Prop) (hn : ∀ g w, kn (g 0) (g 1) (g 4) (g 6) (g 7) (g 8) (g 11) (g 12) (g 13) w → Q .normal g w) (hr : ∀ g w, (resVals pg rs_normal_Of g w fun vs => R (tup vs) w) → Q .ret g w) (h : normal_Of_p10 kn R (g 0) (g 1) (g 4) (g 6) (g 7) (g 8) w) : den pg ann_normal_Of (takeS 4 (dropS 1 (dropS 3 code_normal_Of))) Q g w := by
  have e : (normal_Of_p10 kn R (g 0) (g 1) (g 4) (g 6) (g 7) (g 8) w) = den pg ann_normal_Of (takeS 4 (dropS 1 (dropS 3 code_normal_Of))) (exQ (fun g w => kn (g 0) (g 1) (g 4) (g 6) (g 7) (g 8) (g 11) (g 12) (g 13) w) (fun g w => resVals pg rs_normal_Of g w fun vs => R (tup vs) w) []) g w := by kernel_rfl
  exact den_exQ e h hn hr trivial

def normal_Of_p11 (R : Value → World → Prop) (often_0 log_1 t4 sum_6 t7 last_8 : Value) (w : World) : Prop :=
  normal_Of_p10 (fun often_0 log_1 t4 sum_6 t7 last_8 c_11 left_12 greatest_13 w => normal_Of_p9 R often_0 log_1 t4 sum_6 t7 last_8 c_11 left_12 greatest_13 w) R often_0 log_1 t4 sum_6 t7 last_8 w
theorem normal_Of_p11_ok (Q : Exit → Env → World → Prop) (g : Env) (w : World) (R : Value → World → Prop) (hr : ∀ g w, (resVals pg rs_normal_Of g w fun vs => R (tup vs) w) → Q .ret g w) (h : normal_Of_p11 R (g 0) (g 1) (g 4) (g 6) (g 7) (g 8) w) : den pg ann_normal_Of (dropS 1 (dropS 3 code_normal_Of)) Q g w := by
  exact den_seqs 4 (dropS 1 (dropS 3 code_normal_Of)) g w (by kernel_rfl) (normal_Of_p10_ok (thenE (fun g w => den pg ann_normal_Of (dropS 4 (dropS 1 (dropS 3 code_normal_Of))) Q g w) Q) g w (fun often_0 log_1 t4 sum_6 t7 last_8 c_11 left_12 greatest_13 w => normal_Of_p9 R often_0 log_1 t4 sum_6 t7 last_8 c_11 left_12 greatest_13 w) R (fun g w h => thenE_n (K := fun g w => den pg ann_normal_Of (dropS 4 (dropS 1 (dropS 3 code_normal_Of))) Q g w) (normal_Of_p9_ok Q g w R hr h)) hr h)

def normal_Of_p12 (kn : Value → Value → Value → Value → Value → Value → Value → Value → Value → World → Prop) (often_0 log_1 t4 sum_6 t7 last_8 t17 t18 t19 : Value) (w : World) : Prop :=
  Stp pg (sBin .add 3 (.tmp 19) (.const (.int .i64 1)) t19 (.int .i64 1)) w fun t33 w =>
  kn often_0 log_1 t4 sum_6 t7 last_8 t17 t18 t33 w
theorem normal_Of_p12_ok (Q : Exit → Env → World → Prop) (g : Env) (w : World) (kn : Value → Value → Value → Value → Value → Value → Value → Value → Value → World → Prop) (hn : ∀ g w, kn (g 0) (g 1) (g 4) (g 6) (g 7) (g 8) (g 17) (g 18) (g 19) w → Q .normal g w) (h : normal_Of_p12 kn (g 0) (g 1) (g 4) (g 6) (g 7) (g 8) (g 17) (g 18) (g 19) w) : den pg ann_normal_Of (dropS 3 (bI (bI (dropS 1 (takeS 1 (dropS 3 code_normal_Of)))))) Q g w := by
  have e : (normal_Of_p12 kn (g 0) (g 1) (g 4) (g 6) (g 7) (g 8) (g 17) (g 18) (g 19) w) = den pg ann_normal_Of (dropS 3 (bI (bI (dropS 1 (takeS 1 (dropS 3 code_normal_Of)))))) (exQ (fun g w => kn (g 0) (g 1) (g 4) (g 6) (g 7) (g 8) (g 17) (g 18) (g 19) w) (fun _ _ => False) []) g w := by kernel_rfl
  exact den_exQ e h hn (fun _ _ h => h.elim) trivial

def normal_Of_p13 (kn : Value → Value → Value → Value → Value → Value → Value → Value → Value → World → Prop) (k0 : Value → Value → Value → Value → Value → Value → World → Prop) (often_0 log_1 t4 sum_6 t7 last_8 t17 t18 t19 : Value) (w : World) : Prop :=
  Stp pg (sBin .lss 3 (.tmp 19) (.tmp 18) t19 t18) w fun t20 w =>
  Cnd t20
    (Stp pg (sIAddr 89 t17 t19) w fun t22 w =>
    Stp pg (sLoad 90 t22) w fun t23 w =>
    Stp pg (sCvt 90 45 t23) w fun t26 w =>
    Stp pg (sBin .add 45 (.tmp 24) (.tmp 26) sum_6 t26) w fun t27 w =>
    Stp pg (sBin .gtr 90 (.tmp 28) (.const (.int .u32 0)) t23 (.int .u32 0)) w fun t29 w =>
    Cnd t29
      (Stp pg (sBin .add 3 (.tmp 30) (.const (.int .i64 1)) t7 (.int .i64 1)) w fun t31 w =>
      kn often_0 log_1 t4 t27 t31 t19 t17 t18 t19 w)
      (kn often_0 log_1 t4 t27 t7 last_8 t17 t18 t19 w))
    (k0 often_0 log_1 t4 sum_6 t7 last_8 w)
theorem normal_Of_p13_ok (Q : Exit → Env → World → Prop) (g : Env) (w : World) (kn : Value → Value → Value → Value → Value → Value → Value → Value → Value → World → Prop) (k0 : Value → Value → Value → Value → Value → Value → World → Prop) (hn : ∀ g w, kn (g 0) (g 1) (g 4) (g 6) (g 7) (g 8) (g 17) (g 18) (g 19) w → Q .normal g w) (h0 : ∀ g w, k0 (g 0) (g 1) (g 4) (g 6) (g 7) (g 8) w → Q (.exit 0) g w) (h : normal_Of_p13 kn k0 (g 0) (g 1) (g 4) (g 6) (g 7) (g 8) (g 17) (g 18) (g 19) w) : den pg ann_normal_Of (takeS 3 (bI (bI (dropS 1 (takeS 1 (dropS 3 code_normal_Of)))))) Q g w := by
  have e : (normal_Of_p13 kn k0 (g 0) (g 1) (g 4) (g 6) (g 7) (g 8) (g 17) (g 18) (g 19) w) = den pg ann_normal_Of (takeS 3 (bI (bI (dropS 1 (takeS 1 (dropS 3 code_normal_Of)))))) (exQ (fun g w => kn (g 0) (g 1) (g 4) (g 6) (g 7) (g 8) (g 17) (g 18) (g 19) w) (fun _ _ => False) [(0, fun g w => k0 (g 0) (g 1) (g 4) (g 6) (g 7) (g 8) w)]) g w := by kernel_rfl
  exact den_exQ e h hn (fun _ _ h => h.elim) ⟨h0, trivial⟩

def normal_Of_p14 (kn : Value → Value → Value → Value → Value → Value → Value → Value → Value → World → Prop) (k0 : Value → Value → Value → Value → Value → Value → World → Prop) (often_0 log_1 t4 sum_6 t7 last_8 t17 t18 t19 : Value) (w : World) : Prop :=
  normal_Of_p13 (fun often_0 log_1 t4 sum_6 t7 last_8 t17 t18 t19 w => normal_Of_p12 kn often_0 log_1 t4 sum_6 t7 last_8 t17 t18 t19 w) k0 often_0 log_1 t4 sum_6 t7 last_8 t17 t18 t19 w
theorem normal_Of_p14_ok (Q : Exit → Env → World → Prop) (g : Env) (w : World) (kn : Value → Value → Value → Value → Value → Value → Value → Value → Value → World → Prop) (k0 : Value → Value → Value → Value → Value → Value → World → Prop) (hn : ∀ g w, kn (g 0) (g 1) (g 4) (g 6) (g 7) (g 8) (g 17) (g 18) (g 19) w → Q .normal g w) (h0 : ∀ g w, k0 (g 0) (g 1) (g 4) (g 6) (g 7) (g 8) w → Q (.exit 0) g w) (h : normal_Of_p14 kn k0 (g 0) (g 1) (g 4) (g 6) (g 7) (g 8) (g 17) (g 18) (g 19) w) : den pg ann_normal_Of (bI (bI (dropS 1 (takeS 1 (dropS 3 code_normal_Of))))) Q g w := by
  exact den_seqs 3 (bI (bI (dropS 1 (takeS 1 (dropS 3 code_normal_Of))))) g w (by kernel_rfl) (normal_Of_p13_ok (thenE (fun g w => den pg ann_normal_Of (dropS 3 (bI (bI (dropS 1 (takeS 1 (dropS 3 code_normal_Of)))))) Q g w) Q) g w (fun often_0 log_1 t4 sum_6 t7 last_8 t17 t18 t19 w => normal_Of_p12 kn often_0 log_1 t4 sum_6 t7 last_8 t17 t18 t19 w) k0 (fun g w h => thenE_n (K := fun g w => den pg ann_normal_Of (dropS 3 (bI (bI (dropS 1 (takeS 1 (dropS 3 code_normal_Of)))))) Q g w) (normal_Of_p12_ok Q g w kn hn h)) h0 h)

def normal_Of_p15 (k0 : Value → Value → Value → Value → Value → Value → World → Prop) (often_0 log_1 t4 sum_6 t7 last_8 t17 t18 t19 : Value) (w : World) : Prop :=
  LoopD (fun (X : (Value × Value × Value × Value) → World → Prop) (t : Value × Value × Value × Value) (w : World) => normal_Of_p14 (fun _ _ _ sum_6 t7 last_8 _ _ t19 w => X (sum_6, t7, last_8, t19) w) k0 often_0 log_1 t4 t.1 t.2.1 t.2.2.1 t17 t18 t.2.2.2 w) (sum_6, t7, last_8, t19) w
theorem normal_Of_p15_ok (Q : Exit → Env → World → Prop) (g : Env) (w : World) (k0 : Value → Value → Value → Value → Value → Value → World → Prop) (h0 : ∀ g w, k0 (g 0) (g 1) (g 4) (g 6) (g 7) (g 8) w → Q (.exit 0) g w) (h : normal_Of_p15 k0 (g 0) (g 1) (g 4) (g 6) (g 7) (g 8) (g 17) (g 18) (g 19) w) : den pg ann_normal_Of (bI (dropS 1 (takeS 1 (dropS 3 code_normal_Of)))) Q g w := by
  refine den_loops (T := Value × Value × Value × Value) (fun g : Env => (g 6, g 7, g 8, g 19)) (fun X t w => normal_Of_p14 (fun _ _ _ sum_6 t7 last_8 _ _ t19 w => X (sum_6, t7, last_8, t19) w) k0 (g 0) (g 1) (g 4) t.1 t.2.1 t.2.2.1 (g 17) (g 18) t.2.2.2 w) (bI (dropS 1 (takeS 1 (dropS 3 code_normal_Of)))) (by kernel_rfl) h (fun X g1 w1 ha h1 => ?_)
  rw [← agree_at (s := 0) ha (by kernel_rfl)] at h1
  rw [← agree_at (s := 1) ha (by kernel_rfl)] at h1
  rw [← agree_at (s := 4) ha (by kernel_rfl)] at h1
  rw [← agree_at (s := 17) ha (by kernel_rfl)] at h1
  rw [← agree_at (s := 18) ha (by kernel_rfl)] at h1
  exact (normal_Of_p14_ok (thenE (fun g2 w2 => X ((fun g : Env => (g 6, g 7, g 8, g 19)) g2) w2) Q) g1 w1 (fun _ _ _ sum_6 t7 last_8 _ _ t19 w => X (sum_6, t7, last_8, t19) w) k0 (fun _ _ h => h) h0 h1)

def normal_Of_p16 (kn : Value → Value → Value → Value → Value → Value → World → Prop) (often_0 log_1 t4 sum_6 t7 last_8 t17 t18 t19 : Value) (w : World) : Prop :=
  normal_Of_p15 kn often_0 log_1 t4 sum_6 t7 last_8 t17 t18 t19 w
theorem normal_Of_p16_ok (Q : Exit → Env → World → Prop) (g : Env) (w : World) (kn : Value → Value → Value → Value → Value → Value → World → Prop) (hn : ∀ g w, kn (g 0) (g 1) (g 4) (g 6) (g 7) (g 8) w → Q .normal g w) (h : normal_Of_p16 kn (g 0) (g 1) (g 4) (g 6) (g 7) (g 8) (g 17) (g 18) (g 19) w) : den pg ann_normal_Of (dropS 1 (takeS 1 (dropS 3 code_normal_Of))) Q g w :=
  den_blk 0 (dropS 1 (takeS 1 (dropS 3 code_normal_Of))) g w (by kernel_rfl) (normal_Of_p15_ok (blk 0 Q) g w kn hn h)

def normal_Of_p17 (kn : Value → Value → Value → Value → Value → Value → Value → Value → Value → World → Prop) (often_0 log_1 t4 sum_6 t7 last_8 : Value) (w : World) : Prop :=
  Stp pg (sBi .len #[89] 3 [often_0]) w fun t18 w =>
  kn often_0 log_1 t4 sum_6 t7 last_8 often_0 t18 (.int .i64 0) w
theorem normal_Of_p17_ok (Q : Exit → Env → World → Prop) (g : Env) (w : World) (kn : Value → Value → Value → Value → Value → Value → Value → Value → Value → World → Prop) (hn : ∀ g w, kn (g 0) (g 1) (g 4) (g 6) (g 7) (g 8) (g 17) (g 18) (g 19) w → Q .normal g w) (h : normal_Of_p17 kn (g 0) (g 1) (g 4) (g 6) (g 7) (g 8) w) : den pg ann_normal_Of (takeS 1 (takeS 1 (dropS 3 code_normal_Of))) Q g w := by
  have e : (normal_Of_p17 kn (g 0) (g 1) (g 4) (g 6) (g 7) (g 8) w) = den pg ann_normal_Of (takeS 1 (takeS 1 (dropS 3 code_normal_Of))) (exQ (fun g w => kn (g 0) (g 1) (g 4) (g 6) (g 7) (g 8) (g 17) (g 18) (g 19) w) (fun _ _ => False) []) g w := by kernel_rfl
  exact den_exQ e h hn (fun _ _ h => h.elim) trivial

def normal_Of_p18 (kn : Value → Value → Value → Value → Value → Value → World → Prop) (often_0 log_1 t4 sum_6 t7 last_8 : Value) (w : World) : Prop :=
  normal_Of_p17 (fun often_0 log_1 t4 sum_6 t7 last_8 t17 t18 t19 w => normal_Of_p16 kn often_0 log_1 t4 sum_6 t7 last_8 t17 t18 t19 w) often_0 log_1 t4 sum_6 t7 last_8 w
theorem normal_Of_p18_ok (Q : Exit → Env → World → Prop) (g : Env) (w : World) (kn : Value → Value → Value → Value → Value → Value → World → Prop) (hn : ∀ g w, kn (g 0) (g 1) (g 4) (g 6) (g 7) (g 8) w → Q .normal g w) (h : normal_Of_p18 kn (g 0) (g 1) (g 4) (g 6) (g 7) (g 8) w) : den pg ann_normal_Of (takeS 1 (dropS 3 code_normal_Of)) Q g w := by
  exact den_seqs 1 (takeS 1 (dropS 3 code_normal_Of)) g w (by kernel_rfl) (normal_Of_p17_ok (thenE (fun g w => den pg ann_normal_Of (dropS 1 (takeS 1 (dropS 3 code_normal_Of))) Q g w) Q) g w (fun often_0 log_1 t4 sum_6 t7 last_8 t17 t18 t19 w => normal_Of_p16 kn often_0 log_1 t4 sum_6 t7 last_8 t17 t18 t19 w) (fun g w h => thenE_n (K := fun g w => den pg ann_normal_Of (dropS 1 (takeS 1 (dropS 3 code_normal_Of))) Q g w) (normal_Of_p16_ok Q g w kn hn h)) h)

def normal_Of_p19 (R : Value → World → Prop) (often_0 log_1 t4 sum_6 t7 last_8 : Value) (w : World) : Prop :=
  normal_Of_p18 (fun often_0 log_1 t4 sum_6 t7 last_8 w => normal_Of_p11 R often_0 log_1 t4 sum_6 t7 last_8 w) often_0 log_1 t4 sum_6 t7 last_8 w
theorem normal_Of_p19_ok (Q : Exit → Env → World → Prop) (g : Env) (w : World) (R : Value → World → Prop) (hr : ∀ g w, (resVals pg rs_normal_Of g w fun vs => R (tup vs) w) → Q .ret g w) (h : normal_Of_p19 R (g 0) (g 1) (g 4) (g 6) (g 7) (g 8) w) : den pg ann_normal_Of (dropS 3 code_normal_Of) Q g w := by
  exact den_seqs 1 (dropS 3 code_normal_Of) g w (by kernel_rfl) (normal_Of_p18_ok (thenE (fun g w => den pg ann_normal_Of (dropS 1 (dropS 3 code_normal_Of)) Q g w) Q) g w (fun often_0 log_1 t4 sum_6 t7 last_8 w => normal_Of_p11 R often_0 log_1 t4 sum_6 t7 last_8 w) (fun g w h => thenE_n (K := fun g w => den pg ann_normal_Of (dropS 1 (dropS 3 code_normal_Of)) Q g w) (normal_Of_p11_ok Q g w R hr h)) h)

def normal_Of_p20 (kn : Value → Value → Value → Value → Value → Value → World → Prop) (often_0 log_1 : Value) (w : World) : Prop :=
  Stp pg (sAlloc 24) w fun t4 w =>
  kn often_0 log_1 t4 (.int .u64 0) (.int .i64 0) (.int .i64 0) w
theorem normal_Of_p20_ok (Q : Exit → Env → World → Prop) (g : Env) (w : World) (kn : Value → Value → Value → Value → Value → Value → World → Prop) (hn : ∀ g w, kn (g 0) (g 1) (g 4) (g 6) (g 7) (g 8) w → Q .normal g w) (h : normal_Of_p20 kn (g 0) (g 1) w) : den pg ann_normal_Of (takeS 3 code_normal_Of) Q g w := by
  have e : (normal_Of_p20 kn (g 0) (g 1) w) = den pg ann_normal_Of (takeS 3 code_normal_Of) (exQ (fun g w => kn (g 0) (g 1) (g 4) (g 6) (g 7) (g 8) w) (fun _ _ => False) []) g w := by kernel_rfl
  exact den_exQ e h hn (fun _ _ h => h.elim) trivial

def normal_Of_p21 (R : Value → World → Prop) (often_0 log_1 : Value) (w : World) : Prop :=
  normal_Of_p20 (fun often_0 log_1 t4 sum_6 t7 last_8 w => normal_Of_p19 R often_0 log_1 t4 sum_6 t7 last_8 w) often_0 log_1 w
theorem normal_Of_p21_ok (Q : Exit → Env → World → Prop) (g : Env) (w : World) (R : Value → World → Prop) (hr : ∀ g w, (resVals pg rs_normal_Of g w fun vs => R (tup vs) w) → Q .ret g w) (h : normal_Of_p21 R (g 0) (g 1) w) : den pg ann_normal_Of code_normal_Of Q g w := by
  exact den_seqs 3 code_normal_Of g w (by kernel_rfl) (normal_Of_p20_ok (thenE (fun g w => den pg ann_normal_Of (dropS 3 code_normal_Of) Q g w) Q) g w (fun often_0 log_1 t4 sum_6 t7 last_8 w => normal_Of_p19 R often_0 log_1 t4 sum_6 t7 last_8 w) (fun g w h => thenE_n (K := fun g w => den pg ann_normal_Of (dropS 3 code_normal_Of) Q g w) (normal_Of_p19_ok Q g w R hr h)) h)

def normal_Of (a0 a1 : Value) (w : World) (R : Value → World → Prop) : Prop :=
  normal_Of_p21 R a0 a1 w
theorem normal_Of_does {a0 a1 : Value} {w : World} {R : Value → World → Prop} (h : normal_Of a0 a1 w R) : Does pg F_normal_Of #[a0, a1] w R := by
  refine does_of_den (ann := ann_normal_Of) (fn := Try.f43) (c := code_normal_Of) (args := [a0, a1]) (rs := rs_normal_Of) (N := 129) TryM.mixed (by kernel_rfl) Try.func43 (by kernel_rfl) (by kernel_rfl) (by kernel_rfl) (of_decide_eq_true (by kernel_rfl)) (by kernel_rfl) ?_
  exact (normal_Of_p21_ok (retQ pg rs_normal_Of R) (envOf [a0, a1]) w R (fun _ _ h => h) h)
-- PIECES normal_Of/0 normal_Of_p1 normal_Of_p5 normal_Of_p6 normal_Of_p7 normal_Of_p8 normal_Of_p9 normal_Of_p10 normal_Of_p11 normal_Of_p15 normal_Of_p16 normal_Of_p17 normal_Of_p18 normal_Of_p19 normal_Of_p20 normal_Of_p21
-- PIECES normal_Of/1 normal_Of_p2 normal_Of_p3 normal_Of_p4
-- PIECES normal_Of/2 normal_Of_p12 normal_Of_p13 normal_Of_p14

end Go.Proofs.Ytcbkdccobhkbpaa

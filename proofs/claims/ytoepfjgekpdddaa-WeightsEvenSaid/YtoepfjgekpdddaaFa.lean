/- The pieces of bodies, written by a program of ours off the loaded code, each with its proof. -/
import Derived.Test.YtoepfjgekpdddaaF
namespace Go.Proofs.Ytoepfjgekpdddaa
open Go Go.En
set_option linter.unusedVariables false
set_option maxRecDepth 20000
attribute [local irreducible] Go.En.den
variable (Q : Exit → Env → World → Prop) (g : Env) (w : World)
/- lighterman/weights.Whole -/
def ann_weights_Whole : FA := ⟨F_weights_Whole, fun i => .leaf ([], []) []⟩
def rs_weights_Whole : List ResultVar := [.tmp 2, .tmp 3]
noncomputable def code_weights_Whole : Code := bodyOf Try.f11
def weights_Whole_p1 (R : K1) (l_0 : Value) (w : World) : Prop :=
  Does pg F_weights_worth #[l_0] w fun t10 w =>
  Stp pg (sExtr t10 0) w fun t11 w =>
  Stp pg (sExtr t10 1) w fun t12 w =>
  Stp pg (sUn .not t12) w fun t14 w =>
  Gd (isB t14 false) (fun K => K l_0 w) w fun t16 w =>
  Gd (isB t14 false) (fun K => Stp pg (sBi .len #[22] 3 [t16]) w K) w fun t17 w =>
  Gd (isB t14 false) (fun K => Stp pg (sBin .eql 3 (.tmp 17) (.const (.int .i64 0)) t17 (.int .i64 0)) w K) w fun t18 w =>
  Stp pg (sPick t14 (.bool true) t18) w fun t19 w =>
  Gd (isB t19 false) (fun K => K l_0 w) w fun t21 w =>
  Gd (isB t19 false) (fun K => Stp pg (sBi .len #[22] 3 [t21]) w K) w fun t22 w =>
  Gd (isB t19 false) (fun K => Stp pg (sBin .geq 3 (.tmp 22) (.const (.int .i64 256)) t22 (.int .i64 256)) w K) w fun t23 w =>
  Stp pg (sPick t19 (.bool true) t23) w fun t24 w =>
  Gd (isB t24 false) (fun K => K t11 w) w fun t26 w =>
  Gd (isB t24 false) (fun K => Stp pg (sBin .eql 3 (.tmp 26) (.const (.int .i64 0)) t26 (.int .i64 0)) w K) w fun t27 w =>
  Stp pg (sPick t24 (.bool true) t27) w fun t28 w =>
  Cnd t28
    (R (.tuple #[(.slice none 0 0), (.int .i64 11)]) w)
    (Stp pg (sCvt 3 49 t11) w fun t30 w =>
    Does pg F_math_bits_Len #[t30] w fun t31 w =>
    Stp pg (sBin .shl 3 (.const (.int .i64 1)) (.tmp 32) (.int .i64 1) t31) w fun t33 w =>
    Stp pg (sBin .sub 3 (.tmp 33) (.tmp 34) t33 t11) w fun t35 w =>
    Stp pg (sBin .gtr 3 (.tmp 36) (.const (.int .i64 11)) t31 (.int .i64 11)) w fun t37 w =>
    Gd (isB t37 false) (fun K => K t35 w) w fun t39 w =>
    Gd (isB t37 false) (fun K => K t35 w) w fun t40 w =>
    Gd (isB t37 false) (fun K => Stp pg (sBin .sub 3 (.tmp 40) (.const (.int .i64 1)) t40 (.int .i64 1)) w K) w fun t41 w =>
    Gd (isB t37 false) (fun K => Stp pg (sBin .and 3 (.tmp 39) (.tmp 41) t39 t41) w K) w fun t42 w =>
    Gd (isB t37 false) (fun K => Stp pg (sBin .neq 3 (.tmp 42) (.const (.int .i64 0)) t42 (.int .i64 0)) w K) w fun t43 w =>
    Stp pg (sPick t37 (.bool true) t43) w fun t44 w =>
    Cnd t44
      (R (.tuple #[(.slice none 0 0), (.int .i64 11)]) w)
      (Does pg F_slices_Clone_inst #[l_0] w fun t46 w =>
      Stp pg (sCvt 3 49 t35) w fun t48 w =>
      Does pg F_math_bits_Len #[t48] w fun t49 w =>
      Stp pg (sCvt 3 5 t49) w fun t50 w =>
      Stp pg (sBuildSlice 22 1 [(0, t50)]) w fun t51 w =>
      Stp pg (sBi .append #[22, 22] 22 [t46, t51]) w fun t52 w =>
      R (.tuple #[t52, (.int .i64 0)]) w))
theorem weights_Whole_p1_ok (R : K1) (hr : HR rs_weights_Whole R Q) (h : weights_Whole_p1 R (g 0) w) : den pg ann_weights_Whole code_weights_Whole Q g w :=
  den_exQ (kn := no) (l := []) (by kernel_rfl) h noE hr trivial

def weights_Whole (a0 : Value) (w : World) (R : K1) : Prop :=
  weights_Whole_p1 R a0 w
theorem weights_Whole_does {a0 : Value} {w : World} {R : K1} (h : weights_Whole a0 w R) : Does pg F_weights_Whole #[a0] w R := by
  refine does_of_den (ann := ann_weights_Whole) (fn := Try.f11) (c := code_weights_Whole) (args := [a0]) (rs := rs_weights_Whole) (N := 53) TryM.mixed (by kernel_rfl) Try.func11 (by kernel_rfl) (by kernel_rfl) (by kernel_rfl) (of_decide_eq_true (by kernel_rfl)) (by kernel_rfl) ?_
  exact (weights_Whole_p1_ok (retQ pg rs_weights_Whole R) (envOf [a0]) w R (fun _ _ h => h) h)
-- PIECES weights_Whole/0 weights_Whole_p1

/- lighterman/lightermanref08.Whole -/
def ann_ref08_Whole : FA := ⟨F_ref08_Whole, fun i => .leaf ([], []) []⟩
def rs_ref08_Whole : List ResultVar := [.tmp 2, .tmp 3]
noncomputable def code_ref08_Whole : Code := bodyOf Try.f12
def ref08_Whole_p1 (R : K1) (l_0 w_4 d_5 : Value) (w : World) : Prop :=
  Does pg F_ref06_Power #[d_5] w fun t27 w =>
  Stp pg (sBin .sub 3 (.tmp 27) (.tmp 28) t27 w_4) w fun t29 w =>
  Does pg F_ref08_log #[t29] w fun t30 w =>
  Stp pg (sBin .gtr 3 (.tmp 31) (.const (.int .i64 11)) d_5 (.int .i64 11)) w fun t32 w =>
  Gd (isB t32 false) (fun K => K t30 w) w fun t34 w =>
  Gd (isB t32 false) (fun K => Stp pg (sBin .lss 3 (.tmp 34) (.const (.int .i64 0)) t34 (.int .i64 0)) w K) w fun t35 w =>
  Stp pg (sPick t32 (.bool true) t35) w fun t36 w =>
  Cnd t36
    (R (.tuple #[(.string ⟨#[]⟩), (.int .i64 11)]) w)
    (Stp pg (sBin .add 3 (.tmp 38) (.const (.int .i64 1)) t30 (.int .i64 1)) w fun t39 w =>
    Stp pg (sCvt 3 5 t39) w fun t40 w =>
    Stp pg (sBuildSlice 22 1 [(0, t40)]) w fun t41 w =>
    Stp pg (sCvt 22 9 t41) w fun t42 w =>
    Stp pg (sBin .add 9 (.tmp 37) (.tmp 42) l_0 t42) w fun t43 w =>
    R (.tuple #[t43, (.int .i64 0)]) w)
theorem ref08_Whole_p1_ok (R : K1) (hr : HR rs_ref08_Whole R Q) (h : ref08_Whole_p1 R (g 0) (g 4) (g 5) w) : den pg ann_ref08_Whole (dropS 1 (dropS 4 code_ref08_Whole)) Q g w :=
  den_exQ (kn := no) (l := []) (by kernel_rfl) h noE hr trivial

def ref08_Whole_p2 (kn : K3) (k0 : K3) (l_0 w_4 d_5 : Value) (w : World) : Prop :=
  Does pg F_ref06_Power #[d_5] w fun t21 w =>
  Stp pg (sBin .leq 3 (.tmp 21) (.tmp 22) t21 w_4) w fun t23 w =>
  Cnd t23
    (Stp pg (sBin .add 3 (.tmp 24) (.const (.int .i64 1)) d_5 (.int .i64 1)) w fun t25 w =>
    kn l_0 w_4 t25 w)
    (k0 l_0 w_4 d_5 w)
theorem ref08_Whole_p2_ok (kn : K3) (k0 : K3) (hn : ∀ g w, kn (g 0) (g 4) (g 5) w → Q .normal g w) (h0 : ∀ g w, k0 (g 0) (g 4) (g 5) w → Q (.exit 0) g w) (h : ref08_Whole_p2 kn k0 (g 0) (g 4) (g 5) w) : den pg ann_ref08_Whole (bI (bI (takeS 1 (dropS 4 code_ref08_Whole)))) Q g w :=
  den_exQ (kr := no) (l := [(0, fun g w => k0 (g 0) (g 4) (g 5) w)]) (by kernel_rfl) h hn noE ⟨h0, trivial⟩

def ref08_Whole_p3 (k0 : K3) (l_0 w_4 d_5 : Value) (w : World) : Prop :=
  LoopD (fun (X : Value → K0) (t : Value) (w : World) => ref08_Whole_p2 (fun _ _ d_5 w => X d_5 w) k0 l_0 w_4 t w) d_5 w
theorem ref08_Whole_p3_ok (k0 : K3) (h0 : ∀ g w, k0 (g 0) (g 4) (g 5) w → Q (.exit 0) g w) (h : ref08_Whole_p3 k0 (g 0) (g 4) (g 5) w) : den pg ann_ref08_Whole (bI (takeS 1 (dropS 4 code_ref08_Whole))) Q g w := by
  refine den_loops (T := Value) (fun g : Env => g 5) (fun X t w => ref08_Whole_p2 (fun _ _ d_5 w => X d_5 w) k0 (g 0) (g 4) t w) _ (by kernel_rfl) h (fun X g1 w1 ha hL => ?_)
  rw [← agree_at (s := 0) ha (by kernel_rfl)] at hL
  rw [← agree_at (s := 4) ha (by kernel_rfl)] at hL
  exact (ref08_Whole_p2_ok (thenE (fun g2 w2 => X ((fun g : Env => g 5) g2) w2) Q) g1 w1 (fun _ _ d_5 w => X d_5 w) k0 (fun _ _ h => h) h0 hL)

def ref08_Whole_p4 (kn : K3) (l_0 w_4 d_5 : Value) (w : World) : Prop :=
  ref08_Whole_p3 kn l_0 w_4 d_5 w
theorem ref08_Whole_p4_ok (kn : K3) (hn : ∀ g w, kn (g 0) (g 4) (g 5) w → Q .normal g w) (h : ref08_Whole_p4 kn (g 0) (g 4) (g 5) w) : den pg ann_ref08_Whole (takeS 1 (dropS 4 code_ref08_Whole)) Q g w :=
  den_blk 0 _ g w (by kernel_rfl) (ref08_Whole_p3_ok (blk 0 Q) g w kn hn h)

def ref08_Whole_p5 (R : K1) (l_0 w_4 d_5 : Value) (w : World) : Prop :=
  ref08_Whole_p4 (fun l_0 w_4 d_5 w => ref08_Whole_p1 R l_0 w_4 d_5 w) l_0 w_4 d_5 w
theorem ref08_Whole_p5_ok (R : K1) (hr : HR rs_ref08_Whole R Q) (h : ref08_Whole_p5 R (g 0) (g 4) (g 5) w) : den pg ann_ref08_Whole (dropS 4 code_ref08_Whole) Q g w :=
  den_seqs 1 _ g w (by kernel_rfl) (ref08_Whole_p4_ok (thenE (fun g w => den pg ann_ref08_Whole (dropS 1 (dropS 4 code_ref08_Whole)) Q g w) Q) g w (fun l_0 w_4 d_5 w => ref08_Whole_p1 R l_0 w_4 d_5 w) (fun g w h => thenE_n (K := fun g w => den pg ann_ref08_Whole (dropS 1 (dropS 4 code_ref08_Whole)) Q g w) (ref08_Whole_p1_ok Q g w R hr h)) h)

def ref08_Whole_p6 (kn : K3) (R : K1) (l_0 : Value) (w : World) : Prop :=
  Does pg F_ref08_Worth #[l_0] w fun t8 w =>
  Stp pg (sBin .eql 9 (.tmp 9) (.const (.string ⟨#[]⟩)) l_0 (.string ⟨#[]⟩)) w fun t10 w =>
  Gd (isB t10 false) (fun K => K l_0 w) w fun t12 w =>
  Gd (isB t10 false) (fun K => Stp pg (sBi .len #[9] 3 [t12]) w K) w fun t13 w =>
  Gd (isB t10 false) (fun K => Stp pg (sBin .gtr 3 (.tmp 13) (.const (.int .i64 255)) t13 (.int .i64 255)) w K) w fun t14 w =>
  Stp pg (sPick t10 (.bool true) t14) w fun t15 w =>
  Gd (isB t15 false) (fun K => K t8 w) w fun t17 w =>
  Gd (isB t15 false) (fun K => Stp pg (sBin .lss 3 (.tmp 17) (.const (.int .i64 1)) t17 (.int .i64 1)) w K) w fun t18 w =>
  Stp pg (sPick t15 (.bool true) t18) w fun t19 w =>
  Cnd t19
    (R (.tuple #[(.string ⟨#[]⟩), (.int .i64 11)]) w)
    (kn l_0 t8 (.int .i64 1) w)
theorem ref08_Whole_p6_ok (kn : K3) (R : K1) (hn : ∀ g w, kn (g 0) (g 4) (g 5) w → Q .normal g w) (hr : HR rs_ref08_Whole R Q) (h : ref08_Whole_p6 kn R (g 0) w) : den pg ann_ref08_Whole (takeS 4 code_ref08_Whole) Q g w :=
  den_exQ (l := []) (by kernel_rfl) h hn hr trivial

def ref08_Whole_p7 (R : K1) (l_0 : Value) (w : World) : Prop :=
  ref08_Whole_p6 (fun l_0 w_4 d_5 w => ref08_Whole_p5 R l_0 w_4 d_5 w) R l_0 w
theorem ref08_Whole_p7_ok (R : K1) (hr : HR rs_ref08_Whole R Q) (h : ref08_Whole_p7 R (g 0) w) : den pg ann_ref08_Whole code_ref08_Whole Q g w :=
  den_seqs 4 _ g w (by kernel_rfl) (ref08_Whole_p6_ok (thenE (fun g w => den pg ann_ref08_Whole (dropS 4 code_ref08_Whole) Q g w) Q) g w (fun l_0 w_4 d_5 w => ref08_Whole_p5 R l_0 w_4 d_5 w) R (fun g w h => thenE_n (K := fun g w => den pg ann_ref08_Whole (dropS 4 code_ref08_Whole) Q g w) (ref08_Whole_p5_ok Q g w R hr h)) hr h)

def ref08_Whole (a0 : Value) (w : World) (R : K1) : Prop :=
  ref08_Whole_p7 R a0 w
theorem ref08_Whole_does {a0 : Value} {w : World} {R : K1} (h : ref08_Whole a0 w R) : Does pg F_ref08_Whole #[a0] w R := by
  refine does_of_den (ann := ann_ref08_Whole) (fn := Try.f12) (c := code_ref08_Whole) (args := [a0]) (rs := rs_ref08_Whole) (N := 44) TryM.mixed (by kernel_rfl) Try.func12 (by kernel_rfl) (by kernel_rfl) (by kernel_rfl) (of_decide_eq_true (by kernel_rfl)) (by kernel_rfl) ?_
  exact (ref08_Whole_p7_ok (retQ pg rs_ref08_Whole R) (envOf [a0]) w R (fun _ _ h => h) h)
-- PIECES ref08_Whole/0 ref08_Whole_p1 ref08_Whole_p3 ref08_Whole_p4 ref08_Whole_p5 ref08_Whole_p6 ref08_Whole_p7
-- PIECES ref08_Whole/1 ref08_Whole_p2

/- lighterman/weights.Codes -/
def ann_weights_Codes : FA := ⟨F_weights_Codes, fun i => .leaf ([], []) []⟩
def rs_weights_Codes : List ResultVar := [.tmp 2, .tmp 3]
noncomputable def code_weights_Codes : Code := bodyOf Try.f13
def weights_Codes_p1 (R : K1) (out_5 : Value) (w : World) : Prop :=
  R (.tuple #[out_5, (.int .i64 0)]) w
theorem weights_Codes_p1_ok (R : K1) (hr : HR rs_weights_Codes R Q) (h : weights_Codes_p1 R (g 5) w) : den pg ann_weights_Codes (dropS 1 (dropS 5 code_weights_Codes)) Q g w :=
  den_exQ (kn := no) (l := []) (by kernel_rfl) h noE hr trivial

def weights_Codes_p2 (kn : K5) (l_0 d_4 out_5 at_6 w_7 : Value) (w : World) : Prop :=
  Stp pg (sBin .add 3 (.tmp 19) (.const (.int .i64 1)) w_7 (.int .i64 1)) w fun t20 w =>
  kn l_0 d_4 out_5 at_6 t20 w
theorem weights_Codes_p2_ok (kn : K5) (hn : ∀ g w, kn (g 0) (g 4) (g 5) (g 6) (g 7) w → Q .normal g w) (h : weights_Codes_p2 kn (g 0) (g 4) (g 5) (g 6) (g 7) w) : den pg ann_weights_Codes (dropS 1 (dropS 1 (bI (bI (dropS 1 (takeS 1 (dropS 5 code_weights_Codes))))))) Q g w :=
  den_exQ (kr := no) (l := []) (by kernel_rfl) h hn noE trivial

def weights_Codes_p3 (kn : K7) (l_0 d_4 out_5 at_6 w_7 t22 t23 : Value) (w : World) : Prop :=
  Stp pg (sBin .add 3 (.tmp 23) (.const (.int .i64 1)) t23 (.int .i64 1)) w fun t50 w =>
  kn l_0 d_4 out_5 at_6 w_7 t22 t50 w
theorem weights_Codes_p3_ok (kn : K7) (hn : ∀ g w, kn (g 0) (g 4) (g 5) (g 6) (g 7) (g 22) (g 23) w → Q .normal g w) (h : weights_Codes_p3 kn (g 0) (g 4) (g 5) (g 6) (g 7) (g 22) (g 23) w) : den pg ann_weights_Codes (dropS 3 (bI (bI (dropS 1 (bI (takeS 1 (dropS 1 (bI (bI (dropS 1 (takeS 1 (dropS 5 code_weights_Codes)))))))))))) Q g w :=
  den_exQ (kr := no) (l := []) (by kernel_rfl) h hn noE trivial

def weights_Codes_p4 (kn : K7) (k2 : K5) (l_0 d_4 out_5 at_6 w_7 t22 t23 : Value) (w : World) : Prop :=
  Stp pg (sBin .lss 3 (.tmp 23) (.tmp 22) t23 t22) w fun t24 w =>
  Cnd t24
    (Stp pg (sIAddr 22 l_0 t23) w fun t28 w =>
    Stp pg (sLoad 5 t28) w fun t29 w =>
    Stp pg (sCvt 5 3 t29) w fun t30 w =>
    Stp pg (sBin .neq 3 (.tmp 30) (.tmp 31) t30 w_7) w fun t32 w =>
    Cnd t32
      (kn l_0 d_4 out_5 at_6 w_7 t22 t23 w)
      (Stp pg (sBin .add 3 (.tmp 35) (.const (.int .i64 1)) d_4 (.int .i64 1)) w fun t36 w =>
      Stp pg (sBin .sub 3 (.tmp 36) (.tmp 37) t36 w_7) w fun t38 w =>
      Stp pg (sBin .sub 3 (.tmp 40) (.const (.int .i64 1)) w_7 (.int .i64 1)) w fun t41 w =>
      Stp pg (sBin .shr 3 (.tmp 39) (.tmp 41) at_6 t41) w fun t42 w =>
      Stp pg (sBuild 36 [(0, t38), (1, t42)]) w fun t43 w =>
      Stp pg (sIAddr 29 out_5 t23) w fun t44 w =>
      Stp pg (sStore 36 t44 t43) w fun _u w =>
      Stp pg (sBin .sub 3 (.tmp 46) (.const (.int .i64 1)) w_7 (.int .i64 1)) w fun t47 w =>
      Stp pg (sBin .shl 3 (.const (.int .i64 1)) (.tmp 47) (.int .i64 1) t47) w fun t48 w =>
      Stp pg (sBin .add 3 (.tmp 45) (.tmp 48) at_6 t48) w fun t49 w =>
      kn l_0 d_4 out_5 t49 w_7 t22 t23 w))
    (k2 l_0 d_4 out_5 at_6 w_7 w)
theorem weights_Codes_p4_ok (kn : K7) (k2 : K5) (hn : ∀ g w, kn (g 0) (g 4) (g 5) (g 6) (g 7) (g 22) (g 23) w → Q .normal g w) (h2 : ∀ g w, k2 (g 0) (g 4) (g 5) (g 6) (g 7) w → Q (.exit 2) g w) (h : weights_Codes_p4 kn k2 (g 0) (g 4) (g 5) (g 6) (g 7) (g 22) (g 23) w) : den pg ann_weights_Codes (takeS 3 (bI (bI (dropS 1 (bI (takeS 1 (dropS 1 (bI (bI (dropS 1 (takeS 1 (dropS 5 code_weights_Codes)))))))))))) Q g w :=
  den_exQ (kr := no) (l := [(2, fun g w => k2 (g 0) (g 4) (g 5) (g 6) (g 7) w)]) (by kernel_rfl) h hn noE ⟨h2, trivial⟩

def weights_Codes_p5 (kn : K7) (k2 : K5) (l_0 d_4 out_5 at_6 w_7 t22 t23 : Value) (w : World) : Prop :=
  weights_Codes_p4 (fun l_0 d_4 out_5 at_6 w_7 t22 t23 w => weights_Codes_p3 kn l_0 d_4 out_5 at_6 w_7 t22 t23 w) k2 l_0 d_4 out_5 at_6 w_7 t22 t23 w
theorem weights_Codes_p5_ok (kn : K7) (k2 : K5) (hn : ∀ g w, kn (g 0) (g 4) (g 5) (g 6) (g 7) (g 22) (g 23) w → Q .normal g w) (h2 : ∀ g w, k2 (g 0) (g 4) (g 5) (g 6) (g 7) w → Q (.exit 2) g w) (h : weights_Codes_p5 kn k2 (g 0) (g 4) (g 5) (g 6) (g 7) (g 22) (g 23) w) : den pg ann_weights_Codes (bI (bI (dropS 1 (bI (takeS 1 (dropS 1 (bI (bI (dropS 1 (takeS 1 (dropS 5 code_weights_Codes))))))))))) Q g w :=
  den_seqs 3 _ g w (by kernel_rfl) (weights_Codes_p4_ok (thenE (fun g w => den pg ann_weights_Codes (dropS 3 (bI (bI (dropS 1 (bI (takeS 1 (dropS 1 (bI (bI (dropS 1 (takeS 1 (dropS 5 code_weights_Codes)))))))))))) Q g w) Q) g w (fun l_0 d_4 out_5 at_6 w_7 t22 t23 w => weights_Codes_p3 kn l_0 d_4 out_5 at_6 w_7 t22 t23 w) k2 (fun g w h => thenE_n (K := fun g w => den pg ann_weights_Codes (dropS 3 (bI (bI (dropS 1 (bI (takeS 1 (dropS 1 (bI (bI (dropS 1 (takeS 1 (dropS 5 code_weights_Codes)))))))))))) Q g w) (weights_Codes_p3_ok Q g w kn hn h)) h2 h)

def weights_Codes_p6 (k2 : K5) (l_0 d_4 out_5 at_6 w_7 t22 t23 : Value) (w : World) : Prop :=
  LoopD (fun (X : (Value × Value) → K0) (t : Value × Value) (w : World) => weights_Codes_p5 (fun _ _ _ at_6 _ _ t23 w => X (at_6, t23) w) k2 l_0 d_4 out_5 t.1 w_7 t22 t.2 w) (at_6, t23) w
theorem weights_Codes_p6_ok (k2 : K5) (h2 : ∀ g w, k2 (g 0) (g 4) (g 5) (g 6) (g 7) w → Q (.exit 2) g w) (h : weights_Codes_p6 k2 (g 0) (g 4) (g 5) (g 6) (g 7) (g 22) (g 23) w) : den pg ann_weights_Codes (bI (dropS 1 (bI (takeS 1 (dropS 1 (bI (bI (dropS 1 (takeS 1 (dropS 5 code_weights_Codes)))))))))) Q g w := by
  refine den_loops (T := Value × Value) (fun g : Env => (g 6, g 23)) (fun X t w => weights_Codes_p5 (fun _ _ _ at_6 _ _ t23 w => X (at_6, t23) w) k2 (g 0) (g 4) (g 5) t.1 (g 7) (g 22) t.2 w) _ (by kernel_rfl) h (fun X g1 w1 ha hL => ?_)
  rw [← agree_at (s := 0) ha (by kernel_rfl)] at hL
  rw [← agree_at (s := 4) ha (by kernel_rfl)] at hL
  rw [← agree_at (s := 5) ha (by kernel_rfl)] at hL
  rw [← agree_at (s := 7) ha (by kernel_rfl)] at hL
  rw [← agree_at (s := 22) ha (by kernel_rfl)] at hL
  exact (weights_Codes_p5_ok (thenE (fun g2 w2 => X ((fun g : Env => (g 6, g 23)) g2) w2) Q) g1 w1 (fun _ _ _ at_6 _ _ t23 w => X (at_6, t23) w) k2 (fun _ _ h => h) h2 hL)

def weights_Codes_p7 (kn : K5) (l_0 d_4 out_5 at_6 w_7 t22 t23 : Value) (w : World) : Prop :=
  weights_Codes_p6 kn l_0 d_4 out_5 at_6 w_7 t22 t23 w
theorem weights_Codes_p7_ok (kn : K5) (hn : ∀ g w, kn (g 0) (g 4) (g 5) (g 6) (g 7) w → Q .normal g w) (h : weights_Codes_p7 kn (g 0) (g 4) (g 5) (g 6) (g 7) (g 22) (g 23) w) : den pg ann_weights_Codes (dropS 1 (bI (takeS 1 (dropS 1 (bI (bI (dropS 1 (takeS 1 (dropS 5 code_weights_Codes))))))))) Q g w :=
  den_blk 2 _ g w (by kernel_rfl) (weights_Codes_p6_ok (blk 2 Q) g w kn hn h)

def weights_Codes_p8 (kn : K7) (l_0 d_4 out_5 at_6 w_7 : Value) (w : World) : Prop :=
  Stp pg (sBi .len #[22] 3 [l_0]) w fun t22 w =>
  kn l_0 d_4 out_5 at_6 w_7 t22 (.int .i64 0) w
theorem weights_Codes_p8_ok (kn : K7) (hn : ∀ g w, kn (g 0) (g 4) (g 5) (g 6) (g 7) (g 22) (g 23) w → Q .normal g w) (h : weights_Codes_p8 kn (g 0) (g 4) (g 5) (g 6) (g 7) w) : den pg ann_weights_Codes (takeS 1 (bI (takeS 1 (dropS 1 (bI (bI (dropS 1 (takeS 1 (dropS 5 code_weights_Codes))))))))) Q g w :=
  den_exQ (kr := no) (l := []) (by kernel_rfl) h hn noE trivial

def weights_Codes_p9 (kn : K5) (l_0 d_4 out_5 at_6 w_7 : Value) (w : World) : Prop :=
  weights_Codes_p8 (fun l_0 d_4 out_5 at_6 w_7 t22 t23 w => weights_Codes_p7 kn l_0 d_4 out_5 at_6 w_7 t22 t23 w) l_0 d_4 out_5 at_6 w_7 w
theorem weights_Codes_p9_ok (kn : K5) (hn : ∀ g w, kn (g 0) (g 4) (g 5) (g 6) (g 7) w → Q .normal g w) (h : weights_Codes_p9 kn (g 0) (g 4) (g 5) (g 6) (g 7) w) : den pg ann_weights_Codes (bI (takeS 1 (dropS 1 (bI (bI (dropS 1 (takeS 1 (dropS 5 code_weights_Codes)))))))) Q g w :=
  den_seqs 1 _ g w (by kernel_rfl) (weights_Codes_p8_ok (thenE (fun g w => den pg ann_weights_Codes (dropS 1 (bI (takeS 1 (dropS 1 (bI (bI (dropS 1 (takeS 1 (dropS 5 code_weights_Codes))))))))) Q g w) Q) g w (fun l_0 d_4 out_5 at_6 w_7 t22 t23 w => weights_Codes_p7 kn l_0 d_4 out_5 at_6 w_7 t22 t23 w) (fun g w h => thenE_n (K := fun g w => den pg ann_weights_Codes (dropS 1 (bI (takeS 1 (dropS 1 (bI (bI (dropS 1 (takeS 1 (dropS 5 code_weights_Codes))))))))) Q g w) (weights_Codes_p7_ok Q g w kn hn h)) h)

def weights_Codes_p10 (kn : K5) (l_0 d_4 out_5 at_6 w_7 : Value) (w : World) : Prop :=
  weights_Codes_p9 kn l_0 d_4 out_5 at_6 w_7 w
theorem weights_Codes_p10_ok (kn : K5) (hn : ∀ g w, kn (g 0) (g 4) (g 5) (g 6) (g 7) w → Q .normal g w) (h : weights_Codes_p10 kn (g 0) (g 4) (g 5) (g 6) (g 7) w) : den pg ann_weights_Codes (takeS 1 (dropS 1 (bI (bI (dropS 1 (takeS 1 (dropS 5 code_weights_Codes))))))) Q g w :=
  den_blk 1 _ g w (by kernel_rfl) (weights_Codes_p9_ok (blk 1 Q) g w kn hn h)

def weights_Codes_p11 (kn : K5) (l_0 d_4 out_5 at_6 w_7 : Value) (w : World) : Prop :=
  weights_Codes_p10 (fun l_0 d_4 out_5 at_6 w_7 w => weights_Codes_p2 kn l_0 d_4 out_5 at_6 w_7 w) l_0 d_4 out_5 at_6 w_7 w
theorem weights_Codes_p11_ok (kn : K5) (hn : ∀ g w, kn (g 0) (g 4) (g 5) (g 6) (g 7) w → Q .normal g w) (h : weights_Codes_p11 kn (g 0) (g 4) (g 5) (g 6) (g 7) w) : den pg ann_weights_Codes (dropS 1 (bI (bI (dropS 1 (takeS 1 (dropS 5 code_weights_Codes)))))) Q g w :=
  den_seqs 1 _ g w (by kernel_rfl) (weights_Codes_p10_ok (thenE (fun g w => den pg ann_weights_Codes (dropS 1 (dropS 1 (bI (bI (dropS 1 (takeS 1 (dropS 5 code_weights_Codes))))))) Q g w) Q) g w (fun l_0 d_4 out_5 at_6 w_7 w => weights_Codes_p2 kn l_0 d_4 out_5 at_6 w_7 w) (fun g w h => thenE_n (K := fun g w => den pg ann_weights_Codes (dropS 1 (dropS 1 (bI (bI (dropS 1 (takeS 1 (dropS 5 code_weights_Codes))))))) Q g w) (weights_Codes_p2_ok Q g w kn hn h)) h)

def weights_Codes_p12 (kn : K5) (k0 : K1) (l_0 d_4 out_5 at_6 w_7 : Value) (w : World) : Prop :=
  Stp pg (sBin .leq 3 (.tmp 16) (.tmp 17) w_7 d_4) w fun t18 w =>
  Cnd t18
    (kn l_0 d_4 out_5 at_6 w_7 w)
    (k0 out_5 w)
theorem weights_Codes_p12_ok (kn : K5) (k0 : K1) (hn : ∀ g w, kn (g 0) (g 4) (g 5) (g 6) (g 7) w → Q .normal g w) (h0 : ∀ g w, k0 (g 5) w → Q (.exit 0) g w) (h : weights_Codes_p12 kn k0 (g 0) (g 4) (g 5) (g 6) (g 7) w) : den pg ann_weights_Codes (takeS 1 (bI (bI (dropS 1 (takeS 1 (dropS 5 code_weights_Codes)))))) Q g w :=
  den_exQ (kr := no) (l := [(0, fun g w => k0 (g 5) w)]) (by kernel_rfl) h hn noE ⟨h0, trivial⟩

def weights_Codes_p13 (kn : K5) (k0 : K1) (l_0 d_4 out_5 at_6 w_7 : Value) (w : World) : Prop :=
  weights_Codes_p12 (fun l_0 d_4 out_5 at_6 w_7 w => weights_Codes_p11 kn l_0 d_4 out_5 at_6 w_7 w) k0 l_0 d_4 out_5 at_6 w_7 w
theorem weights_Codes_p13_ok (kn : K5) (k0 : K1) (hn : ∀ g w, kn (g 0) (g 4) (g 5) (g 6) (g 7) w → Q .normal g w) (h0 : ∀ g w, k0 (g 5) w → Q (.exit 0) g w) (h : weights_Codes_p13 kn k0 (g 0) (g 4) (g 5) (g 6) (g 7) w) : den pg ann_weights_Codes (bI (bI (dropS 1 (takeS 1 (dropS 5 code_weights_Codes))))) Q g w :=
  den_seqs 1 _ g w (by kernel_rfl) (weights_Codes_p12_ok (thenE (fun g w => den pg ann_weights_Codes (dropS 1 (bI (bI (dropS 1 (takeS 1 (dropS 5 code_weights_Codes)))))) Q g w) Q) g w (fun l_0 d_4 out_5 at_6 w_7 w => weights_Codes_p11 kn l_0 d_4 out_5 at_6 w_7 w) k0 (fun g w h => thenE_n (K := fun g w => den pg ann_weights_Codes (dropS 1 (bI (bI (dropS 1 (takeS 1 (dropS 5 code_weights_Codes)))))) Q g w) (weights_Codes_p11_ok Q g w kn hn h)) h0 h)

def weights_Codes_p14 (k0 : K1) (l_0 d_4 out_5 at_6 w_7 : Value) (w : World) : Prop :=
  LoopD (fun (X : (Value × Value) → K0) (t : Value × Value) (w : World) => weights_Codes_p13 (fun _ _ _ at_6 w_7 w => X (at_6, w_7) w) k0 l_0 d_4 out_5 t.1 t.2 w) (at_6, w_7) w
theorem weights_Codes_p14_ok (k0 : K1) (h0 : ∀ g w, k0 (g 5) w → Q (.exit 0) g w) (h : weights_Codes_p14 k0 (g 0) (g 4) (g 5) (g 6) (g 7) w) : den pg ann_weights_Codes (bI (dropS 1 (takeS 1 (dropS 5 code_weights_Codes)))) Q g w := by
  refine den_loops (T := Value × Value) (fun g : Env => (g 6, g 7)) (fun X t w => weights_Codes_p13 (fun _ _ _ at_6 w_7 w => X (at_6, w_7) w) k0 (g 0) (g 4) (g 5) t.1 t.2 w) _ (by kernel_rfl) h (fun X g1 w1 ha hL => ?_)
  rw [← agree_at (s := 0) ha (by kernel_rfl)] at hL
  rw [← agree_at (s := 4) ha (by kernel_rfl)] at hL
  rw [← agree_at (s := 5) ha (by kernel_rfl)] at hL
  exact (weights_Codes_p13_ok (thenE (fun g2 w2 => X ((fun g : Env => (g 6, g 7)) g2) w2) Q) g1 w1 (fun _ _ _ at_6 w_7 w => X (at_6, w_7) w) k0 (fun _ _ h => h) h0 hL)

def weights_Codes_p15 (kn : K1) (l_0 d_4 out_5 at_6 w_7 : Value) (w : World) : Prop :=
  weights_Codes_p14 kn l_0 d_4 out_5 at_6 w_7 w
theorem weights_Codes_p15_ok (kn : K1) (hn : ∀ g w, kn (g 5) w → Q .normal g w) (h : weights_Codes_p15 kn (g 0) (g 4) (g 5) (g 6) (g 7) w) : den pg ann_weights_Codes (dropS 1 (takeS 1 (dropS 5 code_weights_Codes))) Q g w :=
  den_blk 0 _ g w (by kernel_rfl) (weights_Codes_p14_ok (blk 0 Q) g w kn hn h)

def weights_Codes_p16 (kn : K5) (l_0 d_4 out_5 at_6 : Value) (w : World) : Prop :=
  kn l_0 d_4 out_5 at_6 (.int .i64 1) w
theorem weights_Codes_p16_ok (kn : K5) (hn : ∀ g w, kn (g 0) (g 4) (g 5) (g 6) (g 7) w → Q .normal g w) (h : weights_Codes_p16 kn (g 0) (g 4) (g 5) (g 6) w) : den pg ann_weights_Codes (takeS 1 (takeS 1 (dropS 5 code_weights_Codes))) Q g w :=
  den_exQ (kr := no) (l := []) (by kernel_rfl) h hn noE trivial

def weights_Codes_p17 (kn : K1) (l_0 d_4 out_5 at_6 : Value) (w : World) : Prop :=
  weights_Codes_p16 (fun l_0 d_4 out_5 at_6 w_7 w => weights_Codes_p15 kn l_0 d_4 out_5 at_6 w_7 w) l_0 d_4 out_5 at_6 w
theorem weights_Codes_p17_ok (kn : K1) (hn : ∀ g w, kn (g 5) w → Q .normal g w) (h : weights_Codes_p17 kn (g 0) (g 4) (g 5) (g 6) w) : den pg ann_weights_Codes (takeS 1 (dropS 5 code_weights_Codes)) Q g w :=
  den_seqs 1 _ g w (by kernel_rfl) (weights_Codes_p16_ok (thenE (fun g w => den pg ann_weights_Codes (dropS 1 (takeS 1 (dropS 5 code_weights_Codes))) Q g w) Q) g w (fun l_0 d_4 out_5 at_6 w_7 w => weights_Codes_p15 kn l_0 d_4 out_5 at_6 w_7 w) (fun g w h => thenE_n (K := fun g w => den pg ann_weights_Codes (dropS 1 (takeS 1 (dropS 5 code_weights_Codes))) Q g w) (weights_Codes_p15_ok Q g w kn hn h)) h)

def weights_Codes_p18 (R : K1) (l_0 d_4 out_5 at_6 : Value) (w : World) : Prop :=
  weights_Codes_p17 (fun out_5 w => weights_Codes_p1 R out_5 w) l_0 d_4 out_5 at_6 w
theorem weights_Codes_p18_ok (R : K1) (hr : HR rs_weights_Codes R Q) (h : weights_Codes_p18 R (g 0) (g 4) (g 5) (g 6) w) : den pg ann_weights_Codes (dropS 5 code_weights_Codes) Q g w :=
  den_seqs 1 _ g w (by kernel_rfl) (weights_Codes_p17_ok (thenE (fun g w => den pg ann_weights_Codes (dropS 1 (dropS 5 code_weights_Codes)) Q g w) Q) g w (fun out_5 w => weights_Codes_p1 R out_5 w) (fun g w h => thenE_n (K := fun g w => den pg ann_weights_Codes (dropS 1 (dropS 5 code_weights_Codes)) Q g w) (weights_Codes_p1_ok Q g w R hr h)) h)

def weights_Codes_p19 (kn : K4) (R : K1) (l_0 : Value) (w : World) : Prop :=
  Does pg F_weights_depth #[l_0] w fun t10 w =>
  Stp pg (sBin .eql 3 (.tmp 11) (.const (.int .i64 0)) t10 (.int .i64 0)) w fun t12 w =>
  Cnd t12
    (R (.tuple #[(.slice none 0 0), (.int .i64 1)]) w)
    (Stp pg (sBi .len #[22] 3 [l_0]) w fun t14 w =>
    Stp pg (sMkSlice 29 t14 t14) w fun t15 w =>
    kn l_0 t10 t15 (.int .i64 0) w)
theorem weights_Codes_p19_ok (kn : K4) (R : K1) (hn : ∀ g w, kn (g 0) (g 4) (g 5) (g 6) w → Q .normal g w) (hr : HR rs_weights_Codes R Q) (h : weights_Codes_p19 kn R (g 0) w) : den pg ann_weights_Codes (takeS 5 code_weights_Codes) Q g w :=
  den_exQ (l := []) (by kernel_rfl) h hn hr trivial

def weights_Codes_p20 (R : K1) (l_0 : Value) (w : World) : Prop :=
  weights_Codes_p19 (fun l_0 d_4 out_5 at_6 w => weights_Codes_p18 R l_0 d_4 out_5 at_6 w) R l_0 w
theorem weights_Codes_p20_ok (R : K1) (hr : HR rs_weights_Codes R Q) (h : weights_Codes_p20 R (g 0) w) : den pg ann_weights_Codes code_weights_Codes Q g w :=
  den_seqs 5 _ g w (by kernel_rfl) (weights_Codes_p19_ok (thenE (fun g w => den pg ann_weights_Codes (dropS 5 code_weights_Codes) Q g w) Q) g w (fun l_0 d_4 out_5 at_6 w => weights_Codes_p18 R l_0 d_4 out_5 at_6 w) R (fun g w h => thenE_n (K := fun g w => den pg ann_weights_Codes (dropS 5 code_weights_Codes) Q g w) (weights_Codes_p18_ok Q g w R hr h)) hr h)

def weights_Codes (a0 : Value) (w : World) (R : K1) : Prop :=
  weights_Codes_p20 R a0 w
theorem weights_Codes_does {a0 : Value} {w : World} {R : K1} (h : weights_Codes a0 w R) : Does pg F_weights_Codes #[a0] w R := by
  refine does_of_den (ann := ann_weights_Codes) (fn := Try.f13) (c := code_weights_Codes) (args := [a0]) (rs := rs_weights_Codes) (N := 52) TryM.mixed (by kernel_rfl) Try.func13 (by kernel_rfl) (by kernel_rfl) (by kernel_rfl) (of_decide_eq_true (by kernel_rfl)) (by kernel_rfl) ?_
  exact (weights_Codes_p20_ok (retQ pg rs_weights_Codes R) (envOf [a0]) w R (fun _ _ h => h) h)
-- PIECES weights_Codes/0 weights_Codes_p1 weights_Codes_p14 weights_Codes_p15 weights_Codes_p16 weights_Codes_p17 weights_Codes_p18 weights_Codes_p19 weights_Codes_p20
-- PIECES weights_Codes/1 weights_Codes_p2 weights_Codes_p6 weights_Codes_p7 weights_Codes_p8 weights_Codes_p9 weights_Codes_p10 weights_Codes_p11 weights_Codes_p12 weights_Codes_p13
-- PIECES weights_Codes/2 weights_Codes_p3 weights_Codes_p4 weights_Codes_p5

/- lighterman/lightermanref08.Codes -/
def ann_ref08_Codes : FA := ⟨F_ref08_Codes, fun i => .leaf ([], []) []⟩
def rs_ref08_Codes : List ResultVar := [.tmp 2, .tmp 3]
noncomputable def code_ref08_Codes : Code := bodyOf Try.f14
def ref08_Codes_p1 (R : K1) (out_5 : Value) (w : World) : Prop :=
  R (.tuple #[out_5, (.int .i64 0)]) w
theorem ref08_Codes_p1_ok (R : K1) (hr : HR rs_ref08_Codes R Q) (h : ref08_Codes_p1 R (g 5) w) : den pg ann_ref08_Codes (dropS 1 (dropS 2 (dropS 1 (dropS 4 code_ref08_Codes)))) Q g w :=
  den_exQ (kn := no) (l := []) (by kernel_rfl) h noE hr trivial

def ref08_Codes_p2 (kn : K6) (l_0 d_4 out_5 code_7 bits_8 w_9 : Value) (w : World) : Prop :=
  Stp pg (sBin .add 3 (.tmp 29) (.const (.int .i64 1)) w_9 (.int .i64 1)) w fun t30 w =>
  kn l_0 d_4 out_5 code_7 bits_8 t30 w
theorem ref08_Codes_p2_ok (kn : K6) (hn : ∀ g w, kn (g 0) (g 4) (g 5) (g 7) (g 8) (g 9) w → Q .normal g w) (h : ref08_Codes_p2 kn (g 0) (g 4) (g 5) (g 7) (g 8) (g 9) w) : den pg ann_ref08_Codes (dropS 1 (dropS 1 (bI (bI (dropS 1 (takeS 1 (dropS 2 (dropS 1 (dropS 4 code_ref08_Codes))))))))) Q g w :=
  den_exQ (kr := no) (l := []) (by kernel_rfl) h hn noE trivial

def ref08_Codes_p3 (kn : K7) (l_0 d_4 out_5 code_7 bits_8 w_9 s_10 : Value) (w : World) : Prop :=
  Stp pg (sBin .add 3 (.tmp 35) (.const (.int .i64 1)) s_10 (.int .i64 1)) w fun t36 w =>
  kn l_0 d_4 out_5 code_7 bits_8 w_9 t36 w
theorem ref08_Codes_p3_ok (kn : K7) (hn : ∀ g w, kn (g 0) (g 4) (g 5) (g 7) (g 8) (g 9) (g 10) w → Q .normal g w) (h : ref08_Codes_p3 kn (g 0) (g 4) (g 5) (g 7) (g 8) (g 9) (g 10) w) : den pg ann_ref08_Codes (dropS 1 (dropS 1 (bI (bI (dropS 1 (bI (takeS 1 (dropS 1 (bI (bI (dropS 1 (takeS 1 (dropS 2 (dropS 1 (dropS 4 code_ref08_Codes))))))))))))))) Q g w :=
  den_exQ (kr := no) (l := []) (by kernel_rfl) h hn noE trivial

def ref08_Codes_p4 (kn : K7) (l_0 d_4 out_5 code_7 w_9 s_10 now_11 : Value) (w : World) : Prop :=
  Stp pg (sBuild 37 [(0, now_11), (1, code_7)]) w fun t63 w =>
  Stp pg (sIAddr 32 out_5 s_10) w fun t64 w =>
  Stp pg (sStore 37 t64 t63) w fun _u w =>
  kn l_0 d_4 out_5 code_7 now_11 w_9 s_10 w
theorem ref08_Codes_p4_ok (kn : K7) (hn : ∀ g w, kn (g 0) (g 4) (g 5) (g 7) (g 8) (g 9) (g 10) w → Q .normal g w) (h : ref08_Codes_p4 kn (g 0) (g 4) (g 5) (g 7) (g 9) (g 10) (g 11) w) : den pg ann_ref08_Codes (dropS 1 (dropS 3 (bI (takeS 1 (dropS 1 (bI (bI (dropS 1 (bI (takeS 1 (dropS 1 (bI (bI (dropS 1 (takeS 1 (dropS 2 (dropS 1 (dropS 4 code_ref08_Codes)))))))))))))))))) Q g w :=
  den_exQ (kr := no) (l := []) (by kernel_rfl) h hn noE trivial

def ref08_Codes_p5 (kn : K8) (k6 : K7) (l_0 d_4 out_5 code_7 bits_8 w_9 s_10 now_11 : Value) (w : World) : Prop :=
  Stp pg (sBin .gtr 3 (.tmp 51) (.tmp 52) bits_8 now_11) w fun t53 w =>
  Cnd t53
    (Stp pg (sBin .quo 3 (.tmp 54) (.const (.int .i64 2)) code_7 (.int .i64 2)) w fun t55 w =>
    Stp pg (sBin .sub 3 (.tmp 56) (.const (.int .i64 1)) bits_8 (.int .i64 1)) w fun t57 w =>
    kn l_0 d_4 out_5 t55 t57 w_9 s_10 now_11 w)
    (k6 l_0 d_4 out_5 code_7 w_9 s_10 now_11 w)
theorem ref08_Codes_p5_ok (kn : K8) (k6 : K7) (hn : ∀ g w, kn (g 0) (g 4) (g 5) (g 7) (g 8) (g 9) (g 10) (g 11) w → Q .normal g w) (h6 : ∀ g w, k6 (g 0) (g 4) (g 5) (g 7) (g 9) (g 10) (g 11) w → Q (.exit 6) g w) (h : ref08_Codes_p5 kn k6 (g 0) (g 4) (g 5) (g 7) (g 8) (g 9) (g 10) (g 11) w) : den pg ann_ref08_Codes (bI (bI (takeS 1 (dropS 3 (bI (takeS 1 (dropS 1 (bI (bI (dropS 1 (bI (takeS 1 (dropS 1 (bI (bI (dropS 1 (takeS 1 (dropS 2 (dropS 1 (dropS 4 code_ref08_Codes)))))))))))))))))))) Q g w :=
  den_exQ (kr := no) (l := [(6, fun g w => k6 (g 0) (g 4) (g 5) (g 7) (g 9) (g 10) (g 11) w)]) (by kernel_rfl) h hn noE ⟨h6, trivial⟩

def ref08_Codes_p6 (k6 : K7) (l_0 d_4 out_5 code_7 bits_8 w_9 s_10 now_11 : Value) (w : World) : Prop :=
  LoopD (fun (X : (Value × Value) → K0) (t : Value × Value) (w : World) => ref08_Codes_p5 (fun _ _ _ code_7 bits_8 _ _ _ w => X (code_7, bits_8) w) k6 l_0 d_4 out_5 t.1 t.2 w_9 s_10 now_11 w) (code_7, bits_8) w
theorem ref08_Codes_p6_ok (k6 : K7) (h6 : ∀ g w, k6 (g 0) (g 4) (g 5) (g 7) (g 9) (g 10) (g 11) w → Q (.exit 6) g w) (h : ref08_Codes_p6 k6 (g 0) (g 4) (g 5) (g 7) (g 8) (g 9) (g 10) (g 11) w) : den pg ann_ref08_Codes (bI (takeS 1 (dropS 3 (bI (takeS 1 (dropS 1 (bI (bI (dropS 1 (bI (takeS 1 (dropS 1 (bI (bI (dropS 1 (takeS 1 (dropS 2 (dropS 1 (dropS 4 code_ref08_Codes))))))))))))))))))) Q g w := by
  refine den_loops (T := Value × Value) (fun g : Env => (g 7, g 8)) (fun X t w => ref08_Codes_p5 (fun _ _ _ code_7 bits_8 _ _ _ w => X (code_7, bits_8) w) k6 (g 0) (g 4) (g 5) t.1 t.2 (g 9) (g 10) (g 11) w) _ (by kernel_rfl) h (fun X g1 w1 ha hL => ?_)
  rw [← agree_at (s := 0) ha (by kernel_rfl)] at hL
  rw [← agree_at (s := 4) ha (by kernel_rfl)] at hL
  rw [← agree_at (s := 5) ha (by kernel_rfl)] at hL
  rw [← agree_at (s := 9) ha (by kernel_rfl)] at hL
  rw [← agree_at (s := 10) ha (by kernel_rfl)] at hL
  rw [← agree_at (s := 11) ha (by kernel_rfl)] at hL
  exact (ref08_Codes_p5_ok (thenE (fun g2 w2 => X ((fun g : Env => (g 7, g 8)) g2) w2) Q) g1 w1 (fun _ _ _ code_7 bits_8 _ _ _ w => X (code_7, bits_8) w) k6 (fun _ _ h => h) h6 hL)

def ref08_Codes_p7 (kn : K7) (l_0 d_4 out_5 code_7 bits_8 w_9 s_10 now_11 : Value) (w : World) : Prop :=
  ref08_Codes_p6 kn l_0 d_4 out_5 code_7 bits_8 w_9 s_10 now_11 w
theorem ref08_Codes_p7_ok (kn : K7) (hn : ∀ g w, kn (g 0) (g 4) (g 5) (g 7) (g 9) (g 10) (g 11) w → Q .normal g w) (h : ref08_Codes_p7 kn (g 0) (g 4) (g 5) (g 7) (g 8) (g 9) (g 10) (g 11) w) : den pg ann_ref08_Codes (takeS 1 (dropS 3 (bI (takeS 1 (dropS 1 (bI (bI (dropS 1 (bI (takeS 1 (dropS 1 (bI (bI (dropS 1 (takeS 1 (dropS 2 (dropS 1 (dropS 4 code_ref08_Codes)))))))))))))))))) Q g w :=
  den_blk 6 _ g w (by kernel_rfl) (ref08_Codes_p6_ok (blk 6 Q) g w kn hn h)

def ref08_Codes_p8 (kn : K7) (l_0 d_4 out_5 code_7 bits_8 w_9 s_10 now_11 : Value) (w : World) : Prop :=
  ref08_Codes_p7 (fun l_0 d_4 out_5 code_7 w_9 s_10 now_11 w => ref08_Codes_p4 kn l_0 d_4 out_5 code_7 w_9 s_10 now_11 w) l_0 d_4 out_5 code_7 bits_8 w_9 s_10 now_11 w
theorem ref08_Codes_p8_ok (kn : K7) (hn : ∀ g w, kn (g 0) (g 4) (g 5) (g 7) (g 8) (g 9) (g 10) w → Q .normal g w) (h : ref08_Codes_p8 kn (g 0) (g 4) (g 5) (g 7) (g 8) (g 9) (g 10) (g 11) w) : den pg ann_ref08_Codes (dropS 3 (bI (takeS 1 (dropS 1 (bI (bI (dropS 1 (bI (takeS 1 (dropS 1 (bI (bI (dropS 1 (takeS 1 (dropS 2 (dropS 1 (dropS 4 code_ref08_Codes))))))))))))))))) Q g w :=
  den_seqs 1 _ g w (by kernel_rfl) (ref08_Codes_p7_ok (thenE (fun g w => den pg ann_ref08_Codes (dropS 1 (dropS 3 (bI (takeS 1 (dropS 1 (bI (bI (dropS 1 (bI (takeS 1 (dropS 1 (bI (bI (dropS 1 (takeS 1 (dropS 2 (dropS 1 (dropS 4 code_ref08_Codes)))))))))))))))))) Q g w) Q) g w (fun l_0 d_4 out_5 code_7 w_9 s_10 now_11 w => ref08_Codes_p4 kn l_0 d_4 out_5 code_7 w_9 s_10 now_11 w) (fun g w h => thenE_n (K := fun g w => den pg ann_ref08_Codes (dropS 1 (dropS 3 (bI (takeS 1 (dropS 1 (bI (bI (dropS 1 (bI (takeS 1 (dropS 1 (bI (bI (dropS 1 (takeS 1 (dropS 2 (dropS 1 (dropS 4 code_ref08_Codes)))))))))))))))))) Q g w) (ref08_Codes_p4_ok Q g w kn hn h)) h)

def ref08_Codes_p9 (kn : K8) (k5 : K7) (l_0 d_4 out_5 code_7 bits_8 w_9 s_10 : Value) (w : World) : Prop :=
  Stp pg (sIdx 9 l_0 s_10) w fun t39 w =>
  Stp pg (sCvt 5 3 t39) w fun t40 w =>
  Stp pg (sBin .neq 3 (.tmp 40) (.tmp 41) t40 w_9) w fun t42 w =>
  Cnd t42
    (k5 l_0 d_4 out_5 code_7 bits_8 w_9 s_10 w)
    (Stp pg (sBin .add 3 (.tmp 43) (.const (.int .i64 1)) d_4 (.int .i64 1)) w fun t44 w =>
    Stp pg (sBin .sub 3 (.tmp 44) (.tmp 45) t44 w_9) w fun t46 w =>
    Stp pg (sBin .gtr 3 (.tmp 47) (.const (.int .i64 0)) bits_8 (.int .i64 0)) w fun t48 w =>
    Cnd t48
      (Stp pg (sBin .add 3 (.tmp 49) (.const (.int .i64 1)) code_7 (.int .i64 1)) w fun t50 w =>
      kn l_0 d_4 out_5 t50 bits_8 w_9 s_10 t46 w)
      (kn l_0 d_4 out_5 code_7 bits_8 w_9 s_10 t46 w))
theorem ref08_Codes_p9_ok (kn : K8) (k5 : K7) (hn : ∀ g w, kn (g 0) (g 4) (g 5) (g 7) (g 8) (g 9) (g 10) (g 11) w → Q .normal g w) (h5 : ∀ g w, k5 (g 0) (g 4) (g 5) (g 7) (g 8) (g 9) (g 10) w → Q (.exit 5) g w) (h : ref08_Codes_p9 kn k5 (g 0) (g 4) (g 5) (g 7) (g 8) (g 9) (g 10) w) : den pg ann_ref08_Codes (takeS 3 (bI (takeS 1 (dropS 1 (bI (bI (dropS 1 (bI (takeS 1 (dropS 1 (bI (bI (dropS 1 (takeS 1 (dropS 2 (dropS 1 (dropS 4 code_ref08_Codes))))))))))))))))) Q g w :=
  den_exQ (kr := no) (l := [(5, fun g w => k5 (g 0) (g 4) (g 5) (g 7) (g 8) (g 9) (g 10) w)]) (by kernel_rfl) h hn noE ⟨h5, trivial⟩

def ref08_Codes_p10 (kn : K7) (k5 : K7) (l_0 d_4 out_5 code_7 bits_8 w_9 s_10 : Value) (w : World) : Prop :=
  ref08_Codes_p9 (fun l_0 d_4 out_5 code_7 bits_8 w_9 s_10 now_11 w => ref08_Codes_p8 kn l_0 d_4 out_5 code_7 bits_8 w_9 s_10 now_11 w) k5 l_0 d_4 out_5 code_7 bits_8 w_9 s_10 w
theorem ref08_Codes_p10_ok (kn : K7) (k5 : K7) (hn : ∀ g w, kn (g 0) (g 4) (g 5) (g 7) (g 8) (g 9) (g 10) w → Q .normal g w) (h5 : ∀ g w, k5 (g 0) (g 4) (g 5) (g 7) (g 8) (g 9) (g 10) w → Q (.exit 5) g w) (h : ref08_Codes_p10 kn k5 (g 0) (g 4) (g 5) (g 7) (g 8) (g 9) (g 10) w) : den pg ann_ref08_Codes (bI (takeS 1 (dropS 1 (bI (bI (dropS 1 (bI (takeS 1 (dropS 1 (bI (bI (dropS 1 (takeS 1 (dropS 2 (dropS 1 (dropS 4 code_ref08_Codes)))))))))))))))) Q g w :=
  den_seqs 3 _ g w (by kernel_rfl) (ref08_Codes_p9_ok (thenE (fun g w => den pg ann_ref08_Codes (dropS 3 (bI (takeS 1 (dropS 1 (bI (bI (dropS 1 (bI (takeS 1 (dropS 1 (bI (bI (dropS 1 (takeS 1 (dropS 2 (dropS 1 (dropS 4 code_ref08_Codes))))))))))))))))) Q g w) Q) g w (fun l_0 d_4 out_5 code_7 bits_8 w_9 s_10 now_11 w => ref08_Codes_p8 kn l_0 d_4 out_5 code_7 bits_8 w_9 s_10 now_11 w) k5 (fun g w h => thenE_n (K := fun g w => den pg ann_ref08_Codes (dropS 3 (bI (takeS 1 (dropS 1 (bI (bI (dropS 1 (bI (takeS 1 (dropS 1 (bI (bI (dropS 1 (takeS 1 (dropS 2 (dropS 1 (dropS 4 code_ref08_Codes))))))))))))))))) Q g w) (ref08_Codes_p8_ok Q g w kn hn h)) h5 h)

def ref08_Codes_p11 (kn : K7) (l_0 d_4 out_5 code_7 bits_8 w_9 s_10 : Value) (w : World) : Prop :=
  ref08_Codes_p10 kn kn l_0 d_4 out_5 code_7 bits_8 w_9 s_10 w
theorem ref08_Codes_p11_ok (kn : K7) (hn : ∀ g w, kn (g 0) (g 4) (g 5) (g 7) (g 8) (g 9) (g 10) w → Q .normal g w) (h : ref08_Codes_p11 kn (g 0) (g 4) (g 5) (g 7) (g 8) (g 9) (g 10) w) : den pg ann_ref08_Codes (takeS 1 (dropS 1 (bI (bI (dropS 1 (bI (takeS 1 (dropS 1 (bI (bI (dropS 1 (takeS 1 (dropS 2 (dropS 1 (dropS 4 code_ref08_Codes))))))))))))))) Q g w :=
  den_blk 5 _ g w (by kernel_rfl) (ref08_Codes_p10_ok (blk 5 Q) g w kn kn hn hn h)

def ref08_Codes_p12 (kn : K7) (l_0 d_4 out_5 code_7 bits_8 w_9 s_10 : Value) (w : World) : Prop :=
  ref08_Codes_p11 (fun l_0 d_4 out_5 code_7 bits_8 w_9 s_10 w => ref08_Codes_p3 kn l_0 d_4 out_5 code_7 bits_8 w_9 s_10 w) l_0 d_4 out_5 code_7 bits_8 w_9 s_10 w
theorem ref08_Codes_p12_ok (kn : K7) (hn : ∀ g w, kn (g 0) (g 4) (g 5) (g 7) (g 8) (g 9) (g 10) w → Q .normal g w) (h : ref08_Codes_p12 kn (g 0) (g 4) (g 5) (g 7) (g 8) (g 9) (g 10) w) : den pg ann_ref08_Codes (dropS 1 (bI (bI (dropS 1 (bI (takeS 1 (dropS 1 (bI (bI (dropS 1 (takeS 1 (dropS 2 (dropS 1 (dropS 4 code_ref08_Codes)))))))))))))) Q g w :=
  den_seqs 1 _ g w (by kernel_rfl) (ref08_Codes_p11_ok (thenE (fun g w => den pg ann_ref08_Codes (dropS 1 (dropS 1 (bI (bI (dropS 1 (bI (takeS 1 (dropS 1 (bI (bI (dropS 1 (takeS 1 (dropS 2 (dropS 1 (dropS 4 code_ref08_Codes))))))))))))))) Q g w) Q) g w (fun l_0 d_4 out_5 code_7 bits_8 w_9 s_10 w => ref08_Codes_p3 kn l_0 d_4 out_5 code_7 bits_8 w_9 s_10 w) (fun g w h => thenE_n (K := fun g w => den pg ann_ref08_Codes (dropS 1 (dropS 1 (bI (bI (dropS 1 (bI (takeS 1 (dropS 1 (bI (bI (dropS 1 (takeS 1 (dropS 2 (dropS 1 (dropS 4 code_ref08_Codes))))))))))))))) Q g w) (ref08_Codes_p3_ok Q g w kn hn h)) h)

def ref08_Codes_p13 (kn : K7) (k4 : K6) (l_0 d_4 out_5 code_7 bits_8 w_9 s_10 : Value) (w : World) : Prop :=
  Stp pg (sBi .len #[9] 3 [l_0]) w fun t33 w =>
  Stp pg (sBin .lss 3 (.tmp 31) (.tmp 33) s_10 t33) w fun t34 w =>
  Cnd t34
    (kn l_0 d_4 out_5 code_7 bits_8 w_9 s_10 w)
    (k4 l_0 d_4 out_5 code_7 bits_8 w_9 w)
theorem ref08_Codes_p13_ok (kn : K7) (k4 : K6) (hn : ∀ g w, kn (g 0) (g 4) (g 5) (g 7) (g 8) (g 9) (g 10) w → Q .normal g w) (h4 : ∀ g w, k4 (g 0) (g 4) (g 5) (g 7) (g 8) (g 9) w → Q (.exit 4) g w) (h : ref08_Codes_p13 kn k4 (g 0) (g 4) (g 5) (g 7) (g 8) (g 9) (g 10) w) : den pg ann_ref08_Codes (takeS 1 (bI (bI (dropS 1 (bI (takeS 1 (dropS 1 (bI (bI (dropS 1 (takeS 1 (dropS 2 (dropS 1 (dropS 4 code_ref08_Codes)))))))))))))) Q g w :=
  den_exQ (kr := no) (l := [(4, fun g w => k4 (g 0) (g 4) (g 5) (g 7) (g 8) (g 9) w)]) (by kernel_rfl) h hn noE ⟨h4, trivial⟩

def ref08_Codes_p14 (kn : K7) (k4 : K6) (l_0 d_4 out_5 code_7 bits_8 w_9 s_10 : Value) (w : World) : Prop :=
  ref08_Codes_p13 (fun l_0 d_4 out_5 code_7 bits_8 w_9 s_10 w => ref08_Codes_p12 kn l_0 d_4 out_5 code_7 bits_8 w_9 s_10 w) k4 l_0 d_4 out_5 code_7 bits_8 w_9 s_10 w
theorem ref08_Codes_p14_ok (kn : K7) (k4 : K6) (hn : ∀ g w, kn (g 0) (g 4) (g 5) (g 7) (g 8) (g 9) (g 10) w → Q .normal g w) (h4 : ∀ g w, k4 (g 0) (g 4) (g 5) (g 7) (g 8) (g 9) w → Q (.exit 4) g w) (h : ref08_Codes_p14 kn k4 (g 0) (g 4) (g 5) (g 7) (g 8) (g 9) (g 10) w) : den pg ann_ref08_Codes (bI (bI (dropS 1 (bI (takeS 1 (dropS 1 (bI (bI (dropS 1 (takeS 1 (dropS 2 (dropS 1 (dropS 4 code_ref08_Codes))))))))))))) Q g w :=
  den_seqs 1 _ g w (by kernel_rfl) (ref08_Codes_p13_ok (thenE (fun g w => den pg ann_ref08_Codes (dropS 1 (bI (bI (dropS 1 (bI (takeS 1 (dropS 1 (bI (bI (dropS 1 (takeS 1 (dropS 2 (dropS 1 (dropS 4 code_ref08_Codes)))))))))))))) Q g w) Q) g w (fun l_0 d_4 out_5 code_7 bits_8 w_9 s_10 w => ref08_Codes_p12 kn l_0 d_4 out_5 code_7 bits_8 w_9 s_10 w) k4 (fun g w h => thenE_n (K := fun g w => den pg ann_ref08_Codes (dropS 1 (bI (bI (dropS 1 (bI (takeS 1 (dropS 1 (bI (bI (dropS 1 (takeS 1 (dropS 2 (dropS 1 (dropS 4 code_ref08_Codes)))))))))))))) Q g w) (ref08_Codes_p12_ok Q g w kn hn h)) h4 h)

def ref08_Codes_p15 (k4 : K6) (l_0 d_4 out_5 code_7 bits_8 w_9 s_10 : Value) (w : World) : Prop :=
  LoopD (fun (X : (Value × Value × Value) → K0) (t : Value × Value × Value) (w : World) => ref08_Codes_p14 (fun _ _ _ code_7 bits_8 _ s_10 w => X (code_7, bits_8, s_10) w) k4 l_0 d_4 out_5 t.1 t.2.1 w_9 t.2.2 w) (code_7, bits_8, s_10) w
theorem ref08_Codes_p15_ok (k4 : K6) (h4 : ∀ g w, k4 (g 0) (g 4) (g 5) (g 7) (g 8) (g 9) w → Q (.exit 4) g w) (h : ref08_Codes_p15 k4 (g 0) (g 4) (g 5) (g 7) (g 8) (g 9) (g 10) w) : den pg ann_ref08_Codes (bI (dropS 1 (bI (takeS 1 (dropS 1 (bI (bI (dropS 1 (takeS 1 (dropS 2 (dropS 1 (dropS 4 code_ref08_Codes)))))))))))) Q g w := by
  refine den_loops (T := Value × Value × Value) (fun g : Env => (g 7, g 8, g 10)) (fun X t w => ref08_Codes_p14 (fun _ _ _ code_7 bits_8 _ s_10 w => X (code_7, bits_8, s_10) w) k4 (g 0) (g 4) (g 5) t.1 t.2.1 (g 9) t.2.2 w) _ (by kernel_rfl) h (fun X g1 w1 ha hL => ?_)
  rw [← agree_at (s := 0) ha (by kernel_rfl)] at hL
  rw [← agree_at (s := 4) ha (by kernel_rfl)] at hL
  rw [← agree_at (s := 5) ha (by kernel_rfl)] at hL
  rw [← agree_at (s := 9) ha (by kernel_rfl)] at hL
  exact (ref08_Codes_p14_ok (thenE (fun g2 w2 => X ((fun g : Env => (g 7, g 8, g 10)) g2) w2) Q) g1 w1 (fun _ _ _ code_7 bits_8 _ s_10 w => X (code_7, bits_8, s_10) w) k4 (fun _ _ h => h) h4 hL)

def ref08_Codes_p16 (kn : K6) (l_0 d_4 out_5 code_7 bits_8 w_9 s_10 : Value) (w : World) : Prop :=
  ref08_Codes_p15 kn l_0 d_4 out_5 code_7 bits_8 w_9 s_10 w
theorem ref08_Codes_p16_ok (kn : K6) (hn : ∀ g w, kn (g 0) (g 4) (g 5) (g 7) (g 8) (g 9) w → Q .normal g w) (h : ref08_Codes_p16 kn (g 0) (g 4) (g 5) (g 7) (g 8) (g 9) (g 10) w) : den pg ann_ref08_Codes (dropS 1 (bI (takeS 1 (dropS 1 (bI (bI (dropS 1 (takeS 1 (dropS 2 (dropS 1 (dropS 4 code_ref08_Codes))))))))))) Q g w :=
  den_blk 4 _ g w (by kernel_rfl) (ref08_Codes_p15_ok (blk 4 Q) g w kn hn h)

def ref08_Codes_p17 (kn : K7) (l_0 d_4 out_5 code_7 bits_8 w_9 : Value) (w : World) : Prop :=
  kn l_0 d_4 out_5 code_7 bits_8 w_9 (.int .i64 0) w
theorem ref08_Codes_p17_ok (kn : K7) (hn : ∀ g w, kn (g 0) (g 4) (g 5) (g 7) (g 8) (g 9) (g 10) w → Q .normal g w) (h : ref08_Codes_p17 kn (g 0) (g 4) (g 5) (g 7) (g 8) (g 9) w) : den pg ann_ref08_Codes (takeS 1 (bI (takeS 1 (dropS 1 (bI (bI (dropS 1 (takeS 1 (dropS 2 (dropS 1 (dropS 4 code_ref08_Codes))))))))))) Q g w :=
  den_exQ (kr := no) (l := []) (by kernel_rfl) h hn noE trivial

def ref08_Codes_p18 (kn : K6) (l_0 d_4 out_5 code_7 bits_8 w_9 : Value) (w : World) : Prop :=
  ref08_Codes_p17 (fun l_0 d_4 out_5 code_7 bits_8 w_9 s_10 w => ref08_Codes_p16 kn l_0 d_4 out_5 code_7 bits_8 w_9 s_10 w) l_0 d_4 out_5 code_7 bits_8 w_9 w
theorem ref08_Codes_p18_ok (kn : K6) (hn : ∀ g w, kn (g 0) (g 4) (g 5) (g 7) (g 8) (g 9) w → Q .normal g w) (h : ref08_Codes_p18 kn (g 0) (g 4) (g 5) (g 7) (g 8) (g 9) w) : den pg ann_ref08_Codes (bI (takeS 1 (dropS 1 (bI (bI (dropS 1 (takeS 1 (dropS 2 (dropS 1 (dropS 4 code_ref08_Codes)))))))))) Q g w :=
  den_seqs 1 _ g w (by kernel_rfl) (ref08_Codes_p17_ok (thenE (fun g w => den pg ann_ref08_Codes (dropS 1 (bI (takeS 1 (dropS 1 (bI (bI (dropS 1 (takeS 1 (dropS 2 (dropS 1 (dropS 4 code_ref08_Codes))))))))))) Q g w) Q) g w (fun l_0 d_4 out_5 code_7 bits_8 w_9 s_10 w => ref08_Codes_p16 kn l_0 d_4 out_5 code_7 bits_8 w_9 s_10 w) (fun g w h => thenE_n (K := fun g w => den pg ann_ref08_Codes (dropS 1 (bI (takeS 1 (dropS 1 (bI (bI (dropS 1 (takeS 1 (dropS 2 (dropS 1 (dropS 4 code_ref08_Codes))))))))))) Q g w) (ref08_Codes_p16_ok Q g w kn hn h)) h)

def ref08_Codes_p19 (kn : K6) (l_0 d_4 out_5 code_7 bits_8 w_9 : Value) (w : World) : Prop :=
  ref08_Codes_p18 kn l_0 d_4 out_5 code_7 bits_8 w_9 w
theorem ref08_Codes_p19_ok (kn : K6) (hn : ∀ g w, kn (g 0) (g 4) (g 5) (g 7) (g 8) (g 9) w → Q .normal g w) (h : ref08_Codes_p19 kn (g 0) (g 4) (g 5) (g 7) (g 8) (g 9) w) : den pg ann_ref08_Codes (takeS 1 (dropS 1 (bI (bI (dropS 1 (takeS 1 (dropS 2 (dropS 1 (dropS 4 code_ref08_Codes))))))))) Q g w :=
  den_blk 3 _ g w (by kernel_rfl) (ref08_Codes_p18_ok (blk 3 Q) g w kn hn h)

def ref08_Codes_p20 (kn : K6) (l_0 d_4 out_5 code_7 bits_8 w_9 : Value) (w : World) : Prop :=
  ref08_Codes_p19 (fun l_0 d_4 out_5 code_7 bits_8 w_9 w => ref08_Codes_p2 kn l_0 d_4 out_5 code_7 bits_8 w_9 w) l_0 d_4 out_5 code_7 bits_8 w_9 w
theorem ref08_Codes_p20_ok (kn : K6) (hn : ∀ g w, kn (g 0) (g 4) (g 5) (g 7) (g 8) (g 9) w → Q .normal g w) (h : ref08_Codes_p20 kn (g 0) (g 4) (g 5) (g 7) (g 8) (g 9) w) : den pg ann_ref08_Codes (dropS 1 (bI (bI (dropS 1 (takeS 1 (dropS 2 (dropS 1 (dropS 4 code_ref08_Codes)))))))) Q g w :=
  den_seqs 1 _ g w (by kernel_rfl) (ref08_Codes_p19_ok (thenE (fun g w => den pg ann_ref08_Codes (dropS 1 (dropS 1 (bI (bI (dropS 1 (takeS 1 (dropS 2 (dropS 1 (dropS 4 code_ref08_Codes))))))))) Q g w) Q) g w (fun l_0 d_4 out_5 code_7 bits_8 w_9 w => ref08_Codes_p2 kn l_0 d_4 out_5 code_7 bits_8 w_9 w) (fun g w h => thenE_n (K := fun g w => den pg ann_ref08_Codes (dropS 1 (dropS 1 (bI (bI (dropS 1 (takeS 1 (dropS 2 (dropS 1 (dropS 4 code_ref08_Codes))))))))) Q g w) (ref08_Codes_p2_ok Q g w kn hn h)) h)

def ref08_Codes_p21 (kn : K6) (k2 : K1) (l_0 d_4 out_5 code_7 bits_8 w_9 : Value) (w : World) : Prop :=
  Stp pg (sBin .leq 3 (.tmp 26) (.tmp 27) w_9 d_4) w fun t28 w =>
  Cnd t28
    (kn l_0 d_4 out_5 code_7 bits_8 w_9 w)
    (k2 out_5 w)
theorem ref08_Codes_p21_ok (kn : K6) (k2 : K1) (hn : ∀ g w, kn (g 0) (g 4) (g 5) (g 7) (g 8) (g 9) w → Q .normal g w) (h2 : ∀ g w, k2 (g 5) w → Q (.exit 2) g w) (h : ref08_Codes_p21 kn k2 (g 0) (g 4) (g 5) (g 7) (g 8) (g 9) w) : den pg ann_ref08_Codes (takeS 1 (bI (bI (dropS 1 (takeS 1 (dropS 2 (dropS 1 (dropS 4 code_ref08_Codes)))))))) Q g w :=
  den_exQ (kr := no) (l := [(2, fun g w => k2 (g 5) w)]) (by kernel_rfl) h hn noE ⟨h2, trivial⟩

def ref08_Codes_p22 (kn : K6) (k2 : K1) (l_0 d_4 out_5 code_7 bits_8 w_9 : Value) (w : World) : Prop :=
  ref08_Codes_p21 (fun l_0 d_4 out_5 code_7 bits_8 w_9 w => ref08_Codes_p20 kn l_0 d_4 out_5 code_7 bits_8 w_9 w) k2 l_0 d_4 out_5 code_7 bits_8 w_9 w
theorem ref08_Codes_p22_ok (kn : K6) (k2 : K1) (hn : ∀ g w, kn (g 0) (g 4) (g 5) (g 7) (g 8) (g 9) w → Q .normal g w) (h2 : ∀ g w, k2 (g 5) w → Q (.exit 2) g w) (h : ref08_Codes_p22 kn k2 (g 0) (g 4) (g 5) (g 7) (g 8) (g 9) w) : den pg ann_ref08_Codes (bI (bI (dropS 1 (takeS 1 (dropS 2 (dropS 1 (dropS 4 code_ref08_Codes))))))) Q g w :=
  den_seqs 1 _ g w (by kernel_rfl) (ref08_Codes_p21_ok (thenE (fun g w => den pg ann_ref08_Codes (dropS 1 (bI (bI (dropS 1 (takeS 1 (dropS 2 (dropS 1 (dropS 4 code_ref08_Codes)))))))) Q g w) Q) g w (fun l_0 d_4 out_5 code_7 bits_8 w_9 w => ref08_Codes_p20 kn l_0 d_4 out_5 code_7 bits_8 w_9 w) k2 (fun g w h => thenE_n (K := fun g w => den pg ann_ref08_Codes (dropS 1 (bI (bI (dropS 1 (takeS 1 (dropS 2 (dropS 1 (dropS 4 code_ref08_Codes)))))))) Q g w) (ref08_Codes_p20_ok Q g w kn hn h)) h2 h)

def ref08_Codes_p23 (k2 : K1) (l_0 d_4 out_5 code_7 bits_8 w_9 : Value) (w : World) : Prop :=
  LoopD (fun (X : (Value × Value × Value) → K0) (t : Value × Value × Value) (w : World) => ref08_Codes_p22 (fun _ _ _ code_7 bits_8 w_9 w => X (code_7, bits_8, w_9) w) k2 l_0 d_4 out_5 t.1 t.2.1 t.2.2 w) (code_7, bits_8, w_9) w
theorem ref08_Codes_p23_ok (k2 : K1) (h2 : ∀ g w, k2 (g 5) w → Q (.exit 2) g w) (h : ref08_Codes_p23 k2 (g 0) (g 4) (g 5) (g 7) (g 8) (g 9) w) : den pg ann_ref08_Codes (bI (dropS 1 (takeS 1 (dropS 2 (dropS 1 (dropS 4 code_ref08_Codes)))))) Q g w := by
  refine den_loops (T := Value × Value × Value) (fun g : Env => (g 7, g 8, g 9)) (fun X t w => ref08_Codes_p22 (fun _ _ _ code_7 bits_8 w_9 w => X (code_7, bits_8, w_9) w) k2 (g 0) (g 4) (g 5) t.1 t.2.1 t.2.2 w) _ (by kernel_rfl) h (fun X g1 w1 ha hL => ?_)
  rw [← agree_at (s := 0) ha (by kernel_rfl)] at hL
  rw [← agree_at (s := 4) ha (by kernel_rfl)] at hL
  rw [← agree_at (s := 5) ha (by kernel_rfl)] at hL
  exact (ref08_Codes_p22_ok (thenE (fun g2 w2 => X ((fun g : Env => (g 7, g 8, g 9)) g2) w2) Q) g1 w1 (fun _ _ _ code_7 bits_8 w_9 w => X (code_7, bits_8, w_9) w) k2 (fun _ _ h => h) h2 hL)

def ref08_Codes_p24 (kn : K1) (l_0 d_4 out_5 code_7 bits_8 w_9 : Value) (w : World) : Prop :=
  ref08_Codes_p23 kn l_0 d_4 out_5 code_7 bits_8 w_9 w
theorem ref08_Codes_p24_ok (kn : K1) (hn : ∀ g w, kn (g 5) w → Q .normal g w) (h : ref08_Codes_p24 kn (g 0) (g 4) (g 5) (g 7) (g 8) (g 9) w) : den pg ann_ref08_Codes (dropS 1 (takeS 1 (dropS 2 (dropS 1 (dropS 4 code_ref08_Codes))))) Q g w :=
  den_blk 2 _ g w (by kernel_rfl) (ref08_Codes_p23_ok (blk 2 Q) g w kn hn h)

def ref08_Codes_p25 (kn : K6) (l_0 d_4 out_5 code_7 bits_8 : Value) (w : World) : Prop :=
  kn l_0 d_4 out_5 code_7 bits_8 (.int .i64 1) w
theorem ref08_Codes_p25_ok (kn : K6) (hn : ∀ g w, kn (g 0) (g 4) (g 5) (g 7) (g 8) (g 9) w → Q .normal g w) (h : ref08_Codes_p25 kn (g 0) (g 4) (g 5) (g 7) (g 8) w) : den pg ann_ref08_Codes (takeS 1 (takeS 1 (dropS 2 (dropS 1 (dropS 4 code_ref08_Codes))))) Q g w :=
  den_exQ (kr := no) (l := []) (by kernel_rfl) h hn noE trivial

def ref08_Codes_p26 (kn : K1) (l_0 d_4 out_5 code_7 bits_8 : Value) (w : World) : Prop :=
  ref08_Codes_p25 (fun l_0 d_4 out_5 code_7 bits_8 w_9 w => ref08_Codes_p24 kn l_0 d_4 out_5 code_7 bits_8 w_9 w) l_0 d_4 out_5 code_7 bits_8 w
theorem ref08_Codes_p26_ok (kn : K1) (hn : ∀ g w, kn (g 5) w → Q .normal g w) (h : ref08_Codes_p26 kn (g 0) (g 4) (g 5) (g 7) (g 8) w) : den pg ann_ref08_Codes (takeS 1 (dropS 2 (dropS 1 (dropS 4 code_ref08_Codes)))) Q g w :=
  den_seqs 1 _ g w (by kernel_rfl) (ref08_Codes_p25_ok (thenE (fun g w => den pg ann_ref08_Codes (dropS 1 (takeS 1 (dropS 2 (dropS 1 (dropS 4 code_ref08_Codes))))) Q g w) Q) g w (fun l_0 d_4 out_5 code_7 bits_8 w_9 w => ref08_Codes_p24 kn l_0 d_4 out_5 code_7 bits_8 w_9 w) (fun g w h => thenE_n (K := fun g w => den pg ann_ref08_Codes (dropS 1 (takeS 1 (dropS 2 (dropS 1 (dropS 4 code_ref08_Codes))))) Q g w) (ref08_Codes_p24_ok Q g w kn hn h)) h)

def ref08_Codes_p27 (R : K1) (l_0 d_4 out_5 code_7 bits_8 : Value) (w : World) : Prop :=
  ref08_Codes_p26 (fun out_5 w => ref08_Codes_p1 R out_5 w) l_0 d_4 out_5 code_7 bits_8 w
theorem ref08_Codes_p27_ok (R : K1) (hr : HR rs_ref08_Codes R Q) (h : ref08_Codes_p27 R (g 0) (g 4) (g 5) (g 7) (g 8) w) : den pg ann_ref08_Codes (dropS 2 (dropS 1 (dropS 4 code_ref08_Codes))) Q g w :=
  den_seqs 1 _ g w (by kernel_rfl) (ref08_Codes_p26_ok (thenE (fun g w => den pg ann_ref08_Codes (dropS 1 (dropS 2 (dropS 1 (dropS 4 code_ref08_Codes)))) Q g w) Q) g w (fun out_5 w => ref08_Codes_p1 R out_5 w) (fun g w h => thenE_n (K := fun g w => den pg ann_ref08_Codes (dropS 1 (dropS 2 (dropS 1 (dropS 4 code_ref08_Codes)))) Q g w) (ref08_Codes_p1_ok Q g w R hr h)) h)

def ref08_Codes_p28 (kn : K5) (l_0 d_4 out_5 : Value) (w : World) : Prop :=
  kn l_0 d_4 out_5 (.int .i64 0) (.int .i64 0) w
theorem ref08_Codes_p28_ok (kn : K5) (hn : ∀ g w, kn (g 0) (g 4) (g 5) (g 7) (g 8) w → Q .normal g w) (h : ref08_Codes_p28 kn (g 0) (g 4) (g 5) w) : den pg ann_ref08_Codes (takeS 2 (dropS 1 (dropS 4 code_ref08_Codes))) Q g w :=
  den_exQ (kr := no) (l := []) (by kernel_rfl) h hn noE trivial

def ref08_Codes_p29 (R : K1) (l_0 d_4 out_5 : Value) (w : World) : Prop :=
  ref08_Codes_p28 (fun l_0 d_4 out_5 code_7 bits_8 w => ref08_Codes_p27 R l_0 d_4 out_5 code_7 bits_8 w) l_0 d_4 out_5 w
theorem ref08_Codes_p29_ok (R : K1) (hr : HR rs_ref08_Codes R Q) (h : ref08_Codes_p29 R (g 0) (g 4) (g 5) w) : den pg ann_ref08_Codes (dropS 1 (dropS 4 code_ref08_Codes)) Q g w :=
  den_seqs 2 _ g w (by kernel_rfl) (ref08_Codes_p28_ok (thenE (fun g w => den pg ann_ref08_Codes (dropS 2 (dropS 1 (dropS 4 code_ref08_Codes))) Q g w) Q) g w (fun l_0 d_4 out_5 code_7 bits_8 w => ref08_Codes_p27 R l_0 d_4 out_5 code_7 bits_8 w) (fun g w h => thenE_n (K := fun g w => den pg ann_ref08_Codes (dropS 2 (dropS 1 (dropS 4 code_ref08_Codes))) Q g w) (ref08_Codes_p27_ok Q g w R hr h)) h)

def ref08_Codes_p30 (kn : K4) (k0 : K3) (l_0 d_4 out_5 i_6 : Value) (w : World) : Prop :=
  Stp pg (sBi .len #[9] 3 [l_0]) w fun t18 w =>
  Stp pg (sBin .lss 3 (.tmp 16) (.tmp 18) i_6 t18) w fun t19 w =>
  Cnd t19
    (Stp pg (sBuild 37 []) w fun t23 w =>
    Stp pg (sBuildSlice 32 1 [(0, t23)]) w fun t24 w =>
    Stp pg (sBi .append #[32, 32] 32 [out_5, t24]) w fun t25 w =>
    Stp pg (sBin .add 3 (.tmp 20) (.const (.int .i64 1)) i_6 (.int .i64 1)) w fun t21 w =>
    kn l_0 d_4 t25 t21 w)
    (k0 l_0 d_4 out_5 w)
theorem ref08_Codes_p30_ok (kn : K4) (k0 : K3) (hn : ∀ g w, kn (g 0) (g 4) (g 5) (g 6) w → Q .normal g w) (h0 : ∀ g w, k0 (g 0) (g 4) (g 5) w → Q (.exit 0) g w) (h : ref08_Codes_p30 kn k0 (g 0) (g 4) (g 5) (g 6) w) : den pg ann_ref08_Codes (bI (bI (dropS 1 (takeS 1 (dropS 4 code_ref08_Codes))))) Q g w :=
  den_exQ (kr := no) (l := [(0, fun g w => k0 (g 0) (g 4) (g 5) w)]) (by kernel_rfl) h hn noE ⟨h0, trivial⟩

def ref08_Codes_p31 (k0 : K3) (l_0 d_4 out_5 i_6 : Value) (w : World) : Prop :=
  LoopD (fun (X : (Value × Value) → K0) (t : Value × Value) (w : World) => ref08_Codes_p30 (fun _ _ out_5 i_6 w => X (out_5, i_6) w) k0 l_0 d_4 t.1 t.2 w) (out_5, i_6) w
theorem ref08_Codes_p31_ok (k0 : K3) (h0 : ∀ g w, k0 (g 0) (g 4) (g 5) w → Q (.exit 0) g w) (h : ref08_Codes_p31 k0 (g 0) (g 4) (g 5) (g 6) w) : den pg ann_ref08_Codes (bI (dropS 1 (takeS 1 (dropS 4 code_ref08_Codes)))) Q g w := by
  refine den_loops (T := Value × Value) (fun g : Env => (g 5, g 6)) (fun X t w => ref08_Codes_p30 (fun _ _ out_5 i_6 w => X (out_5, i_6) w) k0 (g 0) (g 4) t.1 t.2 w) _ (by kernel_rfl) h (fun X g1 w1 ha hL => ?_)
  rw [← agree_at (s := 0) ha (by kernel_rfl)] at hL
  rw [← agree_at (s := 4) ha (by kernel_rfl)] at hL
  exact (ref08_Codes_p30_ok (thenE (fun g2 w2 => X ((fun g : Env => (g 5, g 6)) g2) w2) Q) g1 w1 (fun _ _ out_5 i_6 w => X (out_5, i_6) w) k0 (fun _ _ h => h) h0 hL)

def ref08_Codes_p32 (kn : K3) (l_0 d_4 out_5 i_6 : Value) (w : World) : Prop :=
  ref08_Codes_p31 kn l_0 d_4 out_5 i_6 w
theorem ref08_Codes_p32_ok (kn : K3) (hn : ∀ g w, kn (g 0) (g 4) (g 5) w → Q .normal g w) (h : ref08_Codes_p32 kn (g 0) (g 4) (g 5) (g 6) w) : den pg ann_ref08_Codes (dropS 1 (takeS 1 (dropS 4 code_ref08_Codes))) Q g w :=
  den_blk 0 _ g w (by kernel_rfl) (ref08_Codes_p31_ok (blk 0 Q) g w kn hn h)

def ref08_Codes_p33 (kn : K4) (l_0 d_4 out_5 : Value) (w : World) : Prop :=
  kn l_0 d_4 out_5 (.int .i64 0) w
theorem ref08_Codes_p33_ok (kn : K4) (hn : ∀ g w, kn (g 0) (g 4) (g 5) (g 6) w → Q .normal g w) (h : ref08_Codes_p33 kn (g 0) (g 4) (g 5) w) : den pg ann_ref08_Codes (takeS 1 (takeS 1 (dropS 4 code_ref08_Codes))) Q g w :=
  den_exQ (kr := no) (l := []) (by kernel_rfl) h hn noE trivial

def ref08_Codes_p34 (kn : K3) (l_0 d_4 out_5 : Value) (w : World) : Prop :=
  ref08_Codes_p33 (fun l_0 d_4 out_5 i_6 w => ref08_Codes_p32 kn l_0 d_4 out_5 i_6 w) l_0 d_4 out_5 w
theorem ref08_Codes_p34_ok (kn : K3) (hn : ∀ g w, kn (g 0) (g 4) (g 5) w → Q .normal g w) (h : ref08_Codes_p34 kn (g 0) (g 4) (g 5) w) : den pg ann_ref08_Codes (takeS 1 (dropS 4 code_ref08_Codes)) Q g w :=
  den_seqs 1 _ g w (by kernel_rfl) (ref08_Codes_p33_ok (thenE (fun g w => den pg ann_ref08_Codes (dropS 1 (takeS 1 (dropS 4 code_ref08_Codes))) Q g w) Q) g w (fun l_0 d_4 out_5 i_6 w => ref08_Codes_p32 kn l_0 d_4 out_5 i_6 w) (fun g w h => thenE_n (K := fun g w => den pg ann_ref08_Codes (dropS 1 (takeS 1 (dropS 4 code_ref08_Codes))) Q g w) (ref08_Codes_p32_ok Q g w kn hn h)) h)

def ref08_Codes_p35 (R : K1) (l_0 d_4 out_5 : Value) (w : World) : Prop :=
  ref08_Codes_p34 (fun l_0 d_4 out_5 w => ref08_Codes_p29 R l_0 d_4 out_5 w) l_0 d_4 out_5 w
theorem ref08_Codes_p35_ok (R : K1) (hr : HR rs_ref08_Codes R Q) (h : ref08_Codes_p35 R (g 0) (g 4) (g 5) w) : den pg ann_ref08_Codes (dropS 4 code_ref08_Codes) Q g w :=
  den_seqs 1 _ g w (by kernel_rfl) (ref08_Codes_p34_ok (thenE (fun g w => den pg ann_ref08_Codes (dropS 1 (dropS 4 code_ref08_Codes)) Q g w) Q) g w (fun l_0 d_4 out_5 w => ref08_Codes_p29 R l_0 d_4 out_5 w) (fun g w h => thenE_n (K := fun g w => den pg ann_ref08_Codes (dropS 1 (dropS 4 code_ref08_Codes)) Q g w) (ref08_Codes_p29_ok Q g w R hr h)) h)

def ref08_Codes_p36 (kn : K3) (R : K1) (l_0 : Value) (w : World) : Prop :=
  Does pg F_ref08_Depth #[l_0] w fun t13 w =>
  Stp pg (sBin .eql 3 (.tmp 14) (.const (.int .i64 0)) t13 (.int .i64 0)) w fun t15 w =>
  Cnd t15
    (R (.tuple #[(.slice none 0 0), (.int .i64 1)]) w)
    (kn l_0 t13 (.slice none 0 0) w)
theorem ref08_Codes_p36_ok (kn : K3) (R : K1) (hn : ∀ g w, kn (g 0) (g 4) (g 5) w → Q .normal g w) (hr : HR rs_ref08_Codes R Q) (h : ref08_Codes_p36 kn R (g 0) w) : den pg ann_ref08_Codes (takeS 4 code_ref08_Codes) Q g w :=
  den_exQ (l := []) (by kernel_rfl) h hn hr trivial

def ref08_Codes_p37 (R : K1) (l_0 : Value) (w : World) : Prop :=
  ref08_Codes_p36 (fun l_0 d_4 out_5 w => ref08_Codes_p35 R l_0 d_4 out_5 w) R l_0 w
theorem ref08_Codes_p37_ok (R : K1) (hr : HR rs_ref08_Codes R Q) (h : ref08_Codes_p37 R (g 0) w) : den pg ann_ref08_Codes code_ref08_Codes Q g w :=
  den_seqs 4 _ g w (by kernel_rfl) (ref08_Codes_p36_ok (thenE (fun g w => den pg ann_ref08_Codes (dropS 4 code_ref08_Codes) Q g w) Q) g w (fun l_0 d_4 out_5 w => ref08_Codes_p35 R l_0 d_4 out_5 w) R (fun g w h => thenE_n (K := fun g w => den pg ann_ref08_Codes (dropS 4 code_ref08_Codes) Q g w) (ref08_Codes_p35_ok Q g w R hr h)) hr h)

def ref08_Codes (a0 : Value) (w : World) (R : K1) : Prop :=
  ref08_Codes_p37 R a0 w
theorem ref08_Codes_does {a0 : Value} {w : World} {R : K1} (h : ref08_Codes a0 w R) : Does pg F_ref08_Codes #[a0] w R := by
  refine does_of_den (ann := ann_ref08_Codes) (fn := Try.f14) (c := code_ref08_Codes) (args := [a0]) (rs := rs_ref08_Codes) (N := 66) TryM.mixed (by kernel_rfl) Try.func14 (by kernel_rfl) (by kernel_rfl) (by kernel_rfl) (of_decide_eq_true (by kernel_rfl)) (by kernel_rfl) ?_
  exact (ref08_Codes_p37_ok (retQ pg rs_ref08_Codes R) (envOf [a0]) w R (fun _ _ h => h) h)
-- PIECES ref08_Codes/0 ref08_Codes_p1 ref08_Codes_p23 ref08_Codes_p24 ref08_Codes_p25 ref08_Codes_p26 ref08_Codes_p27 ref08_Codes_p28 ref08_Codes_p29 ref08_Codes_p31 ref08_Codes_p32 ref08_Codes_p33 ref08_Codes_p34 ref08_Codes_p35 ref08_Codes_p36 ref08_Codes_p37
-- PIECES ref08_Codes/1 ref08_Codes_p2 ref08_Codes_p15 ref08_Codes_p16 ref08_Codes_p17 ref08_Codes_p18 ref08_Codes_p19 ref08_Codes_p20 ref08_Codes_p21 ref08_Codes_p22
-- PIECES ref08_Codes/2 ref08_Codes_p3 ref08_Codes_p4 ref08_Codes_p6 ref08_Codes_p7 ref08_Codes_p8 ref08_Codes_p9 ref08_Codes_p10 ref08_Codes_p11 ref08_Codes_p12 ref08_Codes_p13 ref08_Codes_p14
-- PIECES ref08_Codes/3 ref08_Codes_p5
-- PIECES ref08_Codes/4 ref08_Codes_p30

/- lighterman/weights.Read -/
def ann_weights_Read : FA := ⟨F_weights_Read, fun i => .leaf ([], []) []⟩
def rs_weights_Read : List ResultVar := [.tmp 2, .tmp 3, .tmp 4]
noncomputable def code_weights_Read : Code := bodyOf Try.f15
def weights_Read_p1 (R : K1) (l_6 n_7 e_8 : Value) (w : World) : Prop :=
  Stp pg (sBin .neq 24 (.tmp 47) (.const (.int .i64 0)) e_8 (.int .i64 0)) w fun t48 w =>
  Cnd t48
    (R (.tuple #[(.slice none 0 0), (.int .i64 0), e_8]) w)
    (Does pg F_weights_Whole #[l_6] w fun t52 w =>
    Stp pg (sExtr t52 0) w fun t53 w =>
    Stp pg (sExtr t52 1) w fun t54 w =>
    Stp pg (sBin .neq 24 (.tmp 55) (.const (.int .i64 0)) t54 (.int .i64 0)) w fun t56 w =>
    Cnd t56
      (R (.tuple #[(.slice none 0 0), (.int .i64 0), t54]) w)
      (Stp pg (sBin .add 3 (.const (.int .i64 1)) (.tmp 59) (.int .i64 1) n_7) w fun t60 w =>
      R (.tuple #[t53, t60, (.int .i64 0)]) w))
theorem weights_Read_p1_ok (R : K1) (hr : HR rs_weights_Read R Q) (h : weights_Read_p1 R (g 6) (g 7) (g 8) w) : den pg ann_weights_Read (dropS 8 code_weights_Read) Q g w :=
  den_exQ (kn := no) (l := []) (by kernel_rfl) h noE hr trivial

def weights_Read_p2 (kn : K3) (R : K1) (b_0 : Value) (w : World) : Prop :=
  Stp pg (sBi .len #[22] 3 [b_0]) w fun t11 w =>
  Stp pg (sBin .eql 3 (.tmp 11) (.const (.int .i64 0)) t11 (.int .i64 0)) w fun t12 w =>
  Cnd t12
    (R (.tuple #[(.slice none 0 0), (.int .i64 0), (.int .i64 10)]) w)
    (Stp pg (sIAddr 22 b_0 (.int .i64 0)) w fun t14 w =>
    Stp pg (sLoad 5 t14) w fun t15 w =>
    Stp pg (sCvt 5 3 t15) w fun t16 w =>
    Stp pg (sSlice 22 b_0 (some (.int .i64 1)) none none) w fun t18 w =>
    Stp pg (sBin .geq 3 (.tmp 28) (.const (.int .i64 128)) t16 (.int .i64 128)) w fun t29 w =>
    Cnd t29
      (Stp pg (sBin .sub 3 (.tmp 30) (.const (.int .i64 128)) t16 (.int .i64 128)) w fun t31 w =>
      Stp pg (sBin .add 3 (.tmp 31) (.const (.int .i64 2)) t31 (.int .i64 2)) w fun t32 w =>
      Stp pg (sBin .quo 3 (.tmp 32) (.const (.int .i64 2)) t32 (.int .i64 2)) w fun t33 w =>
      Stp pg (sBin .sub 3 (.tmp 36) (.const (.int .i64 128)) t16 (.int .i64 128)) w fun t37 w =>
      Stp pg (sBin .add 3 (.tmp 37) (.const (.int .i64 1)) t37 (.int .i64 1)) w fun t38 w =>
      Does pg F_weights_halves #[t18, t38] w fun t39 w =>
      Stp pg (sExtr t39 0) w fun t40 w =>
      Stp pg (sExtr t39 1) w fun t41 w =>
      kn t40 t33 t41 w)
      (Stp pg (sBi .len #[22] 3 [t18]) w fun t44 w =>
      Stp pg (sBin .lss 3 (.tmp 44) (.tmp 45) t44 t16) w fun t46 w =>
      Cnd t46
        (kn (.slice none 0 0) (.int .i64 0) (.int .i64 10) w)
        (Stp pg (sSlice 22 t18 none (some t16) none) w fun t23 w =>
        Does pg F_weights_states #[t23] w fun t24 w =>
        Stp pg (sExtr t24 0) w fun t25 w =>
        Stp pg (sExtr t24 1) w fun t26 w =>
        kn t25 t16 t26 w)))
theorem weights_Read_p2_ok (kn : K3) (R : K1) (hn : ∀ g w, kn (g 6) (g 7) (g 8) w → Q .normal g w) (hr : HR rs_weights_Read R Q) (h : weights_Read_p2 kn R (g 0) w) : den pg ann_weights_Read (takeS 8 code_weights_Read) Q g w :=
  den_exQ (l := []) (by kernel_rfl) h hn hr trivial

def weights_Read_p3 (R : K1) (b_0 : Value) (w : World) : Prop :=
  weights_Read_p2 (fun l_6 n_7 e_8 w => weights_Read_p1 R l_6 n_7 e_8 w) R b_0 w
theorem weights_Read_p3_ok (R : K1) (hr : HR rs_weights_Read R Q) (h : weights_Read_p3 R (g 0) w) : den pg ann_weights_Read code_weights_Read Q g w :=
  den_seqs 8 _ g w (by kernel_rfl) (weights_Read_p2_ok (thenE (fun g w => den pg ann_weights_Read (dropS 8 code_weights_Read) Q g w) Q) g w (fun l_6 n_7 e_8 w => weights_Read_p1 R l_6 n_7 e_8 w) R (fun g w h => thenE_n (K := fun g w => den pg ann_weights_Read (dropS 8 code_weights_Read) Q g w) (weights_Read_p1_ok Q g w R hr h)) hr h)

def weights_Read (a0 : Value) (w : World) (R : K1) : Prop :=
  weights_Read_p3 R a0 w
theorem weights_Read_does {a0 : Value} {w : World} {R : K1} (h : weights_Read a0 w R) : Does pg F_weights_Read #[a0] w R := by
  refine does_of_den (ann := ann_weights_Read) (fn := Try.f15) (c := code_weights_Read) (args := [a0]) (rs := rs_weights_Read) (N := 61) TryM.mixed (by kernel_rfl) Try.func15 (by kernel_rfl) (by kernel_rfl) (by kernel_rfl) (of_decide_eq_true (by kernel_rfl)) (by kernel_rfl) ?_
  exact (weights_Read_p3_ok (retQ pg rs_weights_Read R) (envOf [a0]) w R (fun _ _ h => h) h)
-- PIECES weights_Read/0 weights_Read_p1 weights_Read_p2 weights_Read_p3

/- lighterman/weights.Write -/
def ann_weights_Write : FA := ⟨F_weights_Write, fun i => .leaf ([], []) []⟩
def rs_weights_Write : List ResultVar := [.tmp 2, .tmp 3]
noncomputable def code_weights_Write : Code := bodyOf Try.f17
def weights_Write_p1 (R : K1) (out_5 : Value) (w : World) : Prop :=
  R (.tuple #[out_5, (.int .i64 0)]) w
theorem weights_Write_p1_ok (R : K1) (hr : HR rs_weights_Write R Q) (h : weights_Write_p1 R (g 5) w) : den pg ann_weights_Write (dropS 1 (dropS 4 code_weights_Write)) Q g w :=
  den_exQ (kn := no) (l := []) (by kernel_rfl) h noE hr trivial

def weights_Write_p2 (kn : K4) (l_0 n_4 out_5 i_6 : Value) (w : World) : Prop :=
  Stp pg (sBin .add 3 (.tmp 26) (.const (.int .i64 2)) i_6 (.int .i64 2)) w fun t27 w =>
  kn l_0 n_4 out_5 t27 w
theorem weights_Write_p2_ok (kn : K4) (hn : ∀ g w, kn (g 0) (g 4) (g 5) (g 6) w → Q .normal g w) (h : weights_Write_p2 kn (g 0) (g 4) (g 5) (g 6) w) : den pg ann_weights_Write (dropS 1 (dropS 1 (bI (bI (dropS 1 (takeS 1 (dropS 4 code_weights_Write))))))) Q g w :=
  den_exQ (kr := no) (l := []) (by kernel_rfl) h hn noE trivial

def weights_Write_p3 (kn : K4) (l_0 n_4 out_5 i_6 c_7 : Value) (w : World) : Prop :=
  Stp pg (sBuildSlice 22 1 [(0, c_7)]) w fun t46 w =>
  Stp pg (sBi .append #[22, 22] 22 [out_5, t46]) w fun t47 w =>
  kn l_0 n_4 t47 i_6 w
theorem weights_Write_p3_ok (kn : K4) (hn : ∀ g w, kn (g 0) (g 4) (g 5) (g 6) w → Q .normal g w) (h : weights_Write_p3 kn (g 0) (g 4) (g 5) (g 6) (g 7) w) : den pg ann_weights_Write (dropS 2 (bI (takeS 1 (dropS 1 (bI (bI (dropS 1 (takeS 1 (dropS 4 code_weights_Write))))))))) Q g w :=
  den_exQ (kr := no) (l := []) (by kernel_rfl) h hn noE trivial

def weights_Write_p4 (kn : K5) (l_0 n_4 out_5 i_6 : Value) (w : World) : Prop :=
  Stp pg (sIAddr 22 l_0 i_6) w fun t30 w =>
  Stp pg (sLoad 5 t30) w fun t31 w =>
  Stp pg (sBin .shl 5 (.tmp 31) (.const (.int .u64 4)) t31 (.int .u64 4)) w fun t32 w =>
  Stp pg (sBin .add 3 (.tmp 33) (.const (.int .i64 1)) i_6 (.int .i64 1)) w fun t34 w =>
  Stp pg (sBin .lss 3 (.tmp 34) (.tmp 35) t34 n_4) w fun t36 w =>
  Cnd t36
    (Stp pg (sBin .add 3 (.tmp 39) (.const (.int .i64 1)) i_6 (.int .i64 1)) w fun t40 w =>
    Stp pg (sIAddr 22 l_0 t40) w fun t41 w =>
    Stp pg (sLoad 5 t41) w fun t42 w =>
    Stp pg (sBin .or 5 (.tmp 37) (.tmp 42) t32 t42) w fun t43 w =>
    kn l_0 n_4 out_5 i_6 t43 w)
    (kn l_0 n_4 out_5 i_6 t32 w)
theorem weights_Write_p4_ok (kn : K5) (hn : ∀ g w, kn (g 0) (g 4) (g 5) (g 6) (g 7) w → Q .normal g w) (h : weights_Write_p4 kn (g 0) (g 4) (g 5) (g 6) w) : den pg ann_weights_Write (takeS 2 (bI (takeS 1 (dropS 1 (bI (bI (dropS 1 (takeS 1 (dropS 4 code_weights_Write))))))))) Q g w :=
  den_exQ (kr := no) (l := []) (by kernel_rfl) h hn noE trivial

def weights_Write_p5 (kn : K4) (l_0 n_4 out_5 i_6 : Value) (w : World) : Prop :=
  weights_Write_p4 (fun l_0 n_4 out_5 i_6 c_7 w => weights_Write_p3 kn l_0 n_4 out_5 i_6 c_7 w) l_0 n_4 out_5 i_6 w
theorem weights_Write_p5_ok (kn : K4) (hn : ∀ g w, kn (g 0) (g 4) (g 5) (g 6) w → Q .normal g w) (h : weights_Write_p5 kn (g 0) (g 4) (g 5) (g 6) w) : den pg ann_weights_Write (bI (takeS 1 (dropS 1 (bI (bI (dropS 1 (takeS 1 (dropS 4 code_weights_Write)))))))) Q g w :=
  den_seqs 2 _ g w (by kernel_rfl) (weights_Write_p4_ok (thenE (fun g w => den pg ann_weights_Write (dropS 2 (bI (takeS 1 (dropS 1 (bI (bI (dropS 1 (takeS 1 (dropS 4 code_weights_Write))))))))) Q g w) Q) g w (fun l_0 n_4 out_5 i_6 c_7 w => weights_Write_p3 kn l_0 n_4 out_5 i_6 c_7 w) (fun g w h => thenE_n (K := fun g w => den pg ann_weights_Write (dropS 2 (bI (takeS 1 (dropS 1 (bI (bI (dropS 1 (takeS 1 (dropS 4 code_weights_Write))))))))) Q g w) (weights_Write_p3_ok Q g w kn hn h)) h)

def weights_Write_p6 (kn : K4) (l_0 n_4 out_5 i_6 : Value) (w : World) : Prop :=
  weights_Write_p5 kn l_0 n_4 out_5 i_6 w
theorem weights_Write_p6_ok (kn : K4) (hn : ∀ g w, kn (g 0) (g 4) (g 5) (g 6) w → Q .normal g w) (h : weights_Write_p6 kn (g 0) (g 4) (g 5) (g 6) w) : den pg ann_weights_Write (takeS 1 (dropS 1 (bI (bI (dropS 1 (takeS 1 (dropS 4 code_weights_Write))))))) Q g w :=
  den_blk 2 _ g w (by kernel_rfl) (weights_Write_p5_ok (blk 2 Q) g w kn hn h)

def weights_Write_p7 (kn : K4) (l_0 n_4 out_5 i_6 : Value) (w : World) : Prop :=
  weights_Write_p6 (fun l_0 n_4 out_5 i_6 w => weights_Write_p2 kn l_0 n_4 out_5 i_6 w) l_0 n_4 out_5 i_6 w
theorem weights_Write_p7_ok (kn : K4) (hn : ∀ g w, kn (g 0) (g 4) (g 5) (g 6) w → Q .normal g w) (h : weights_Write_p7 kn (g 0) (g 4) (g 5) (g 6) w) : den pg ann_weights_Write (dropS 1 (bI (bI (dropS 1 (takeS 1 (dropS 4 code_weights_Write)))))) Q g w :=
  den_seqs 1 _ g w (by kernel_rfl) (weights_Write_p6_ok (thenE (fun g w => den pg ann_weights_Write (dropS 1 (dropS 1 (bI (bI (dropS 1 (takeS 1 (dropS 4 code_weights_Write))))))) Q g w) Q) g w (fun l_0 n_4 out_5 i_6 w => weights_Write_p2 kn l_0 n_4 out_5 i_6 w) (fun g w h => thenE_n (K := fun g w => den pg ann_weights_Write (dropS 1 (dropS 1 (bI (bI (dropS 1 (takeS 1 (dropS 4 code_weights_Write))))))) Q g w) (weights_Write_p2_ok Q g w kn hn h)) h)

def weights_Write_p8 (kn : K4) (k1 : K1) (l_0 n_4 out_5 i_6 : Value) (w : World) : Prop :=
  Stp pg (sBin .lss 3 (.tmp 23) (.tmp 24) i_6 n_4) w fun t25 w =>
  Cnd t25
    (kn l_0 n_4 out_5 i_6 w)
    (k1 out_5 w)
theorem weights_Write_p8_ok (kn : K4) (k1 : K1) (hn : ∀ g w, kn (g 0) (g 4) (g 5) (g 6) w → Q .normal g w) (h1 : ∀ g w, k1 (g 5) w → Q (.exit 1) g w) (h : weights_Write_p8 kn k1 (g 0) (g 4) (g 5) (g 6) w) : den pg ann_weights_Write (takeS 1 (bI (bI (dropS 1 (takeS 1 (dropS 4 code_weights_Write)))))) Q g w :=
  den_exQ (kr := no) (l := [(1, fun g w => k1 (g 5) w)]) (by kernel_rfl) h hn noE ⟨h1, trivial⟩

def weights_Write_p9 (kn : K4) (k1 : K1) (l_0 n_4 out_5 i_6 : Value) (w : World) : Prop :=
  weights_Write_p8 (fun l_0 n_4 out_5 i_6 w => weights_Write_p7 kn l_0 n_4 out_5 i_6 w) k1 l_0 n_4 out_5 i_6 w
theorem weights_Write_p9_ok (kn : K4) (k1 : K1) (hn : ∀ g w, kn (g 0) (g 4) (g 5) (g 6) w → Q .normal g w) (h1 : ∀ g w, k1 (g 5) w → Q (.exit 1) g w) (h : weights_Write_p9 kn k1 (g 0) (g 4) (g 5) (g 6) w) : den pg ann_weights_Write (bI (bI (dropS 1 (takeS 1 (dropS 4 code_weights_Write))))) Q g w :=
  den_seqs 1 _ g w (by kernel_rfl) (weights_Write_p8_ok (thenE (fun g w => den pg ann_weights_Write (dropS 1 (bI (bI (dropS 1 (takeS 1 (dropS 4 code_weights_Write)))))) Q g w) Q) g w (fun l_0 n_4 out_5 i_6 w => weights_Write_p7 kn l_0 n_4 out_5 i_6 w) k1 (fun g w h => thenE_n (K := fun g w => den pg ann_weights_Write (dropS 1 (bI (bI (dropS 1 (takeS 1 (dropS 4 code_weights_Write)))))) Q g w) (weights_Write_p7_ok Q g w kn hn h)) h1 h)

def weights_Write_p10 (k1 : K1) (l_0 n_4 out_5 i_6 : Value) (w : World) : Prop :=
  LoopD (fun (X : (Value × Value) → K0) (t : Value × Value) (w : World) => weights_Write_p9 (fun _ _ out_5 i_6 w => X (out_5, i_6) w) k1 l_0 n_4 t.1 t.2 w) (out_5, i_6) w
theorem weights_Write_p10_ok (k1 : K1) (h1 : ∀ g w, k1 (g 5) w → Q (.exit 1) g w) (h : weights_Write_p10 k1 (g 0) (g 4) (g 5) (g 6) w) : den pg ann_weights_Write (bI (dropS 1 (takeS 1 (dropS 4 code_weights_Write)))) Q g w := by
  refine den_loops (T := Value × Value) (fun g : Env => (g 5, g 6)) (fun X t w => weights_Write_p9 (fun _ _ out_5 i_6 w => X (out_5, i_6) w) k1 (g 0) (g 4) t.1 t.2 w) _ (by kernel_rfl) h (fun X g1 w1 ha hL => ?_)
  rw [← agree_at (s := 0) ha (by kernel_rfl)] at hL
  rw [← agree_at (s := 4) ha (by kernel_rfl)] at hL
  exact (weights_Write_p9_ok (thenE (fun g2 w2 => X ((fun g : Env => (g 5, g 6)) g2) w2) Q) g1 w1 (fun _ _ out_5 i_6 w => X (out_5, i_6) w) k1 (fun _ _ h => h) h1 hL)

def weights_Write_p11 (kn : K1) (l_0 n_4 out_5 i_6 : Value) (w : World) : Prop :=
  weights_Write_p10 kn l_0 n_4 out_5 i_6 w
theorem weights_Write_p11_ok (kn : K1) (hn : ∀ g w, kn (g 5) w → Q .normal g w) (h : weights_Write_p11 kn (g 0) (g 4) (g 5) (g 6) w) : den pg ann_weights_Write (dropS 1 (takeS 1 (dropS 4 code_weights_Write))) Q g w :=
  den_blk 1 _ g w (by kernel_rfl) (weights_Write_p10_ok (blk 1 Q) g w kn hn h)

def weights_Write_p12 (kn : K4) (l_0 n_4 out_5 : Value) (w : World) : Prop :=
  kn l_0 n_4 out_5 (.int .i64 0) w
theorem weights_Write_p12_ok (kn : K4) (hn : ∀ g w, kn (g 0) (g 4) (g 5) (g 6) w → Q .normal g w) (h : weights_Write_p12 kn (g 0) (g 4) (g 5) w) : den pg ann_weights_Write (takeS 1 (takeS 1 (dropS 4 code_weights_Write))) Q g w :=
  den_exQ (kr := no) (l := []) (by kernel_rfl) h hn noE trivial

def weights_Write_p13 (kn : K1) (l_0 n_4 out_5 : Value) (w : World) : Prop :=
  weights_Write_p12 (fun l_0 n_4 out_5 i_6 w => weights_Write_p11 kn l_0 n_4 out_5 i_6 w) l_0 n_4 out_5 w
theorem weights_Write_p13_ok (kn : K1) (hn : ∀ g w, kn (g 5) w → Q .normal g w) (h : weights_Write_p13 kn (g 0) (g 4) (g 5) w) : den pg ann_weights_Write (takeS 1 (dropS 4 code_weights_Write)) Q g w :=
  den_seqs 1 _ g w (by kernel_rfl) (weights_Write_p12_ok (thenE (fun g w => den pg ann_weights_Write (dropS 1 (takeS 1 (dropS 4 code_weights_Write))) Q g w) Q) g w (fun l_0 n_4 out_5 i_6 w => weights_Write_p11 kn l_0 n_4 out_5 i_6 w) (fun g w h => thenE_n (K := fun g w => den pg ann_weights_Write (dropS 1 (takeS 1 (dropS 4 code_weights_Write))) Q g w) (weights_Write_p11_ok Q g w kn hn h)) h)

def weights_Write_p14 (R : K1) (l_0 n_4 out_5 : Value) (w : World) : Prop :=
  weights_Write_p13 (fun out_5 w => weights_Write_p1 R out_5 w) l_0 n_4 out_5 w
theorem weights_Write_p14_ok (R : K1) (hr : HR rs_weights_Write R Q) (h : weights_Write_p14 R (g 0) (g 4) (g 5) w) : den pg ann_weights_Write (dropS 4 code_weights_Write) Q g w :=
  den_seqs 1 _ g w (by kernel_rfl) (weights_Write_p13_ok (thenE (fun g w => den pg ann_weights_Write (dropS 1 (dropS 4 code_weights_Write)) Q g w) Q) g w (fun out_5 w => weights_Write_p1 R out_5 w) (fun g w h => thenE_n (K := fun g w => den pg ann_weights_Write (dropS 1 (dropS 4 code_weights_Write)) Q g w) (weights_Write_p1_ok Q g w R hr h)) h)

def weights_Write_p15 (kn : K3) (R : K1) (l_0 : Value) (w : World) : Prop :=
  Does pg F_weights_depth #[l_0] w fun t10 w =>
  Stp pg (sBin .eql 3 (.tmp 10) (.const (.int .i64 0)) t10 (.int .i64 0)) w fun t11 w =>
  Cnd t11
    (R (.tuple #[(.slice none 0 0), (.int .i64 1)]) w)
    (Stp pg (sBi .len #[22] 3 [l_0]) w fun t14 w =>
    Stp pg (sBin .gtr 3 (.tmp 14) (.const (.int .i64 129)) t14 (.int .i64 129)) w fun t15 w =>
    Cnd t15
      (R (.tuple #[(.slice none 0 0), (.int .i64 12)]) w)
      (Stp pg (sBi .len #[22] 3 [l_0]) w fun t17 w =>
      Stp pg (sBin .sub 3 (.tmp 17) (.const (.int .i64 1)) t17 (.int .i64 1)) w fun t18 w =>
      Stp pg (sBin .add 3 (.const (.int .i64 127)) (.tmp 19) (.int .i64 127) t18) w fun t20 w =>
      Stp pg (sCvt 3 5 t20) w fun t21 w =>
      Stp pg (sBuildSlice 22 1 [(0, t21)]) w fun t22 w =>
      kn l_0 t18 t22 w))
theorem weights_Write_p15_ok (kn : K3) (R : K1) (hn : ∀ g w, kn (g 0) (g 4) (g 5) w → Q .normal g w) (hr : HR rs_weights_Write R Q) (h : weights_Write_p15 kn R (g 0) w) : den pg ann_weights_Write (takeS 4 code_weights_Write) Q g w :=
  den_exQ (l := []) (by kernel_rfl) h hn hr trivial

def weights_Write_p16 (R : K1) (l_0 : Value) (w : World) : Prop :=
  weights_Write_p15 (fun l_0 n_4 out_5 w => weights_Write_p14 R l_0 n_4 out_5 w) R l_0 w
theorem weights_Write_p16_ok (R : K1) (hr : HR rs_weights_Write R Q) (h : weights_Write_p16 R (g 0) w) : den pg ann_weights_Write code_weights_Write Q g w :=
  den_seqs 4 _ g w (by kernel_rfl) (weights_Write_p15_ok (thenE (fun g w => den pg ann_weights_Write (dropS 4 code_weights_Write) Q g w) Q) g w (fun l_0 n_4 out_5 w => weights_Write_p14 R l_0 n_4 out_5 w) R (fun g w h => thenE_n (K := fun g w => den pg ann_weights_Write (dropS 4 code_weights_Write) Q g w) (weights_Write_p14_ok Q g w R hr h)) hr h)

def weights_Write (a0 : Value) (w : World) (R : K1) : Prop :=
  weights_Write_p16 R a0 w
theorem weights_Write_does {a0 : Value} {w : World} {R : K1} (h : weights_Write a0 w R) : Does pg F_weights_Write #[a0] w R := by
  refine does_of_den (ann := ann_weights_Write) (fn := Try.f17) (c := code_weights_Write) (args := [a0]) (rs := rs_weights_Write) (N := 49) TryM.mixed (by kernel_rfl) Try.func17 (by kernel_rfl) (by kernel_rfl) (by kernel_rfl) (of_decide_eq_true (by kernel_rfl)) (by kernel_rfl) ?_
  exact (weights_Write_p16_ok (retQ pg rs_weights_Write R) (envOf [a0]) w R (fun _ _ h => h) h)
-- PIECES weights_Write/0 weights_Write_p1 weights_Write_p10 weights_Write_p11 weights_Write_p12 weights_Write_p13 weights_Write_p14 weights_Write_p15 weights_Write_p16
-- PIECES weights_Write/1 weights_Write_p2 weights_Write_p3 weights_Write_p4 weights_Write_p5 weights_Write_p6 weights_Write_p7 weights_Write_p8 weights_Write_p9

/- lighterman/lightermanref08.Write -/
def ann_ref08_Write : FA := ⟨F_ref08_Write, fun i => .leaf ([], []) []⟩
def rs_ref08_Write : List ResultVar := [.tmp 2, .tmp 3]
noncomputable def code_ref08_Write : Code := bodyOf Try.f18
def ref08_Write_p1 (R : K1) (out_4 : Value) (w : World) : Prop :=
  Stp pg (sCvt 22 9 out_4) w fun t45 w =>
  R (.tuple #[t45, (.int .i64 0)]) w
theorem ref08_Write_p1_ok (R : K1) (hr : HR rs_ref08_Write R Q) (h : ref08_Write_p1 R (g 4) w) : den pg ann_ref08_Write (dropS 1 (dropS 4 code_ref08_Write)) Q g w :=
  den_exQ (kn := no) (l := []) (by kernel_rfl) h noE hr trivial

def ref08_Write_p2 (kn : K3) (l_0 out_4 i_5 : Value) (w : World) : Prop :=
  Stp pg (sBin .add 3 (.tmp 23) (.const (.int .i64 2)) i_5 (.int .i64 2)) w fun t24 w =>
  kn l_0 out_4 t24 w
theorem ref08_Write_p2_ok (kn : K3) (hn : ∀ g w, kn (g 0) (g 4) (g 5) w → Q .normal g w) (h : ref08_Write_p2 kn (g 0) (g 4) (g 5) w) : den pg ann_ref08_Write (dropS 1 (dropS 1 (bI (bI (dropS 1 (takeS 1 (dropS 4 code_ref08_Write))))))) Q g w :=
  den_exQ (kr := no) (l := []) (by kernel_rfl) h hn noE trivial

def ref08_Write_p3 (kn : K3) (l_0 out_4 i_5 c_6 : Value) (w : World) : Prop :=
  Stp pg (sBuildSlice 22 1 [(0, c_6)]) w fun t42 w =>
  Stp pg (sBi .append #[22, 22] 22 [out_4, t42]) w fun t43 w =>
  kn l_0 t43 i_5 w
theorem ref08_Write_p3_ok (kn : K3) (hn : ∀ g w, kn (g 0) (g 4) (g 5) w → Q .normal g w) (h : ref08_Write_p3 kn (g 0) (g 4) (g 5) (g 6) w) : den pg ann_ref08_Write (dropS 2 (bI (takeS 1 (dropS 1 (bI (bI (dropS 1 (takeS 1 (dropS 4 code_ref08_Write))))))))) Q g w :=
  den_exQ (kr := no) (l := []) (by kernel_rfl) h hn noE trivial

def ref08_Write_p4 (kn : K4) (l_0 out_4 i_5 : Value) (w : World) : Prop :=
  Stp pg (sIdx 9 l_0 i_5) w fun t27 w =>
  Stp pg (sBin .mul 5 (.tmp 27) (.const (.int .u8 16)) t27 (.int .u8 16)) w fun t28 w =>
  Stp pg (sBin .add 3 (.tmp 29) (.const (.int .i64 2)) i_5 (.int .i64 2)) w fun t30 w =>
  Stp pg (sBi .len #[9] 3 [l_0]) w fun t32 w =>
  Stp pg (sBin .lss 3 (.tmp 30) (.tmp 32) t30 t32) w fun t33 w =>
  Cnd t33
    (Stp pg (sBin .add 3 (.tmp 36) (.const (.int .i64 1)) i_5 (.int .i64 1)) w fun t37 w =>
    Stp pg (sIdx 9 l_0 t37) w fun t38 w =>
    Stp pg (sBin .add 5 (.tmp 34) (.tmp 38) t28 t38) w fun t39 w =>
    kn l_0 out_4 i_5 t39 w)
    (kn l_0 out_4 i_5 t28 w)
theorem ref08_Write_p4_ok (kn : K4) (hn : ∀ g w, kn (g 0) (g 4) (g 5) (g 6) w → Q .normal g w) (h : ref08_Write_p4 kn (g 0) (g 4) (g 5) w) : den pg ann_ref08_Write (takeS 2 (bI (takeS 1 (dropS 1 (bI (bI (dropS 1 (takeS 1 (dropS 4 code_ref08_Write))))))))) Q g w :=
  den_exQ (kr := no) (l := []) (by kernel_rfl) h hn noE trivial

def ref08_Write_p5 (kn : K3) (l_0 out_4 i_5 : Value) (w : World) : Prop :=
  ref08_Write_p4 (fun l_0 out_4 i_5 c_6 w => ref08_Write_p3 kn l_0 out_4 i_5 c_6 w) l_0 out_4 i_5 w
theorem ref08_Write_p5_ok (kn : K3) (hn : ∀ g w, kn (g 0) (g 4) (g 5) w → Q .normal g w) (h : ref08_Write_p5 kn (g 0) (g 4) (g 5) w) : den pg ann_ref08_Write (bI (takeS 1 (dropS 1 (bI (bI (dropS 1 (takeS 1 (dropS 4 code_ref08_Write)))))))) Q g w :=
  den_seqs 2 _ g w (by kernel_rfl) (ref08_Write_p4_ok (thenE (fun g w => den pg ann_ref08_Write (dropS 2 (bI (takeS 1 (dropS 1 (bI (bI (dropS 1 (takeS 1 (dropS 4 code_ref08_Write))))))))) Q g w) Q) g w (fun l_0 out_4 i_5 c_6 w => ref08_Write_p3 kn l_0 out_4 i_5 c_6 w) (fun g w h => thenE_n (K := fun g w => den pg ann_ref08_Write (dropS 2 (bI (takeS 1 (dropS 1 (bI (bI (dropS 1 (takeS 1 (dropS 4 code_ref08_Write))))))))) Q g w) (ref08_Write_p3_ok Q g w kn hn h)) h)

def ref08_Write_p6 (kn : K3) (l_0 out_4 i_5 : Value) (w : World) : Prop :=
  ref08_Write_p5 kn l_0 out_4 i_5 w
theorem ref08_Write_p6_ok (kn : K3) (hn : ∀ g w, kn (g 0) (g 4) (g 5) w → Q .normal g w) (h : ref08_Write_p6 kn (g 0) (g 4) (g 5) w) : den pg ann_ref08_Write (takeS 1 (dropS 1 (bI (bI (dropS 1 (takeS 1 (dropS 4 code_ref08_Write))))))) Q g w :=
  den_blk 1 _ g w (by kernel_rfl) (ref08_Write_p5_ok (blk 1 Q) g w kn hn h)

def ref08_Write_p7 (kn : K3) (l_0 out_4 i_5 : Value) (w : World) : Prop :=
  ref08_Write_p6 (fun l_0 out_4 i_5 w => ref08_Write_p2 kn l_0 out_4 i_5 w) l_0 out_4 i_5 w
theorem ref08_Write_p7_ok (kn : K3) (hn : ∀ g w, kn (g 0) (g 4) (g 5) w → Q .normal g w) (h : ref08_Write_p7 kn (g 0) (g 4) (g 5) w) : den pg ann_ref08_Write (dropS 1 (bI (bI (dropS 1 (takeS 1 (dropS 4 code_ref08_Write)))))) Q g w :=
  den_seqs 1 _ g w (by kernel_rfl) (ref08_Write_p6_ok (thenE (fun g w => den pg ann_ref08_Write (dropS 1 (dropS 1 (bI (bI (dropS 1 (takeS 1 (dropS 4 code_ref08_Write))))))) Q g w) Q) g w (fun l_0 out_4 i_5 w => ref08_Write_p2 kn l_0 out_4 i_5 w) (fun g w h => thenE_n (K := fun g w => den pg ann_ref08_Write (dropS 1 (dropS 1 (bI (bI (dropS 1 (takeS 1 (dropS 4 code_ref08_Write))))))) Q g w) (ref08_Write_p2_ok Q g w kn hn h)) h)

def ref08_Write_p8 (kn : K3) (k0 : K1) (l_0 out_4 i_5 : Value) (w : World) : Prop :=
  Stp pg (sBin .add 3 (.tmp 18) (.const (.int .i64 1)) i_5 (.int .i64 1)) w fun t19 w =>
  Stp pg (sBi .len #[9] 3 [l_0]) w fun t21 w =>
  Stp pg (sBin .lss 3 (.tmp 19) (.tmp 21) t19 t21) w fun t22 w =>
  Cnd t22
    (kn l_0 out_4 i_5 w)
    (k0 out_4 w)
theorem ref08_Write_p8_ok (kn : K3) (k0 : K1) (hn : ∀ g w, kn (g 0) (g 4) (g 5) w → Q .normal g w) (h0 : ∀ g w, k0 (g 4) w → Q (.exit 0) g w) (h : ref08_Write_p8 kn k0 (g 0) (g 4) (g 5) w) : den pg ann_ref08_Write (takeS 1 (bI (bI (dropS 1 (takeS 1 (dropS 4 code_ref08_Write)))))) Q g w :=
  den_exQ (kr := no) (l := [(0, fun g w => k0 (g 4) w)]) (by kernel_rfl) h hn noE ⟨h0, trivial⟩

def ref08_Write_p9 (kn : K3) (k0 : K1) (l_0 out_4 i_5 : Value) (w : World) : Prop :=
  ref08_Write_p8 (fun l_0 out_4 i_5 w => ref08_Write_p7 kn l_0 out_4 i_5 w) k0 l_0 out_4 i_5 w
theorem ref08_Write_p9_ok (kn : K3) (k0 : K1) (hn : ∀ g w, kn (g 0) (g 4) (g 5) w → Q .normal g w) (h0 : ∀ g w, k0 (g 4) w → Q (.exit 0) g w) (h : ref08_Write_p9 kn k0 (g 0) (g 4) (g 5) w) : den pg ann_ref08_Write (bI (bI (dropS 1 (takeS 1 (dropS 4 code_ref08_Write))))) Q g w :=
  den_seqs 1 _ g w (by kernel_rfl) (ref08_Write_p8_ok (thenE (fun g w => den pg ann_ref08_Write (dropS 1 (bI (bI (dropS 1 (takeS 1 (dropS 4 code_ref08_Write)))))) Q g w) Q) g w (fun l_0 out_4 i_5 w => ref08_Write_p7 kn l_0 out_4 i_5 w) k0 (fun g w h => thenE_n (K := fun g w => den pg ann_ref08_Write (dropS 1 (bI (bI (dropS 1 (takeS 1 (dropS 4 code_ref08_Write)))))) Q g w) (ref08_Write_p7_ok Q g w kn hn h)) h0 h)

def ref08_Write_p10 (k0 : K1) (l_0 out_4 i_5 : Value) (w : World) : Prop :=
  LoopD (fun (X : (Value × Value) → K0) (t : Value × Value) (w : World) => ref08_Write_p9 (fun _ out_4 i_5 w => X (out_4, i_5) w) k0 l_0 t.1 t.2 w) (out_4, i_5) w
theorem ref08_Write_p10_ok (k0 : K1) (h0 : ∀ g w, k0 (g 4) w → Q (.exit 0) g w) (h : ref08_Write_p10 k0 (g 0) (g 4) (g 5) w) : den pg ann_ref08_Write (bI (dropS 1 (takeS 1 (dropS 4 code_ref08_Write)))) Q g w := by
  refine den_loops (T := Value × Value) (fun g : Env => (g 4, g 5)) (fun X t w => ref08_Write_p9 (fun _ out_4 i_5 w => X (out_4, i_5) w) k0 (g 0) t.1 t.2 w) _ (by kernel_rfl) h (fun X g1 w1 ha hL => ?_)
  rw [← agree_at (s := 0) ha (by kernel_rfl)] at hL
  exact (ref08_Write_p9_ok (thenE (fun g2 w2 => X ((fun g : Env => (g 4, g 5)) g2) w2) Q) g1 w1 (fun _ out_4 i_5 w => X (out_4, i_5) w) k0 (fun _ _ h => h) h0 hL)

def ref08_Write_p11 (kn : K1) (l_0 out_4 i_5 : Value) (w : World) : Prop :=
  ref08_Write_p10 kn l_0 out_4 i_5 w
theorem ref08_Write_p11_ok (kn : K1) (hn : ∀ g w, kn (g 4) w → Q .normal g w) (h : ref08_Write_p11 kn (g 0) (g 4) (g 5) w) : den pg ann_ref08_Write (dropS 1 (takeS 1 (dropS 4 code_ref08_Write))) Q g w :=
  den_blk 0 _ g w (by kernel_rfl) (ref08_Write_p10_ok (blk 0 Q) g w kn hn h)

def ref08_Write_p12 (kn : K3) (l_0 out_4 : Value) (w : World) : Prop :=
  kn l_0 out_4 (.int .i64 0) w
theorem ref08_Write_p12_ok (kn : K3) (hn : ∀ g w, kn (g 0) (g 4) (g 5) w → Q .normal g w) (h : ref08_Write_p12 kn (g 0) (g 4) w) : den pg ann_ref08_Write (takeS 1 (takeS 1 (dropS 4 code_ref08_Write))) Q g w :=
  den_exQ (kr := no) (l := []) (by kernel_rfl) h hn noE trivial

def ref08_Write_p13 (kn : K1) (l_0 out_4 : Value) (w : World) : Prop :=
  ref08_Write_p12 (fun l_0 out_4 i_5 w => ref08_Write_p11 kn l_0 out_4 i_5 w) l_0 out_4 w
theorem ref08_Write_p13_ok (kn : K1) (hn : ∀ g w, kn (g 4) w → Q .normal g w) (h : ref08_Write_p13 kn (g 0) (g 4) w) : den pg ann_ref08_Write (takeS 1 (dropS 4 code_ref08_Write)) Q g w :=
  den_seqs 1 _ g w (by kernel_rfl) (ref08_Write_p12_ok (thenE (fun g w => den pg ann_ref08_Write (dropS 1 (takeS 1 (dropS 4 code_ref08_Write))) Q g w) Q) g w (fun l_0 out_4 i_5 w => ref08_Write_p11 kn l_0 out_4 i_5 w) (fun g w h => thenE_n (K := fun g w => den pg ann_ref08_Write (dropS 1 (takeS 1 (dropS 4 code_ref08_Write))) Q g w) (ref08_Write_p11_ok Q g w kn hn h)) h)

def ref08_Write_p14 (R : K1) (l_0 out_4 : Value) (w : World) : Prop :=
  ref08_Write_p13 (fun out_4 w => ref08_Write_p1 R out_4 w) l_0 out_4 w
theorem ref08_Write_p14_ok (R : K1) (hr : HR rs_ref08_Write R Q) (h : ref08_Write_p14 R (g 0) (g 4) w) : den pg ann_ref08_Write (dropS 4 code_ref08_Write) Q g w :=
  den_seqs 1 _ g w (by kernel_rfl) (ref08_Write_p13_ok (thenE (fun g w => den pg ann_ref08_Write (dropS 1 (dropS 4 code_ref08_Write)) Q g w) Q) g w (fun out_4 w => ref08_Write_p1 R out_4 w) (fun g w h => thenE_n (K := fun g w => den pg ann_ref08_Write (dropS 1 (dropS 4 code_ref08_Write)) Q g w) (ref08_Write_p1_ok Q g w R hr h)) h)

def ref08_Write_p15 (kn : K2) (R : K1) (l_0 : Value) (w : World) : Prop :=
  Does pg F_ref08_Depth #[l_0] w fun t8 w =>
  Stp pg (sBin .eql 3 (.tmp 8) (.const (.int .i64 0)) t8 (.int .i64 0)) w fun t9 w =>
  Cnd t9
    (R (.tuple #[(.string ⟨#[]⟩), (.int .i64 1)]) w)
    (Stp pg (sBi .len #[9] 3 [l_0]) w fun t11 w =>
    Stp pg (sBin .gtr 3 (.tmp 11) (.const (.int .i64 129)) t11 (.int .i64 129)) w fun t12 w =>
    Cnd t12
      (R (.tuple #[(.string ⟨#[]⟩), (.int .i64 12)]) w)
      (Stp pg (sBi .len #[9] 3 [l_0]) w fun t14 w =>
      Stp pg (sBin .add 3 (.const (.int .i64 126)) (.tmp 14) (.int .i64 126) t14) w fun t15 w =>
      Stp pg (sCvt 3 5 t15) w fun t16 w =>
      Stp pg (sBuildSlice 22 1 [(0, t16)]) w fun t17 w =>
      kn l_0 t17 w))
theorem ref08_Write_p15_ok (kn : K2) (R : K1) (hn : ∀ g w, kn (g 0) (g 4) w → Q .normal g w) (hr : HR rs_ref08_Write R Q) (h : ref08_Write_p15 kn R (g 0) w) : den pg ann_ref08_Write (takeS 4 code_ref08_Write) Q g w :=
  den_exQ (l := []) (by kernel_rfl) h hn hr trivial

def ref08_Write_p16 (R : K1) (l_0 : Value) (w : World) : Prop :=
  ref08_Write_p15 (fun l_0 out_4 w => ref08_Write_p14 R l_0 out_4 w) R l_0 w
theorem ref08_Write_p16_ok (R : K1) (hr : HR rs_ref08_Write R Q) (h : ref08_Write_p16 R (g 0) w) : den pg ann_ref08_Write code_ref08_Write Q g w :=
  den_seqs 4 _ g w (by kernel_rfl) (ref08_Write_p15_ok (thenE (fun g w => den pg ann_ref08_Write (dropS 4 code_ref08_Write) Q g w) Q) g w (fun l_0 out_4 w => ref08_Write_p14 R l_0 out_4 w) R (fun g w h => thenE_n (K := fun g w => den pg ann_ref08_Write (dropS 4 code_ref08_Write) Q g w) (ref08_Write_p14_ok Q g w R hr h)) hr h)

def ref08_Write (a0 : Value) (w : World) (R : K1) : Prop :=
  ref08_Write_p16 R a0 w
theorem ref08_Write_does {a0 : Value} {w : World} {R : K1} (h : ref08_Write a0 w R) : Does pg F_ref08_Write #[a0] w R := by
  refine does_of_den (ann := ann_ref08_Write) (fn := Try.f18) (c := code_ref08_Write) (args := [a0]) (rs := rs_ref08_Write) (N := 46) TryM.mixed (by kernel_rfl) Try.func18 (by kernel_rfl) (by kernel_rfl) (by kernel_rfl) (of_decide_eq_true (by kernel_rfl)) (by kernel_rfl) ?_
  exact (ref08_Write_p16_ok (retQ pg rs_ref08_Write R) (envOf [a0]) w R (fun _ _ h => h) h)
-- PIECES ref08_Write/0 ref08_Write_p1 ref08_Write_p10 ref08_Write_p11 ref08_Write_p12 ref08_Write_p13 ref08_Write_p14 ref08_Write_p15 ref08_Write_p16
-- PIECES ref08_Write/1 ref08_Write_p2 ref08_Write_p3 ref08_Write_p4 ref08_Write_p5 ref08_Write_p6 ref08_Write_p7 ref08_Write_p8 ref08_Write_p9

/- lighterman/weights.Of -/
def ann_weights_Of : FA := ⟨F_weights_Of, fun i => .leaf ([], []) []⟩
def rs_weights_Of : List ResultVar := [.tmp 2, .tmp 3]
noncomputable def code_weights_Of : Code := bodyOf Try.f19
def weights_Of_p1 (R : K1) (out_11 : Value) (w : World) : Prop :=
  R (.tuple #[out_11, (.int .i64 0)]) w
theorem weights_Of_p1_ok (R : K1) (hr : HR rs_weights_Of R Q) (h : weights_Of_p1 R (g 11) w) : den pg ann_weights_Of (dropS 1 (dropS 4 (dropS 1 (dropS 3 code_weights_Of)))) Q g w :=
  den_exQ (kn := no) (l := []) (by kernel_rfl) h noE hr trivial

def weights_Of_p2 (kn : K5) (d_10 out_11 t51 t52 t53 : Value) (w : World) : Prop :=
  Stp pg (sBin .add 3 (.tmp 53) (.const (.int .i64 1)) t53 (.int .i64 1)) w fun t68 w =>
  kn d_10 out_11 t51 t52 t68 w
theorem weights_Of_p2_ok (kn : K5) (hn : ∀ g w, kn (g 10) (g 11) (g 51) (g 52) (g 53) w → Q .normal g w) (h : weights_Of_p2 kn (g 10) (g 11) (g 51) (g 52) (g 53) w) : den pg ann_weights_Of (dropS 1 (dropS 2 (bI (bI (dropS 1 (takeS 1 (dropS 4 (dropS 1 (dropS 3 code_weights_Of))))))))) Q g w :=
  den_exQ (kr := no) (l := []) (by kernel_rfl) h hn noE trivial

def weights_Of_p3 (kn : K5) (d_10 out_11 w_14 t51 t52 t53 : Value) (w : World) : Prop :=
  Stp pg (sCvt 3 5 w_14) w fun t65 w =>
  Stp pg (sBuildSlice 22 1 [(0, t65)]) w fun t66 w =>
  Stp pg (sBi .append #[22, 22] 22 [out_11, t66]) w fun t67 w =>
  kn d_10 t67 t51 t52 t53 w
theorem weights_Of_p3_ok (kn : K5) (hn : ∀ g w, kn (g 10) (g 11) (g 51) (g 52) (g 53) w → Q .normal g w) (h : weights_Of_p3 kn (g 10) (g 11) (g 14) (g 51) (g 52) (g 53) w) : den pg ann_weights_Of (dropS 3 (bI (takeS 1 (dropS 2 (bI (bI (dropS 1 (takeS 1 (dropS 4 (dropS 1 (dropS 3 code_weights_Of))))))))))) Q g w :=
  den_exQ (kr := no) (l := []) (by kernel_rfl) h hn noE trivial

def weights_Of_p4 (kn : K6) (d_10 out_11 t51 t52 t53 : Value) (w : World) : Prop :=
  Stp pg (sIAddr 62 t51 t53) w fun t55 w =>
  Stp pg (sLoad 3 t55) w fun t56 w =>
  Stp pg (sBin .gtr 3 (.tmp 57) (.const (.int .i64 0)) t56 (.int .i64 0)) w fun t58 w =>
  Cnd t58
    (Stp pg (sBin .add 3 (.tmp 59) (.const (.int .i64 1)) d_10 (.int .i64 1)) w fun t60 w =>
    Stp pg (sBin .sub 3 (.tmp 60) (.tmp 61) t60 t56) w fun t62 w =>
    kn d_10 out_11 t62 t51 t52 t53 w)
    (kn d_10 out_11 (.int .i64 0) t51 t52 t53 w)
theorem weights_Of_p4_ok (kn : K6) (hn : ∀ g w, kn (g 10) (g 11) (g 14) (g 51) (g 52) (g 53) w → Q .normal g w) (h : weights_Of_p4 kn (g 10) (g 11) (g 51) (g 52) (g 53) w) : den pg ann_weights_Of (takeS 3 (bI (takeS 1 (dropS 2 (bI (bI (dropS 1 (takeS 1 (dropS 4 (dropS 1 (dropS 3 code_weights_Of))))))))))) Q g w :=
  den_exQ (kr := no) (l := []) (by kernel_rfl) h hn noE trivial

def weights_Of_p5 (kn : K5) (d_10 out_11 t51 t52 t53 : Value) (w : World) : Prop :=
  weights_Of_p4 (fun d_10 out_11 w_14 t51 t52 t53 w => weights_Of_p3 kn d_10 out_11 w_14 t51 t52 t53 w) d_10 out_11 t51 t52 t53 w
theorem weights_Of_p5_ok (kn : K5) (hn : ∀ g w, kn (g 10) (g 11) (g 51) (g 52) (g 53) w → Q .normal g w) (h : weights_Of_p5 kn (g 10) (g 11) (g 51) (g 52) (g 53) w) : den pg ann_weights_Of (bI (takeS 1 (dropS 2 (bI (bI (dropS 1 (takeS 1 (dropS 4 (dropS 1 (dropS 3 code_weights_Of)))))))))) Q g w :=
  den_seqs 3 _ g w (by kernel_rfl) (weights_Of_p4_ok (thenE (fun g w => den pg ann_weights_Of (dropS 3 (bI (takeS 1 (dropS 2 (bI (bI (dropS 1 (takeS 1 (dropS 4 (dropS 1 (dropS 3 code_weights_Of))))))))))) Q g w) Q) g w (fun d_10 out_11 w_14 t51 t52 t53 w => weights_Of_p3 kn d_10 out_11 w_14 t51 t52 t53 w) (fun g w h => thenE_n (K := fun g w => den pg ann_weights_Of (dropS 3 (bI (takeS 1 (dropS 2 (bI (bI (dropS 1 (takeS 1 (dropS 4 (dropS 1 (dropS 3 code_weights_Of))))))))))) Q g w) (weights_Of_p3_ok Q g w kn hn h)) h)

def weights_Of_p6 (kn : K5) (d_10 out_11 t51 t52 t53 : Value) (w : World) : Prop :=
  weights_Of_p5 kn d_10 out_11 t51 t52 t53 w
theorem weights_Of_p6_ok (kn : K5) (hn : ∀ g w, kn (g 10) (g 11) (g 51) (g 52) (g 53) w → Q .normal g w) (h : weights_Of_p6 kn (g 10) (g 11) (g 51) (g 52) (g 53) w) : den pg ann_weights_Of (takeS 1 (dropS 2 (bI (bI (dropS 1 (takeS 1 (dropS 4 (dropS 1 (dropS 3 code_weights_Of))))))))) Q g w :=
  den_blk 3 _ g w (by kernel_rfl) (weights_Of_p5_ok (blk 3 Q) g w kn hn h)

def weights_Of_p7 (kn : K5) (d_10 out_11 t51 t52 t53 : Value) (w : World) : Prop :=
  weights_Of_p6 (fun d_10 out_11 t51 t52 t53 w => weights_Of_p2 kn d_10 out_11 t51 t52 t53 w) d_10 out_11 t51 t52 t53 w
theorem weights_Of_p7_ok (kn : K5) (hn : ∀ g w, kn (g 10) (g 11) (g 51) (g 52) (g 53) w → Q .normal g w) (h : weights_Of_p7 kn (g 10) (g 11) (g 51) (g 52) (g 53) w) : den pg ann_weights_Of (dropS 2 (bI (bI (dropS 1 (takeS 1 (dropS 4 (dropS 1 (dropS 3 code_weights_Of)))))))) Q g w :=
  den_seqs 1 _ g w (by kernel_rfl) (weights_Of_p6_ok (thenE (fun g w => den pg ann_weights_Of (dropS 1 (dropS 2 (bI (bI (dropS 1 (takeS 1 (dropS 4 (dropS 1 (dropS 3 code_weights_Of))))))))) Q g w) Q) g w (fun d_10 out_11 t51 t52 t53 w => weights_Of_p2 kn d_10 out_11 t51 t52 t53 w) (fun g w h => thenE_n (K := fun g w => den pg ann_weights_Of (dropS 1 (dropS 2 (bI (bI (dropS 1 (takeS 1 (dropS 4 (dropS 1 (dropS 3 code_weights_Of))))))))) Q g w) (weights_Of_p2_ok Q g w kn hn h)) h)

def weights_Of_p8 (kn : K5) (k2 : K1) (d_10 out_11 t51 t52 t53 : Value) (w : World) : Prop :=
  Stp pg (sBin .lss 3 (.tmp 53) (.tmp 52) t53 t52) w fun t54 w =>
  Cnd t54
    (kn d_10 out_11 t51 t52 t53 w)
    (k2 out_11 w)
theorem weights_Of_p8_ok (kn : K5) (k2 : K1) (hn : ∀ g w, kn (g 10) (g 11) (g 51) (g 52) (g 53) w → Q .normal g w) (h2 : ∀ g w, k2 (g 11) w → Q (.exit 2) g w) (h : weights_Of_p8 kn k2 (g 10) (g 11) (g 51) (g 52) (g 53) w) : den pg ann_weights_Of (takeS 2 (bI (bI (dropS 1 (takeS 1 (dropS 4 (dropS 1 (dropS 3 code_weights_Of)))))))) Q g w :=
  den_exQ (kr := no) (l := [(2, fun g w => k2 (g 11) w)]) (by kernel_rfl) h hn noE ⟨h2, trivial⟩

def weights_Of_p9 (kn : K5) (k2 : K1) (d_10 out_11 t51 t52 t53 : Value) (w : World) : Prop :=
  weights_Of_p8 (fun d_10 out_11 t51 t52 t53 w => weights_Of_p7 kn d_10 out_11 t51 t52 t53 w) k2 d_10 out_11 t51 t52 t53 w
theorem weights_Of_p9_ok (kn : K5) (k2 : K1) (hn : ∀ g w, kn (g 10) (g 11) (g 51) (g 52) (g 53) w → Q .normal g w) (h2 : ∀ g w, k2 (g 11) w → Q (.exit 2) g w) (h : weights_Of_p9 kn k2 (g 10) (g 11) (g 51) (g 52) (g 53) w) : den pg ann_weights_Of (bI (bI (dropS 1 (takeS 1 (dropS 4 (dropS 1 (dropS 3 code_weights_Of))))))) Q g w :=
  den_seqs 2 _ g w (by kernel_rfl) (weights_Of_p8_ok (thenE (fun g w => den pg ann_weights_Of (dropS 2 (bI (bI (dropS 1 (takeS 1 (dropS 4 (dropS 1 (dropS 3 code_weights_Of)))))))) Q g w) Q) g w (fun d_10 out_11 t51 t52 t53 w => weights_Of_p7 kn d_10 out_11 t51 t52 t53 w) k2 (fun g w h => thenE_n (K := fun g w => den pg ann_weights_Of (dropS 2 (bI (bI (dropS 1 (takeS 1 (dropS 4 (dropS 1 (dropS 3 code_weights_Of)))))))) Q g w) (weights_Of_p7_ok Q g w kn hn h)) h2 h)

def weights_Of_p10 (k2 : K1) (d_10 out_11 t51 t52 t53 : Value) (w : World) : Prop :=
  LoopD (fun (X : (Value × Value) → K0) (t : Value × Value) (w : World) => weights_Of_p9 (fun _ out_11 _ _ t53 w => X (out_11, t53) w) k2 d_10 t.1 t51 t52 t.2 w) (out_11, t53) w
theorem weights_Of_p10_ok (k2 : K1) (h2 : ∀ g w, k2 (g 11) w → Q (.exit 2) g w) (h : weights_Of_p10 k2 (g 10) (g 11) (g 51) (g 52) (g 53) w) : den pg ann_weights_Of (bI (dropS 1 (takeS 1 (dropS 4 (dropS 1 (dropS 3 code_weights_Of)))))) Q g w := by
  refine den_loops (T := Value × Value) (fun g : Env => (g 11, g 53)) (fun X t w => weights_Of_p9 (fun _ out_11 _ _ t53 w => X (out_11, t53) w) k2 (g 10) t.1 (g 51) (g 52) t.2 w) _ (by kernel_rfl) h (fun X g1 w1 ha hL => ?_)
  rw [← agree_at (s := 10) ha (by kernel_rfl)] at hL
  rw [← agree_at (s := 51) ha (by kernel_rfl)] at hL
  rw [← agree_at (s := 52) ha (by kernel_rfl)] at hL
  exact (weights_Of_p9_ok (thenE (fun g2 w2 => X ((fun g : Env => (g 11, g 53)) g2) w2) Q) g1 w1 (fun _ out_11 _ _ t53 w => X (out_11, t53) w) k2 (fun _ _ h => h) h2 hL)

def weights_Of_p11 (kn : K1) (d_10 out_11 t51 t52 t53 : Value) (w : World) : Prop :=
  weights_Of_p10 kn d_10 out_11 t51 t52 t53 w
theorem weights_Of_p11_ok (kn : K1) (hn : ∀ g w, kn (g 11) w → Q .normal g w) (h : weights_Of_p11 kn (g 10) (g 11) (g 51) (g 52) (g 53) w) : den pg ann_weights_Of (dropS 1 (takeS 1 (dropS 4 (dropS 1 (dropS 3 code_weights_Of))))) Q g w :=
  den_blk 2 _ g w (by kernel_rfl) (weights_Of_p10_ok (blk 2 Q) g w kn hn h)

def weights_Of_p12 (kn : K5) (l_9 d_10 out_11 : Value) (w : World) : Prop :=
  Stp pg (sBi .len #[62] 3 [l_9]) w fun t52 w =>
  kn d_10 out_11 l_9 t52 (.int .i64 0) w
theorem weights_Of_p12_ok (kn : K5) (hn : ∀ g w, kn (g 10) (g 11) (g 51) (g 52) (g 53) w → Q .normal g w) (h : weights_Of_p12 kn (g 9) (g 10) (g 11) w) : den pg ann_weights_Of (takeS 1 (takeS 1 (dropS 4 (dropS 1 (dropS 3 code_weights_Of))))) Q g w :=
  den_exQ (kr := no) (l := []) (by kernel_rfl) h hn noE trivial

def weights_Of_p13 (kn : K1) (l_9 d_10 out_11 : Value) (w : World) : Prop :=
  weights_Of_p12 (fun d_10 out_11 t51 t52 t53 w => weights_Of_p11 kn d_10 out_11 t51 t52 t53 w) l_9 d_10 out_11 w
theorem weights_Of_p13_ok (kn : K1) (hn : ∀ g w, kn (g 11) w → Q .normal g w) (h : weights_Of_p13 kn (g 9) (g 10) (g 11) w) : den pg ann_weights_Of (takeS 1 (dropS 4 (dropS 1 (dropS 3 code_weights_Of)))) Q g w :=
  den_seqs 1 _ g w (by kernel_rfl) (weights_Of_p12_ok (thenE (fun g w => den pg ann_weights_Of (dropS 1 (takeS 1 (dropS 4 (dropS 1 (dropS 3 code_weights_Of))))) Q g w) Q) g w (fun d_10 out_11 t51 t52 t53 w => weights_Of_p11 kn d_10 out_11 t51 t52 t53 w) (fun g w h => thenE_n (K := fun g w => den pg ann_weights_Of (dropS 1 (takeS 1 (dropS 4 (dropS 1 (dropS 3 code_weights_Of))))) Q g w) (weights_Of_p11_ok Q g w kn hn h)) h)

def weights_Of_p14 (R : K1) (l_9 d_10 out_11 : Value) (w : World) : Prop :=
  weights_Of_p13 (fun out_11 w => weights_Of_p1 R out_11 w) l_9 d_10 out_11 w
theorem weights_Of_p14_ok (R : K1) (hr : HR rs_weights_Of R Q) (h : weights_Of_p14 R (g 9) (g 10) (g 11) w) : den pg ann_weights_Of (dropS 4 (dropS 1 (dropS 3 code_weights_Of))) Q g w :=
  den_seqs 1 _ g w (by kernel_rfl) (weights_Of_p13_ok (thenE (fun g w => den pg ann_weights_Of (dropS 1 (dropS 4 (dropS 1 (dropS 3 code_weights_Of)))) Q g w) Q) g w (fun out_11 w => weights_Of_p1 R out_11 w) (fun g w h => thenE_n (K := fun g w => den pg ann_weights_Of (dropS 1 (dropS 4 (dropS 1 (dropS 3 code_weights_Of)))) Q g w) (weights_Of_p1_ok Q g w R hr h)) h)

def weights_Of_p15 (kn : K3) (R : K1) (often_0 sum_4 t5 last_6 : Value) (w : World) : Prop :=
  Stp pg (sBi .len #[43] 3 [often_0]) w fun t33 w =>
  Stp pg (sBin .gtr 3 (.tmp 33) (.const (.int .i64 256)) t33 (.int .i64 256)) w fun t34 w =>
  Gd (isB t34 false) (fun K => K t5 w) w fun t36 w =>
  Gd (isB t34 false) (fun K => Stp pg (sBin .lss 3 (.tmp 36) (.const (.int .i64 2)) t36 (.int .i64 2)) w K) w fun t37 w =>
  Stp pg (sPick t34 (.bool true) t37) w fun t38 w =>
  Gd (isB t38 false) (fun K => K sum_4 w) w fun t40 w =>
  Gd (isB t38 false) (fun K => Stp pg (sBin .gtr 44 (.tmp 40) (.const (.int .u64 2147483647)) t40 (.int .u64 2147483647)) w K) w fun t41 w =>
  Stp pg (sPick t38 (.bool true) t41) w fun t42 w =>
  Cnd t42
    (R (.tuple #[(.slice none 0 0), (.int .i64 1)]) w)
    (Stp pg (sBin .add 3 (.tmp 44) (.const (.int .i64 1)) last_6 (.int .i64 1)) w fun t45 w =>
    Stp pg (sSlice 43 often_0 none (some t45) none) w fun t46 w =>
    Does pg F_weights_lengths #[t46, sum_4] w fun t48 w =>
    Does pg F_slices_Max_inst #[t48] w fun t50 w =>
    kn t48 t50 (.slice none 0 0) w)
theorem weights_Of_p15_ok (kn : K3) (R : K1) (hn : ∀ g w, kn (g 9) (g 10) (g 11) w → Q .normal g w) (hr : HR rs_weights_Of R Q) (h : weights_Of_p15 kn R (g 0) (g 4) (g 5) (g 6) w) : den pg ann_weights_Of (takeS 4 (dropS 1 (dropS 3 code_weights_Of))) Q g w :=
  den_exQ (l := []) (by kernel_rfl) h hn hr trivial

def weights_Of_p16 (R : K1) (often_0 sum_4 t5 last_6 : Value) (w : World) : Prop :=
  weights_Of_p15 (fun l_9 d_10 out_11 w => weights_Of_p14 R l_9 d_10 out_11 w) R often_0 sum_4 t5 last_6 w
theorem weights_Of_p16_ok (R : K1) (hr : HR rs_weights_Of R Q) (h : weights_Of_p16 R (g 0) (g 4) (g 5) (g 6) w) : den pg ann_weights_Of (dropS 1 (dropS 3 code_weights_Of)) Q g w :=
  den_seqs 4 _ g w (by kernel_rfl) (weights_Of_p15_ok (thenE (fun g w => den pg ann_weights_Of (dropS 4 (dropS 1 (dropS 3 code_weights_Of))) Q g w) Q) g w (fun l_9 d_10 out_11 w => weights_Of_p14 R l_9 d_10 out_11 w) R (fun g w h => thenE_n (K := fun g w => den pg ann_weights_Of (dropS 4 (dropS 1 (dropS 3 code_weights_Of))) Q g w) (weights_Of_p14_ok Q g w R hr h)) hr h)

def weights_Of_p17 (kn : K7) (often_0 sum_4 t5 last_6 t15 t16 t17 : Value) (w : World) : Prop :=
  Stp pg (sBin .add 3 (.tmp 17) (.const (.int .i64 1)) t17 (.int .i64 1)) w fun t31 w =>
  kn often_0 sum_4 t5 last_6 t15 t16 t31 w
theorem weights_Of_p17_ok (kn : K7) (hn : ∀ g w, kn (g 0) (g 4) (g 5) (g 6) (g 15) (g 16) (g 17) w → Q .normal g w) (h : weights_Of_p17 kn (g 0) (g 4) (g 5) (g 6) (g 15) (g 16) (g 17) w) : den pg ann_weights_Of (dropS 3 (bI (bI (dropS 1 (takeS 1 (dropS 3 code_weights_Of)))))) Q g w :=
  den_exQ (kr := no) (l := []) (by kernel_rfl) h hn noE trivial

def weights_Of_p18 (kn : K7) (k0 : K4) (often_0 sum_4 t5 last_6 t15 t16 t17 : Value) (w : World) : Prop :=
  Stp pg (sBin .lss 3 (.tmp 17) (.tmp 16) t17 t16) w fun t18 w =>
  Cnd t18
    (Stp pg (sIAddr 43 t15 t17) w fun t20 w =>
    Stp pg (sLoad 45 t20) w fun t21 w =>
    Stp pg (sCvt 45 44 t21) w fun t24 w =>
    Stp pg (sBin .add 44 (.tmp 22) (.tmp 24) sum_4 t24) w fun t25 w =>
    Stp pg (sBin .gtr 45 (.tmp 26) (.const (.int .u32 0)) t21 (.int .u32 0)) w fun t27 w =>
    Cnd t27
      (Stp pg (sBin .add 3 (.tmp 28) (.const (.int .i64 1)) t5 (.int .i64 1)) w fun t29 w =>
      kn often_0 t25 t29 t17 t15 t16 t17 w)
      (kn often_0 t25 t5 last_6 t15 t16 t17 w))
    (k0 often_0 sum_4 t5 last_6 w)
theorem weights_Of_p18_ok (kn : K7) (k0 : K4) (hn : ∀ g w, kn (g 0) (g 4) (g 5) (g 6) (g 15) (g 16) (g 17) w → Q .normal g w) (h0 : ∀ g w, k0 (g 0) (g 4) (g 5) (g 6) w → Q (.exit 0) g w) (h : weights_Of_p18 kn k0 (g 0) (g 4) (g 5) (g 6) (g 15) (g 16) (g 17) w) : den pg ann_weights_Of (takeS 3 (bI (bI (dropS 1 (takeS 1 (dropS 3 code_weights_Of)))))) Q g w :=
  den_exQ (kr := no) (l := [(0, fun g w => k0 (g 0) (g 4) (g 5) (g 6) w)]) (by kernel_rfl) h hn noE ⟨h0, trivial⟩

def weights_Of_p19 (kn : K7) (k0 : K4) (often_0 sum_4 t5 last_6 t15 t16 t17 : Value) (w : World) : Prop :=
  weights_Of_p18 (fun often_0 sum_4 t5 last_6 t15 t16 t17 w => weights_Of_p17 kn often_0 sum_4 t5 last_6 t15 t16 t17 w) k0 often_0 sum_4 t5 last_6 t15 t16 t17 w
theorem weights_Of_p19_ok (kn : K7) (k0 : K4) (hn : ∀ g w, kn (g 0) (g 4) (g 5) (g 6) (g 15) (g 16) (g 17) w → Q .normal g w) (h0 : ∀ g w, k0 (g 0) (g 4) (g 5) (g 6) w → Q (.exit 0) g w) (h : weights_Of_p19 kn k0 (g 0) (g 4) (g 5) (g 6) (g 15) (g 16) (g 17) w) : den pg ann_weights_Of (bI (bI (dropS 1 (takeS 1 (dropS 3 code_weights_Of))))) Q g w :=
  den_seqs 3 _ g w (by kernel_rfl) (weights_Of_p18_ok (thenE (fun g w => den pg ann_weights_Of (dropS 3 (bI (bI (dropS 1 (takeS 1 (dropS 3 code_weights_Of)))))) Q g w) Q) g w (fun often_0 sum_4 t5 last_6 t15 t16 t17 w => weights_Of_p17 kn often_0 sum_4 t5 last_6 t15 t16 t17 w) k0 (fun g w h => thenE_n (K := fun g w => den pg ann_weights_Of (dropS 3 (bI (bI (dropS 1 (takeS 1 (dropS 3 code_weights_Of)))))) Q g w) (weights_Of_p17_ok Q g w kn hn h)) h0 h)

def weights_Of_p20 (k0 : K4) (often_0 sum_4 t5 last_6 t15 t16 t17 : Value) (w : World) : Prop :=
  LoopD (fun (X : (Value × Value × Value × Value) → K0) (t : Value × Value × Value × Value) (w : World) => weights_Of_p19 (fun _ sum_4 t5 last_6 _ _ t17 w => X (sum_4, t5, last_6, t17) w) k0 often_0 t.1 t.2.1 t.2.2.1 t15 t16 t.2.2.2 w) (sum_4, t5, last_6, t17) w
theorem weights_Of_p20_ok (k0 : K4) (h0 : ∀ g w, k0 (g 0) (g 4) (g 5) (g 6) w → Q (.exit 0) g w) (h : weights_Of_p20 k0 (g 0) (g 4) (g 5) (g 6) (g 15) (g 16) (g 17) w) : den pg ann_weights_Of (bI (dropS 1 (takeS 1 (dropS 3 code_weights_Of)))) Q g w := by
  refine den_loops (T := Value × Value × Value × Value) (fun g : Env => (g 4, g 5, g 6, g 17)) (fun X t w => weights_Of_p19 (fun _ sum_4 t5 last_6 _ _ t17 w => X (sum_4, t5, last_6, t17) w) k0 (g 0) t.1 t.2.1 t.2.2.1 (g 15) (g 16) t.2.2.2 w) _ (by kernel_rfl) h (fun X g1 w1 ha hL => ?_)
  rw [← agree_at (s := 0) ha (by kernel_rfl)] at hL
  rw [← agree_at (s := 15) ha (by kernel_rfl)] at hL
  rw [← agree_at (s := 16) ha (by kernel_rfl)] at hL
  exact (weights_Of_p19_ok (thenE (fun g2 w2 => X ((fun g : Env => (g 4, g 5, g 6, g 17)) g2) w2) Q) g1 w1 (fun _ sum_4 t5 last_6 _ _ t17 w => X (sum_4, t5, last_6, t17) w) k0 (fun _ _ h => h) h0 hL)

def weights_Of_p21 (kn : K4) (often_0 sum_4 t5 last_6 t15 t16 t17 : Value) (w : World) : Prop :=
  weights_Of_p20 kn often_0 sum_4 t5 last_6 t15 t16 t17 w
theorem weights_Of_p21_ok (kn : K4) (hn : ∀ g w, kn (g 0) (g 4) (g 5) (g 6) w → Q .normal g w) (h : weights_Of_p21 kn (g 0) (g 4) (g 5) (g 6) (g 15) (g 16) (g 17) w) : den pg ann_weights_Of (dropS 1 (takeS 1 (dropS 3 code_weights_Of))) Q g w :=
  den_blk 0 _ g w (by kernel_rfl) (weights_Of_p20_ok (blk 0 Q) g w kn hn h)

def weights_Of_p22 (kn : K7) (often_0 sum_4 t5 last_6 : Value) (w : World) : Prop :=
  Stp pg (sBi .len #[43] 3 [often_0]) w fun t16 w =>
  kn often_0 sum_4 t5 last_6 often_0 t16 (.int .i64 0) w
theorem weights_Of_p22_ok (kn : K7) (hn : ∀ g w, kn (g 0) (g 4) (g 5) (g 6) (g 15) (g 16) (g 17) w → Q .normal g w) (h : weights_Of_p22 kn (g 0) (g 4) (g 5) (g 6) w) : den pg ann_weights_Of (takeS 1 (takeS 1 (dropS 3 code_weights_Of))) Q g w :=
  den_exQ (kr := no) (l := []) (by kernel_rfl) h hn noE trivial

def weights_Of_p23 (kn : K4) (often_0 sum_4 t5 last_6 : Value) (w : World) : Prop :=
  weights_Of_p22 (fun often_0 sum_4 t5 last_6 t15 t16 t17 w => weights_Of_p21 kn often_0 sum_4 t5 last_6 t15 t16 t17 w) often_0 sum_4 t5 last_6 w
theorem weights_Of_p23_ok (kn : K4) (hn : ∀ g w, kn (g 0) (g 4) (g 5) (g 6) w → Q .normal g w) (h : weights_Of_p23 kn (g 0) (g 4) (g 5) (g 6) w) : den pg ann_weights_Of (takeS 1 (dropS 3 code_weights_Of)) Q g w :=
  den_seqs 1 _ g w (by kernel_rfl) (weights_Of_p22_ok (thenE (fun g w => den pg ann_weights_Of (dropS 1 (takeS 1 (dropS 3 code_weights_Of))) Q g w) Q) g w (fun often_0 sum_4 t5 last_6 t15 t16 t17 w => weights_Of_p21 kn often_0 sum_4 t5 last_6 t15 t16 t17 w) (fun g w h => thenE_n (K := fun g w => den pg ann_weights_Of (dropS 1 (takeS 1 (dropS 3 code_weights_Of))) Q g w) (weights_Of_p21_ok Q g w kn hn h)) h)

def weights_Of_p24 (R : K1) (often_0 sum_4 t5 last_6 : Value) (w : World) : Prop :=
  weights_Of_p23 (fun often_0 sum_4 t5 last_6 w => weights_Of_p16 R often_0 sum_4 t5 last_6 w) often_0 sum_4 t5 last_6 w
theorem weights_Of_p24_ok (R : K1) (hr : HR rs_weights_Of R Q) (h : weights_Of_p24 R (g 0) (g 4) (g 5) (g 6) w) : den pg ann_weights_Of (dropS 3 code_weights_Of) Q g w :=
  den_seqs 1 _ g w (by kernel_rfl) (weights_Of_p23_ok (thenE (fun g w => den pg ann_weights_Of (dropS 1 (dropS 3 code_weights_Of)) Q g w) Q) g w (fun often_0 sum_4 t5 last_6 w => weights_Of_p16 R often_0 sum_4 t5 last_6 w) (fun g w h => thenE_n (K := fun g w => den pg ann_weights_Of (dropS 1 (dropS 3 code_weights_Of)) Q g w) (weights_Of_p16_ok Q g w R hr h)) h)

def weights_Of_p25 (kn : K4) (often_0 : Value) (w : World) : Prop :=
  kn often_0 (.int .u64 0) (.int .i64 0) (.int .i64 0) w
theorem weights_Of_p25_ok (kn : K4) (hn : ∀ g w, kn (g 0) (g 4) (g 5) (g 6) w → Q .normal g w) (h : weights_Of_p25 kn (g 0) w) : den pg ann_weights_Of (takeS 3 code_weights_Of) Q g w :=
  den_exQ (kr := no) (l := []) (by kernel_rfl) h hn noE trivial

def weights_Of_p26 (R : K1) (often_0 : Value) (w : World) : Prop :=
  weights_Of_p25 (fun often_0 sum_4 t5 last_6 w => weights_Of_p24 R often_0 sum_4 t5 last_6 w) often_0 w
theorem weights_Of_p26_ok (R : K1) (hr : HR rs_weights_Of R Q) (h : weights_Of_p26 R (g 0) w) : den pg ann_weights_Of code_weights_Of Q g w :=
  den_seqs 3 _ g w (by kernel_rfl) (weights_Of_p25_ok (thenE (fun g w => den pg ann_weights_Of (dropS 3 code_weights_Of) Q g w) Q) g w (fun often_0 sum_4 t5 last_6 w => weights_Of_p24 R often_0 sum_4 t5 last_6 w) (fun g w h => thenE_n (K := fun g w => den pg ann_weights_Of (dropS 3 code_weights_Of) Q g w) (weights_Of_p24_ok Q g w R hr h)) h)

def weights_Of (a0 : Value) (w : World) (R : K1) : Prop :=
  weights_Of_p26 R a0 w
theorem weights_Of_does {a0 : Value} {w : World} {R : K1} (h : weights_Of a0 w R) : Does pg F_weights_Of #[a0] w R := by
  refine does_of_den (ann := ann_weights_Of) (fn := Try.f19) (c := code_weights_Of) (args := [a0]) (rs := rs_weights_Of) (N := 70) TryM.mixed (by kernel_rfl) Try.func19 (by kernel_rfl) (by kernel_rfl) (by kernel_rfl) (of_decide_eq_true (by kernel_rfl)) (by kernel_rfl) ?_
  exact (weights_Of_p26_ok (retQ pg rs_weights_Of R) (envOf [a0]) w R (fun _ _ h => h) h)
-- PIECES weights_Of/0 weights_Of_p1 weights_Of_p10 weights_Of_p11 weights_Of_p12 weights_Of_p13 weights_Of_p14 weights_Of_p15 weights_Of_p16 weights_Of_p20 weights_Of_p21 weights_Of_p22 weights_Of_p23 weights_Of_p24 weights_Of_p25 weights_Of_p26
-- PIECES weights_Of/1 weights_Of_p2 weights_Of_p3 weights_Of_p4 weights_Of_p5 weights_Of_p6 weights_Of_p7 weights_Of_p8 weights_Of_p9
-- PIECES weights_Of/2 weights_Of_p17 weights_Of_p18 weights_Of_p19

/- lighterman/lightermanref08.Depth -/
def ann_ref08_Depth : FA := ⟨F_ref08_Depth, fun i => .leaf ([], []) []⟩
def rs_ref08_Depth : List ResultVar := [.tmp 2]
noncomputable def code_ref08_Depth : Code := bodyOf Try.f20
def ref08_Depth_p1 (R : K1) (d_3 : Value) (w : World) : Prop :=
  R d_3 w
theorem ref08_Depth_p1_ok (R : K1) (hr : HR rs_ref08_Depth R Q) (h : ref08_Depth_p1 R (g 3) w) : den pg ann_ref08_Depth (dropS 1 (dropS 4 code_ref08_Depth)) Q g w :=
  den_exQ (kn := no) (l := []) (by kernel_rfl) h noE hr trivial

def ref08_Depth_p2 (kn : K3) (k0 : K1) (R : K1) (l_0 d_3 i_4 : Value) (w : World) : Prop :=
  Stp pg (sBi .len #[9] 3 [l_0]) w fun t32 w =>
  Stp pg (sBin .lss 3 (.tmp 30) (.tmp 32) i_4 t32) w fun t33 w =>
  Cnd t33
    (Stp pg (sIdx 9 l_0 i_4) w fun t38 w =>
    Stp pg (sCvt 5 3 t38) w fun t39 w =>
    Stp pg (sBin .gtr 3 (.tmp 39) (.tmp 40) t39 d_3) w fun t41 w =>
    Cnd t41
      (R (.int .i64 0) w)
      (Stp pg (sBin .add 3 (.tmp 34) (.const (.int .i64 1)) i_4 (.int .i64 1)) w fun t35 w =>
      kn l_0 d_3 t35 w))
    (k0 d_3 w)
theorem ref08_Depth_p2_ok (kn : K3) (k0 : K1) (R : K1) (hn : ∀ g w, kn (g 0) (g 3) (g 4) w → Q .normal g w) (h0 : ∀ g w, k0 (g 3) w → Q (.exit 0) g w) (hr : HR rs_ref08_Depth R Q) (h : ref08_Depth_p2 kn k0 R (g 0) (g 3) (g 4) w) : den pg ann_ref08_Depth (bI (bI (dropS 1 (takeS 1 (dropS 4 code_ref08_Depth))))) Q g w :=
  den_exQ (l := [(0, fun g w => k0 (g 3) w)]) (by kernel_rfl) h hn hr ⟨h0, trivial⟩

def ref08_Depth_p3 (k0 : K1) (R : K1) (l_0 d_3 i_4 : Value) (w : World) : Prop :=
  LoopD (fun (X : Value → K0) (t : Value) (w : World) => ref08_Depth_p2 (fun _ _ i_4 w => X i_4 w) k0 R l_0 d_3 t w) i_4 w
theorem ref08_Depth_p3_ok (k0 : K1) (R : K1) (h0 : ∀ g w, k0 (g 3) w → Q (.exit 0) g w) (hr : HR rs_ref08_Depth R Q) (h : ref08_Depth_p3 k0 R (g 0) (g 3) (g 4) w) : den pg ann_ref08_Depth (bI (dropS 1 (takeS 1 (dropS 4 code_ref08_Depth)))) Q g w := by
  refine den_loops (T := Value) (fun g : Env => g 4) (fun X t w => ref08_Depth_p2 (fun _ _ i_4 w => X i_4 w) k0 R (g 0) (g 3) t w) _ (by kernel_rfl) h (fun X g1 w1 ha hL => ?_)
  rw [← agree_at (s := 0) ha (by kernel_rfl)] at hL
  rw [← agree_at (s := 3) ha (by kernel_rfl)] at hL
  exact (ref08_Depth_p2_ok (thenE (fun g2 w2 => X ((fun g : Env => g 4) g2) w2) Q) g1 w1 (fun _ _ i_4 w => X i_4 w) k0 R (fun _ _ h => h) h0 hr hL)

def ref08_Depth_p4 (kn : K1) (R : K1) (l_0 d_3 i_4 : Value) (w : World) : Prop :=
  ref08_Depth_p3 kn R l_0 d_3 i_4 w
theorem ref08_Depth_p4_ok (kn : K1) (R : K1) (hn : ∀ g w, kn (g 3) w → Q .normal g w) (hr : HR rs_ref08_Depth R Q) (h : ref08_Depth_p4 kn R (g 0) (g 3) (g 4) w) : den pg ann_ref08_Depth (dropS 1 (takeS 1 (dropS 4 code_ref08_Depth))) Q g w :=
  den_blk 0 _ g w (by kernel_rfl) (ref08_Depth_p3_ok (blk 0 Q) g w kn R hn hr h)

def ref08_Depth_p5 (kn : K3) (l_0 d_3 : Value) (w : World) : Prop :=
  kn l_0 d_3 (.int .i64 0) w
theorem ref08_Depth_p5_ok (kn : K3) (hn : ∀ g w, kn (g 0) (g 3) (g 4) w → Q .normal g w) (h : ref08_Depth_p5 kn (g 0) (g 3) w) : den pg ann_ref08_Depth (takeS 1 (takeS 1 (dropS 4 code_ref08_Depth))) Q g w :=
  den_exQ (kr := no) (l := []) (by kernel_rfl) h hn noE trivial

def ref08_Depth_p6 (kn : K1) (R : K1) (l_0 d_3 : Value) (w : World) : Prop :=
  ref08_Depth_p5 (fun l_0 d_3 i_4 w => ref08_Depth_p4 kn R l_0 d_3 i_4 w) l_0 d_3 w
theorem ref08_Depth_p6_ok (kn : K1) (R : K1) (hn : ∀ g w, kn (g 3) w → Q .normal g w) (hr : HR rs_ref08_Depth R Q) (h : ref08_Depth_p6 kn R (g 0) (g 3) w) : den pg ann_ref08_Depth (takeS 1 (dropS 4 code_ref08_Depth)) Q g w :=
  den_seqs 1 _ g w (by kernel_rfl) (ref08_Depth_p5_ok (thenE (fun g w => den pg ann_ref08_Depth (dropS 1 (takeS 1 (dropS 4 code_ref08_Depth))) Q g w) Q) g w (fun l_0 d_3 i_4 w => ref08_Depth_p4 kn R l_0 d_3 i_4 w) (fun g w h => thenE_n (K := fun g w => den pg ann_ref08_Depth (dropS 1 (takeS 1 (dropS 4 code_ref08_Depth))) Q g w) (ref08_Depth_p4_ok Q g w kn R hn hr h)) h)

def ref08_Depth_p7 (R : K1) (l_0 d_3 : Value) (w : World) : Prop :=
  ref08_Depth_p6 (fun d_3 w => ref08_Depth_p1 R d_3 w) R l_0 d_3 w
theorem ref08_Depth_p7_ok (R : K1) (hr : HR rs_ref08_Depth R Q) (h : ref08_Depth_p7 R (g 0) (g 3) w) : den pg ann_ref08_Depth (dropS 4 code_ref08_Depth) Q g w :=
  den_seqs 1 _ g w (by kernel_rfl) (ref08_Depth_p6_ok (thenE (fun g w => den pg ann_ref08_Depth (dropS 1 (dropS 4 code_ref08_Depth)) Q g w) Q) g w (fun d_3 w => ref08_Depth_p1 R d_3 w) R (fun g w h => thenE_n (K := fun g w => den pg ann_ref08_Depth (dropS 1 (dropS 4 code_ref08_Depth)) Q g w) (ref08_Depth_p1_ok Q g w R hr h)) hr h)

def ref08_Depth_p8 (kn : K2) (R : K1) (l_0 : Value) (w : World) : Prop :=
  Stp pg (sBi .len #[9] 3 [l_0]) w fun t6 w =>
  Stp pg (sBin .lss 3 (.tmp 6) (.const (.int .i64 2)) t6 (.int .i64 2)) w fun t7 w =>
  Gd (isB t7 false) (fun K => K l_0 w) w fun t9 w =>
  Gd (isB t7 false) (fun K => Stp pg (sBi .len #[9] 3 [t9]) w K) w fun t10 w =>
  Gd (isB t7 false) (fun K => Stp pg (sBin .gtr 3 (.tmp 10) (.const (.int .i64 256)) t10 (.int .i64 256)) w K) w fun t11 w =>
  Stp pg (sPick t7 (.bool true) t11) w fun t12 w =>
  Gd (isB t12 false) (fun K => K l_0 w) w fun t14 w =>
  Gd (isB t12 false) (fun K => K l_0 w) w fun t15 w =>
  Gd (isB t12 false) (fun K => Stp pg (sBi .len #[9] 3 [t15]) w K) w fun t16 w =>
  Gd (isB t12 false) (fun K => Stp pg (sBin .sub 3 (.tmp 16) (.const (.int .i64 1)) t16 (.int .i64 1)) w K) w fun t17 w =>
  Gd (isB t12 false) (fun K => Stp pg (sIdx 9 t14 t17) w K) w fun t18 w =>
  Gd (isB t12 false) (fun K => Stp pg (sBin .eql 5 (.tmp 18) (.const (.int .u8 0)) t18 (.int .u8 0)) w K) w fun t19 w =>
  Stp pg (sPick t12 (.bool true) t19) w fun t20 w =>
  Cnd t20
    (R (.int .i64 0) w)
    (Does pg F_ref08_Worth #[l_0] w fun t22 w =>
    Does pg F_ref08_log #[t22] w fun t23 w =>
    Stp pg (sBin .lss 3 (.tmp 24) (.const (.int .i64 1)) t23 (.int .i64 1)) w fun t25 w =>
    Gd (isB t25 false) (fun K => K t23 w) w fun t27 w =>
    Gd (isB t25 false) (fun K => Stp pg (sBin .gtr 3 (.tmp 27) (.const (.int .i64 11)) t27 (.int .i64 11)) w K) w fun t28 w =>
    Stp pg (sPick t25 (.bool true) t28) w fun t29 w =>
    Cnd t29
      (R (.int .i64 0) w)
      (kn l_0 t23 w))
theorem ref08_Depth_p8_ok (kn : K2) (R : K1) (hn : ∀ g w, kn (g 0) (g 3) w → Q .normal g w) (hr : HR rs_ref08_Depth R Q) (h : ref08_Depth_p8 kn R (g 0) w) : den pg ann_ref08_Depth (takeS 4 code_ref08_Depth) Q g w :=
  den_exQ (l := []) (by kernel_rfl) h hn hr trivial

def ref08_Depth_p9 (R : K1) (l_0 : Value) (w : World) : Prop :=
  ref08_Depth_p8 (fun l_0 d_3 w => ref08_Depth_p7 R l_0 d_3 w) R l_0 w
theorem ref08_Depth_p9_ok (R : K1) (hr : HR rs_ref08_Depth R Q) (h : ref08_Depth_p9 R (g 0) w) : den pg ann_ref08_Depth code_ref08_Depth Q g w :=
  den_seqs 4 _ g w (by kernel_rfl) (ref08_Depth_p8_ok (thenE (fun g w => den pg ann_ref08_Depth (dropS 4 code_ref08_Depth) Q g w) Q) g w (fun l_0 d_3 w => ref08_Depth_p7 R l_0 d_3 w) R (fun g w h => thenE_n (K := fun g w => den pg ann_ref08_Depth (dropS 4 code_ref08_Depth) Q g w) (ref08_Depth_p7_ok Q g w R hr h)) hr h)

def ref08_Depth (a0 : Value) (w : World) (R : K1) : Prop :=
  ref08_Depth_p9 R a0 w
theorem ref08_Depth_does {a0 : Value} {w : World} {R : K1} (h : ref08_Depth a0 w R) : Does pg F_ref08_Depth #[a0] w R := by
  refine does_of_den (ann := ann_ref08_Depth) (fn := Try.f20) (c := code_ref08_Depth) (args := [a0]) (rs := rs_ref08_Depth) (N := 43) TryM.mixed (by kernel_rfl) Try.func20 (by kernel_rfl) (by kernel_rfl) (by kernel_rfl) (of_decide_eq_true (by kernel_rfl)) (by kernel_rfl) ?_
  exact (ref08_Depth_p9_ok (retQ pg rs_ref08_Depth R) (envOf [a0]) w R (fun _ _ h => h) h)
-- PIECES ref08_Depth/0 ref08_Depth_p1 ref08_Depth_p3 ref08_Depth_p4 ref08_Depth_p5 ref08_Depth_p6 ref08_Depth_p7 ref08_Depth_p8 ref08_Depth_p9
-- PIECES ref08_Depth/1 ref08_Depth_p2

/- lighterman/weights.worth -/
def ann_weights_worth : FA := ⟨F_weights_worth, fun i => .leaf ([], []) []⟩
def rs_weights_worth : List ResultVar := [.tmp 2, .tmp 3]
noncomputable def code_weights_worth : Code := bodyOf Try.f21
def weights_worth_p1 (R : K1) (sum_4 : Value) (w : World) : Prop :=
  R (.tuple #[sum_4, (.bool true)]) w
theorem weights_worth_p1_ok (R : K1) (hr : HR rs_weights_worth R Q) (h : weights_worth_p1 R (g 4) w) : den pg ann_weights_worth (dropS 1 (dropS 2 code_weights_worth)) Q g w :=
  den_exQ (kn := no) (l := []) (by kernel_rfl) h noE hr trivial

def weights_worth_p2 (kn : K4) (sum_4 t7 t8 t9 : Value) (w : World) : Prop :=
  Stp pg (sBin .add 3 (.tmp 9) (.const (.int .i64 1)) t9 (.int .i64 1)) w fun t22 w =>
  kn sum_4 t7 t8 t22 w
theorem weights_worth_p2_ok (kn : K4) (hn : ∀ g w, kn (g 4) (g 7) (g 8) (g 9) w → Q .normal g w) (h : weights_worth_p2 kn (g 4) (g 7) (g 8) (g 9) w) : den pg ann_weights_worth (dropS 3 (bI (bI (dropS 1 (takeS 1 (dropS 2 code_weights_worth)))))) Q g w :=
  den_exQ (kr := no) (l := []) (by kernel_rfl) h hn noE trivial

def weights_worth_p3 (kn : K4) (k0 : K1) (R : K1) (sum_4 t7 t8 t9 : Value) (w : World) : Prop :=
  Stp pg (sBin .lss 3 (.tmp 9) (.tmp 8) t9 t8) w fun t10 w =>
  Cnd t10
    (Stp pg (sIAddr 22 t7 t9) w fun t11 w =>
    Stp pg (sLoad 5 t11) w fun t12 w =>
    Stp pg (sBin .gtr 5 (.tmp 13) (.const (.int .u8 11)) t12 (.int .u8 11)) w fun t14 w =>
    Cnd t14
      (R (.tuple #[(.int .i64 0), (.bool false)]) w)
      (Stp pg (sBin .gtr 5 (.tmp 15) (.const (.int .u8 0)) t12 (.int .u8 0)) w fun t16 w =>
      Cnd t16
        (Stp pg (sBin .sub 5 (.tmp 18) (.const (.int .u8 1)) t12 (.int .u8 1)) w fun t19 w =>
        Stp pg (sBin .shl 3 (.const (.int .i64 1)) (.tmp 19) (.int .i64 1) t19) w fun t20 w =>
        Stp pg (sBin .add 3 (.tmp 17) (.tmp 20) sum_4 t20) w fun t21 w =>
        kn t21 t7 t8 t9 w)
        (kn sum_4 t7 t8 t9 w)))
    (k0 sum_4 w)
theorem weights_worth_p3_ok (kn : K4) (k0 : K1) (R : K1) (hn : ∀ g w, kn (g 4) (g 7) (g 8) (g 9) w → Q .normal g w) (h0 : ∀ g w, k0 (g 4) w → Q (.exit 0) g w) (hr : HR rs_weights_worth R Q) (h : weights_worth_p3 kn k0 R (g 4) (g 7) (g 8) (g 9) w) : den pg ann_weights_worth (takeS 3 (bI (bI (dropS 1 (takeS 1 (dropS 2 code_weights_worth)))))) Q g w :=
  den_exQ (l := [(0, fun g w => k0 (g 4) w)]) (by kernel_rfl) h hn hr ⟨h0, trivial⟩

def weights_worth_p4 (kn : K4) (k0 : K1) (R : K1) (sum_4 t7 t8 t9 : Value) (w : World) : Prop :=
  weights_worth_p3 (fun sum_4 t7 t8 t9 w => weights_worth_p2 kn sum_4 t7 t8 t9 w) k0 R sum_4 t7 t8 t9 w
theorem weights_worth_p4_ok (kn : K4) (k0 : K1) (R : K1) (hn : ∀ g w, kn (g 4) (g 7) (g 8) (g 9) w → Q .normal g w) (h0 : ∀ g w, k0 (g 4) w → Q (.exit 0) g w) (hr : HR rs_weights_worth R Q) (h : weights_worth_p4 kn k0 R (g 4) (g 7) (g 8) (g 9) w) : den pg ann_weights_worth (bI (bI (dropS 1 (takeS 1 (dropS 2 code_weights_worth))))) Q g w :=
  den_seqs 3 _ g w (by kernel_rfl) (weights_worth_p3_ok (thenE (fun g w => den pg ann_weights_worth (dropS 3 (bI (bI (dropS 1 (takeS 1 (dropS 2 code_weights_worth)))))) Q g w) Q) g w (fun sum_4 t7 t8 t9 w => weights_worth_p2 kn sum_4 t7 t8 t9 w) k0 R (fun g w h => thenE_n (K := fun g w => den pg ann_weights_worth (dropS 3 (bI (bI (dropS 1 (takeS 1 (dropS 2 code_weights_worth)))))) Q g w) (weights_worth_p2_ok Q g w kn hn h)) h0 hr h)

def weights_worth_p5 (k0 : K1) (R : K1) (sum_4 t7 t8 t9 : Value) (w : World) : Prop :=
  LoopD (fun (X : (Value × Value) → K0) (t : Value × Value) (w : World) => weights_worth_p4 (fun sum_4 _ _ t9 w => X (sum_4, t9) w) k0 R t.1 t7 t8 t.2 w) (sum_4, t9) w
theorem weights_worth_p5_ok (k0 : K1) (R : K1) (h0 : ∀ g w, k0 (g 4) w → Q (.exit 0) g w) (hr : HR rs_weights_worth R Q) (h : weights_worth_p5 k0 R (g 4) (g 7) (g 8) (g 9) w) : den pg ann_weights_worth (bI (dropS 1 (takeS 1 (dropS 2 code_weights_worth)))) Q g w := by
  refine den_loops (T := Value × Value) (fun g : Env => (g 4, g 9)) (fun X t w => weights_worth_p4 (fun sum_4 _ _ t9 w => X (sum_4, t9) w) k0 R t.1 (g 7) (g 8) t.2 w) _ (by kernel_rfl) h (fun X g1 w1 ha hL => ?_)
  rw [← agree_at (s := 7) ha (by kernel_rfl)] at hL
  rw [← agree_at (s := 8) ha (by kernel_rfl)] at hL
  exact (weights_worth_p4_ok (thenE (fun g2 w2 => X ((fun g : Env => (g 4, g 9)) g2) w2) Q) g1 w1 (fun sum_4 _ _ t9 w => X (sum_4, t9) w) k0 R (fun _ _ h => h) h0 hr hL)

def weights_worth_p6 (kn : K1) (R : K1) (sum_4 t7 t8 t9 : Value) (w : World) : Prop :=
  weights_worth_p5 kn R sum_4 t7 t8 t9 w
theorem weights_worth_p6_ok (kn : K1) (R : K1) (hn : ∀ g w, kn (g 4) w → Q .normal g w) (hr : HR rs_weights_worth R Q) (h : weights_worth_p6 kn R (g 4) (g 7) (g 8) (g 9) w) : den pg ann_weights_worth (dropS 1 (takeS 1 (dropS 2 code_weights_worth))) Q g w :=
  den_blk 0 _ g w (by kernel_rfl) (weights_worth_p5_ok (blk 0 Q) g w kn R hn hr h)

def weights_worth_p7 (kn : K4) (l_0 sum_4 : Value) (w : World) : Prop :=
  Stp pg (sBi .len #[22] 3 [l_0]) w fun t8 w =>
  kn sum_4 l_0 t8 (.int .i64 0) w
theorem weights_worth_p7_ok (kn : K4) (hn : ∀ g w, kn (g 4) (g 7) (g 8) (g 9) w → Q .normal g w) (h : weights_worth_p7 kn (g 0) (g 4) w) : den pg ann_weights_worth (takeS 1 (takeS 1 (dropS 2 code_weights_worth))) Q g w :=
  den_exQ (kr := no) (l := []) (by kernel_rfl) h hn noE trivial

def weights_worth_p8 (kn : K1) (R : K1) (l_0 sum_4 : Value) (w : World) : Prop :=
  weights_worth_p7 (fun sum_4 t7 t8 t9 w => weights_worth_p6 kn R sum_4 t7 t8 t9 w) l_0 sum_4 w
theorem weights_worth_p8_ok (kn : K1) (R : K1) (hn : ∀ g w, kn (g 4) w → Q .normal g w) (hr : HR rs_weights_worth R Q) (h : weights_worth_p8 kn R (g 0) (g 4) w) : den pg ann_weights_worth (takeS 1 (dropS 2 code_weights_worth)) Q g w :=
  den_seqs 1 _ g w (by kernel_rfl) (weights_worth_p7_ok (thenE (fun g w => den pg ann_weights_worth (dropS 1 (takeS 1 (dropS 2 code_weights_worth))) Q g w) Q) g w (fun sum_4 t7 t8 t9 w => weights_worth_p6 kn R sum_4 t7 t8 t9 w) (fun g w h => thenE_n (K := fun g w => den pg ann_weights_worth (dropS 1 (takeS 1 (dropS 2 code_weights_worth))) Q g w) (weights_worth_p6_ok Q g w kn R hn hr h)) h)

def weights_worth_p9 (R : K1) (l_0 sum_4 : Value) (w : World) : Prop :=
  weights_worth_p8 (fun sum_4 w => weights_worth_p1 R sum_4 w) R l_0 sum_4 w
theorem weights_worth_p9_ok (R : K1) (hr : HR rs_weights_worth R Q) (h : weights_worth_p9 R (g 0) (g 4) w) : den pg ann_weights_worth (dropS 2 code_weights_worth) Q g w :=
  den_seqs 1 _ g w (by kernel_rfl) (weights_worth_p8_ok (thenE (fun g w => den pg ann_weights_worth (dropS 1 (dropS 2 code_weights_worth)) Q g w) Q) g w (fun sum_4 w => weights_worth_p1 R sum_4 w) R (fun g w h => thenE_n (K := fun g w => den pg ann_weights_worth (dropS 1 (dropS 2 code_weights_worth)) Q g w) (weights_worth_p1_ok Q g w R hr h)) hr h)

def weights_worth_p10 (kn : K2) (l_0 : Value) (w : World) : Prop :=
  kn l_0 (.int .i64 0) w
theorem weights_worth_p10_ok (kn : K2) (hn : ∀ g w, kn (g 0) (g 4) w → Q .normal g w) (h : weights_worth_p10 kn (g 0) w) : den pg ann_weights_worth (takeS 2 code_weights_worth) Q g w :=
  den_exQ (kr := no) (l := []) (by kernel_rfl) h hn noE trivial

def weights_worth_p11 (R : K1) (l_0 : Value) (w : World) : Prop :=
  weights_worth_p10 (fun l_0 sum_4 w => weights_worth_p9 R l_0 sum_4 w) l_0 w
theorem weights_worth_p11_ok (R : K1) (hr : HR rs_weights_worth R Q) (h : weights_worth_p11 R (g 0) w) : den pg ann_weights_worth code_weights_worth Q g w :=
  den_seqs 2 _ g w (by kernel_rfl) (weights_worth_p10_ok (thenE (fun g w => den pg ann_weights_worth (dropS 2 code_weights_worth) Q g w) Q) g w (fun l_0 sum_4 w => weights_worth_p9 R l_0 sum_4 w) (fun g w h => thenE_n (K := fun g w => den pg ann_weights_worth (dropS 2 code_weights_worth) Q g w) (weights_worth_p9_ok Q g w R hr h)) h)

def weights_worth (a0 : Value) (w : World) (R : K1) : Prop :=
  weights_worth_p11 R a0 w
theorem weights_worth_does {a0 : Value} {w : World} {R : K1} (h : weights_worth a0 w R) : Does pg F_weights_worth #[a0] w R := by
  refine does_of_den (ann := ann_weights_worth) (fn := Try.f21) (c := code_weights_worth) (args := [a0]) (rs := rs_weights_worth) (N := 24) TryM.mixed (by kernel_rfl) Try.func21 (by kernel_rfl) (by kernel_rfl) (by kernel_rfl) (of_decide_eq_true (by kernel_rfl)) (by kernel_rfl) ?_
  exact (weights_worth_p11_ok (retQ pg rs_weights_worth R) (envOf [a0]) w R (fun _ _ h => h) h)
-- PIECES weights_worth/0 weights_worth_p1 weights_worth_p5 weights_worth_p6 weights_worth_p7 weights_worth_p8 weights_worth_p9 weights_worth_p10 weights_worth_p11
-- PIECES weights_worth/1 weights_worth_p2 weights_worth_p3 weights_worth_p4

/- math/bits.Len -/
def ann_math_bits_Len : FA := ⟨F_math_bits_Len, fun i => .leaf ([], []) []⟩
def rs_math_bits_Len : List ResultVar := [.tmp 2]
noncomputable def code_math_bits_Len : Code := bodyOf Try.f22
def math_bits_Len_p1 (R : K1) (x_0 : Value) (w : World) : Prop :=
  Cnd (.bool false)
    (Stp pg (sCvt 49 45 x_0) w fun t4 w =>
    Does pg F_math_bits_Len32 #[t4] w fun t5 w =>
    R t5 w)
    (Does pg F_math_bits_Len64 #[x_0] w fun t7 w =>
    R t7 w)
theorem math_bits_Len_p1_ok (R : K1) (hr : HR rs_math_bits_Len R Q) (h : math_bits_Len_p1 R (g 0) w) : den pg ann_math_bits_Len code_math_bits_Len Q g w :=
  den_exQ (kn := no) (l := []) (by kernel_rfl) h noE hr trivial

def math_bits_Len (a0 : Value) (w : World) (R : K1) : Prop :=
  math_bits_Len_p1 R a0 w
theorem math_bits_Len_does {a0 : Value} {w : World} {R : K1} (h : math_bits_Len a0 w R) : Does pg F_math_bits_Len #[a0] w R := by
  refine does_of_den (ann := ann_math_bits_Len) (fn := Try.f22) (c := code_math_bits_Len) (args := [a0]) (rs := rs_math_bits_Len) (N := 8) TryM.mixed (by kernel_rfl) Try.func22 (by kernel_rfl) (by kernel_rfl) (by kernel_rfl) (of_decide_eq_true (by kernel_rfl)) (by kernel_rfl) ?_
  exact (math_bits_Len_p1_ok (retQ pg rs_math_bits_Len R) (envOf [a0]) w R (fun _ _ h => h) h)
-- PIECES math_bits_Len/0 math_bits_Len_p1

/- slices.Clone[[]byte,byte] -/
def ann_slices_Clone_inst : FA := ⟨F_slices_Clone_inst, fun i => .leaf ([], []) []⟩
def rs_slices_Clone_inst : List ResultVar := [.tmp 2]
noncomputable def code_slices_Clone_inst : Code := bodyOf Try.f23
def slices_Clone_inst_p1 (R : K1) (s_0 : Value) (w : World) : Prop :=
  Stp pg (sBin .eql 22 (.tmp 3) (.const (.slice none 0 0)) s_0 (.slice none 0 0)) w fun t4 w =>
  Cnd t4
    (R (.slice none 0 0) w)
    (Stp pg (sBuildSlice 22 0 []) w fun t5 w =>
    Stp pg (sBi .append #[22, 22] 22 [t5, s_0]) w fun t7 w =>
    R t7 w)
theorem slices_Clone_inst_p1_ok (R : K1) (hr : HR rs_slices_Clone_inst R Q) (h : slices_Clone_inst_p1 R (g 0) w) : den pg ann_slices_Clone_inst code_slices_Clone_inst Q g w :=
  den_exQ (kn := no) (l := []) (by kernel_rfl) h noE hr trivial

def slices_Clone_inst (a0 : Value) (w : World) (R : K1) : Prop :=
  slices_Clone_inst_p1 R a0 w
theorem slices_Clone_inst_does {a0 : Value} {w : World} {R : K1} (h : slices_Clone_inst a0 w R) : Does pg F_slices_Clone_inst #[a0] w R := by
  refine does_of_den (ann := ann_slices_Clone_inst) (fn := Try.f23) (c := code_slices_Clone_inst) (args := [a0]) (rs := rs_slices_Clone_inst) (N := 8) TryM.mixed (by kernel_rfl) Try.func23 (by kernel_rfl) (by kernel_rfl) (by kernel_rfl) (of_decide_eq_true (by kernel_rfl)) (by kernel_rfl) ?_
  exact (slices_Clone_inst_p1_ok (retQ pg rs_slices_Clone_inst R) (envOf [a0]) w R (fun _ _ h => h) h)
-- PIECES slices_Clone_inst/0 slices_Clone_inst_p1

/- lighterman/lightermanref08.Worth -/
def ann_ref08_Worth : FA := ⟨F_ref08_Worth, fun i => .leaf ([], []) []⟩
def rs_ref08_Worth : List ResultVar := [.tmp 2]
noncomputable def code_ref08_Worth : Code := bodyOf Try.f24
def ref08_Worth_p1 (R : K1) (sum_3 : Value) (w : World) : Prop :=
  R sum_3 w
theorem ref08_Worth_p1_ok (R : K1) (hr : HR rs_ref08_Worth R Q) (h : ref08_Worth_p1 R (g 3) w) : den pg ann_ref08_Worth (dropS 1 (dropS 2 code_ref08_Worth)) Q g w :=
  den_exQ (kn := no) (l := []) (by kernel_rfl) h noE hr trivial

def ref08_Worth_p2 (kn : K3) (l_0 sum_3 i_4 : Value) (w : World) : Prop :=
  Stp pg (sBin .add 3 (.tmp 9) (.const (.int .i64 1)) i_4 (.int .i64 1)) w fun t10 w =>
  kn l_0 sum_3 t10 w
theorem ref08_Worth_p2_ok (kn : K3) (hn : ∀ g w, kn (g 0) (g 3) (g 4) w → Q .normal g w) (h : ref08_Worth_p2 kn (g 0) (g 3) (g 4) w) : den pg ann_ref08_Worth (dropS 2 (bI (bI (dropS 1 (takeS 1 (dropS 2 code_ref08_Worth)))))) Q g w :=
  den_exQ (kr := no) (l := []) (by kernel_rfl) h hn noE trivial

def ref08_Worth_p3 (kn : K3) (k0 : K1) (R : K1) (l_0 sum_3 i_4 : Value) (w : World) : Prop :=
  Stp pg (sBi .len #[9] 3 [l_0]) w fun t7 w =>
  Stp pg (sBin .lss 3 (.tmp 5) (.tmp 7) i_4 t7) w fun t8 w =>
  Cnd t8
    (Stp pg (sIdx 9 l_0 i_4) w fun t13 w =>
    Stp pg (sBin .gtr 5 (.tmp 13) (.const (.int .u8 11)) t13 (.int .u8 11)) w fun t14 w =>
    Cnd t14
      (R (.int .i64 (-1)) w)
      (Stp pg (sIdx 9 l_0 i_4) w fun t17 w =>
      Stp pg (sBin .gtr 5 (.tmp 17) (.const (.int .u8 0)) t17 (.int .u8 0)) w fun t18 w =>
      Cnd t18
        (Stp pg (sIdx 9 l_0 i_4) w fun t22 w =>
        Stp pg (sCvt 5 3 t22) w fun t23 w =>
        Stp pg (sBin .sub 3 (.tmp 23) (.const (.int .i64 1)) t23 (.int .i64 1)) w fun t24 w =>
        Does pg F_ref06_Power #[t24] w fun t25 w =>
        Stp pg (sBin .add 3 (.tmp 19) (.tmp 25) sum_3 t25) w fun t26 w =>
        kn l_0 t26 i_4 w)
        (kn l_0 sum_3 i_4 w)))
    (k0 sum_3 w)
theorem ref08_Worth_p3_ok (kn : K3) (k0 : K1) (R : K1) (hn : ∀ g w, kn (g 0) (g 3) (g 4) w → Q .normal g w) (h0 : ∀ g w, k0 (g 3) w → Q (.exit 0) g w) (hr : HR rs_ref08_Worth R Q) (h : ref08_Worth_p3 kn k0 R (g 0) (g 3) (g 4) w) : den pg ann_ref08_Worth (takeS 2 (bI (bI (dropS 1 (takeS 1 (dropS 2 code_ref08_Worth)))))) Q g w :=
  den_exQ (l := [(0, fun g w => k0 (g 3) w)]) (by kernel_rfl) h hn hr ⟨h0, trivial⟩

def ref08_Worth_p4 (kn : K3) (k0 : K1) (R : K1) (l_0 sum_3 i_4 : Value) (w : World) : Prop :=
  ref08_Worth_p3 (fun l_0 sum_3 i_4 w => ref08_Worth_p2 kn l_0 sum_3 i_4 w) k0 R l_0 sum_3 i_4 w
theorem ref08_Worth_p4_ok (kn : K3) (k0 : K1) (R : K1) (hn : ∀ g w, kn (g 0) (g 3) (g 4) w → Q .normal g w) (h0 : ∀ g w, k0 (g 3) w → Q (.exit 0) g w) (hr : HR rs_ref08_Worth R Q) (h : ref08_Worth_p4 kn k0 R (g 0) (g 3) (g 4) w) : den pg ann_ref08_Worth (bI (bI (dropS 1 (takeS 1 (dropS 2 code_ref08_Worth))))) Q g w :=
  den_seqs 2 _ g w (by kernel_rfl) (ref08_Worth_p3_ok (thenE (fun g w => den pg ann_ref08_Worth (dropS 2 (bI (bI (dropS 1 (takeS 1 (dropS 2 code_ref08_Worth)))))) Q g w) Q) g w (fun l_0 sum_3 i_4 w => ref08_Worth_p2 kn l_0 sum_3 i_4 w) k0 R (fun g w h => thenE_n (K := fun g w => den pg ann_ref08_Worth (dropS 2 (bI (bI (dropS 1 (takeS 1 (dropS 2 code_ref08_Worth)))))) Q g w) (ref08_Worth_p2_ok Q g w kn hn h)) h0 hr h)

def ref08_Worth_p5 (k0 : K1) (R : K1) (l_0 sum_3 i_4 : Value) (w : World) : Prop :=
  LoopD (fun (X : (Value × Value) → K0) (t : Value × Value) (w : World) => ref08_Worth_p4 (fun _ sum_3 i_4 w => X (sum_3, i_4) w) k0 R l_0 t.1 t.2 w) (sum_3, i_4) w
theorem ref08_Worth_p5_ok (k0 : K1) (R : K1) (h0 : ∀ g w, k0 (g 3) w → Q (.exit 0) g w) (hr : HR rs_ref08_Worth R Q) (h : ref08_Worth_p5 k0 R (g 0) (g 3) (g 4) w) : den pg ann_ref08_Worth (bI (dropS 1 (takeS 1 (dropS 2 code_ref08_Worth)))) Q g w := by
  refine den_loops (T := Value × Value) (fun g : Env => (g 3, g 4)) (fun X t w => ref08_Worth_p4 (fun _ sum_3 i_4 w => X (sum_3, i_4) w) k0 R (g 0) t.1 t.2 w) _ (by kernel_rfl) h (fun X g1 w1 ha hL => ?_)
  rw [← agree_at (s := 0) ha (by kernel_rfl)] at hL
  exact (ref08_Worth_p4_ok (thenE (fun g2 w2 => X ((fun g : Env => (g 3, g 4)) g2) w2) Q) g1 w1 (fun _ sum_3 i_4 w => X (sum_3, i_4) w) k0 R (fun _ _ h => h) h0 hr hL)

def ref08_Worth_p6 (kn : K1) (R : K1) (l_0 sum_3 i_4 : Value) (w : World) : Prop :=
  ref08_Worth_p5 kn R l_0 sum_3 i_4 w
theorem ref08_Worth_p6_ok (kn : K1) (R : K1) (hn : ∀ g w, kn (g 3) w → Q .normal g w) (hr : HR rs_ref08_Worth R Q) (h : ref08_Worth_p6 kn R (g 0) (g 3) (g 4) w) : den pg ann_ref08_Worth (dropS 1 (takeS 1 (dropS 2 code_ref08_Worth))) Q g w :=
  den_blk 0 _ g w (by kernel_rfl) (ref08_Worth_p5_ok (blk 0 Q) g w kn R hn hr h)

def ref08_Worth_p7 (kn : K3) (l_0 sum_3 : Value) (w : World) : Prop :=
  kn l_0 sum_3 (.int .i64 0) w
theorem ref08_Worth_p7_ok (kn : K3) (hn : ∀ g w, kn (g 0) (g 3) (g 4) w → Q .normal g w) (h : ref08_Worth_p7 kn (g 0) (g 3) w) : den pg ann_ref08_Worth (takeS 1 (takeS 1 (dropS 2 code_ref08_Worth))) Q g w :=
  den_exQ (kr := no) (l := []) (by kernel_rfl) h hn noE trivial

def ref08_Worth_p8 (kn : K1) (R : K1) (l_0 sum_3 : Value) (w : World) : Prop :=
  ref08_Worth_p7 (fun l_0 sum_3 i_4 w => ref08_Worth_p6 kn R l_0 sum_3 i_4 w) l_0 sum_3 w
theorem ref08_Worth_p8_ok (kn : K1) (R : K1) (hn : ∀ g w, kn (g 3) w → Q .normal g w) (hr : HR rs_ref08_Worth R Q) (h : ref08_Worth_p8 kn R (g 0) (g 3) w) : den pg ann_ref08_Worth (takeS 1 (dropS 2 code_ref08_Worth)) Q g w :=
  den_seqs 1 _ g w (by kernel_rfl) (ref08_Worth_p7_ok (thenE (fun g w => den pg ann_ref08_Worth (dropS 1 (takeS 1 (dropS 2 code_ref08_Worth))) Q g w) Q) g w (fun l_0 sum_3 i_4 w => ref08_Worth_p6 kn R l_0 sum_3 i_4 w) (fun g w h => thenE_n (K := fun g w => den pg ann_ref08_Worth (dropS 1 (takeS 1 (dropS 2 code_ref08_Worth))) Q g w) (ref08_Worth_p6_ok Q g w kn R hn hr h)) h)

def ref08_Worth_p9 (R : K1) (l_0 sum_3 : Value) (w : World) : Prop :=
  ref08_Worth_p8 (fun sum_3 w => ref08_Worth_p1 R sum_3 w) R l_0 sum_3 w
theorem ref08_Worth_p9_ok (R : K1) (hr : HR rs_ref08_Worth R Q) (h : ref08_Worth_p9 R (g 0) (g 3) w) : den pg ann_ref08_Worth (dropS 2 code_ref08_Worth) Q g w :=
  den_seqs 1 _ g w (by kernel_rfl) (ref08_Worth_p8_ok (thenE (fun g w => den pg ann_ref08_Worth (dropS 1 (dropS 2 code_ref08_Worth)) Q g w) Q) g w (fun sum_3 w => ref08_Worth_p1 R sum_3 w) R (fun g w h => thenE_n (K := fun g w => den pg ann_ref08_Worth (dropS 1 (dropS 2 code_ref08_Worth)) Q g w) (ref08_Worth_p1_ok Q g w R hr h)) hr h)

def ref08_Worth_p10 (kn : K2) (l_0 : Value) (w : World) : Prop :=
  kn l_0 (.int .i64 0) w
theorem ref08_Worth_p10_ok (kn : K2) (hn : ∀ g w, kn (g 0) (g 3) w → Q .normal g w) (h : ref08_Worth_p10 kn (g 0) w) : den pg ann_ref08_Worth (takeS 2 code_ref08_Worth) Q g w :=
  den_exQ (kr := no) (l := []) (by kernel_rfl) h hn noE trivial

def ref08_Worth_p11 (R : K1) (l_0 : Value) (w : World) : Prop :=
  ref08_Worth_p10 (fun l_0 sum_3 w => ref08_Worth_p9 R l_0 sum_3 w) l_0 w
theorem ref08_Worth_p11_ok (R : K1) (hr : HR rs_ref08_Worth R Q) (h : ref08_Worth_p11 R (g 0) w) : den pg ann_ref08_Worth code_ref08_Worth Q g w :=
  den_seqs 2 _ g w (by kernel_rfl) (ref08_Worth_p10_ok (thenE (fun g w => den pg ann_ref08_Worth (dropS 2 code_ref08_Worth) Q g w) Q) g w (fun l_0 sum_3 w => ref08_Worth_p9 R l_0 sum_3 w) (fun g w h => thenE_n (K := fun g w => den pg ann_ref08_Worth (dropS 2 code_ref08_Worth) Q g w) (ref08_Worth_p9_ok Q g w R hr h)) h)

def ref08_Worth (a0 : Value) (w : World) (R : K1) : Prop :=
  ref08_Worth_p11 R a0 w
theorem ref08_Worth_does {a0 : Value} {w : World} {R : K1} (h : ref08_Worth a0 w R) : Does pg F_ref08_Worth #[a0] w R := by
  refine does_of_den (ann := ann_ref08_Worth) (fn := Try.f24) (c := code_ref08_Worth) (args := [a0]) (rs := rs_ref08_Worth) (N := 28) TryM.mixed (by kernel_rfl) Try.func24 (by kernel_rfl) (by kernel_rfl) (by kernel_rfl) (of_decide_eq_true (by kernel_rfl)) (by kernel_rfl) ?_
  exact (ref08_Worth_p11_ok (retQ pg rs_ref08_Worth R) (envOf [a0]) w R (fun _ _ h => h) h)
-- PIECES ref08_Worth/0 ref08_Worth_p1 ref08_Worth_p5 ref08_Worth_p6 ref08_Worth_p7 ref08_Worth_p8 ref08_Worth_p9 ref08_Worth_p10 ref08_Worth_p11
-- PIECES ref08_Worth/1 ref08_Worth_p2 ref08_Worth_p3 ref08_Worth_p4

/- lighterman/lightermanref06.Power -/
def ann_ref06_Power : FA := ⟨F_ref06_Power, fun i => .leaf ([], []) []⟩
def rs_ref06_Power : List ResultVar := [.tmp 2]
noncomputable def code_ref06_Power : Code := bodyOf Try.f25
def ref06_Power_p1 (R : K1) (x_3 : Value) (w : World) : Prop :=
  R x_3 w
theorem ref06_Power_p1_ok (R : K1) (hr : HR rs_ref06_Power R Q) (h : ref06_Power_p1 R (g 3) w) : den pg ann_ref06_Power (dropS 1 (dropS 2 code_ref06_Power)) Q g w :=
  den_exQ (kn := no) (l := []) (by kernel_rfl) h noE hr trivial

def ref06_Power_p2 (kn : K3) (k0 : K1) (n_0 x_3 i_4 : Value) (w : World) : Prop :=
  Stp pg (sBin .lss 3 (.tmp 5) (.tmp 6) i_4 n_0) w fun t7 w =>
  Gd (isB t7 true) (fun K => K i_4 w) w fun t9 w =>
  Gd (isB t7 true) (fun K => Stp pg (sBin .lss 3 (.tmp 9) (.const (.int .i64 40)) t9 (.int .i64 40)) w K) w fun t10 w =>
  Stp pg (sPick t7 t10 (.bool false)) w fun t11 w =>
  Cnd t11
    (Stp pg (sBin .mul 3 (.tmp 14) (.const (.int .i64 2)) x_3 (.int .i64 2)) w fun t15 w =>
    Stp pg (sBin .add 3 (.tmp 12) (.const (.int .i64 1)) i_4 (.int .i64 1)) w fun t13 w =>
    kn n_0 t15 t13 w)
    (k0 x_3 w)
theorem ref06_Power_p2_ok (kn : K3) (k0 : K1) (hn : ∀ g w, kn (g 0) (g 3) (g 4) w → Q .normal g w) (h0 : ∀ g w, k0 (g 3) w → Q (.exit 0) g w) (h : ref06_Power_p2 kn k0 (g 0) (g 3) (g 4) w) : den pg ann_ref06_Power (bI (bI (dropS 1 (takeS 1 (dropS 2 code_ref06_Power))))) Q g w :=
  den_exQ (kr := no) (l := [(0, fun g w => k0 (g 3) w)]) (by kernel_rfl) h hn noE ⟨h0, trivial⟩

def ref06_Power_p3 (k0 : K1) (n_0 x_3 i_4 : Value) (w : World) : Prop :=
  LoopD (fun (X : (Value × Value) → K0) (t : Value × Value) (w : World) => ref06_Power_p2 (fun _ x_3 i_4 w => X (x_3, i_4) w) k0 n_0 t.1 t.2 w) (x_3, i_4) w
theorem ref06_Power_p3_ok (k0 : K1) (h0 : ∀ g w, k0 (g 3) w → Q (.exit 0) g w) (h : ref06_Power_p3 k0 (g 0) (g 3) (g 4) w) : den pg ann_ref06_Power (bI (dropS 1 (takeS 1 (dropS 2 code_ref06_Power)))) Q g w := by
  refine den_loops (T := Value × Value) (fun g : Env => (g 3, g 4)) (fun X t w => ref06_Power_p2 (fun _ x_3 i_4 w => X (x_3, i_4) w) k0 (g 0) t.1 t.2 w) _ (by kernel_rfl) h (fun X g1 w1 ha hL => ?_)
  rw [← agree_at (s := 0) ha (by kernel_rfl)] at hL
  exact (ref06_Power_p2_ok (thenE (fun g2 w2 => X ((fun g : Env => (g 3, g 4)) g2) w2) Q) g1 w1 (fun _ x_3 i_4 w => X (x_3, i_4) w) k0 (fun _ _ h => h) h0 hL)

def ref06_Power_p4 (kn : K1) (n_0 x_3 i_4 : Value) (w : World) : Prop :=
  ref06_Power_p3 kn n_0 x_3 i_4 w
theorem ref06_Power_p4_ok (kn : K1) (hn : ∀ g w, kn (g 3) w → Q .normal g w) (h : ref06_Power_p4 kn (g 0) (g 3) (g 4) w) : den pg ann_ref06_Power (dropS 1 (takeS 1 (dropS 2 code_ref06_Power))) Q g w :=
  den_blk 0 _ g w (by kernel_rfl) (ref06_Power_p3_ok (blk 0 Q) g w kn hn h)

def ref06_Power_p5 (kn : K3) (n_0 x_3 : Value) (w : World) : Prop :=
  kn n_0 x_3 (.int .i64 0) w
theorem ref06_Power_p5_ok (kn : K3) (hn : ∀ g w, kn (g 0) (g 3) (g 4) w → Q .normal g w) (h : ref06_Power_p5 kn (g 0) (g 3) w) : den pg ann_ref06_Power (takeS 1 (takeS 1 (dropS 2 code_ref06_Power))) Q g w :=
  den_exQ (kr := no) (l := []) (by kernel_rfl) h hn noE trivial

def ref06_Power_p6 (kn : K1) (n_0 x_3 : Value) (w : World) : Prop :=
  ref06_Power_p5 (fun n_0 x_3 i_4 w => ref06_Power_p4 kn n_0 x_3 i_4 w) n_0 x_3 w
theorem ref06_Power_p6_ok (kn : K1) (hn : ∀ g w, kn (g 3) w → Q .normal g w) (h : ref06_Power_p6 kn (g 0) (g 3) w) : den pg ann_ref06_Power (takeS 1 (dropS 2 code_ref06_Power)) Q g w :=
  den_seqs 1 _ g w (by kernel_rfl) (ref06_Power_p5_ok (thenE (fun g w => den pg ann_ref06_Power (dropS 1 (takeS 1 (dropS 2 code_ref06_Power))) Q g w) Q) g w (fun n_0 x_3 i_4 w => ref06_Power_p4 kn n_0 x_3 i_4 w) (fun g w h => thenE_n (K := fun g w => den pg ann_ref06_Power (dropS 1 (takeS 1 (dropS 2 code_ref06_Power))) Q g w) (ref06_Power_p4_ok Q g w kn hn h)) h)

def ref06_Power_p7 (R : K1) (n_0 x_3 : Value) (w : World) : Prop :=
  ref06_Power_p6 (fun x_3 w => ref06_Power_p1 R x_3 w) n_0 x_3 w
theorem ref06_Power_p7_ok (R : K1) (hr : HR rs_ref06_Power R Q) (h : ref06_Power_p7 R (g 0) (g 3) w) : den pg ann_ref06_Power (dropS 2 code_ref06_Power) Q g w :=
  den_seqs 1 _ g w (by kernel_rfl) (ref06_Power_p6_ok (thenE (fun g w => den pg ann_ref06_Power (dropS 1 (dropS 2 code_ref06_Power)) Q g w) Q) g w (fun x_3 w => ref06_Power_p1 R x_3 w) (fun g w h => thenE_n (K := fun g w => den pg ann_ref06_Power (dropS 1 (dropS 2 code_ref06_Power)) Q g w) (ref06_Power_p1_ok Q g w R hr h)) h)

def ref06_Power_p8 (kn : K2) (n_0 : Value) (w : World) : Prop :=
  kn n_0 (.int .i64 1) w
theorem ref06_Power_p8_ok (kn : K2) (hn : ∀ g w, kn (g 0) (g 3) w → Q .normal g w) (h : ref06_Power_p8 kn (g 0) w) : den pg ann_ref06_Power (takeS 2 code_ref06_Power) Q g w :=
  den_exQ (kr := no) (l := []) (by kernel_rfl) h hn noE trivial

def ref06_Power_p9 (R : K1) (n_0 : Value) (w : World) : Prop :=
  ref06_Power_p8 (fun n_0 x_3 w => ref06_Power_p7 R n_0 x_3 w) n_0 w
theorem ref06_Power_p9_ok (R : K1) (hr : HR rs_ref06_Power R Q) (h : ref06_Power_p9 R (g 0) w) : den pg ann_ref06_Power code_ref06_Power Q g w :=
  den_seqs 2 _ g w (by kernel_rfl) (ref06_Power_p8_ok (thenE (fun g w => den pg ann_ref06_Power (dropS 2 code_ref06_Power) Q g w) Q) g w (fun n_0 x_3 w => ref06_Power_p7 R n_0 x_3 w) (fun g w h => thenE_n (K := fun g w => den pg ann_ref06_Power (dropS 2 code_ref06_Power) Q g w) (ref06_Power_p7_ok Q g w R hr h)) h)

def ref06_Power (a0 : Value) (w : World) (R : K1) : Prop :=
  ref06_Power_p9 R a0 w
theorem ref06_Power_does {a0 : Value} {w : World} {R : K1} (h : ref06_Power a0 w R) : Does pg F_ref06_Power #[a0] w R := by
  refine does_of_den (ann := ann_ref06_Power) (fn := Try.f25) (c := code_ref06_Power) (args := [a0]) (rs := rs_ref06_Power) (N := 17) TryM.mixed (by kernel_rfl) Try.func25 (by kernel_rfl) (by kernel_rfl) (by kernel_rfl) (of_decide_eq_true (by kernel_rfl)) (by kernel_rfl) ?_
  exact (ref06_Power_p9_ok (retQ pg rs_ref06_Power R) (envOf [a0]) w R (fun _ _ h => h) h)
-- PIECES ref06_Power/0 ref06_Power_p1 ref06_Power_p3 ref06_Power_p4 ref06_Power_p5 ref06_Power_p6 ref06_Power_p7 ref06_Power_p8 ref06_Power_p9
-- PIECES ref06_Power/1 ref06_Power_p2

/- lighterman/lightermanref08.log -/
def ann_ref08_log : FA := ⟨F_ref08_log, fun i => .leaf ([], []) []⟩
def rs_ref08_log : List ResultVar := [.tmp 2]
noncomputable def code_ref08_log : Code := bodyOf Try.f26
def ref08_log_p1 (R : K1)  (w : World) : Prop :=
  R (.int .i64 (-1)) w
theorem ref08_log_p1_ok (R : K1) (hr : HR rs_ref08_log R Q) (h : ref08_log_p1 R w) : den pg ann_ref08_log (dropS 1 (dropS 1 code_ref08_log)) Q g w :=
  den_exQ (kn := no) (l := []) (by kernel_rfl) h noE hr trivial

def ref08_log_p2 (kn : K2) (k0 : K0) (R : K1) (x_0 d_3 : Value) (w : World) : Prop :=
  Stp pg (sBin .lss 3 (.tmp 4) (.const (.int .i64 20)) d_3 (.int .i64 20)) w fun t5 w =>
  Cnd t5
    (Does pg F_ref06_Power #[d_3] w fun t9 w =>
    Stp pg (sBin .eql 3 (.tmp 9) (.tmp 10) t9 x_0) w fun t11 w =>
    Cnd t11
      (R d_3 w)
      (Stp pg (sBin .add 3 (.tmp 6) (.const (.int .i64 1)) d_3 (.int .i64 1)) w fun t7 w =>
      kn x_0 t7 w))
    (k0 w)
theorem ref08_log_p2_ok (kn : K2) (k0 : K0) (R : K1) (hn : ∀ g w, kn (g 0) (g 3) w → Q .normal g w) (h0 : ∀ g w, k0 w → Q (.exit 0) g w) (hr : HR rs_ref08_log R Q) (h : ref08_log_p2 kn k0 R (g 0) (g 3) w) : den pg ann_ref08_log (bI (bI (dropS 1 (takeS 1 (dropS 1 code_ref08_log))))) Q g w :=
  den_exQ (l := [(0, fun g w => k0 w)]) (by kernel_rfl) h hn hr ⟨h0, trivial⟩

def ref08_log_p3 (k0 : K0) (R : K1) (x_0 d_3 : Value) (w : World) : Prop :=
  LoopD (fun (X : Value → K0) (t : Value) (w : World) => ref08_log_p2 (fun _ d_3 w => X d_3 w) k0 R x_0 t w) d_3 w
theorem ref08_log_p3_ok (k0 : K0) (R : K1) (h0 : ∀ g w, k0 w → Q (.exit 0) g w) (hr : HR rs_ref08_log R Q) (h : ref08_log_p3 k0 R (g 0) (g 3) w) : den pg ann_ref08_log (bI (dropS 1 (takeS 1 (dropS 1 code_ref08_log)))) Q g w := by
  refine den_loops (T := Value) (fun g : Env => g 3) (fun X t w => ref08_log_p2 (fun _ d_3 w => X d_3 w) k0 R (g 0) t w) _ (by kernel_rfl) h (fun X g1 w1 ha hL => ?_)
  rw [← agree_at (s := 0) ha (by kernel_rfl)] at hL
  exact (ref08_log_p2_ok (thenE (fun g2 w2 => X ((fun g : Env => g 3) g2) w2) Q) g1 w1 (fun _ d_3 w => X d_3 w) k0 R (fun _ _ h => h) h0 hr hL)

def ref08_log_p4 (kn : K0) (R : K1) (x_0 d_3 : Value) (w : World) : Prop :=
  ref08_log_p3 kn R x_0 d_3 w
theorem ref08_log_p4_ok (kn : K0) (R : K1) (hn : ∀ g w, kn w → Q .normal g w) (hr : HR rs_ref08_log R Q) (h : ref08_log_p4 kn R (g 0) (g 3) w) : den pg ann_ref08_log (dropS 1 (takeS 1 (dropS 1 code_ref08_log))) Q g w :=
  den_blk 0 _ g w (by kernel_rfl) (ref08_log_p3_ok (blk 0 Q) g w kn R hn hr h)

def ref08_log_p5 (kn : K2) (x_0 : Value) (w : World) : Prop :=
  kn x_0 (.int .i64 0) w
theorem ref08_log_p5_ok (kn : K2) (hn : ∀ g w, kn (g 0) (g 3) w → Q .normal g w) (h : ref08_log_p5 kn (g 0) w) : den pg ann_ref08_log (takeS 1 (takeS 1 (dropS 1 code_ref08_log))) Q g w :=
  den_exQ (kr := no) (l := []) (by kernel_rfl) h hn noE trivial

def ref08_log_p6 (kn : K0) (R : K1) (x_0 : Value) (w : World) : Prop :=
  ref08_log_p5 (fun x_0 d_3 w => ref08_log_p4 kn R x_0 d_3 w) x_0 w
theorem ref08_log_p6_ok (kn : K0) (R : K1) (hn : ∀ g w, kn w → Q .normal g w) (hr : HR rs_ref08_log R Q) (h : ref08_log_p6 kn R (g 0) w) : den pg ann_ref08_log (takeS 1 (dropS 1 code_ref08_log)) Q g w :=
  den_seqs 1 _ g w (by kernel_rfl) (ref08_log_p5_ok (thenE (fun g w => den pg ann_ref08_log (dropS 1 (takeS 1 (dropS 1 code_ref08_log))) Q g w) Q) g w (fun x_0 d_3 w => ref08_log_p4 kn R x_0 d_3 w) (fun g w h => thenE_n (K := fun g w => den pg ann_ref08_log (dropS 1 (takeS 1 (dropS 1 code_ref08_log))) Q g w) (ref08_log_p4_ok Q g w kn R hn hr h)) h)

def ref08_log_p7 (R : K1) (x_0 : Value) (w : World) : Prop :=
  ref08_log_p6 (fun  w => ref08_log_p1 R w) R x_0 w
theorem ref08_log_p7_ok (R : K1) (hr : HR rs_ref08_log R Q) (h : ref08_log_p7 R (g 0) w) : den pg ann_ref08_log (dropS 1 code_ref08_log) Q g w :=
  den_seqs 1 _ g w (by kernel_rfl) (ref08_log_p6_ok (thenE (fun g w => den pg ann_ref08_log (dropS 1 (dropS 1 code_ref08_log)) Q g w) Q) g w (fun  w => ref08_log_p1 R w) R (fun g w h => thenE_n (K := fun g w => den pg ann_ref08_log (dropS 1 (dropS 1 code_ref08_log)) Q g w) (ref08_log_p1_ok Q g w R hr h)) hr h)

def ref08_log_p8 (kn : K1) (x_0 : Value) (w : World) : Prop :=
  kn x_0 w
theorem ref08_log_p8_ok (kn : K1) (hn : ∀ g w, kn (g 0) w → Q .normal g w) (h : ref08_log_p8 kn (g 0) w) : den pg ann_ref08_log (takeS 1 code_ref08_log) Q g w :=
  den_exQ (kr := no) (l := []) (by kernel_rfl) h hn noE trivial

def ref08_log_p9 (R : K1) (x_0 : Value) (w : World) : Prop :=
  ref08_log_p8 (fun x_0 w => ref08_log_p7 R x_0 w) x_0 w
theorem ref08_log_p9_ok (R : K1) (hr : HR rs_ref08_log R Q) (h : ref08_log_p9 R (g 0) w) : den pg ann_ref08_log code_ref08_log Q g w :=
  den_seqs 1 _ g w (by kernel_rfl) (ref08_log_p8_ok (thenE (fun g w => den pg ann_ref08_log (dropS 1 code_ref08_log) Q g w) Q) g w (fun x_0 w => ref08_log_p7 R x_0 w) (fun g w h => thenE_n (K := fun g w => den pg ann_ref08_log (dropS 1 code_ref08_log) Q g w) (ref08_log_p7_ok Q g w R hr h)) h)

def ref08_log (a0 : Value) (w : World) (R : K1) : Prop :=
  ref08_log_p9 R a0 w
theorem ref08_log_does {a0 : Value} {w : World} {R : K1} (h : ref08_log a0 w R) : Does pg F_ref08_log #[a0] w R := by
  refine does_of_den (ann := ann_ref08_log) (fn := Try.f26) (c := code_ref08_log) (args := [a0]) (rs := rs_ref08_log) (N := 13) TryM.mixed (by kernel_rfl) Try.func26 (by kernel_rfl) (by kernel_rfl) (by kernel_rfl) (of_decide_eq_true (by kernel_rfl)) (by kernel_rfl) ?_
  exact (ref08_log_p9_ok (retQ pg rs_ref08_log R) (envOf [a0]) w R (fun _ _ h => h) h)
-- PIECES ref08_log/0 ref08_log_p1 ref08_log_p3 ref08_log_p4 ref08_log_p5 ref08_log_p6 ref08_log_p7 ref08_log_p8 ref08_log_p9
-- PIECES ref08_log/1 ref08_log_p2

/- lighterman/weights.depth -/
def ann_weights_depth : FA := ⟨F_weights_depth, fun i => .leaf ([], []) []⟩
def rs_weights_depth : List ResultVar := [.tmp 2]
noncomputable def code_weights_depth : Code := bodyOf Try.f27
def weights_depth_p1 (R : K1) (l_0 : Value) (w : World) : Prop :=
  Does pg F_weights_worth #[l_0] w fun t8 w =>
  Stp pg (sExtr t8 0) w fun t9 w =>
  Stp pg (sExtr t8 1) w fun t10 w =>
  Stp pg (sUn .not t10) w fun t12 w =>
  Gd (isB t12 false) (fun K => K l_0 w) w fun t14 w =>
  Gd (isB t12 false) (fun K => Stp pg (sBi .len #[22] 3 [t14]) w K) w fun t15 w =>
  Gd (isB t12 false) (fun K => Stp pg (sBin .lss 3 (.tmp 15) (.const (.int .i64 2)) t15 (.int .i64 2)) w K) w fun t16 w =>
  Stp pg (sPick t12 (.bool true) t16) w fun t17 w =>
  Gd (isB t17 false) (fun K => K l_0 w) w fun t19 w =>
  Gd (isB t17 false) (fun K => Stp pg (sBi .len #[22] 3 [t19]) w K) w fun t20 w =>
  Gd (isB t17 false) (fun K => Stp pg (sBin .gtr 3 (.tmp 20) (.const (.int .i64 256)) t20 (.int .i64 256)) w K) w fun t21 w =>
  Stp pg (sPick t17 (.bool true) t21) w fun t22 w =>
  Gd (isB t22 false) (fun K => K l_0 w) w fun t24 w =>
  Gd (isB t22 false) (fun K => K l_0 w) w fun t25 w =>
  Gd (isB t22 false) (fun K => Stp pg (sBi .len #[22] 3 [t25]) w K) w fun t26 w =>
  Gd (isB t22 false) (fun K => Stp pg (sBin .sub 3 (.tmp 26) (.const (.int .i64 1)) t26 (.int .i64 1)) w K) w fun t27 w =>
  Gd (isB t22 false) (fun K => Stp pg (sIAddr 22 t24 t27) w K) w fun t28 w =>
  Gd (isB t22 false) (fun K => Stp pg (sLoad 5 t28) w K) w fun t29 w =>
  Gd (isB t22 false) (fun K => Stp pg (sBin .eql 5 (.tmp 29) (.const (.int .u8 0)) t29 (.int .u8 0)) w K) w fun t30 w =>
  Stp pg (sPick t22 (.bool true) t30) w fun t31 w =>
  Gd (isB t31 false) (fun K => K t9 w) w fun t33 w =>
  Gd (isB t31 false) (fun K => K t9 w) w fun t34 w =>
  Gd (isB t31 false) (fun K => Stp pg (sBin .sub 3 (.tmp 34) (.const (.int .i64 1)) t34 (.int .i64 1)) w K) w fun t35 w =>
  Gd (isB t31 false) (fun K => Stp pg (sBin .and 3 (.tmp 33) (.tmp 35) t33 t35) w K) w fun t36 w =>
  Gd (isB t31 false) (fun K => Stp pg (sBin .neq 3 (.tmp 36) (.const (.int .i64 0)) t36 (.int .i64 0)) w K) w fun t37 w =>
  Stp pg (sPick t31 (.bool true) t37) w fun t38 w =>
  Cnd t38
    (R (.int .i64 0) w)
    (Stp pg (sCvt 3 49 t9) w fun t40 w =>
    Does pg F_math_bits_Len #[t40] w fun t41 w =>
    Stp pg (sBin .sub 3 (.tmp 41) (.const (.int .i64 1)) t41 (.int .i64 1)) w fun t42 w =>
    Stp pg (sBin .gtr 3 (.tmp 43) (.const (.int .i64 11)) t42 (.int .i64 11)) w fun t44 w =>
    Gd (isB t44 false) (fun K => K l_0 w) w fun t46 w =>
    Gd (isB t44 false) (fun K => Does pg F_slices_Max_inst_36 #[t46] w K) w fun t47 w =>
    Gd (isB t44 false) (fun K => Stp pg (sCvt 5 3 t47) w K) w fun t48 w =>
    Gd (isB t44 false) (fun K => K t42 w) w fun t49 w =>
    Gd (isB t44 false) (fun K => Stp pg (sBin .gtr 3 (.tmp 48) (.tmp 49) t48 t49) w K) w fun t50 w =>
    Stp pg (sPick t44 (.bool true) t50) w fun t51 w =>
    Cnd t51
      (R (.int .i64 0) w)
      (R t42 w))
theorem weights_depth_p1_ok (R : K1) (hr : HR rs_weights_depth R Q) (h : weights_depth_p1 R (g 0) w) : den pg ann_weights_depth code_weights_depth Q g w :=
  den_exQ (kn := no) (l := []) (by kernel_rfl) h noE hr trivial

def weights_depth (a0 : Value) (w : World) (R : K1) : Prop :=
  weights_depth_p1 R a0 w
theorem weights_depth_does {a0 : Value} {w : World} {R : K1} (h : weights_depth a0 w R) : Does pg F_weights_depth #[a0] w R := by
  refine does_of_den (ann := ann_weights_depth) (fn := Try.f27) (c := code_weights_depth) (args := [a0]) (rs := rs_weights_depth) (N := 53) TryM.mixed (by kernel_rfl) Try.func27 (by kernel_rfl) (by kernel_rfl) (by kernel_rfl) (of_decide_eq_true (by kernel_rfl)) (by kernel_rfl) ?_
  exact (weights_depth_p1_ok (retQ pg rs_weights_depth R) (envOf [a0]) w R (fun _ _ h => h) h)
-- PIECES weights_depth/0 weights_depth_p1

/- lighterman/weights.halves -/
def ann_weights_halves : FA := ⟨F_weights_halves, fun i => .leaf ([], []) []⟩
def rs_weights_halves : List ResultVar := [.tmp 4, .tmp 5]
noncomputable def code_weights_halves : Code := bodyOf Try.f28
def weights_halves_p1 (R : K1) (out_6 : Value) (w : World) : Prop :=
  R (.tuple #[out_6, (.int .i64 0)]) w
theorem weights_halves_p1_ok (R : K1) (hr : HR rs_weights_halves R Q) (h : weights_halves_p1 R (g 6) w) : den pg ann_weights_halves (dropS 1 (dropS 3 code_weights_halves)) Q g w :=
  den_exQ (kn := no) (l := []) (by kernel_rfl) h noE hr trivial

def weights_halves_p2 (kn : K4) (b_0 out_6 t15 t16 : Value) (w : World) : Prop :=
  Stp pg (sBin .add 3 (.tmp 16) (.const (.int .i64 1)) t16 (.int .i64 1)) w fun t34 w =>
  kn b_0 out_6 t15 t34 w
theorem weights_halves_p2_ok (kn : K4) (hn : ∀ g w, kn (g 0) (g 6) (g 15) (g 16) w → Q .normal g w) (h : weights_halves_p2 kn (g 0) (g 6) (g 15) (g 16) w) : den pg ann_weights_halves (dropS 1 (dropS 2 (bI (bI (dropS 1 (takeS 1 (dropS 3 code_weights_halves))))))) Q g w :=
  den_exQ (kr := no) (l := []) (by kernel_rfl) h hn noE trivial

def weights_halves_p3 (kn : K4) (b_0 out_6 c_8 t15 t16 : Value) (w : World) : Prop :=
  Stp pg (sBin .and 5 (.tmp 30) (.const (.int .u8 15)) c_8 (.int .u8 15)) w fun t31 w =>
  Stp pg (sBuildSlice 22 1 [(0, t31)]) w fun t32 w =>
  Stp pg (sBi .append #[22, 22] 22 [out_6, t32]) w fun t33 w =>
  kn b_0 t33 t15 t16 w
theorem weights_halves_p3_ok (kn : K4) (hn : ∀ g w, kn (g 0) (g 6) (g 15) (g 16) w → Q .normal g w) (h : weights_halves_p3 kn (g 0) (g 6) (g 8) (g 15) (g 16) w) : den pg ann_weights_halves (dropS 3 (bI (takeS 1 (dropS 2 (bI (bI (dropS 1 (takeS 1 (dropS 3 code_weights_halves))))))))) Q g w :=
  den_exQ (kr := no) (l := []) (by kernel_rfl) h hn noE trivial

def weights_halves_p4 (kn : K5) (b_0 out_6 t15 t16 : Value) (w : World) : Prop :=
  Stp pg (sBin .quo 3 (.tmp 20) (.const (.int .i64 2)) t16 (.int .i64 2)) w fun t21 w =>
  Stp pg (sIAddr 22 b_0 t21) w fun t22 w =>
  Stp pg (sLoad 5 t22) w fun t23 w =>
  Stp pg (sBin .rem 3 (.tmp 24) (.const (.int .i64 2)) t16 (.int .i64 2)) w fun t25 w =>
  Stp pg (sBin .eql 3 (.tmp 25) (.const (.int .i64 0)) t25 (.int .i64 0)) w fun t26 w =>
  Cnd t26
    (Stp pg (sBin .shr 5 (.tmp 27) (.const (.int .u64 4)) t23 (.int .u64 4)) w fun t28 w =>
    kn b_0 out_6 t28 t15 t16 w)
    (kn b_0 out_6 t23 t15 t16 w)
theorem weights_halves_p4_ok (kn : K5) (hn : ∀ g w, kn (g 0) (g 6) (g 8) (g 15) (g 16) w → Q .normal g w) (h : weights_halves_p4 kn (g 0) (g 6) (g 15) (g 16) w) : den pg ann_weights_halves (takeS 3 (bI (takeS 1 (dropS 2 (bI (bI (dropS 1 (takeS 1 (dropS 3 code_weights_halves))))))))) Q g w :=
  den_exQ (kr := no) (l := []) (by kernel_rfl) h hn noE trivial

def weights_halves_p5 (kn : K4) (b_0 out_6 t15 t16 : Value) (w : World) : Prop :=
  weights_halves_p4 (fun b_0 out_6 c_8 t15 t16 w => weights_halves_p3 kn b_0 out_6 c_8 t15 t16 w) b_0 out_6 t15 t16 w
theorem weights_halves_p5_ok (kn : K4) (hn : ∀ g w, kn (g 0) (g 6) (g 15) (g 16) w → Q .normal g w) (h : weights_halves_p5 kn (g 0) (g 6) (g 15) (g 16) w) : den pg ann_weights_halves (bI (takeS 1 (dropS 2 (bI (bI (dropS 1 (takeS 1 (dropS 3 code_weights_halves)))))))) Q g w :=
  den_seqs 3 _ g w (by kernel_rfl) (weights_halves_p4_ok (thenE (fun g w => den pg ann_weights_halves (dropS 3 (bI (takeS 1 (dropS 2 (bI (bI (dropS 1 (takeS 1 (dropS 3 code_weights_halves))))))))) Q g w) Q) g w (fun b_0 out_6 c_8 t15 t16 w => weights_halves_p3 kn b_0 out_6 c_8 t15 t16 w) (fun g w h => thenE_n (K := fun g w => den pg ann_weights_halves (dropS 3 (bI (takeS 1 (dropS 2 (bI (bI (dropS 1 (takeS 1 (dropS 3 code_weights_halves))))))))) Q g w) (weights_halves_p3_ok Q g w kn hn h)) h)

def weights_halves_p6 (kn : K4) (b_0 out_6 t15 t16 : Value) (w : World) : Prop :=
  weights_halves_p5 kn b_0 out_6 t15 t16 w
theorem weights_halves_p6_ok (kn : K4) (hn : ∀ g w, kn (g 0) (g 6) (g 15) (g 16) w → Q .normal g w) (h : weights_halves_p6 kn (g 0) (g 6) (g 15) (g 16) w) : den pg ann_weights_halves (takeS 1 (dropS 2 (bI (bI (dropS 1 (takeS 1 (dropS 3 code_weights_halves))))))) Q g w :=
  den_blk 1 _ g w (by kernel_rfl) (weights_halves_p5_ok (blk 1 Q) g w kn hn h)

def weights_halves_p7 (kn : K4) (b_0 out_6 t15 t16 : Value) (w : World) : Prop :=
  weights_halves_p6 (fun b_0 out_6 t15 t16 w => weights_halves_p2 kn b_0 out_6 t15 t16 w) b_0 out_6 t15 t16 w
theorem weights_halves_p7_ok (kn : K4) (hn : ∀ g w, kn (g 0) (g 6) (g 15) (g 16) w → Q .normal g w) (h : weights_halves_p7 kn (g 0) (g 6) (g 15) (g 16) w) : den pg ann_weights_halves (dropS 2 (bI (bI (dropS 1 (takeS 1 (dropS 3 code_weights_halves)))))) Q g w :=
  den_seqs 1 _ g w (by kernel_rfl) (weights_halves_p6_ok (thenE (fun g w => den pg ann_weights_halves (dropS 1 (dropS 2 (bI (bI (dropS 1 (takeS 1 (dropS 3 code_weights_halves))))))) Q g w) Q) g w (fun b_0 out_6 t15 t16 w => weights_halves_p2 kn b_0 out_6 t15 t16 w) (fun g w h => thenE_n (K := fun g w => den pg ann_weights_halves (dropS 1 (dropS 2 (bI (bI (dropS 1 (takeS 1 (dropS 3 code_weights_halves))))))) Q g w) (weights_halves_p2_ok Q g w kn hn h)) h)

def weights_halves_p8 (kn : K4) (k0 : K1) (b_0 out_6 t15 t16 : Value) (w : World) : Prop :=
  Stp pg (sBin .lss 3 (.tmp 16) (.tmp 15) t16 t15) w fun t17 w =>
  Cnd t17
    (kn b_0 out_6 t15 t16 w)
    (k0 out_6 w)
theorem weights_halves_p8_ok (kn : K4) (k0 : K1) (hn : ∀ g w, kn (g 0) (g 6) (g 15) (g 16) w → Q .normal g w) (h0 : ∀ g w, k0 (g 6) w → Q (.exit 0) g w) (h : weights_halves_p8 kn k0 (g 0) (g 6) (g 15) (g 16) w) : den pg ann_weights_halves (takeS 2 (bI (bI (dropS 1 (takeS 1 (dropS 3 code_weights_halves)))))) Q g w :=
  den_exQ (kr := no) (l := [(0, fun g w => k0 (g 6) w)]) (by kernel_rfl) h hn noE ⟨h0, trivial⟩

def weights_halves_p9 (kn : K4) (k0 : K1) (b_0 out_6 t15 t16 : Value) (w : World) : Prop :=
  weights_halves_p8 (fun b_0 out_6 t15 t16 w => weights_halves_p7 kn b_0 out_6 t15 t16 w) k0 b_0 out_6 t15 t16 w
theorem weights_halves_p9_ok (kn : K4) (k0 : K1) (hn : ∀ g w, kn (g 0) (g 6) (g 15) (g 16) w → Q .normal g w) (h0 : ∀ g w, k0 (g 6) w → Q (.exit 0) g w) (h : weights_halves_p9 kn k0 (g 0) (g 6) (g 15) (g 16) w) : den pg ann_weights_halves (bI (bI (dropS 1 (takeS 1 (dropS 3 code_weights_halves))))) Q g w :=
  den_seqs 2 _ g w (by kernel_rfl) (weights_halves_p8_ok (thenE (fun g w => den pg ann_weights_halves (dropS 2 (bI (bI (dropS 1 (takeS 1 (dropS 3 code_weights_halves)))))) Q g w) Q) g w (fun b_0 out_6 t15 t16 w => weights_halves_p7 kn b_0 out_6 t15 t16 w) k0 (fun g w h => thenE_n (K := fun g w => den pg ann_weights_halves (dropS 2 (bI (bI (dropS 1 (takeS 1 (dropS 3 code_weights_halves)))))) Q g w) (weights_halves_p7_ok Q g w kn hn h)) h0 h)

def weights_halves_p10 (k0 : K1) (b_0 out_6 t15 t16 : Value) (w : World) : Prop :=
  LoopD (fun (X : (Value × Value) → K0) (t : Value × Value) (w : World) => weights_halves_p9 (fun _ out_6 _ t16 w => X (out_6, t16) w) k0 b_0 t.1 t15 t.2 w) (out_6, t16) w
theorem weights_halves_p10_ok (k0 : K1) (h0 : ∀ g w, k0 (g 6) w → Q (.exit 0) g w) (h : weights_halves_p10 k0 (g 0) (g 6) (g 15) (g 16) w) : den pg ann_weights_halves (bI (dropS 1 (takeS 1 (dropS 3 code_weights_halves)))) Q g w := by
  refine den_loops (T := Value × Value) (fun g : Env => (g 6, g 16)) (fun X t w => weights_halves_p9 (fun _ out_6 _ t16 w => X (out_6, t16) w) k0 (g 0) t.1 (g 15) t.2 w) _ (by kernel_rfl) h (fun X g1 w1 ha hL => ?_)
  rw [← agree_at (s := 0) ha (by kernel_rfl)] at hL
  rw [← agree_at (s := 15) ha (by kernel_rfl)] at hL
  exact (weights_halves_p9_ok (thenE (fun g2 w2 => X ((fun g : Env => (g 6, g 16)) g2) w2) Q) g1 w1 (fun _ out_6 _ t16 w => X (out_6, t16) w) k0 (fun _ _ h => h) h0 hL)

def weights_halves_p11 (kn : K1) (b_0 out_6 t15 t16 : Value) (w : World) : Prop :=
  weights_halves_p10 kn b_0 out_6 t15 t16 w
theorem weights_halves_p11_ok (kn : K1) (hn : ∀ g w, kn (g 6) w → Q .normal g w) (h : weights_halves_p11 kn (g 0) (g 6) (g 15) (g 16) w) : den pg ann_weights_halves (dropS 1 (takeS 1 (dropS 3 code_weights_halves))) Q g w :=
  den_blk 0 _ g w (by kernel_rfl) (weights_halves_p10_ok (blk 0 Q) g w kn hn h)

def weights_halves_p12 (kn : K4) (b_0 n_1 out_6 : Value) (w : World) : Prop :=
  kn b_0 out_6 n_1 (.int .i64 0) w
theorem weights_halves_p12_ok (kn : K4) (hn : ∀ g w, kn (g 0) (g 6) (g 15) (g 16) w → Q .normal g w) (h : weights_halves_p12 kn (g 0) (g 1) (g 6) w) : den pg ann_weights_halves (takeS 1 (takeS 1 (dropS 3 code_weights_halves))) Q g w :=
  den_exQ (kr := no) (l := []) (by kernel_rfl) h hn noE trivial

def weights_halves_p13 (kn : K1) (b_0 n_1 out_6 : Value) (w : World) : Prop :=
  weights_halves_p12 (fun b_0 out_6 t15 t16 w => weights_halves_p11 kn b_0 out_6 t15 t16 w) b_0 n_1 out_6 w
theorem weights_halves_p13_ok (kn : K1) (hn : ∀ g w, kn (g 6) w → Q .normal g w) (h : weights_halves_p13 kn (g 0) (g 1) (g 6) w) : den pg ann_weights_halves (takeS 1 (dropS 3 code_weights_halves)) Q g w :=
  den_seqs 1 _ g w (by kernel_rfl) (weights_halves_p12_ok (thenE (fun g w => den pg ann_weights_halves (dropS 1 (takeS 1 (dropS 3 code_weights_halves))) Q g w) Q) g w (fun b_0 out_6 t15 t16 w => weights_halves_p11 kn b_0 out_6 t15 t16 w) (fun g w h => thenE_n (K := fun g w => den pg ann_weights_halves (dropS 1 (takeS 1 (dropS 3 code_weights_halves))) Q g w) (weights_halves_p11_ok Q g w kn hn h)) h)

def weights_halves_p14 (R : K1) (b_0 n_1 out_6 : Value) (w : World) : Prop :=
  weights_halves_p13 (fun out_6 w => weights_halves_p1 R out_6 w) b_0 n_1 out_6 w
theorem weights_halves_p14_ok (R : K1) (hr : HR rs_weights_halves R Q) (h : weights_halves_p14 R (g 0) (g 1) (g 6) w) : den pg ann_weights_halves (dropS 3 code_weights_halves) Q g w :=
  den_seqs 1 _ g w (by kernel_rfl) (weights_halves_p13_ok (thenE (fun g w => den pg ann_weights_halves (dropS 1 (dropS 3 code_weights_halves)) Q g w) Q) g w (fun out_6 w => weights_halves_p1 R out_6 w) (fun g w h => thenE_n (K := fun g w => den pg ann_weights_halves (dropS 1 (dropS 3 code_weights_halves)) Q g w) (weights_halves_p1_ok Q g w R hr h)) h)

def weights_halves_p15 (kn : K3) (R : K1) (b_0 n_1 : Value) (w : World) : Prop :=
  Stp pg (sBi .len #[22] 3 [b_0]) w fun t10 w =>
  Stp pg (sBin .add 3 (.tmp 11) (.const (.int .i64 1)) n_1 (.int .i64 1)) w fun t12 w =>
  Stp pg (sBin .quo 3 (.tmp 12) (.const (.int .i64 2)) t12 (.int .i64 2)) w fun t13 w =>
  Stp pg (sBin .lss 3 (.tmp 10) (.tmp 13) t10 t13) w fun t14 w =>
  Cnd t14
    (R (.tuple #[(.slice none 0 0), (.int .i64 10)]) w)
    (kn b_0 n_1 (.slice none 0 0) w)
theorem weights_halves_p15_ok (kn : K3) (R : K1) (hn : ∀ g w, kn (g 0) (g 1) (g 6) w → Q .normal g w) (hr : HR rs_weights_halves R Q) (h : weights_halves_p15 kn R (g 0) (g 1) w) : den pg ann_weights_halves (takeS 3 code_weights_halves) Q g w :=
  den_exQ (l := []) (by kernel_rfl) h hn hr trivial

def weights_halves_p16 (R : K1) (b_0 n_1 : Value) (w : World) : Prop :=
  weights_halves_p15 (fun b_0 n_1 out_6 w => weights_halves_p14 R b_0 n_1 out_6 w) R b_0 n_1 w
theorem weights_halves_p16_ok (R : K1) (hr : HR rs_weights_halves R Q) (h : weights_halves_p16 R (g 0) (g 1) w) : den pg ann_weights_halves code_weights_halves Q g w :=
  den_seqs 3 _ g w (by kernel_rfl) (weights_halves_p15_ok (thenE (fun g w => den pg ann_weights_halves (dropS 3 code_weights_halves) Q g w) Q) g w (fun b_0 n_1 out_6 w => weights_halves_p14 R b_0 n_1 out_6 w) R (fun g w h => thenE_n (K := fun g w => den pg ann_weights_halves (dropS 3 code_weights_halves) Q g w) (weights_halves_p14_ok Q g w R hr h)) hr h)

def weights_halves (a0 a1 : Value) (w : World) (R : K1) : Prop :=
  weights_halves_p16 R a0 a1 w
theorem weights_halves_does {a0 a1 : Value} {w : World} {R : K1} (h : weights_halves a0 a1 w R) : Does pg F_weights_halves #[a0, a1] w R := by
  refine does_of_den (ann := ann_weights_halves) (fn := Try.f28) (c := code_weights_halves) (args := [a0, a1]) (rs := rs_weights_halves) (N := 36) TryM.mixed (by kernel_rfl) Try.func28 (by kernel_rfl) (by kernel_rfl) (by kernel_rfl) (of_decide_eq_true (by kernel_rfl)) (by kernel_rfl) ?_
  exact (weights_halves_p16_ok (retQ pg rs_weights_halves R) (envOf [a0, a1]) w R (fun _ _ h => h) h)
-- PIECES weights_halves/0 weights_halves_p1 weights_halves_p10 weights_halves_p11 weights_halves_p12 weights_halves_p13 weights_halves_p14 weights_halves_p15 weights_halves_p16
-- PIECES weights_halves/1 weights_halves_p2 weights_halves_p3 weights_halves_p4 weights_halves_p5 weights_halves_p6 weights_halves_p7 weights_halves_p8 weights_halves_p9

end Go.Proofs.Ytoepfjgekpdddaa

/- The pieces of bodies, written by a program of ours off the loaded code, each with its proof. -/
import Derived.Test.YtcbkdccobhkbpaaF
namespace Go.Proofs.Ytcbkdccobhkbpaa
open Go Go.En
set_option linter.unusedVariables false
set_option maxRecDepth 20000
attribute [local irreducible] Go.En.den

/- lighterman/lightermanlaw07.FseBuilds -/
def ann_law07_FseBuilds : FA := ⟨F_law07_FseBuilds, fun i => .leaf ([], []) []⟩
def rs_law07_FseBuilds : List ResultVar := [.tmp 2]
noncomputable def code_law07_FseBuilds : Code := bodyOf Try.f3
def law07_FseBuilds_p1 (R : Value → World → Prop) (c_0 : Value) (w : World) : Prop :=
  Stp pg (sBox 24 c_0) w fun c_1 w =>
  Does pg F_law07_awake #[] w fun t8 w =>
  Stp pg (sUn .not t8) w fun t10 w =>
  Cnd t10
    (R (.bool false) w)
    (Stp pg (sFAddr 24 c_1 1) w fun t11 w =>
    Stp pg (sLoad 22 t11) w fun t12 w =>
    Stp pg (sBi .len #[22] 3 [t12]) w fun t13 w =>
    Stp pg (sBin .gtr 3 (.tmp 13) (.const (.int .i64 300)) t13 (.int .i64 300)) w fun t14 w =>
    Gd (isB t14 false) (fun K => Stp pg (sFAddr 24 c_1 0) w K) w fun t16 w =>
    Gd (isB t14 false) (fun K => Stp pg (sLoad 3 t16) w K) w fun t17 w =>
    Gd (isB t14 false) (fun K => Stp pg (sBin .gtr 3 (.tmp 17) (.const (.int .i64 10)) t17 (.int .i64 10)) w K) w fun t18 w =>
    Gd (isB t14 false) (fun K => K t18 w) w fun t19 w =>
    Gd (isB t19 true) (fun K => Stp pg (sFAddr 24 c_1 0) w K) w fun t20 w =>
    Gd (isB t19 true) (fun K => Stp pg (sLoad 3 t20) w K) w fun t21 w =>
    Gd (isB t19 true) (fun K => Stp pg (sBin .leq 3 (.tmp 21) (.const (.int .i64 15)) t21 (.int .i64 15)) w K) w fun t22 w =>
    Gd (isB t14 false) (fun K => Stp pg (sPick t19 t22 (.bool false)) w K) w fun t23 w =>
    Stp pg (sPick t14 (.bool true) t23) w fun t24 w =>
    Cnd t24
      (R (.bool true) w)
      (Stp pg (sLoad 24 c_1) w fun t26 w =>
      Does pg F_fse_Build #[t26] w fun t27 w =>
      Stp pg (sExtr t27 0) w fun t28 w =>
      Stp pg (sExtr t27 1) w fun t29 w =>
      Stp pg (sAlloc 28) w fun t4 w =>
      Stp pg (sStore 28 t4 t28) w fun _u w =>
      Stp pg (sLoad 24 c_1) w fun t31 w =>
      Does pg F_law07_modelOf #[t31] w fun t32 w =>
      Does pg F_ref07_Build #[t32] w fun t33 w =>
      Stp pg (sExtr t33 0) w fun t34 w =>
      Stp pg (sExtr t33 1) w fun t35 w =>
      Stp pg (sAlloc 34) w fun w_6 w =>
      Stp pg (sStore 34 w_6 t34) w fun _u w =>
      Stp pg (sBin .eql 29 (.tmp 36) (.tmp 37) t29 t35) w fun t38 w =>
      Gd (isB t38 true) (fun K => Stp pg (sLoad 28 t4) w K) w fun t40 w =>
      Gd (isB t38 true) (fun K => Stp pg (sLoad 34 w_6) w K) w fun t41 w =>
      Gd (isB t38 true) (fun K => Does pg F_law07_sameTable #[t40, t41] w K) w fun t42 w =>
      Stp pg (sPick t38 t42 (.bool false)) w fun t43 w =>
      R t43 w))
theorem law07_FseBuilds_p1_ok (Q : Exit → Env → World → Prop) (g : Env) (w : World) (R : Value → World → Prop) (hr : ∀ g w, (resVals pg rs_law07_FseBuilds g w fun vs => R (tup vs) w) → Q .ret g w) (h : law07_FseBuilds_p1 R (g 0) w) : den pg ann_law07_FseBuilds code_law07_FseBuilds Q g w := by
  have e : (law07_FseBuilds_p1 R (g 0) w) = den pg ann_law07_FseBuilds code_law07_FseBuilds (exQ (fun _ _ => False) (fun g w => resVals pg rs_law07_FseBuilds g w fun vs => R (tup vs) w) []) g w := by kernel_rfl
  exact den_exQ e h (fun _ _ h => h.elim) hr trivial

def law07_FseBuilds (a0 : Value) (w : World) (R : Value → World → Prop) : Prop :=
  law07_FseBuilds_p1 R a0 w
theorem law07_FseBuilds_does {a0 : Value} {w : World} {R : Value → World → Prop} (h : law07_FseBuilds a0 w R) : Does pg F_law07_FseBuilds #[a0] w R := by
  refine does_of_den (ann := ann_law07_FseBuilds) (fn := Try.f3) (c := code_law07_FseBuilds) (args := [a0]) (rs := rs_law07_FseBuilds) (N := 44) TryM.mixed (by kernel_rfl) Try.func3 (by kernel_rfl) (by kernel_rfl) (by kernel_rfl) (of_decide_eq_true (by kernel_rfl)) (by kernel_rfl) ?_
  exact (law07_FseBuilds_p1_ok (retQ pg rs_law07_FseBuilds R) (envOf [a0]) w R (fun _ _ h => h) h)
-- PIECES law07_FseBuilds/0 law07_FseBuilds_p1

/- lighterman/lightermanlaw07.FseParts -/
def ann_law07_FseParts : FA := ⟨F_law07_FseParts, fun i => match Nat.beq i 21 with | true => .leaf ([], []) [(false, []), (false, []), (false, []), (false, []), (false, []), (false, []), (false, []), (false, []), (false, []), (false, []), (false, []), (false, []), (false, []), (false, []), (false, []), (false, []), (false, []), (false, []), (false, []), (false, []), (false, []), (false, []), (false, []), (false, []), (false, []), (false, []), (false, []), (false, []), (false, [])] | false => .leaf ([], []) []⟩
def rs_law07_FseParts : List ResultVar := [.tmp 2]
noncomputable def code_law07_FseParts : Code := bodyOf Try.f4
def law07_FseParts_p1 (R : Value → World → Prop)  (w : World) : Prop :=
  R (.bool true) w
theorem law07_FseParts_p1_ok (Q : Exit → Env → World → Prop) (g : Env) (w : World) (R : Value → World → Prop) (hr : ∀ g w, (resVals pg rs_law07_FseParts g w fun vs => R (tup vs) w) → Q .ret g w) (h : law07_FseParts_p1 R w) : den pg ann_law07_FseParts (dropS 1 (dropS 1 (dropS 1 (dropS 7 code_law07_FseParts)))) Q g w := by
  have e : (law07_FseParts_p1 R w) = den pg ann_law07_FseParts (dropS 1 (dropS 1 (dropS 1 (dropS 7 code_law07_FseParts)))) (exQ (fun _ _ => False) (fun g w => resVals pg rs_law07_FseParts g w fun vs => R (tup vs) w) []) g w := by kernel_rfl
  exact den_exQ e h (fun _ _ h => h.elim) hr trivial

def law07_FseParts_p2 (kn : Value → Value → Value → Value → Value → World → Prop) (c_1 t4 n_6 t8 s_9 : Value) (w : World) : Prop :=
  Stp pg (sBin .add 3 (.tmp 60) (.const (.int .i64 1)) s_9 (.int .i64 1)) w fun t61 w =>
  kn c_1 t4 n_6 t8 t61 w
theorem law07_FseParts_p2_ok (Q : Exit → Env → World → Prop) (g : Env) (w : World) (kn : Value → Value → Value → Value → Value → World → Prop) (hn : ∀ g w, kn (g 1) (g 4) (g 6) (g 8) (g 9) w → Q .normal g w) (h : law07_FseParts_p2 kn (g 1) (g 4) (g 6) (g 8) (g 9) w) : den pg ann_law07_FseParts (dropS 1 (dropS 1 (bI (bI (dropS 1 (takeS 1 (dropS 1 (dropS 1 (dropS 7 code_law07_FseParts))))))))) Q g w := by
  have e : (law07_FseParts_p2 kn (g 1) (g 4) (g 6) (g 8) (g 9) w) = den pg ann_law07_FseParts (dropS 1 (dropS 1 (bI (bI (dropS 1 (takeS 1 (dropS 1 (dropS 1 (dropS 7 code_law07_FseParts))))))))) (exQ (fun g w => kn (g 1) (g 4) (g 6) (g 8) (g 9) w) (fun _ _ => False) []) g w := by kernel_rfl
  exact den_exQ e h hn (fun _ _ h => h.elim) trivial

def law07_FseParts_p3 (kn : Value → Value → Value → Value → Value → World → Prop) (R : Value → World → Prop) (c_1 t4 n_6 t8 s_9 want_10 : Value) (w : World) : Prop :=
  Stp pg (sIAddr 41 n_6 s_9) w fun t101 w =>
  Stp pg (sLoad 3 t101) w fun t102 w =>
  Stp pg (sBin .neq 3 (.tmp 102) (.tmp 103) t102 want_10) w fun t104 w =>
  Cnd t104
    (R (.bool false) w)
    (kn c_1 t4 n_6 t8 s_9 w)
theorem law07_FseParts_p3_ok (Q : Exit → Env → World → Prop) (g : Env) (w : World) (kn : Value → Value → Value → Value → Value → World → Prop) (R : Value → World → Prop) (hn : ∀ g w, kn (g 1) (g 4) (g 6) (g 8) (g 9) w → Q .normal g w) (hr : ∀ g w, (resVals pg rs_law07_FseParts g w fun vs => R (tup vs) w) → Q .ret g w) (h : law07_FseParts_p3 kn R (g 1) (g 4) (g 6) (g 8) (g 9) (g 10) w) : den pg ann_law07_FseParts (dropS 2 (bI (takeS 1 (dropS 1 (bI (bI (dropS 1 (takeS 1 (dropS 1 (dropS 1 (dropS 7 code_law07_FseParts))))))))))) Q g w := by
  have e : (law07_FseParts_p3 kn R (g 1) (g 4) (g 6) (g 8) (g 9) (g 10) w) = den pg ann_law07_FseParts (dropS 2 (bI (takeS 1 (dropS 1 (bI (bI (dropS 1 (takeS 1 (dropS 1 (dropS 1 (dropS 7 code_law07_FseParts))))))))))) (exQ (fun g w => kn (g 1) (g 4) (g 6) (g 8) (g 9) w) (fun g w => resVals pg rs_law07_FseParts g w fun vs => R (tup vs) w) []) g w := by kernel_rfl
  exact den_exQ e h hn hr trivial

def law07_FseParts_p4 (kn : Value → Value → Value → Value → Value → Value → World → Prop) (R : Value → World → Prop) (c_1 t4 n_6 t8 s_9 : Value) (w : World) : Prop :=
  Stp pg (sFAddr 24 c_1 1) w fun t62 w =>
  Stp pg (sLoad 22 t62) w fun t63 w =>
  Stp pg (sIAddr 22 t63 s_9) w fun t65 w =>
  Stp pg (sLoad 3 t65) w fun t66 w =>
  Stp pg (sBin .lss 3 (.tmp 67) (.const (.int .i64 0)) t66 (.int .i64 0)) w fun t68 w =>
  Cnd t68
    (Stp pg (sFAddr 28 t4 1) (dr w) fun t69 w_ => w_ = (dr w) ∧
    Stp pg (sLoad 26 t69) (dr w) fun t70 w_ => w_ = (dr w) ∧
    (dr w) = (dr w) ∧
    Stp pg (sIAddr 26 t70 t8) (dr w) fun t72 w_ => w_ = (dr w) ∧
    Stp pg (sFAddr 43 t72 0) (dr w) fun t73 w_ => w_ = (dr w) ∧
    Stp pg (sLoad 5 t73) (dr w) fun t74 w_ => w_ = (dr w) ∧
    Stp pg (sCvt 5 3 t74) (dr w) fun t75 w_ => w_ = (dr w) ∧
    (dr w) = (dr w) ∧
    Stp pg (sBin .neq 3 (.tmp 75) (.tmp 76) t75 s_9) (dr w) fun t77 w_ => w_ = (dr w) ∧
    (dr w) = (dr w) ∧
    Gd (isB t77 false) (fun K => Stp pg (sFAddr 28 t4 1) (dr w) K) (dr w) fun t79 w_ => w_ = (dr w) ∧
    Gd (isB t77 false) (fun K => Stp pg (sLoad 26 t79) (dr w) K) (dr w) fun t80 w_ => w_ = (dr w) ∧
    Gd (isB t77 false) (fun K => K t8 (dr w)) (dr w) fun t81 w_ => w_ = (dr w) ∧
    Gd (isB t77 false) (fun K => Stp pg (sIAddr 26 t80 t81) (dr w) K) (dr w) fun t82 w_ => w_ = (dr w) ∧
    Gd (isB t77 false) (fun K => Stp pg (sFAddr 43 t82 1) (dr w) K) (dr w) fun t83 w_ => w_ = (dr w) ∧
    Gd (isB t77 false) (fun K => Stp pg (sLoad 3 t83) (dr w) K) (dr w) fun t84 w_ => w_ = (dr w) ∧
    Gd (isB t77 false) (fun K => Stp pg (sFAddr 28 t4 0) (dr w) K) (dr w) fun t85 w_ => w_ = (dr w) ∧
    Gd (isB t77 false) (fun K => Stp pg (sLoad 3 t85) (dr w) K) (dr w) fun t86 w_ => w_ = (dr w) ∧
    Gd (isB t77 false) (fun K => Stp pg (sBin .neq 3 (.tmp 84) (.tmp 86) t84 t86) (dr w) K) (dr w) fun t87 w_ => w_ = (dr w) ∧
    Stp pg (sPick t77 (.bool true) t87) (dr w) fun t88 w_ => w_ = (dr w) ∧
    (dr w) = (dr w) ∧
    Gd (isB t88 false) (fun K => Stp pg (sFAddr 28 t4 1) (dr w) K) (dr w) fun t90 w_ => w_ = (dr w) ∧
    Gd (isB t88 false) (fun K => Stp pg (sLoad 26 t90) (dr w) K) (dr w) fun t91 w_ => w_ = (dr w) ∧
    Gd (isB t88 false) (fun K => K t8 (dr w)) (dr w) fun t92 w_ => w_ = (dr w) ∧
    Gd (isB t88 false) (fun K => Stp pg (sIAddr 26 t91 t92) (dr w) K) (dr w) fun t93 w_ => w_ = (dr w) ∧
    Gd (isB t88 false) (fun K => Stp pg (sFAddr 43 t93 2) (dr w) K) (dr w) fun t94 w_ => w_ = (dr w) ∧
    Gd (isB t88 false) (fun K => Stp pg (sLoad 3 t94) (dr w) K) (dr w) fun t95 w_ => w_ = (dr w) ∧
    Gd (isB t88 false) (fun K => Stp pg (sBin .neq 3 (.tmp 95) (.const (.int .i64 0)) t95 (.int .i64 0)) (dr w) K) (dr w) fun t96 w_ => w_ = (dr w) ∧
    Stp pg (sPick t88 (.bool true) t96) (dr w) fun t97 w_ => w_ = (dr w) ∧
    Cnd t97
      (R (.bool false) (dr w))
      (Stp pg (sBin .sub 3 (.tmp 98) (.const (.int .i64 1)) t8 (.int .i64 1)) (dr w) fun t99 w =>
      kn c_1 t4 n_6 t99 s_9 (.int .i64 1) w))
    (kn c_1 t4 n_6 t8 s_9 t66 w)
theorem law07_FseParts_p4_ok (Q : Exit → Env → World → Prop) (g : Env) (w : World) (kn : Value → Value → Value → Value → Value → Value → World → Prop) (R : Value → World → Prop) (hn : ∀ g w, kn (g 1) (g 4) (g 6) (g 8) (g 9) (g 10) w → Q .normal g w) (hr : ∀ g w, (resVals pg rs_law07_FseParts g w fun vs => R (tup vs) w) → Q .ret g w) (h : law07_FseParts_p4 kn R (g 1) (g 4) (g 6) (g 8) (g 9) w) : den pg ann_law07_FseParts (takeS 2 (bI (takeS 1 (dropS 1 (bI (bI (dropS 1 (takeS 1 (dropS 1 (dropS 1 (dropS 7 code_law07_FseParts))))))))))) Q g w := by
  have e : (law07_FseParts_p4 kn R (g 1) (g 4) (g 6) (g 8) (g 9) w) = den pg ann_law07_FseParts (takeS 2 (bI (takeS 1 (dropS 1 (bI (bI (dropS 1 (takeS 1 (dropS 1 (dropS 1 (dropS 7 code_law07_FseParts))))))))))) (exQ (fun g w => kn (g 1) (g 4) (g 6) (g 8) (g 9) (g 10) w) (fun g w => resVals pg rs_law07_FseParts g w fun vs => R (tup vs) w) []) g w := by kernel_rfl
  exact den_exQ e h hn hr trivial

def law07_FseParts_p5 (kn : Value → Value → Value → Value → Value → World → Prop) (R : Value → World → Prop) (c_1 t4 n_6 t8 s_9 : Value) (w : World) : Prop :=
  law07_FseParts_p4 (fun c_1 t4 n_6 t8 s_9 want_10 w => law07_FseParts_p3 kn R c_1 t4 n_6 t8 s_9 want_10 w) R c_1 t4 n_6 t8 s_9 w
theorem law07_FseParts_p5_ok (Q : Exit → Env → World → Prop) (g : Env) (w : World) (kn : Value → Value → Value → Value → Value → World → Prop) (R : Value → World → Prop) (hn : ∀ g w, kn (g 1) (g 4) (g 6) (g 8) (g 9) w → Q .normal g w) (hr : ∀ g w, (resVals pg rs_law07_FseParts g w fun vs => R (tup vs) w) → Q .ret g w) (h : law07_FseParts_p5 kn R (g 1) (g 4) (g 6) (g 8) (g 9) w) : den pg ann_law07_FseParts (bI (takeS 1 (dropS 1 (bI (bI (dropS 1 (takeS 1 (dropS 1 (dropS 1 (dropS 7 code_law07_FseParts)))))))))) Q g w := by
  exact den_seqs 2 (bI (takeS 1 (dropS 1 (bI (bI (dropS 1 (takeS 1 (dropS 1 (dropS 1 (dropS 7 code_law07_FseParts)))))))))) g w (by kernel_rfl) (law07_FseParts_p4_ok (thenE (fun g w => den pg ann_law07_FseParts (dropS 2 (bI (takeS 1 (dropS 1 (bI (bI (dropS 1 (takeS 1 (dropS 1 (dropS 1 (dropS 7 code_law07_FseParts))))))))))) Q g w) Q) g w (fun c_1 t4 n_6 t8 s_9 want_10 w => law07_FseParts_p3 kn R c_1 t4 n_6 t8 s_9 want_10 w) R (fun g w h => thenE_n (K := fun g w => den pg ann_law07_FseParts (dropS 2 (bI (takeS 1 (dropS 1 (bI (bI (dropS 1 (takeS 1 (dropS 1 (dropS 1 (dropS 7 code_law07_FseParts))))))))))) Q g w) (law07_FseParts_p3_ok Q g w kn R hn hr h)) hr h)

def law07_FseParts_p6 (kn : Value → Value → Value → Value → Value → World → Prop) (R : Value → World → Prop) (c_1 t4 n_6 t8 s_9 : Value) (w : World) : Prop :=
  law07_FseParts_p5 kn R c_1 t4 n_6 t8 s_9 w
theorem law07_FseParts_p6_ok (Q : Exit → Env → World → Prop) (g : Env) (w : World) (kn : Value → Value → Value → Value → Value → World → Prop) (R : Value → World → Prop) (hn : ∀ g w, kn (g 1) (g 4) (g 6) (g 8) (g 9) w → Q .normal g w) (hr : ∀ g w, (resVals pg rs_law07_FseParts g w fun vs => R (tup vs) w) → Q .ret g w) (h : law07_FseParts_p6 kn R (g 1) (g 4) (g 6) (g 8) (g 9) w) : den pg ann_law07_FseParts (takeS 1 (dropS 1 (bI (bI (dropS 1 (takeS 1 (dropS 1 (dropS 1 (dropS 7 code_law07_FseParts))))))))) Q g w :=
  den_blk 3 (takeS 1 (dropS 1 (bI (bI (dropS 1 (takeS 1 (dropS 1 (dropS 1 (dropS 7 code_law07_FseParts))))))))) g w (by kernel_rfl) (law07_FseParts_p5_ok (blk 3 Q) g w kn R hn hr h)

def law07_FseParts_p7 (kn : Value → Value → Value → Value → Value → World → Prop) (R : Value → World → Prop) (c_1 t4 n_6 t8 s_9 : Value) (w : World) : Prop :=
  law07_FseParts_p6 (fun c_1 t4 n_6 t8 s_9 w => law07_FseParts_p2 kn c_1 t4 n_6 t8 s_9 w) R c_1 t4 n_6 t8 s_9 w
theorem law07_FseParts_p7_ok (Q : Exit → Env → World → Prop) (g : Env) (w : World) (kn : Value → Value → Value → Value → Value → World → Prop) (R : Value → World → Prop) (hn : ∀ g w, kn (g 1) (g 4) (g 6) (g 8) (g 9) w → Q .normal g w) (hr : ∀ g w, (resVals pg rs_law07_FseParts g w fun vs => R (tup vs) w) → Q .ret g w) (h : law07_FseParts_p7 kn R (g 1) (g 4) (g 6) (g 8) (g 9) w) : den pg ann_law07_FseParts (dropS 1 (bI (bI (dropS 1 (takeS 1 (dropS 1 (dropS 1 (dropS 7 code_law07_FseParts)))))))) Q g w := by
  exact den_seqs 1 (dropS 1 (bI (bI (dropS 1 (takeS 1 (dropS 1 (dropS 1 (dropS 7 code_law07_FseParts)))))))) g w (by kernel_rfl) (law07_FseParts_p6_ok (thenE (fun g w => den pg ann_law07_FseParts (dropS 1 (dropS 1 (bI (bI (dropS 1 (takeS 1 (dropS 1 (dropS 1 (dropS 7 code_law07_FseParts))))))))) Q g w) Q) g w (fun c_1 t4 n_6 t8 s_9 w => law07_FseParts_p2 kn c_1 t4 n_6 t8 s_9 w) R (fun g w h => thenE_n (K := fun g w => den pg ann_law07_FseParts (dropS 1 (dropS 1 (bI (bI (dropS 1 (takeS 1 (dropS 1 (dropS 1 (dropS 7 code_law07_FseParts))))))))) Q g w) (law07_FseParts_p2_ok Q g w kn hn h)) hr h)

def law07_FseParts_p8 (kn : Value → Value → Value → Value → Value → World → Prop) (k2 : World → Prop) (c_1 t4 n_6 t8 s_9 : Value) (w : World) : Prop :=
  Stp pg (sFAddr 24 c_1 1) w fun t56 w =>
  Stp pg (sLoad 22 t56) w fun t57 w =>
  Stp pg (sBi .len #[22] 3 [t57]) w fun t58 w =>
  Stp pg (sBin .lss 3 (.tmp 55) (.tmp 58) s_9 t58) w fun t59 w =>
  Cnd t59
    (kn c_1 t4 n_6 t8 s_9 w)
    (k2 w)
theorem law07_FseParts_p8_ok (Q : Exit → Env → World → Prop) (g : Env) (w : World) (kn : Value → Value → Value → Value → Value → World → Prop) (k2 : World → Prop) (hn : ∀ g w, kn (g 1) (g 4) (g 6) (g 8) (g 9) w → Q .normal g w) (h2 : ∀ g w, k2 w → Q (.exit 2) g w) (h : law07_FseParts_p8 kn k2 (g 1) (g 4) (g 6) (g 8) (g 9) w) : den pg ann_law07_FseParts (takeS 1 (bI (bI (dropS 1 (takeS 1 (dropS 1 (dropS 1 (dropS 7 code_law07_FseParts)))))))) Q g w := by
  have e : (law07_FseParts_p8 kn k2 (g 1) (g 4) (g 6) (g 8) (g 9) w) = den pg ann_law07_FseParts (takeS 1 (bI (bI (dropS 1 (takeS 1 (dropS 1 (dropS 1 (dropS 7 code_law07_FseParts)))))))) (exQ (fun g w => kn (g 1) (g 4) (g 6) (g 8) (g 9) w) (fun _ _ => False) [(2, fun g w => k2 w)]) g w := by kernel_rfl
  exact den_exQ e h hn (fun _ _ h => h.elim) ⟨h2, trivial⟩

def law07_FseParts_p9 (kn : Value → Value → Value → Value → Value → World → Prop) (k2 : World → Prop) (R : Value → World → Prop) (c_1 t4 n_6 t8 s_9 : Value) (w : World) : Prop :=
  law07_FseParts_p8 (fun c_1 t4 n_6 t8 s_9 w => law07_FseParts_p7 kn R c_1 t4 n_6 t8 s_9 w) k2 c_1 t4 n_6 t8 s_9 w
theorem law07_FseParts_p9_ok (Q : Exit → Env → World → Prop) (g : Env) (w : World) (kn : Value → Value → Value → Value → Value → World → Prop) (k2 : World → Prop) (R : Value → World → Prop) (hn : ∀ g w, kn (g 1) (g 4) (g 6) (g 8) (g 9) w → Q .normal g w) (h2 : ∀ g w, k2 w → Q (.exit 2) g w) (hr : ∀ g w, (resVals pg rs_law07_FseParts g w fun vs => R (tup vs) w) → Q .ret g w) (h : law07_FseParts_p9 kn k2 R (g 1) (g 4) (g 6) (g 8) (g 9) w) : den pg ann_law07_FseParts (bI (bI (dropS 1 (takeS 1 (dropS 1 (dropS 1 (dropS 7 code_law07_FseParts))))))) Q g w := by
  exact den_seqs 1 (bI (bI (dropS 1 (takeS 1 (dropS 1 (dropS 1 (dropS 7 code_law07_FseParts))))))) g w (by kernel_rfl) (law07_FseParts_p8_ok (thenE (fun g w => den pg ann_law07_FseParts (dropS 1 (bI (bI (dropS 1 (takeS 1 (dropS 1 (dropS 1 (dropS 7 code_law07_FseParts)))))))) Q g w) Q) g w (fun c_1 t4 n_6 t8 s_9 w => law07_FseParts_p7 kn R c_1 t4 n_6 t8 s_9 w) k2 (fun g w h => thenE_n (K := fun g w => den pg ann_law07_FseParts (dropS 1 (bI (bI (dropS 1 (takeS 1 (dropS 1 (dropS 1 (dropS 7 code_law07_FseParts)))))))) Q g w) (law07_FseParts_p7_ok Q g w kn R hn hr h)) h2 h)

def law07_FseParts_p10 (k2 : World → Prop) (R : Value → World → Prop) (c_1 t4 n_6 t8 s_9 : Value) (w : World) : Prop :=
  LoopD (fun (X : (Value × Value) → World → Prop) (t : Value × Value) (w : World) => law07_FseParts_p9 (fun _ _ _ t8 s_9 w => X (t8, s_9) w) k2 R c_1 t4 n_6 t.1 t.2 w) (t8, s_9) w
theorem law07_FseParts_p10_ok (Q : Exit → Env → World → Prop) (g : Env) (w : World) (k2 : World → Prop) (R : Value → World → Prop) (h2 : ∀ g w, k2 w → Q (.exit 2) g w) (hr : ∀ g w, (resVals pg rs_law07_FseParts g w fun vs => R (tup vs) w) → Q .ret g w) (h : law07_FseParts_p10 k2 R (g 1) (g 4) (g 6) (g 8) (g 9) w) : den pg ann_law07_FseParts (bI (dropS 1 (takeS 1 (dropS 1 (dropS 1 (dropS 7 code_law07_FseParts)))))) Q g w := by
  refine den_loops (T := Value × Value) (fun g : Env => (g 8, g 9)) (fun X t w => law07_FseParts_p9 (fun _ _ _ t8 s_9 w => X (t8, s_9) w) k2 R (g 1) (g 4) (g 6) t.1 t.2 w) (bI (dropS 1 (takeS 1 (dropS 1 (dropS 1 (dropS 7 code_law07_FseParts)))))) (by kernel_rfl) h (fun X g1 w1 ha h1 => ?_)
  rw [← agree_at (s := 1) ha (by kernel_rfl)] at h1
  rw [← agree_at (s := 4) ha (by kernel_rfl)] at h1
  rw [← agree_at (s := 6) ha (by kernel_rfl)] at h1
  exact (law07_FseParts_p9_ok (thenE (fun g2 w2 => X ((fun g : Env => (g 8, g 9)) g2) w2) Q) g1 w1 (fun _ _ _ t8 s_9 w => X (t8, s_9) w) k2 R (fun _ _ h => h) h2 hr h1)

def law07_FseParts_p11 (kn : World → Prop) (R : Value → World → Prop) (c_1 t4 n_6 t8 s_9 : Value) (w : World) : Prop :=
  law07_FseParts_p10 kn R c_1 t4 n_6 t8 s_9 w
theorem law07_FseParts_p11_ok (Q : Exit → Env → World → Prop) (g : Env) (w : World) (kn : World → Prop) (R : Value → World → Prop) (hn : ∀ g w, kn w → Q .normal g w) (hr : ∀ g w, (resVals pg rs_law07_FseParts g w fun vs => R (tup vs) w) → Q .ret g w) (h : law07_FseParts_p11 kn R (g 1) (g 4) (g 6) (g 8) (g 9) w) : den pg ann_law07_FseParts (dropS 1 (takeS 1 (dropS 1 (dropS 1 (dropS 7 code_law07_FseParts))))) Q g w :=
  den_blk 2 (dropS 1 (takeS 1 (dropS 1 (dropS 1 (dropS 7 code_law07_FseParts))))) g w (by kernel_rfl) (law07_FseParts_p10_ok (blk 2 Q) g w kn R hn hr h)

def law07_FseParts_p12 (kn : Value → Value → Value → Value → Value → World → Prop) (c_1 t4 n_6 t8 : Value) (w : World) : Prop :=
  kn c_1 t4 n_6 t8 (.int .i64 0) w
theorem law07_FseParts_p12_ok (Q : Exit → Env → World → Prop) (g : Env) (w : World) (kn : Value → Value → Value → Value → Value → World → Prop) (hn : ∀ g w, kn (g 1) (g 4) (g 6) (g 8) (g 9) w → Q .normal g w) (h : law07_FseParts_p12 kn (g 1) (g 4) (g 6) (g 8) w) : den pg ann_law07_FseParts (takeS 1 (takeS 1 (dropS 1 (dropS 1 (dropS 7 code_law07_FseParts))))) Q g w := by
  have e : (law07_FseParts_p12 kn (g 1) (g 4) (g 6) (g 8) w) = den pg ann_law07_FseParts (takeS 1 (takeS 1 (dropS 1 (dropS 1 (dropS 7 code_law07_FseParts))))) (exQ (fun g w => kn (g 1) (g 4) (g 6) (g 8) (g 9) w) (fun _ _ => False) []) g w := by kernel_rfl
  exact den_exQ e h hn (fun _ _ h => h.elim) trivial

def law07_FseParts_p13 (kn : World → Prop) (R : Value → World → Prop) (c_1 t4 n_6 t8 : Value) (w : World) : Prop :=
  law07_FseParts_p12 (fun c_1 t4 n_6 t8 s_9 w => law07_FseParts_p11 kn R c_1 t4 n_6 t8 s_9 w) c_1 t4 n_6 t8 w
theorem law07_FseParts_p13_ok (Q : Exit → Env → World → Prop) (g : Env) (w : World) (kn : World → Prop) (R : Value → World → Prop) (hn : ∀ g w, kn w → Q .normal g w) (hr : ∀ g w, (resVals pg rs_law07_FseParts g w fun vs => R (tup vs) w) → Q .ret g w) (h : law07_FseParts_p13 kn R (g 1) (g 4) (g 6) (g 8) w) : den pg ann_law07_FseParts (takeS 1 (dropS 1 (dropS 1 (dropS 7 code_law07_FseParts)))) Q g w := by
  exact den_seqs 1 (takeS 1 (dropS 1 (dropS 1 (dropS 7 code_law07_FseParts)))) g w (by kernel_rfl) (law07_FseParts_p12_ok (thenE (fun g w => den pg ann_law07_FseParts (dropS 1 (takeS 1 (dropS 1 (dropS 1 (dropS 7 code_law07_FseParts))))) Q g w) Q) g w (fun c_1 t4 n_6 t8 s_9 w => law07_FseParts_p11 kn R c_1 t4 n_6 t8 s_9 w) (fun g w h => thenE_n (K := fun g w => den pg ann_law07_FseParts (dropS 1 (takeS 1 (dropS 1 (dropS 1 (dropS 7 code_law07_FseParts))))) Q g w) (law07_FseParts_p11_ok Q g w kn R hn hr h)) h)

def law07_FseParts_p14 (R : Value → World → Prop) (c_1 t4 n_6 t8 : Value) (w : World) : Prop :=
  law07_FseParts_p13 (fun  w => law07_FseParts_p1 R w) R c_1 t4 n_6 t8 w
theorem law07_FseParts_p14_ok (Q : Exit → Env → World → Prop) (g : Env) (w : World) (R : Value → World → Prop) (hr : ∀ g w, (resVals pg rs_law07_FseParts g w fun vs => R (tup vs) w) → Q .ret g w) (h : law07_FseParts_p14 R (g 1) (g 4) (g 6) (g 8) w) : den pg ann_law07_FseParts (dropS 1 (dropS 1 (dropS 7 code_law07_FseParts))) Q g w := by
  exact den_seqs 1 (dropS 1 (dropS 1 (dropS 7 code_law07_FseParts))) g w (by kernel_rfl) (law07_FseParts_p13_ok (thenE (fun g w => den pg ann_law07_FseParts (dropS 1 (dropS 1 (dropS 1 (dropS 7 code_law07_FseParts)))) Q g w) Q) g w (fun  w => law07_FseParts_p1 R w) R (fun g w h => thenE_n (K := fun g w => den pg ann_law07_FseParts (dropS 1 (dropS 1 (dropS 1 (dropS 7 code_law07_FseParts)))) Q g w) (law07_FseParts_p1_ok Q g w R hr h)) hr h)

def law07_FseParts_p15 (kn : Value → Value → Value → Value → World → Prop) (c_1 t4 n_6 : Value) (w : World) : Prop :=
  Stp pg (sFAddr 28 t4 1) w fun t51 w =>
  Stp pg (sLoad 26 t51) w fun t52 w =>
  Stp pg (sBi .len #[26] 3 [t52]) w fun t53 w =>
  Stp pg (sBin .sub 3 (.tmp 53) (.const (.int .i64 1)) t53 (.int .i64 1)) w fun t54 w =>
  kn c_1 t4 n_6 t54 w
theorem law07_FseParts_p15_ok (Q : Exit → Env → World → Prop) (g : Env) (w : World) (kn : Value → Value → Value → Value → World → Prop) (hn : ∀ g w, kn (g 1) (g 4) (g 6) (g 8) w → Q .normal g w) (h : law07_FseParts_p15 kn (g 1) (g 4) (g 6) w) : den pg ann_law07_FseParts (takeS 1 (dropS 1 (dropS 7 code_law07_FseParts))) Q g w := by
  have e : (law07_FseParts_p15 kn (g 1) (g 4) (g 6) w) = den pg ann_law07_FseParts (takeS 1 (dropS 1 (dropS 7 code_law07_FseParts))) (exQ (fun g w => kn (g 1) (g 4) (g 6) (g 8) w) (fun _ _ => False) []) g w := by kernel_rfl
  exact den_exQ e h hn (fun _ _ h => h.elim) trivial

def law07_FseParts_p16 (R : Value → World → Prop) (c_1 t4 n_6 : Value) (w : World) : Prop :=
  law07_FseParts_p15 (fun c_1 t4 n_6 t8 w => law07_FseParts_p14 R c_1 t4 n_6 t8 w) c_1 t4 n_6 w
theorem law07_FseParts_p16_ok (Q : Exit → Env → World → Prop) (g : Env) (w : World) (R : Value → World → Prop) (hr : ∀ g w, (resVals pg rs_law07_FseParts g w fun vs => R (tup vs) w) → Q .ret g w) (h : law07_FseParts_p16 R (g 1) (g 4) (g 6) w) : den pg ann_law07_FseParts (dropS 1 (dropS 7 code_law07_FseParts)) Q g w := by
  exact den_seqs 1 (dropS 1 (dropS 7 code_law07_FseParts)) g w (by kernel_rfl) (law07_FseParts_p15_ok (thenE (fun g w => den pg ann_law07_FseParts (dropS 1 (dropS 1 (dropS 7 code_law07_FseParts))) Q g w) Q) g w (fun c_1 t4 n_6 t8 w => law07_FseParts_p14 R c_1 t4 n_6 t8 w) (fun g w h => thenE_n (K := fun g w => den pg ann_law07_FseParts (dropS 1 (dropS 1 (dropS 7 code_law07_FseParts))) Q g w) (law07_FseParts_p14_ok Q g w R hr h)) h)

def law07_FseParts_p17 (kn : Value → Value → Value → Value → World → Prop) (k0 : Value → Value → Value → World → Prop) (c_1 t4 n_6 i_7 : Value) (w : World) : Prop :=
  Stp pg (sFAddr 28 t4 1) w fun t35 w =>
  Stp pg (sLoad 26 t35) w fun t36 w =>
  Stp pg (sBi .len #[26] 3 [t36]) w fun t37 w =>
  Stp pg (sBin .lss 3 (.tmp 34) (.tmp 37) i_7 t37) w fun t38 w =>
  Cnd t38
    (Stp pg (sFAddr 28 t4 1) w fun t41 w =>
    Stp pg (sLoad 26 t41) w fun t42 w =>
    Stp pg (sIAddr 26 t42 i_7) w fun t44 w =>
    Stp pg (sFAddr 43 t44 0) w fun t45 w =>
    Stp pg (sLoad 5 t45) w fun t46 w =>
    Stp pg (sIAddr 41 n_6 t46) w fun t47 w =>
    Stp pg (sLoad 3 t47) w fun t48 w =>
    Stp pg (sBin .add 3 (.tmp 48) (.const (.int .i64 1)) t48 (.int .i64 1)) w fun t49 w =>
    Stp pg (sIAddr 41 n_6 t46) w fun t50 w =>
    Stp pg (sStore 3 t50 t49) w fun _u w =>
    Stp pg (sBin .add 3 (.tmp 39) (.const (.int .i64 1)) i_7 (.int .i64 1)) w fun t40 w =>
    kn c_1 t4 n_6 t40 w)
    (k0 c_1 t4 n_6 w)
theorem law07_FseParts_p17_ok (Q : Exit → Env → World → Prop) (g : Env) (w : World) (kn : Value → Value → Value → Value → World → Prop) (k0 : Value → Value → Value → World → Prop) (hn : ∀ g w, kn (g 1) (g 4) (g 6) (g 7) w → Q .normal g w) (h0 : ∀ g w, k0 (g 1) (g 4) (g 6) w → Q (.exit 0) g w) (h : law07_FseParts_p17 kn k0 (g 1) (g 4) (g 6) (g 7) w) : den pg ann_law07_FseParts (bI (bI (dropS 1 (takeS 1 (dropS 7 code_law07_FseParts))))) Q g w := by
  have e : (law07_FseParts_p17 kn k0 (g 1) (g 4) (g 6) (g 7) w) = den pg ann_law07_FseParts (bI (bI (dropS 1 (takeS 1 (dropS 7 code_law07_FseParts))))) (exQ (fun g w => kn (g 1) (g 4) (g 6) (g 7) w) (fun _ _ => False) [(0, fun g w => k0 (g 1) (g 4) (g 6) w)]) g w := by kernel_rfl
  exact den_exQ e h hn (fun _ _ h => h.elim) ⟨h0, trivial⟩

def law07_FseParts_p18 (k0 : Value → Value → Value → World → Prop) (c_1 t4 n_6 i_7 : Value) (w : World) : Prop :=
  LoopD (fun (X : Value → World → Prop) (t : Value) (w : World) => law07_FseParts_p17 (fun _ _ _ i_7 w => X i_7 w) k0 c_1 t4 n_6 t w) i_7 w
theorem law07_FseParts_p18_ok (Q : Exit → Env → World → Prop) (g : Env) (w : World) (k0 : Value → Value → Value → World → Prop) (h0 : ∀ g w, k0 (g 1) (g 4) (g 6) w → Q (.exit 0) g w) (h : law07_FseParts_p18 k0 (g 1) (g 4) (g 6) (g 7) w) : den pg ann_law07_FseParts (bI (dropS 1 (takeS 1 (dropS 7 code_law07_FseParts)))) Q g w := by
  refine den_loops (T := Value) (fun g : Env => g 7) (fun X t w => law07_FseParts_p17 (fun _ _ _ i_7 w => X i_7 w) k0 (g 1) (g 4) (g 6) t w) (bI (dropS 1 (takeS 1 (dropS 7 code_law07_FseParts)))) (by kernel_rfl) h (fun X g1 w1 ha h1 => ?_)
  rw [← agree_at (s := 1) ha (by kernel_rfl)] at h1
  rw [← agree_at (s := 4) ha (by kernel_rfl)] at h1
  rw [← agree_at (s := 6) ha (by kernel_rfl)] at h1
  exact (law07_FseParts_p17_ok (thenE (fun g2 w2 => X ((fun g : Env => g 7) g2) w2) Q) g1 w1 (fun _ _ _ i_7 w => X i_7 w) k0 (fun _ _ h => h) h0 h1)

def law07_FseParts_p19 (kn : Value → Value → Value → World → Prop) (c_1 t4 n_6 i_7 : Value) (w : World) : Prop :=
  law07_FseParts_p18 kn c_1 t4 n_6 i_7 w
theorem law07_FseParts_p19_ok (Q : Exit → Env → World → Prop) (g : Env) (w : World) (kn : Value → Value → Value → World → Prop) (hn : ∀ g w, kn (g 1) (g 4) (g 6) w → Q .normal g w) (h : law07_FseParts_p19 kn (g 1) (g 4) (g 6) (g 7) w) : den pg ann_law07_FseParts (dropS 1 (takeS 1 (dropS 7 code_law07_FseParts))) Q g w :=
  den_blk 0 (dropS 1 (takeS 1 (dropS 7 code_law07_FseParts))) g w (by kernel_rfl) (law07_FseParts_p18_ok (blk 0 Q) g w kn hn h)

def law07_FseParts_p20 (kn : Value → Value → Value → Value → World → Prop) (c_1 t4 n_6 : Value) (w : World) : Prop :=
  kn c_1 t4 n_6 (.int .i64 0) w
theorem law07_FseParts_p20_ok (Q : Exit → Env → World → Prop) (g : Env) (w : World) (kn : Value → Value → Value → Value → World → Prop) (hn : ∀ g w, kn (g 1) (g 4) (g 6) (g 7) w → Q .normal g w) (h : law07_FseParts_p20 kn (g 1) (g 4) (g 6) w) : den pg ann_law07_FseParts (takeS 1 (takeS 1 (dropS 7 code_law07_FseParts))) Q g w := by
  have e : (law07_FseParts_p20 kn (g 1) (g 4) (g 6) w) = den pg ann_law07_FseParts (takeS 1 (takeS 1 (dropS 7 code_law07_FseParts))) (exQ (fun g w => kn (g 1) (g 4) (g 6) (g 7) w) (fun _ _ => False) []) g w := by kernel_rfl
  exact den_exQ e h hn (fun _ _ h => h.elim) trivial

def law07_FseParts_p21 (kn : Value → Value → Value → World → Prop) (c_1 t4 n_6 : Value) (w : World) : Prop :=
  law07_FseParts_p20 (fun c_1 t4 n_6 i_7 w => law07_FseParts_p19 kn c_1 t4 n_6 i_7 w) c_1 t4 n_6 w
theorem law07_FseParts_p21_ok (Q : Exit → Env → World → Prop) (g : Env) (w : World) (kn : Value → Value → Value → World → Prop) (hn : ∀ g w, kn (g 1) (g 4) (g 6) w → Q .normal g w) (h : law07_FseParts_p21 kn (g 1) (g 4) (g 6) w) : den pg ann_law07_FseParts (takeS 1 (dropS 7 code_law07_FseParts)) Q g w := by
  exact den_seqs 1 (takeS 1 (dropS 7 code_law07_FseParts)) g w (by kernel_rfl) (law07_FseParts_p20_ok (thenE (fun g w => den pg ann_law07_FseParts (dropS 1 (takeS 1 (dropS 7 code_law07_FseParts))) Q g w) Q) g w (fun c_1 t4 n_6 i_7 w => law07_FseParts_p19 kn c_1 t4 n_6 i_7 w) (fun g w h => thenE_n (K := fun g w => den pg ann_law07_FseParts (dropS 1 (takeS 1 (dropS 7 code_law07_FseParts))) Q g w) (law07_FseParts_p19_ok Q g w kn hn h)) h)

def law07_FseParts_p22 (R : Value → World → Prop) (c_1 t4 n_6 : Value) (w : World) : Prop :=
  law07_FseParts_p21 (fun c_1 t4 n_6 w => law07_FseParts_p16 R c_1 t4 n_6 w) c_1 t4 n_6 w
theorem law07_FseParts_p22_ok (Q : Exit → Env → World → Prop) (g : Env) (w : World) (R : Value → World → Prop) (hr : ∀ g w, (resVals pg rs_law07_FseParts g w fun vs => R (tup vs) w) → Q .ret g w) (h : law07_FseParts_p22 R (g 1) (g 4) (g 6) w) : den pg ann_law07_FseParts (dropS 7 code_law07_FseParts) Q g w := by
  exact den_seqs 1 (dropS 7 code_law07_FseParts) g w (by kernel_rfl) (law07_FseParts_p21_ok (thenE (fun g w => den pg ann_law07_FseParts (dropS 1 (dropS 7 code_law07_FseParts)) Q g w) Q) g w (fun c_1 t4 n_6 w => law07_FseParts_p16 R c_1 t4 n_6 w) (fun g w h => thenE_n (K := fun g w => den pg ann_law07_FseParts (dropS 1 (dropS 7 code_law07_FseParts)) Q g w) (law07_FseParts_p16_ok Q g w R hr h)) h)

def law07_FseParts_p23 (kn : Value → Value → Value → World → Prop) (R : Value → World → Prop) (c_0 : Value) (w : World) : Prop :=
  Stp pg (sBox 24 c_0) w fun c_1 w =>
  Does pg F_law07_awake #[] w fun t11 w =>
  Stp pg (sUn .not t11) w fun t13 w =>
  Cnd t13
    (R (.bool false) w)
    (Stp pg (sFAddr 24 c_1 1) w fun t14 w =>
    Stp pg (sLoad 22 t14) w fun t15 w =>
    Stp pg (sBi .len #[22] 3 [t15]) w fun t16 w =>
    Stp pg (sBin .gtr 3 (.tmp 16) (.const (.int .i64 300)) t16 (.int .i64 300)) w fun t17 w =>
    Gd (isB t17 false) (fun K => Stp pg (sFAddr 24 c_1 0) w K) w fun t19 w =>
    Gd (isB t17 false) (fun K => Stp pg (sLoad 3 t19) w K) w fun t20 w =>
    Gd (isB t17 false) (fun K => Stp pg (sBin .gtr 3 (.tmp 20) (.const (.int .i64 10)) t20 (.int .i64 10)) w K) w fun t21 w =>
    Stp pg (sPick t17 (.bool true) t21) w fun t22 w =>
    Cnd t22
      (R (.bool true) w)
      (Stp pg (sLoad 24 c_1) w fun t24 w =>
      Does pg F_fse_Build #[t24] w fun t25 w =>
      Stp pg (sExtr t25 0) w fun t26 w =>
      Stp pg (sExtr t25 1) w fun t27 w =>
      Stp pg (sAlloc 28) w fun t4 w =>
      Stp pg (sStore 28 t4 t26) w fun _u w =>
      Stp pg (sBin .neq 29 (.tmp 28) (.const (.int .i64 0)) t27 (.int .i64 0)) w fun t29 w =>
      Cnd t29
        (Stp pg (sFAddr 28 t4 1) w fun t30 w =>
        Stp pg (sLoad 26 t30) w fun t31 w =>
        Stp pg (sBi .len #[26] 3 [t31]) w fun t32 w =>
        Stp pg (sBin .eql 3 (.tmp 32) (.const (.int .i64 0)) t32 (.int .i64 0)) w fun t33 w =>
        R t33 w)
        (Stp pg (sAlloc 41) w fun n_6 w =>
        kn c_1 t4 n_6 w)))
theorem law07_FseParts_p23_ok (Q : Exit → Env → World → Prop) (g : Env) (w : World) (kn : Value → Value → Value → World → Prop) (R : Value → World → Prop) (hn : ∀ g w, kn (g 1) (g 4) (g 6) w → Q .normal g w) (hr : ∀ g w, (resVals pg rs_law07_FseParts g w fun vs => R (tup vs) w) → Q .ret g w) (h : law07_FseParts_p23 kn R (g 0) w) : den pg ann_law07_FseParts (takeS 7 code_law07_FseParts) Q g w := by
  have e : (law07_FseParts_p23 kn R (g 0) w) = den pg ann_law07_FseParts (takeS 7 code_law07_FseParts) (exQ (fun g w => kn (g 1) (g 4) (g 6) w) (fun g w => resVals pg rs_law07_FseParts g w fun vs => R (tup vs) w) []) g w := by kernel_rfl
  exact den_exQ e h hn hr trivial

def law07_FseParts_p24 (R : Value → World → Prop) (c_0 : Value) (w : World) : Prop :=
  law07_FseParts_p23 (fun c_1 t4 n_6 w => law07_FseParts_p22 R c_1 t4 n_6 w) R c_0 w
theorem law07_FseParts_p24_ok (Q : Exit → Env → World → Prop) (g : Env) (w : World) (R : Value → World → Prop) (hr : ∀ g w, (resVals pg rs_law07_FseParts g w fun vs => R (tup vs) w) → Q .ret g w) (h : law07_FseParts_p24 R (g 0) w) : den pg ann_law07_FseParts code_law07_FseParts Q g w := by
  exact den_seqs 7 code_law07_FseParts g w (by kernel_rfl) (law07_FseParts_p23_ok (thenE (fun g w => den pg ann_law07_FseParts (dropS 7 code_law07_FseParts) Q g w) Q) g w (fun c_1 t4 n_6 w => law07_FseParts_p22 R c_1 t4 n_6 w) R (fun g w h => thenE_n (K := fun g w => den pg ann_law07_FseParts (dropS 7 code_law07_FseParts) Q g w) (law07_FseParts_p22_ok Q g w R hr h)) hr h)

def law07_FseParts (a0 : Value) (w : World) (R : Value → World → Prop) : Prop :=
  law07_FseParts_p24 R a0 w
theorem law07_FseParts_does {a0 : Value} {w : World} {R : Value → World → Prop} (h : law07_FseParts a0 w R) : Does pg F_law07_FseParts #[a0] w R := by
  refine does_of_den (ann := ann_law07_FseParts) (fn := Try.f4) (c := code_law07_FseParts) (args := [a0]) (rs := rs_law07_FseParts) (N := 105) TryM.mixed (by kernel_rfl) Try.func4 (by kernel_rfl) (by kernel_rfl) (by kernel_rfl) (of_decide_eq_true (by kernel_rfl)) (by kernel_rfl) ?_
  exact (law07_FseParts_p24_ok (retQ pg rs_law07_FseParts R) (envOf [a0]) w R (fun _ _ h => h) h)
-- PIECES law07_FseParts/0 law07_FseParts_p1 law07_FseParts_p10 law07_FseParts_p11 law07_FseParts_p12 law07_FseParts_p13 law07_FseParts_p14 law07_FseParts_p15 law07_FseParts_p16 law07_FseParts_p18 law07_FseParts_p19 law07_FseParts_p20 law07_FseParts_p21 law07_FseParts_p22 law07_FseParts_p23 law07_FseParts_p24
-- PIECES law07_FseParts/1 law07_FseParts_p2 law07_FseParts_p3 law07_FseParts_p4 law07_FseParts_p5 law07_FseParts_p6 law07_FseParts_p7 law07_FseParts_p8 law07_FseParts_p9
-- PIECES law07_FseParts/2 law07_FseParts_p17

/- lighterman/lightermanlaw07.FseBefore -/
def ann_law07_FseBefore : FA := ⟨F_law07_FseBefore, fun i => .leaf ([], []) []⟩
def rs_law07_FseBefore : List ResultVar := [.tmp 6]
noncomputable def code_law07_FseBefore : Code := bodyOf Try.f5
def law07_FseBefore_p1 (R : Value → World → Prop) (symbol_2 t8 s_10 i_11 x_12 n_13 f_14 g_18 k_19 h_20 t21 first_22 : Value) (w : World) : Prop :=
  Stp pg (sBin .neq 29 (.tmp 125) (.const (.int .i64 1)) g_18 (.int .i64 1)) w fun t126 w =>
  Gd (isB t126 false) (fun K => K h_20 w) w fun t128 w =>
  Gd (isB t126 false) (fun K => Stp pg (sBin .eql 29 (.tmp 128) (.const (.int .i64 0)) t128 (.int .i64 0)) w K) w fun t129 w =>
  Gd (isB t126 false) (fun K => K first_22 w) w fun t130 w =>
  Gd (isB t126 false) (fun K => Stp pg (sBin .geq 3 (.tmp 130) (.const (.int .i64 0)) t130 (.int .i64 0)) w K) w fun t131 w =>
  Gd (isB t126 false) (fun K => Stp pg (sBin .neq 4 (.tmp 129) (.tmp 131) t129 t131) w K) w fun t132 w =>
  Stp pg (sPick t126 (.bool true) t132) w fun t133 w =>
  Gd (isB t133 false) (fun K => K h_20 w) w fun t135 w =>
  Gd (isB t133 false) (fun K => Stp pg (sBin .eql 29 (.tmp 135) (.const (.int .i64 0)) t135 (.int .i64 0)) w K) w fun t136 w =>
  Gd (isB t133 false) (fun K => K t136 w) w fun t137 w =>
  Gd (isB t137 true) (fun K => K k_19 w) w fun t138 w =>
  Gd (isB t137 true) (fun K => K first_22 w) w fun t139 w =>
  Gd (isB t137 true) (fun K => Stp pg (sBin .neq 3 (.tmp 138) (.tmp 139) t138 t139) w K) w fun t140 w =>
  Gd (isB t133 false) (fun K => Stp pg (sPick t137 t140 (.bool false)) w K) w fun t141 w =>
  Stp pg (sPick t133 (.bool true) t141) w fun t142 w =>
  Cnd t142
    (R (.bool false) w)
    (Stp pg (sBin .lss 3 (.tmp 143) (.const (.int .i64 0)) first_22 (.int .i64 0)) w fun t144 w =>
    Cnd t144
      (Stp pg (sBin .eql 29 (.tmp 145) (.const (.int .i64 21)) f_14 (.int .i64 21)) w fun t146 w =>
      Gd (isB t146 true) (fun K => K h_20 w) w fun t148 w =>
      Gd (isB t146 true) (fun K => Stp pg (sBin .eql 29 (.tmp 148) (.const (.int .i64 21)) t148 (.int .i64 21)) w K) w fun t149 w =>
      Stp pg (sPick t146 t149 (.bool false)) w fun t150 w =>
      Gd (isB t150 true) (fun K => K t21 w) w fun t152 w =>
      Gd (isB t150 true) (fun K => Stp pg (sBin .eql 3 (.tmp 152) (.const (.int .i64 0)) t152 (.int .i64 0)) w K) w fun t153 w =>
      Stp pg (sPick t150 t153 (.bool false)) w fun t154 w =>
      R t154 w)
      (Stp pg (sBin .neq 29 (.tmp 155) (.const (.int .i64 0)) f_14 (.int .i64 0)) w fun t156 w =>
      Gd (isB t156 false) (fun K => K t21 w) w fun t158 w =>
      Gd (isB t156 false) (fun K => Stp pg (sBin .neq 3 (.tmp 158) (.const (.int .i64 1)) t158 (.int .i64 1)) w K) w fun t159 w =>
      Stp pg (sPick t156 (.bool true) t159) w fun t160 w =>
      Gd (isB t160 false) (fun K => K i_11 w) w fun t162 w =>
      Gd (isB t160 false) (fun K => Stp pg (sBin .lss 3 (.tmp 162) (.const (.int .i64 0)) t162 (.int .i64 0)) w K) w fun t163 w =>
      Stp pg (sPick t160 (.bool true) t163) w fun t164 w =>
      Gd (isB t164 false) (fun K => K i_11 w) w fun t166 w =>
      Gd (isB t164 false) (fun K => Stp pg (sFAddr 28 t8 1) w K) w fun t167 w =>
      Gd (isB t164 false) (fun K => Stp pg (sLoad 26 t167) w K) w fun t168 w =>
      Gd (isB t164 false) (fun K => Stp pg (sBi .len #[26] 3 [t168]) w K) w fun t169 w =>
      Gd (isB t164 false) (fun K => Stp pg (sBin .geq 3 (.tmp 166) (.tmp 169) t166 t169) w K) w fun t170 w =>
      Stp pg (sPick t164 (.bool true) t170) w fun t171 w =>
      Cnd t171
        (R (.bool false) w)
        (Stp pg (sFAddr 28 t8 1) w fun t172 w =>
        Stp pg (sLoad 26 t172) w fun t173 w =>
        Stp pg (sIAddr 26 t173 i_11) w fun t175 w =>
        Stp pg (sLoad 43 t175) w fun t176 w =>
        Stp pg (sAlloc 43) w fun y_25 w =>
        Stp pg (sStore 43 y_25 t176) w fun _u w =>
        Stp pg (sFAddr 43 y_25 0) w fun t177 w =>
        Stp pg (sLoad 5 t177) w fun t178 w =>
        Stp pg (sBin .eql 5 (.tmp 178) (.tmp 179) t178 symbol_2) w fun t180 w =>
        Gd (isB t180 true) (fun K => Stp pg (sFAddr 43 y_25 1) w K) w fun t182 w =>
        Gd (isB t180 true) (fun K => Stp pg (sLoad 3 t182) w K) w fun t183 w =>
        Gd (isB t180 true) (fun K => K n_13 w) w fun t184 w =>
        Gd (isB t180 true) (fun K => Stp pg (sBin .eql 3 (.tmp 183) (.tmp 184) t183 t184) w K) w fun t185 w =>
        Stp pg (sPick t180 t185 (.bool false)) w fun t186 w =>
        Gd (isB t186 true) (fun K => Stp pg (sFAddr 43 y_25 2) w K) w fun t188 w =>
        Gd (isB t186 true) (fun K => Stp pg (sLoad 3 t188) w K) w fun t189 w =>
        Gd (isB t186 true) (fun K => K x_12 w) w fun t190 w =>
        Gd (isB t186 true) (fun K => Stp pg (sCvt 45 3 t190) w K) w fun t191 w =>
        Gd (isB t186 true) (fun K => Stp pg (sBin .add 3 (.tmp 189) (.tmp 191) t189 t191) w K) w fun t192 w =>
        Gd (isB t186 true) (fun K => K s_10 w) w fun t193 w =>
        Gd (isB t186 true) (fun K => Stp pg (sBin .eql 3 (.tmp 192) (.tmp 193) t192 t193) w K) w fun t194 w =>
        Stp pg (sPick t186 t194 (.bool false)) w fun t195 w =>
        Gd (isB t195 true) (fun K => K x_12 w) w fun t197 w =>
        Gd (isB t195 true) (fun K => K n_13 w) w fun t198 w =>
        Gd (isB t195 true) (fun K => Stp pg (sCvt 3 50 t198) w K) w fun t199 w =>
        Gd (isB t195 true) (fun K => Stp pg (sBin .shl 45 (.const (.int .u64 1)) (.tmp 199) (.int .u64 1) t199) w K) w fun t200 w =>
        Gd (isB t195 true) (fun K => Stp pg (sBin .lss 45 (.tmp 197) (.tmp 200) t197 t200) w K) w fun t201 w =>
        Stp pg (sPick t195 t201 (.bool false)) w fun t202 w =>
        R t202 w)))
theorem law07_FseBefore_p1_ok (Q : Exit → Env → World → Prop) (g : Env) (w : World) (R : Value → World → Prop) (hr : ∀ g w, (resVals pg rs_law07_FseBefore g w fun vs => R (tup vs) w) → Q .ret g w) (h : law07_FseBefore_p1 R (g 2) (g 8) (g 10) (g 11) (g 12) (g 13) (g 14) (g 18) (g 19) (g 20) (g 21) (g 22) w) : den pg ann_law07_FseBefore (dropS 1 (dropS 12 code_law07_FseBefore)) Q g w := by
  have e : (law07_FseBefore_p1 R (g 2) (g 8) (g 10) (g 11) (g 12) (g 13) (g 14) (g 18) (g 19) (g 20) (g 21) (g 22) w) = den pg ann_law07_FseBefore (dropS 1 (dropS 12 code_law07_FseBefore)) (exQ (fun _ _ => False) (fun g w => resVals pg rs_law07_FseBefore g w fun vs => R (tup vs) w) []) g w := by kernel_rfl
  exact den_exQ e h (fun _ _ h => h.elim) hr trivial

def law07_FseBefore_p2 (kn : Value → Value → Value → Value → Value → Value → Value → Value → Value → Value → Value → Value → Value → World → Prop) (symbol_2 t8 s_10 i_11 x_12 n_13 f_14 g_18 k_19 h_20 t21 first_22 j_23 : Value) (w : World) : Prop :=
  Stp pg (sBin .add 3 (.tmp 86) (.const (.int .i64 1)) j_23 (.int .i64 1)) w fun t87 w =>
  kn symbol_2 t8 s_10 i_11 x_12 n_13 f_14 g_18 k_19 h_20 t21 first_22 t87 w
theorem law07_FseBefore_p2_ok (Q : Exit → Env → World → Prop) (g : Env) (w : World) (kn : Value → Value → Value → Value → Value → Value → Value → Value → Value → Value → Value → Value → Value → World → Prop) (hn : ∀ g w, kn (g 2) (g 8) (g 10) (g 11) (g 12) (g 13) (g 14) (g 18) (g 19) (g 20) (g 21) (g 22) (g 23) w → Q .normal g w) (h : law07_FseBefore_p2 kn (g 2) (g 8) (g 10) (g 11) (g 12) (g 13) (g 14) (g 18) (g 19) (g 20) (g 21) (g 22) (g 23) w) : den pg ann_law07_FseBefore (dropS 1 (dropS 1 (bI (bI (dropS 1 (takeS 1 (dropS 12 code_law07_FseBefore))))))) Q g w := by
  have e : (law07_FseBefore_p2 kn (g 2) (g 8) (g 10) (g 11) (g 12) (g 13) (g 14) (g 18) (g 19) (g 20) (g 21) (g 22) (g 23) w) = den pg ann_law07_FseBefore (dropS 1 (dropS 1 (bI (bI (dropS 1 (takeS 1 (dropS 12 code_law07_FseBefore))))))) (exQ (fun g w => kn (g 2) (g 8) (g 10) (g 11) (g 12) (g 13) (g 14) (g 18) (g 19) (g 20) (g 21) (g 22) (g 23) w) (fun _ _ => False) []) g w := by kernel_rfl
  exact den_exQ e h hn (fun _ _ h => h.elim) trivial

def law07_FseBefore_p3 (kn : Value → Value → Value → Value → Value → Value → Value → Value → Value → Value → Value → Value → Value → World → Prop) (symbol_2 t8 s_10 i_11 x_12 n_13 f_14 g_18 k_19 h_20 t21 first_22 j_23 y_24 : Value) (w : World) : Prop :=
  Stp pg (sFAddr 43 y_24 0) w fun t102 w =>
  Stp pg (sLoad 5 t102) w fun t103 w =>
  Stp pg (sBin .eql 5 (.tmp 103) (.tmp 104) t103 symbol_2) w fun t105 w =>
  Gd (isB t105 true) (fun K => K s_10 w) w fun t107 w =>
  Gd (isB t105 true) (fun K => Stp pg (sFAddr 43 y_24 2) w K) w fun t108 w =>
  Gd (isB t105 true) (fun K => Stp pg (sLoad 3 t108) w K) w fun t109 w =>
  Gd (isB t105 true) (fun K => Stp pg (sBin .geq 3 (.tmp 107) (.tmp 109) t107 t109) w K) w fun t110 w =>
  Stp pg (sPick t105 t110 (.bool false)) w fun t111 w =>
  Gd (isB t111 true) (fun K => K s_10 w) w fun t113 w =>
  Gd (isB t111 true) (fun K => Stp pg (sFAddr 43 y_24 2) w K) w fun t114 w =>
  Gd (isB t111 true) (fun K => Stp pg (sLoad 3 t114) w K) w fun t115 w =>
  Gd (isB t111 true) (fun K => Stp pg (sFAddr 43 y_24 1) w K) w fun t116 w =>
  Gd (isB t111 true) (fun K => Stp pg (sLoad 3 t116) w K) w fun t117 w =>
  Gd (isB t111 true) (fun K => Stp pg (sCvt 3 50 t117) w K) w fun t118 w =>
  Gd (isB t111 true) (fun K => Stp pg (sBin .shl 3 (.const (.int .i64 1)) (.tmp 118) (.int .i64 1) t118) w K) w fun t119 w =>
  Gd (isB t111 true) (fun K => Stp pg (sBin .add 3 (.tmp 115) (.tmp 119) t115 t119) w K) w fun t120 w =>
  Gd (isB t111 true) (fun K => Stp pg (sBin .lss 3 (.tmp 113) (.tmp 120) t113 t120) w K) w fun t121 w =>
  Stp pg (sPick t111 t121 (.bool false)) w fun t122 w =>
  Cnd t122
    (Stp pg (sBin .add 3 (.tmp 123) (.const (.int .i64 1)) t21 (.int .i64 1)) w fun t124 w =>
    kn symbol_2 t8 s_10 i_11 x_12 n_13 f_14 g_18 k_19 h_20 t124 first_22 j_23 w)
    (kn symbol_2 t8 s_10 i_11 x_12 n_13 f_14 g_18 k_19 h_20 t21 first_22 j_23 w)
theorem law07_FseBefore_p3_ok (Q : Exit → Env → World → Prop) (g : Env) (w : World) (kn : Value → Value → Value → Value → Value → Value → Value → Value → Value → Value → Value → Value → Value → World → Prop) (hn : ∀ g w, kn (g 2) (g 8) (g 10) (g 11) (g 12) (g 13) (g 14) (g 18) (g 19) (g 20) (g 21) (g 22) (g 23) w → Q .normal g w) (h : law07_FseBefore_p3 kn (g 2) (g 8) (g 10) (g 11) (g 12) (g 13) (g 14) (g 18) (g 19) (g 20) (g 21) (g 22) (g 23) (g 24) w) : den pg ann_law07_FseBefore (dropS 2 (bI (takeS 1 (dropS 1 (bI (bI (dropS 1 (takeS 1 (dropS 12 code_law07_FseBefore))))))))) Q g w := by
  have e : (law07_FseBefore_p3 kn (g 2) (g 8) (g 10) (g 11) (g 12) (g 13) (g 14) (g 18) (g 19) (g 20) (g 21) (g 22) (g 23) (g 24) w) = den pg ann_law07_FseBefore (dropS 2 (bI (takeS 1 (dropS 1 (bI (bI (dropS 1 (takeS 1 (dropS 12 code_law07_FseBefore))))))))) (exQ (fun g w => kn (g 2) (g 8) (g 10) (g 11) (g 12) (g 13) (g 14) (g 18) (g 19) (g 20) (g 21) (g 22) (g 23) w) (fun _ _ => False) []) g w := by kernel_rfl
  exact den_exQ e h hn (fun _ _ h => h.elim) trivial

def law07_FseBefore_p4 (kn : Value → Value → Value → Value → Value → Value → Value → Value → Value → Value → Value → Value → Value → Value → World → Prop) (symbol_2 t8 s_10 i_11 x_12 n_13 f_14 g_18 k_19 h_20 t21 first_22 j_23 : Value) (w : World) : Prop :=
  Stp pg (sFAddr 28 t8 1) w fun t88 w =>
  Stp pg (sLoad 26 t88) w fun t89 w =>
  Stp pg (sIAddr 26 t89 j_23) w fun t91 w =>
  Stp pg (sLoad 43 t91) w fun t92 w =>
  Stp pg (sAlloc 43) w fun y_24 w =>
  Stp pg (sStore 43 y_24 t92) w fun _u w =>
  Stp pg (sFAddr 43 y_24 0) w fun t93 w =>
  Stp pg (sLoad 5 t93) w fun t94 w =>
  Stp pg (sBin .eql 5 (.tmp 94) (.tmp 95) t94 symbol_2) w fun t96 w =>
  Gd (isB t96 true) (fun K => K first_22 w) w fun t98 w =>
  Gd (isB t96 true) (fun K => Stp pg (sBin .lss 3 (.tmp 98) (.const (.int .i64 0)) t98 (.int .i64 0)) w K) w fun t99 w =>
  Stp pg (sPick t96 t99 (.bool false)) w fun t100 w =>
  Cnd t100
    (kn symbol_2 t8 s_10 i_11 x_12 n_13 f_14 g_18 k_19 h_20 t21 j_23 j_23 y_24 w)
    (kn symbol_2 t8 s_10 i_11 x_12 n_13 f_14 g_18 k_19 h_20 t21 first_22 j_23 y_24 w)
theorem law07_FseBefore_p4_ok (Q : Exit → Env → World → Prop) (g : Env) (w : World) (kn : Value → Value → Value → Value → Value → Value → Value → Value → Value → Value → Value → Value → Value → Value → World → Prop) (hn : ∀ g w, kn (g 2) (g 8) (g 10) (g 11) (g 12) (g 13) (g 14) (g 18) (g 19) (g 20) (g 21) (g 22) (g 23) (g 24) w → Q .normal g w) (h : law07_FseBefore_p4 kn (g 2) (g 8) (g 10) (g 11) (g 12) (g 13) (g 14) (g 18) (g 19) (g 20) (g 21) (g 22) (g 23) w) : den pg ann_law07_FseBefore (takeS 2 (bI (takeS 1 (dropS 1 (bI (bI (dropS 1 (takeS 1 (dropS 12 code_law07_FseBefore))))))))) Q g w := by
  have e : (law07_FseBefore_p4 kn (g 2) (g 8) (g 10) (g 11) (g 12) (g 13) (g 14) (g 18) (g 19) (g 20) (g 21) (g 22) (g 23) w) = den pg ann_law07_FseBefore (takeS 2 (bI (takeS 1 (dropS 1 (bI (bI (dropS 1 (takeS 1 (dropS 12 code_law07_FseBefore))))))))) (exQ (fun g w => kn (g 2) (g 8) (g 10) (g 11) (g 12) (g 13) (g 14) (g 18) (g 19) (g 20) (g 21) (g 22) (g 23) (g 24) w) (fun _ _ => False) []) g w := by kernel_rfl
  exact den_exQ e h hn (fun _ _ h => h.elim) trivial

def law07_FseBefore_p5 (kn : Value → Value → Value → Value → Value → Value → Value → Value → Value → Value → Value → Value → Value → World → Prop) (symbol_2 t8 s_10 i_11 x_12 n_13 f_14 g_18 k_19 h_20 t21 first_22 j_23 : Value) (w : World) : Prop :=
  law07_FseBefore_p4 (fun symbol_2 t8 s_10 i_11 x_12 n_13 f_14 g_18 k_19 h_20 t21 first_22 j_23 y_24 w => law07_FseBefore_p3 kn symbol_2 t8 s_10 i_11 x_12 n_13 f_14 g_18 k_19 h_20 t21 first_22 j_23 y_24 w) symbol_2 t8 s_10 i_11 x_12 n_13 f_14 g_18 k_19 h_20 t21 first_22 j_23 w
theorem law07_FseBefore_p5_ok (Q : Exit → Env → World → Prop) (g : Env) (w : World) (kn : Value → Value → Value → Value → Value → Value → Value → Value → Value → Value → Value → Value → Value → World → Prop) (hn : ∀ g w, kn (g 2) (g 8) (g 10) (g 11) (g 12) (g 13) (g 14) (g 18) (g 19) (g 20) (g 21) (g 22) (g 23) w → Q .normal g w) (h : law07_FseBefore_p5 kn (g 2) (g 8) (g 10) (g 11) (g 12) (g 13) (g 14) (g 18) (g 19) (g 20) (g 21) (g 22) (g 23) w) : den pg ann_law07_FseBefore (bI (takeS 1 (dropS 1 (bI (bI (dropS 1 (takeS 1 (dropS 12 code_law07_FseBefore)))))))) Q g w := by
  exact den_seqs 2 (bI (takeS 1 (dropS 1 (bI (bI (dropS 1 (takeS 1 (dropS 12 code_law07_FseBefore)))))))) g w (by kernel_rfl) (law07_FseBefore_p4_ok (thenE (fun g w => den pg ann_law07_FseBefore (dropS 2 (bI (takeS 1 (dropS 1 (bI (bI (dropS 1 (takeS 1 (dropS 12 code_law07_FseBefore))))))))) Q g w) Q) g w (fun symbol_2 t8 s_10 i_11 x_12 n_13 f_14 g_18 k_19 h_20 t21 first_22 j_23 y_24 w => law07_FseBefore_p3 kn symbol_2 t8 s_10 i_11 x_12 n_13 f_14 g_18 k_19 h_20 t21 first_22 j_23 y_24 w) (fun g w h => thenE_n (K := fun g w => den pg ann_law07_FseBefore (dropS 2 (bI (takeS 1 (dropS 1 (bI (bI (dropS 1 (takeS 1 (dropS 12 code_law07_FseBefore))))))))) Q g w) (law07_FseBefore_p3_ok Q g w kn hn h)) h)

def law07_FseBefore_p6 (kn : Value → Value → Value → Value → Value → Value → Value → Value → Value → Value → Value → Value → Value → World → Prop) (symbol_2 t8 s_10 i_11 x_12 n_13 f_14 g_18 k_19 h_20 t21 first_22 j_23 : Value) (w : World) : Prop :=
  law07_FseBefore_p5 kn symbol_2 t8 s_10 i_11 x_12 n_13 f_14 g_18 k_19 h_20 t21 first_22 j_23 w
theorem law07_FseBefore_p6_ok (Q : Exit → Env → World → Prop) (g : Env) (w : World) (kn : Value → Value → Value → Value → Value → Value → Value → Value → Value → Value → Value → Value → Value → World → Prop) (hn : ∀ g w, kn (g 2) (g 8) (g 10) (g 11) (g 12) (g 13) (g 14) (g 18) (g 19) (g 20) (g 21) (g 22) (g 23) w → Q .normal g w) (h : law07_FseBefore_p6 kn (g 2) (g 8) (g 10) (g 11) (g 12) (g 13) (g 14) (g 18) (g 19) (g 20) (g 21) (g 22) (g 23) w) : den pg ann_law07_FseBefore (takeS 1 (dropS 1 (bI (bI (dropS 1 (takeS 1 (dropS 12 code_law07_FseBefore))))))) Q g w :=
  den_blk 1 (takeS 1 (dropS 1 (bI (bI (dropS 1 (takeS 1 (dropS 12 code_law07_FseBefore))))))) g w (by kernel_rfl) (law07_FseBefore_p5_ok (blk 1 Q) g w kn hn h)

def law07_FseBefore_p7 (kn : Value → Value → Value → Value → Value → Value → Value → Value → Value → Value → Value → Value → Value → World → Prop) (symbol_2 t8 s_10 i_11 x_12 n_13 f_14 g_18 k_19 h_20 t21 first_22 j_23 : Value) (w : World) : Prop :=
  law07_FseBefore_p6 (fun symbol_2 t8 s_10 i_11 x_12 n_13 f_14 g_18 k_19 h_20 t21 first_22 j_23 w => law07_FseBefore_p2 kn symbol_2 t8 s_10 i_11 x_12 n_13 f_14 g_18 k_19 h_20 t21 first_22 j_23 w) symbol_2 t8 s_10 i_11 x_12 n_13 f_14 g_18 k_19 h_20 t21 first_22 j_23 w
theorem law07_FseBefore_p7_ok (Q : Exit → Env → World → Prop) (g : Env) (w : World) (kn : Value → Value → Value → Value → Value → Value → Value → Value → Value → Value → Value → Value → Value → World → Prop) (hn : ∀ g w, kn (g 2) (g 8) (g 10) (g 11) (g 12) (g 13) (g 14) (g 18) (g 19) (g 20) (g 21) (g 22) (g 23) w → Q .normal g w) (h : law07_FseBefore_p7 kn (g 2) (g 8) (g 10) (g 11) (g 12) (g 13) (g 14) (g 18) (g 19) (g 20) (g 21) (g 22) (g 23) w) : den pg ann_law07_FseBefore (dropS 1 (bI (bI (dropS 1 (takeS 1 (dropS 12 code_law07_FseBefore)))))) Q g w := by
  exact den_seqs 1 (dropS 1 (bI (bI (dropS 1 (takeS 1 (dropS 12 code_law07_FseBefore)))))) g w (by kernel_rfl) (law07_FseBefore_p6_ok (thenE (fun g w => den pg ann_law07_FseBefore (dropS 1 (dropS 1 (bI (bI (dropS 1 (takeS 1 (dropS 12 code_law07_FseBefore))))))) Q g w) Q) g w (fun symbol_2 t8 s_10 i_11 x_12 n_13 f_14 g_18 k_19 h_20 t21 first_22 j_23 w => law07_FseBefore_p2 kn symbol_2 t8 s_10 i_11 x_12 n_13 f_14 g_18 k_19 h_20 t21 first_22 j_23 w) (fun g w h => thenE_n (K := fun g w => den pg ann_law07_FseBefore (dropS 1 (dropS 1 (bI (bI (dropS 1 (takeS 1 (dropS 12 code_law07_FseBefore))))))) Q g w) (law07_FseBefore_p2_ok Q g w kn hn h)) h)

def law07_FseBefore_p8 (kn : Value → Value → Value → Value → Value → Value → Value → Value → Value → Value → Value → Value → Value → World → Prop) (k0 : Value → Value → Value → Value → Value → Value → Value → Value → Value → Value → Value → Value → World → Prop) (symbol_2 t8 s_10 i_11 x_12 n_13 f_14 g_18 k_19 h_20 t21 first_22 j_23 : Value) (w : World) : Prop :=
  Stp pg (sFAddr 28 t8 1) w fun t82 w =>
  Stp pg (sLoad 26 t82) w fun t83 w =>
  Stp pg (sBi .len #[26] 3 [t83]) w fun t84 w =>
  Stp pg (sBin .lss 3 (.tmp 81) (.tmp 84) j_23 t84) w fun t85 w =>
  Cnd t85
    (kn symbol_2 t8 s_10 i_11 x_12 n_13 f_14 g_18 k_19 h_20 t21 first_22 j_23 w)
    (k0 symbol_2 t8 s_10 i_11 x_12 n_13 f_14 g_18 k_19 h_20 t21 first_22 w)
theorem law07_FseBefore_p8_ok (Q : Exit → Env → World → Prop) (g : Env) (w : World) (kn : Value → Value → Value → Value → Value → Value → Value → Value → Value → Value → Value → Value → Value → World → Prop) (k0 : Value → Value → Value → Value → Value → Value → Value → Value → Value → Value → Value → Value → World → Prop) (hn : ∀ g w, kn (g 2) (g 8) (g 10) (g 11) (g 12) (g 13) (g 14) (g 18) (g 19) (g 20) (g 21) (g 22) (g 23) w → Q .normal g w) (h0 : ∀ g w, k0 (g 2) (g 8) (g 10) (g 11) (g 12) (g 13) (g 14) (g 18) (g 19) (g 20) (g 21) (g 22) w → Q (.exit 0) g w) (h : law07_FseBefore_p8 kn k0 (g 2) (g 8) (g 10) (g 11) (g 12) (g 13) (g 14) (g 18) (g 19) (g 20) (g 21) (g 22) (g 23) w) : den pg ann_law07_FseBefore (takeS 1 (bI (bI (dropS 1 (takeS 1 (dropS 12 code_law07_FseBefore)))))) Q g w := by
  have e : (law07_FseBefore_p8 kn k0 (g 2) (g 8) (g 10) (g 11) (g 12) (g 13) (g 14) (g 18) (g 19) (g 20) (g 21) (g 22) (g 23) w) = den pg ann_law07_FseBefore (takeS 1 (bI (bI (dropS 1 (takeS 1 (dropS 12 code_law07_FseBefore)))))) (exQ (fun g w => kn (g 2) (g 8) (g 10) (g 11) (g 12) (g 13) (g 14) (g 18) (g 19) (g 20) (g 21) (g 22) (g 23) w) (fun _ _ => False) [(0, fun g w => k0 (g 2) (g 8) (g 10) (g 11) (g 12) (g 13) (g 14) (g 18) (g 19) (g 20) (g 21) (g 22) w)]) g w := by kernel_rfl
  exact den_exQ e h hn (fun _ _ h => h.elim) ⟨h0, trivial⟩

def law07_FseBefore_p9 (kn : Value → Value → Value → Value → Value → Value → Value → Value → Value → Value → Value → Value → Value → World → Prop) (k0 : Value → Value → Value → Value → Value → Value → Value → Value → Value → Value → Value → Value → World → Prop) (symbol_2 t8 s_10 i_11 x_12 n_13 f_14 g_18 k_19 h_20 t21 first_22 j_23 : Value) (w : World) : Prop :=
  law07_FseBefore_p8 (fun symbol_2 t8 s_10 i_11 x_12 n_13 f_14 g_18 k_19 h_20 t21 first_22 j_23 w => law07_FseBefore_p7 kn symbol_2 t8 s_10 i_11 x_12 n_13 f_14 g_18 k_19 h_20 t21 first_22 j_23 w) k0 symbol_2 t8 s_10 i_11 x_12 n_13 f_14 g_18 k_19 h_20 t21 first_22 j_23 w
theorem law07_FseBefore_p9_ok (Q : Exit → Env → World → Prop) (g : Env) (w : World) (kn : Value → Value → Value → Value → Value → Value → Value → Value → Value → Value → Value → Value → Value → World → Prop) (k0 : Value → Value → Value → Value → Value → Value → Value → Value → Value → Value → Value → Value → World → Prop) (hn : ∀ g w, kn (g 2) (g 8) (g 10) (g 11) (g 12) (g 13) (g 14) (g 18) (g 19) (g 20) (g 21) (g 22) (g 23) w → Q .normal g w) (h0 : ∀ g w, k0 (g 2) (g 8) (g 10) (g 11) (g 12) (g 13) (g 14) (g 18) (g 19) (g 20) (g 21) (g 22) w → Q (.exit 0) g w) (h : law07_FseBefore_p9 kn k0 (g 2) (g 8) (g 10) (g 11) (g 12) (g 13) (g 14) (g 18) (g 19) (g 20) (g 21) (g 22) (g 23) w) : den pg ann_law07_FseBefore (bI (bI (dropS 1 (takeS 1 (dropS 12 code_law07_FseBefore))))) Q g w := by
  exact den_seqs 1 (bI (bI (dropS 1 (takeS 1 (dropS 12 code_law07_FseBefore))))) g w (by kernel_rfl) (law07_FseBefore_p8_ok (thenE (fun g w => den pg ann_law07_FseBefore (dropS 1 (bI (bI (dropS 1 (takeS 1 (dropS 12 code_law07_FseBefore)))))) Q g w) Q) g w (fun symbol_2 t8 s_10 i_11 x_12 n_13 f_14 g_18 k_19 h_20 t21 first_22 j_23 w => law07_FseBefore_p7 kn symbol_2 t8 s_10 i_11 x_12 n_13 f_14 g_18 k_19 h_20 t21 first_22 j_23 w) k0 (fun g w h => thenE_n (K := fun g w => den pg ann_law07_FseBefore (dropS 1 (bI (bI (dropS 1 (takeS 1 (dropS 12 code_law07_FseBefore)))))) Q g w) (law07_FseBefore_p7_ok Q g w kn hn h)) h0 h)

def law07_FseBefore_p10 (k0 : Value → Value → Value → Value → Value → Value → Value → Value → Value → Value → Value → Value → World → Prop) (symbol_2 t8 s_10 i_11 x_12 n_13 f_14 g_18 k_19 h_20 t21 first_22 j_23 : Value) (w : World) : Prop :=
  LoopD (fun (X : (Value × Value × Value) → World → Prop) (t : Value × Value × Value) (w : World) => law07_FseBefore_p9 (fun _ _ _ _ _ _ _ _ _ _ t21 first_22 j_23 w => X (t21, first_22, j_23) w) k0 symbol_2 t8 s_10 i_11 x_12 n_13 f_14 g_18 k_19 h_20 t.1 t.2.1 t.2.2 w) (t21, first_22, j_23) w
theorem law07_FseBefore_p10_ok (Q : Exit → Env → World → Prop) (g : Env) (w : World) (k0 : Value → Value → Value → Value → Value → Value → Value → Value → Value → Value → Value → Value → World → Prop) (h0 : ∀ g w, k0 (g 2) (g 8) (g 10) (g 11) (g 12) (g 13) (g 14) (g 18) (g 19) (g 20) (g 21) (g 22) w → Q (.exit 0) g w) (h : law07_FseBefore_p10 k0 (g 2) (g 8) (g 10) (g 11) (g 12) (g 13) (g 14) (g 18) (g 19) (g 20) (g 21) (g 22) (g 23) w) : den pg ann_law07_FseBefore (bI (dropS 1 (takeS 1 (dropS 12 code_law07_FseBefore)))) Q g w := by
  refine den_loops (T := Value × Value × Value) (fun g : Env => (g 21, g 22, g 23)) (fun X t w => law07_FseBefore_p9 (fun _ _ _ _ _ _ _ _ _ _ t21 first_22 j_23 w => X (t21, first_22, j_23) w) k0 (g 2) (g 8) (g 10) (g 11) (g 12) (g 13) (g 14) (g 18) (g 19) (g 20) t.1 t.2.1 t.2.2 w) (bI (dropS 1 (takeS 1 (dropS 12 code_law07_FseBefore)))) (by kernel_rfl) h (fun X g1 w1 ha h1 => ?_)
  rw [← agree_at (s := 2) ha (by kernel_rfl)] at h1
  rw [← agree_at (s := 8) ha (by kernel_rfl)] at h1
  rw [← agree_at (s := 10) ha (by kernel_rfl)] at h1
  rw [← agree_at (s := 11) ha (by kernel_rfl)] at h1
  rw [← agree_at (s := 12) ha (by kernel_rfl)] at h1
  rw [← agree_at (s := 13) ha (by kernel_rfl)] at h1
  rw [← agree_at (s := 14) ha (by kernel_rfl)] at h1
  rw [← agree_at (s := 18) ha (by kernel_rfl)] at h1
  rw [← agree_at (s := 19) ha (by kernel_rfl)] at h1
  rw [← agree_at (s := 20) ha (by kernel_rfl)] at h1
  exact (law07_FseBefore_p9_ok (thenE (fun g2 w2 => X ((fun g : Env => (g 21, g 22, g 23)) g2) w2) Q) g1 w1 (fun _ _ _ _ _ _ _ _ _ _ t21 first_22 j_23 w => X (t21, first_22, j_23) w) k0 (fun _ _ h => h) h0 h1)

def law07_FseBefore_p11 (kn : Value → Value → Value → Value → Value → Value → Value → Value → Value → Value → Value → Value → World → Prop) (symbol_2 t8 s_10 i_11 x_12 n_13 f_14 g_18 k_19 h_20 t21 first_22 j_23 : Value) (w : World) : Prop :=
  law07_FseBefore_p10 kn symbol_2 t8 s_10 i_11 x_12 n_13 f_14 g_18 k_19 h_20 t21 first_22 j_23 w
theorem law07_FseBefore_p11_ok (Q : Exit → Env → World → Prop) (g : Env) (w : World) (kn : Value → Value → Value → Value → Value → Value → Value → Value → Value → Value → Value → Value → World → Prop) (hn : ∀ g w, kn (g 2) (g 8) (g 10) (g 11) (g 12) (g 13) (g 14) (g 18) (g 19) (g 20) (g 21) (g 22) w → Q .normal g w) (h : law07_FseBefore_p11 kn (g 2) (g 8) (g 10) (g 11) (g 12) (g 13) (g 14) (g 18) (g 19) (g 20) (g 21) (g 22) (g 23) w) : den pg ann_law07_FseBefore (dropS 1 (takeS 1 (dropS 12 code_law07_FseBefore))) Q g w :=
  den_blk 0 (dropS 1 (takeS 1 (dropS 12 code_law07_FseBefore))) g w (by kernel_rfl) (law07_FseBefore_p10_ok (blk 0 Q) g w kn hn h)

def law07_FseBefore_p12 (kn : Value → Value → Value → Value → Value → Value → Value → Value → Value → Value → Value → Value → Value → World → Prop) (symbol_2 t8 s_10 i_11 x_12 n_13 f_14 g_18 k_19 h_20 t21 first_22 : Value) (w : World) : Prop :=
  kn symbol_2 t8 s_10 i_11 x_12 n_13 f_14 g_18 k_19 h_20 t21 first_22 (.int .i64 0) w
theorem law07_FseBefore_p12_ok (Q : Exit → Env → World → Prop) (g : Env) (w : World) (kn : Value → Value → Value → Value → Value → Value → Value → Value → Value → Value → Value → Value → Value → World → Prop) (hn : ∀ g w, kn (g 2) (g 8) (g 10) (g 11) (g 12) (g 13) (g 14) (g 18) (g 19) (g 20) (g 21) (g 22) (g 23) w → Q .normal g w) (h : law07_FseBefore_p12 kn (g 2) (g 8) (g 10) (g 11) (g 12) (g 13) (g 14) (g 18) (g 19) (g 20) (g 21) (g 22) w) : den pg ann_law07_FseBefore (takeS 1 (takeS 1 (dropS 12 code_law07_FseBefore))) Q g w := by
  have e : (law07_FseBefore_p12 kn (g 2) (g 8) (g 10) (g 11) (g 12) (g 13) (g 14) (g 18) (g 19) (g 20) (g 21) (g 22) w) = den pg ann_law07_FseBefore (takeS 1 (takeS 1 (dropS 12 code_law07_FseBefore))) (exQ (fun g w => kn (g 2) (g 8) (g 10) (g 11) (g 12) (g 13) (g 14) (g 18) (g 19) (g 20) (g 21) (g 22) (g 23) w) (fun _ _ => False) []) g w := by kernel_rfl
  exact den_exQ e h hn (fun _ _ h => h.elim) trivial

def law07_FseBefore_p13 (kn : Value → Value → Value → Value → Value → Value → Value → Value → Value → Value → Value → Value → World → Prop) (symbol_2 t8 s_10 i_11 x_12 n_13 f_14 g_18 k_19 h_20 t21 first_22 : Value) (w : World) : Prop :=
  law07_FseBefore_p12 (fun symbol_2 t8 s_10 i_11 x_12 n_13 f_14 g_18 k_19 h_20 t21 first_22 j_23 w => law07_FseBefore_p11 kn symbol_2 t8 s_10 i_11 x_12 n_13 f_14 g_18 k_19 h_20 t21 first_22 j_23 w) symbol_2 t8 s_10 i_11 x_12 n_13 f_14 g_18 k_19 h_20 t21 first_22 w
theorem law07_FseBefore_p13_ok (Q : Exit → Env → World → Prop) (g : Env) (w : World) (kn : Value → Value → Value → Value → Value → Value → Value → Value → Value → Value → Value → Value → World → Prop) (hn : ∀ g w, kn (g 2) (g 8) (g 10) (g 11) (g 12) (g 13) (g 14) (g 18) (g 19) (g 20) (g 21) (g 22) w → Q .normal g w) (h : law07_FseBefore_p13 kn (g 2) (g 8) (g 10) (g 11) (g 12) (g 13) (g 14) (g 18) (g 19) (g 20) (g 21) (g 22) w) : den pg ann_law07_FseBefore (takeS 1 (dropS 12 code_law07_FseBefore)) Q g w := by
  exact den_seqs 1 (takeS 1 (dropS 12 code_law07_FseBefore)) g w (by kernel_rfl) (law07_FseBefore_p12_ok (thenE (fun g w => den pg ann_law07_FseBefore (dropS 1 (takeS 1 (dropS 12 code_law07_FseBefore))) Q g w) Q) g w (fun symbol_2 t8 s_10 i_11 x_12 n_13 f_14 g_18 k_19 h_20 t21 first_22 j_23 w => law07_FseBefore_p11 kn symbol_2 t8 s_10 i_11 x_12 n_13 f_14 g_18 k_19 h_20 t21 first_22 j_23 w) (fun g w h => thenE_n (K := fun g w => den pg ann_law07_FseBefore (dropS 1 (takeS 1 (dropS 12 code_law07_FseBefore))) Q g w) (law07_FseBefore_p11_ok Q g w kn hn h)) h)

def law07_FseBefore_p14 (R : Value → World → Prop) (symbol_2 t8 s_10 i_11 x_12 n_13 f_14 g_18 k_19 h_20 t21 first_22 : Value) (w : World) : Prop :=
  law07_FseBefore_p13 (fun symbol_2 t8 s_10 i_11 x_12 n_13 f_14 g_18 k_19 h_20 t21 first_22 w => law07_FseBefore_p1 R symbol_2 t8 s_10 i_11 x_12 n_13 f_14 g_18 k_19 h_20 t21 first_22 w) symbol_2 t8 s_10 i_11 x_12 n_13 f_14 g_18 k_19 h_20 t21 first_22 w
theorem law07_FseBefore_p14_ok (Q : Exit → Env → World → Prop) (g : Env) (w : World) (R : Value → World → Prop) (hr : ∀ g w, (resVals pg rs_law07_FseBefore g w fun vs => R (tup vs) w) → Q .ret g w) (h : law07_FseBefore_p14 R (g 2) (g 8) (g 10) (g 11) (g 12) (g 13) (g 14) (g 18) (g 19) (g 20) (g 21) (g 22) w) : den pg ann_law07_FseBefore (dropS 12 code_law07_FseBefore) Q g w := by
  exact den_seqs 1 (dropS 12 code_law07_FseBefore) g w (by kernel_rfl) (law07_FseBefore_p13_ok (thenE (fun g w => den pg ann_law07_FseBefore (dropS 1 (dropS 12 code_law07_FseBefore)) Q g w) Q) g w (fun symbol_2 t8 s_10 i_11 x_12 n_13 f_14 g_18 k_19 h_20 t21 first_22 w => law07_FseBefore_p1 R symbol_2 t8 s_10 i_11 x_12 n_13 f_14 g_18 k_19 h_20 t21 first_22 w) (fun g w h => thenE_n (K := fun g w => den pg ann_law07_FseBefore (dropS 1 (dropS 12 code_law07_FseBefore)) Q g w) (law07_FseBefore_p1_ok Q g w R hr h)) h)

def law07_FseBefore_p15 (kn : Value → Value → Value → Value → Value → Value → Value → Value → Value → Value → Value → Value → World → Prop) (R : Value → World → Prop) (c_0 state_1 symbol_2 : Value) (w : World) : Prop :=
  Stp pg (sBox 24 c_0) w fun c_3 w =>
  Does pg F_law07_awake #[] w fun t26 w =>
  Stp pg (sUn .not t26) w fun t28 w =>
  Cnd t28
    (R (.bool false) w)
    (Stp pg (sFAddr 24 c_3 1) w fun t29 w =>
    Stp pg (sLoad 22 t29) w fun t30 w =>
    Stp pg (sBi .len #[22] 3 [t30]) w fun t31 w =>
    Stp pg (sBin .gtr 3 (.tmp 31) (.const (.int .i64 300)) t31 (.int .i64 300)) w fun t32 w =>
    Gd (isB t32 false) (fun K => Stp pg (sFAddr 24 c_3 0) w K) w fun t34 w =>
    Gd (isB t32 false) (fun K => Stp pg (sLoad 3 t34) w K) w fun t35 w =>
    Gd (isB t32 false) (fun K => Stp pg (sBin .gtr 3 (.tmp 35) (.const (.int .i64 10)) t35 (.int .i64 10)) w K) w fun t36 w =>
    Stp pg (sPick t32 (.bool true) t36) w fun t37 w =>
    Cnd t37
      (R (.bool true) w)
      (Stp pg (sLoad 24 c_3) w fun t39 w =>
      Does pg F_fse_Build #[t39] w fun t40 w =>
      Stp pg (sExtr t40 0) w fun t41 w =>
      Stp pg (sExtr t40 1) w fun t42 w =>
      Stp pg (sAlloc 28) w fun t8 w =>
      Stp pg (sStore 28 t8 t41) w fun _u w =>
      Stp pg (sBin .neq 29 (.tmp 43) (.const (.int .i64 0)) t42 (.int .i64 0)) w fun t44 w =>
      Cnd t44
        (Stp pg (sFAddr 28 t8 1) w fun t45 w =>
        Stp pg (sLoad 26 t45) w fun t46 w =>
        Stp pg (sBi .len #[26] 3 [t46]) w fun t47 w =>
        Stp pg (sBin .eql 3 (.tmp 47) (.const (.int .i64 0)) t47 (.int .i64 0)) w fun t48 w =>
        R t48 w)
        (Stp pg (sCvt 44 3 state_1) w fun t50 w =>
        Stp pg (sFAddr 28 t8 1) w fun t51 w =>
        Stp pg (sLoad 26 t51) w fun t52 w =>
        Stp pg (sBi .len #[26] 3 [t52]) w fun t53 w =>
        Stp pg (sBin .rem 3 (.tmp 50) (.tmp 53) t50 t53) w fun t54 w =>
        Stp pg (sLoad 28 t8) w fun t56 w =>
        Does pg F_fse_Before #[t56, t54, symbol_2] w fun t59 w =>
        Stp pg (sExtr t59 0) w fun t60 w =>
        Stp pg (sExtr t59 1) w fun t61 w =>
        Stp pg (sExtr t59 2) w fun t62 w =>
        Stp pg (sExtr t59 3) w fun t63 w =>
        Stp pg (sLoad 28 t8) w fun t65 w =>
        Stp pg (sFAddr 28 t8 1) w fun t66 w =>
        Stp pg (sLoad 26 t66) w fun t67 w =>
        Stp pg (sBi .len #[26] 3 [t67]) w fun t68 w =>
        Does pg F_fse_Before #[t65, t68, symbol_2] w fun t70 w =>
        Stp pg (sExtr t70 0) w fun t71 w =>
        Stp pg (sExtr t70 1) w fun t72 w =>
        Stp pg (sExtr t70 2) w fun t73 w =>
        Stp pg (sExtr t70 3) w fun t74 w =>
        Stp pg (sLoad 28 t8) w fun t76 w =>
        Does pg F_fse_First #[t76, symbol_2] w fun t78 w =>
        Stp pg (sExtr t78 0) w fun t79 w =>
        Stp pg (sExtr t78 1) w fun t80 w =>
        kn symbol_2 t8 t54 t60 t61 t62 t63 t74 t79 t80 (.int .i64 0) (.int .i64 (-1)) w)))
theorem law07_FseBefore_p15_ok (Q : Exit → Env → World → Prop) (g : Env) (w : World) (kn : Value → Value → Value → Value → Value → Value → Value → Value → Value → Value → Value → Value → World → Prop) (R : Value → World → Prop) (hn : ∀ g w, kn (g 2) (g 8) (g 10) (g 11) (g 12) (g 13) (g 14) (g 18) (g 19) (g 20) (g 21) (g 22) w → Q .normal g w) (hr : ∀ g w, (resVals pg rs_law07_FseBefore g w fun vs => R (tup vs) w) → Q .ret g w) (h : law07_FseBefore_p15 kn R (g 0) (g 1) (g 2) w) : den pg ann_law07_FseBefore (takeS 12 code_law07_FseBefore) Q g w := by
  have e : (law07_FseBefore_p15 kn R (g 0) (g 1) (g 2) w) = den pg ann_law07_FseBefore (takeS 12 code_law07_FseBefore) (exQ (fun g w => kn (g 2) (g 8) (g 10) (g 11) (g 12) (g 13) (g 14) (g 18) (g 19) (g 20) (g 21) (g 22) w) (fun g w => resVals pg rs_law07_FseBefore g w fun vs => R (tup vs) w) []) g w := by kernel_rfl
  exact den_exQ e h hn hr trivial

def law07_FseBefore_p16 (R : Value → World → Prop) (c_0 state_1 symbol_2 : Value) (w : World) : Prop :=
  law07_FseBefore_p15 (fun symbol_2 t8 s_10 i_11 x_12 n_13 f_14 g_18 k_19 h_20 t21 first_22 w => law07_FseBefore_p14 R symbol_2 t8 s_10 i_11 x_12 n_13 f_14 g_18 k_19 h_20 t21 first_22 w) R c_0 state_1 symbol_2 w
theorem law07_FseBefore_p16_ok (Q : Exit → Env → World → Prop) (g : Env) (w : World) (R : Value → World → Prop) (hr : ∀ g w, (resVals pg rs_law07_FseBefore g w fun vs => R (tup vs) w) → Q .ret g w) (h : law07_FseBefore_p16 R (g 0) (g 1) (g 2) w) : den pg ann_law07_FseBefore code_law07_FseBefore Q g w := by
  exact den_seqs 12 code_law07_FseBefore g w (by kernel_rfl) (law07_FseBefore_p15_ok (thenE (fun g w => den pg ann_law07_FseBefore (dropS 12 code_law07_FseBefore) Q g w) Q) g w (fun symbol_2 t8 s_10 i_11 x_12 n_13 f_14 g_18 k_19 h_20 t21 first_22 w => law07_FseBefore_p14 R symbol_2 t8 s_10 i_11 x_12 n_13 f_14 g_18 k_19 h_20 t21 first_22 w) R (fun g w h => thenE_n (K := fun g w => den pg ann_law07_FseBefore (dropS 12 code_law07_FseBefore) Q g w) (law07_FseBefore_p14_ok Q g w R hr h)) hr h)

def law07_FseBefore (a0 a1 a2 : Value) (w : World) (R : Value → World → Prop) : Prop :=
  law07_FseBefore_p16 R a0 a1 a2 w
theorem law07_FseBefore_does {a0 a1 a2 : Value} {w : World} {R : Value → World → Prop} (h : law07_FseBefore a0 a1 a2 w R) : Does pg F_law07_FseBefore #[a0, a1, a2] w R := by
  refine does_of_den (ann := ann_law07_FseBefore) (fn := Try.f5) (c := code_law07_FseBefore) (args := [a0, a1, a2]) (rs := rs_law07_FseBefore) (N := 203) TryM.mixed (by kernel_rfl) Try.func5 (by kernel_rfl) (by kernel_rfl) (by kernel_rfl) (of_decide_eq_true (by kernel_rfl)) (by kernel_rfl) ?_
  exact (law07_FseBefore_p16_ok (retQ pg rs_law07_FseBefore R) (envOf [a0, a1, a2]) w R (fun _ _ h => h) h)
-- PIECES law07_FseBefore/0 law07_FseBefore_p1 law07_FseBefore_p10 law07_FseBefore_p11 law07_FseBefore_p12 law07_FseBefore_p13 law07_FseBefore_p14 law07_FseBefore_p15 law07_FseBefore_p16
-- PIECES law07_FseBefore/1 law07_FseBefore_p2 law07_FseBefore_p3 law07_FseBefore_p4 law07_FseBefore_p5 law07_FseBefore_p6 law07_FseBefore_p7 law07_FseBefore_p8 law07_FseBefore_p9

/- lighterman/lightermanlaw07.awake -/
def ann_law07_awake : FA := ⟨F_law07_awake, fun i => .leaf ([], []) []⟩
def rs_law07_awake : List ResultVar := [.tmp 0]
noncomputable def code_law07_awake : Code := bodyOf Try.f13
def law07_awake_p1 (R : Value → World → Prop)  (w : World) : Prop :=
  Does pg F_fse_One #[(.int .u8 7)] w fun t8 w =>
  Stp pg (sAlloc 28) w fun o_1 w =>
  Stp pg (sStore 28 o_1 t8) w fun _u w =>
  Stp pg (sBuildSlice 22 2 [(0, (.int .i64 16)), (1, (.int .i64 16))]) w fun t10 w =>
  Stp pg (sBuild 24 [(0, (.int .i64 5)), (1, t10)]) w fun t11 w =>
  Does pg F_fse_Build #[t11] w fun t12 w =>
  Stp pg (sExtr t12 0) w fun t13 w =>
  Stp pg (sExtr t12 1) w fun t14 w =>
  Stp pg (sAlloc 28) w fun t2 w =>
  Stp pg (sStore 28 t2 t13) w fun _u w =>
  Stp pg (sBuild 24 []) w fun t16 w =>
  Does pg F_fse_Build #[t16] w fun t17 w =>
  Stp pg (sExtr t17 0) w fun t18 w =>
  Stp pg (sExtr t17 1) w fun t19 w =>
  Stp pg (sAlloc 28) w fun t4 w =>
  Stp pg (sStore 28 t4 t18) w fun _u w =>
  Stp pg (sLoad 28 t2) w fun t21 w =>
  Does pg F_fse_First #[t21, (.int .u8 1)] w fun t22 w =>
  Stp pg (sExtr t22 0) w fun t23 w =>
  Stp pg (sExtr t22 1) w fun t24 w =>
  Stp pg (sFAddr 28 o_1 1) w fun t25 w =>
  Stp pg (sLoad 26 t25) w fun t26 w =>
  Stp pg (sBi .len #[26] 3 [t26]) w fun t27 w =>
  Stp pg (sBin .eql 3 (.tmp 27) (.const (.int .i64 1)) t27 (.int .i64 1)) w fun t28 w =>
  Gd (isB t28 true) (fun K => Stp pg (sFAddr 28 o_1 1) w K) w fun t30 w =>
  Gd (isB t28 true) (fun K => Stp pg (sLoad 26 t30) w K) w fun t31 w =>
  Gd (isB t28 true) (fun K => Stp pg (sIAddr 26 t31 (.int .i64 0)) w K) w fun t32 w =>
  Gd (isB t28 true) (fun K => Stp pg (sFAddr 43 t32 0) w K) w fun t33 w =>
  Gd (isB t28 true) (fun K => Stp pg (sLoad 5 t33) w K) w fun t34 w =>
  Gd (isB t28 true) (fun K => Stp pg (sBin .eql 5 (.tmp 34) (.const (.int .u8 7)) t34 (.int .u8 7)) w K) w fun t35 w =>
  Stp pg (sPick t28 t35 (.bool false)) w fun t36 w =>
  Gd (isB t36 true) (fun K => K t14 w) w fun t38 w =>
  Gd (isB t36 true) (fun K => Stp pg (sBin .eql 29 (.tmp 38) (.const (.int .i64 0)) t38 (.int .i64 0)) w K) w fun t39 w =>
  Stp pg (sPick t36 t39 (.bool false)) w fun t40 w =>
  Gd (isB t40 true) (fun K => Stp pg (sFAddr 28 t2 1) w K) w fun t42 w =>
  Gd (isB t40 true) (fun K => Stp pg (sLoad 26 t42) w K) w fun t43 w =>
  Gd (isB t40 true) (fun K => Stp pg (sBi .len #[26] 3 [t43]) w K) w fun t44 w =>
  Gd (isB t40 true) (fun K => Stp pg (sBin .eql 3 (.tmp 44) (.const (.int .i64 32)) t44 (.int .i64 32)) w K) w fun t45 w =>
  Stp pg (sPick t40 t45 (.bool false)) w fun t46 w =>
  Gd (isB t46 true) (fun K => Stp pg (sFAddr 28 t2 0) w K) w fun t48 w =>
  Gd (isB t46 true) (fun K => Stp pg (sLoad 3 t48) w K) w fun t49 w =>
  Gd (isB t46 true) (fun K => Stp pg (sBin .eql 3 (.tmp 49) (.const (.int .i64 5)) t49 (.int .i64 5)) w K) w fun t50 w =>
  Stp pg (sPick t46 t50 (.bool false)) w fun t51 w =>
  Gd (isB t51 true) (fun K => K t19 w) w fun t53 w =>
  Gd (isB t51 true) (fun K => Stp pg (sBin .eql 29 (.tmp 53) (.const (.int .i64 1)) t53 (.int .i64 1)) w K) w fun t54 w =>
  Stp pg (sPick t51 t54 (.bool false)) w fun t55 w =>
  Gd (isB t55 true) (fun K => K t24 w) w fun t57 w =>
  Gd (isB t55 true) (fun K => Stp pg (sBin .eql 29 (.tmp 57) (.const (.int .i64 0)) t57 (.int .i64 0)) w K) w fun t58 w =>
  Stp pg (sPick t55 t58 (.bool false)) w fun t59 w =>
  Gd (isB t59 true) (fun K => K t23 w) w fun t61 w =>
  Gd (isB t59 true) (fun K => Stp pg (sBin .geq 3 (.tmp 61) (.const (.int .i64 0)) t61 (.int .i64 0)) w K) w fun t62 w =>
  Stp pg (sPick t59 t62 (.bool false)) w fun t63 w =>
  Gd (isB t63 true) (fun K => K t23 w) w fun t65 w =>
  Gd (isB t63 true) (fun K => Stp pg (sBin .lss 3 (.tmp 65) (.const (.int .i64 32)) t65 (.int .i64 32)) w K) w fun t66 w =>
  Stp pg (sPick t63 t66 (.bool false)) w fun t67 w =>
  Gd (isB t67 true) (fun K => Stp pg (sFAddr 28 t2 1) w K) w fun t69 w =>
  Gd (isB t67 true) (fun K => Stp pg (sLoad 26 t69) w K) w fun t70 w =>
  Gd (isB t67 true) (fun K => K t23 w) w fun t71 w =>
  Gd (isB t67 true) (fun K => Stp pg (sIAddr 26 t70 t71) w K) w fun t72 w =>
  Gd (isB t67 true) (fun K => Stp pg (sFAddr 43 t72 0) w K) w fun t73 w =>
  Gd (isB t67 true) (fun K => Stp pg (sLoad 5 t73) w K) w fun t74 w =>
  Gd (isB t67 true) (fun K => Stp pg (sBin .eql 5 (.tmp 74) (.const (.int .u8 1)) t74 (.int .u8 1)) w K) w fun t75 w =>
  Stp pg (sPick t67 t75 (.bool false)) w fun t76 w =>
  R t76 w
theorem law07_awake_p1_ok (Q : Exit → Env → World → Prop) (g : Env) (w : World) (R : Value → World → Prop) (hr : ∀ g w, (resVals pg rs_law07_awake g w fun vs => R (tup vs) w) → Q .ret g w) (h : law07_awake_p1 R w) : den pg ann_law07_awake code_law07_awake Q g w := by
  have e : (law07_awake_p1 R w) = den pg ann_law07_awake code_law07_awake (exQ (fun _ _ => False) (fun g w => resVals pg rs_law07_awake g w fun vs => R (tup vs) w) []) g w := by kernel_rfl
  exact den_exQ e h (fun _ _ h => h.elim) hr trivial

def law07_awake (w : World) (R : Value → World → Prop) : Prop :=
  law07_awake_p1 R w
theorem law07_awake_does {w : World} {R : Value → World → Prop} (h : law07_awake w R) : Does pg F_law07_awake #[] w R := by
  refine does_of_den (ann := ann_law07_awake) (fn := Try.f13) (c := code_law07_awake) (args := []) (rs := rs_law07_awake) (N := 77) TryM.mixed (by kernel_rfl) Try.func13 (by kernel_rfl) (by kernel_rfl) (by kernel_rfl) (of_decide_eq_true (by kernel_rfl)) (by kernel_rfl) ?_
  exact (law07_awake_p1_ok (retQ pg rs_law07_awake R) (envOf []) w R (fun _ _ h => h) h)
-- PIECES law07_awake/0 law07_awake_p1

/- lighterman/fse.Build -/
def ann_fse_Build : FA := ⟨F_fse_Build, fun i => match Nat.beq i 3 with | true => .split 3 5 (.perm [0, 1, 2, 3, 4, 5, 6] [(3, 5)] ([3, 5, 6], [(0, 3), (0, 5), (1, 3), (1, 5), (4, 5)]) [(false, []), (false, []), (false, []), (true, [1, 2]), (false, []), (true, [0, 3, 4]), (true, [])]) (.perm [0, 1, 2, 5, 3, 4, 6] [(5, 3)] ([3, 4, 6], [(0, 3), (0, 4), (1, 3), (1, 4), (2, 3)]) [(false, []), (false, []), (false, []), (true, [0, 1, 2]), (true, [2, 3]), (false, []), (true, [])]) | false => match Nat.beq i 16 with | true => .leaf ([5, 10], [(1, 5), (2, 5)]) [(false, []), (false, []), (false, []), (false, []), (false, []), (true, [2, 3]), (false, []), (false, []), (false, []), (false, []), (true, [])] | false => match Nat.beq i 17 with | true => .leaf ([13], []) [(false, []), (false, []), (false, []), (false, []), (false, []), (false, []), (false, []), (false, []), (false, []), (false, []), (false, []), (false, []), (false, []), (true, [])] | false => .leaf ([], []) []⟩
def rs_fse_Build : List ResultVar := [.cell 2 28, .tmp 3]
noncomputable def code_fse_Build : Code := bodyOf Try.f14
def fse_Build_p1 (R : Value → World → Prop) (t2 t4 : Value) (w : World) : Prop :=
  Stp pg (sLoad 28 t4) w fun t90 w =>
  Stp pg (sStore 28 t2 t90) w fun _u w =>
  LdR pg 28 t2 w fun r0 => R (.tuple #[r0, (.int .i64 0)]) w
theorem fse_Build_p1_ok (Q : Exit → Env → World → Prop) (g : Env) (w : World) (R : Value → World → Prop) (hr : ∀ g w, (resVals pg rs_fse_Build g w fun vs => R (tup vs) w) → Q .ret g w) (h : fse_Build_p1 R (g 2) (g 4) w) : den pg ann_fse_Build (dropS 1 (dropS 1 (dropS 1 (dropS 3 code_fse_Build)))) Q g w := by
  have e : (fse_Build_p1 R (g 2) (g 4) w) = den pg ann_fse_Build (dropS 1 (dropS 1 (dropS 1 (dropS 3 code_fse_Build)))) (exQ (fun _ _ => False) (fun g w => resVals pg rs_fse_Build g w fun vs => R (tup vs) w) []) g w := by kernel_rfl
  exact den_exQ e h (fun _ _ h => h.elim) hr trivial

def fse_Build_p2 (kn : Value → Value → Value → Value → Value → Value → World → Prop) (c_1 t2 t4 next_5 t42 t43 : Value) (w : World) : Prop :=
  Stp pg (sBin .add 3 (.tmp 43) (.const (.int .i64 1)) t43 (.int .i64 1)) w fun t89 w =>
  kn c_1 t2 t4 next_5 t42 t89 w
theorem fse_Build_p2_ok (Q : Exit → Env → World → Prop) (g : Env) (w : World) (kn : Value → Value → Value → Value → Value → Value → World → Prop) (hn : ∀ g w, kn (g 1) (g 2) (g 4) (g 5) (g 42) (g 43) w → Q .normal g w) (h : fse_Build_p2 kn (g 1) (g 2) (g 4) (g 5) (g 42) (g 43) w) : den pg ann_fse_Build (dropS 1 (dropS 2 (bI (bI (dropS 1 (takeS 1 (dropS 1 (dropS 1 (dropS 3 code_fse_Build))))))))) Q g w := by
  have e : (fse_Build_p2 kn (g 1) (g 2) (g 4) (g 5) (g 42) (g 43) w) = den pg ann_fse_Build (dropS 1 (dropS 2 (bI (bI (dropS 1 (takeS 1 (dropS 1 (dropS 1 (dropS 3 code_fse_Build))))))))) (exQ (fun g w => kn (g 1) (g 2) (g 4) (g 5) (g 42) (g 43) w) (fun _ _ => False) []) g w := by kernel_rfl
  exact den_exQ e h hn (fun _ _ h => h.elim) trivial

def fse_Build_p3 (kn : Value → Value → Value → Value → Value → Value → World → Prop) (c_1 t2 t4 next_5 x_9 k_10 t42 t43 : Value) (w : World) : Prop :=
  (dr w) = (dr w) ∧
  (dr w) = (dr w) ∧
  (dr w) = (dr w) ∧
  Stp pg (sNil x_9) (dr w) fun t79 w_ => w_ = (dr w) ∧
  Stp pg (sFAddr 43 t79 1) (dr w) fun t80 w_ => w_ = (dr w) ∧
  Stp pg (sLoad 3 t80) (dr w) fun t81 w_ => w_ = (dr w) ∧
  Stp pg (sBin .shl 3 (.tmp 77) (.tmp 81) k_10 t81) (dr w) fun t82 w_ => w_ = (dr w) ∧
  Stp pg (sFAddr 28 t4 1) (dr w) fun t83 w_ => w_ = (dr w) ∧
  Stp pg (sLoad 26 t83) (dr w) fun t84 w_ => w_ = (dr w) ∧
  Stp pg (sBi .len #[26] 3 [t84]) (dr w) fun t85 w_ => w_ = (dr w) ∧
  Stp pg (sBin .sub 3 (.tmp 82) (.tmp 85) t82 t85) (dr w) fun t86 w_ => w_ = (dr w) ∧
  Stp pg (sNil x_9) (dr w) fun t87 w_ => w_ = (dr w) ∧
  Stp pg (sFAddr 43 t87 2) (dr w) fun t88 w_ => w_ = (dr w) ∧
  Stp pg (sStore 3 t88 t86) (dr w) fun _u13 w17_13 =>
  kn c_1 t2 t4 next_5 t42 t43 w17_13
theorem fse_Build_p3_ok (Q : Exit → Env → World → Prop) (g : Env) (w : World) (kn : Value → Value → Value → Value → Value → Value → World → Prop) (hn : ∀ g w, kn (g 1) (g 2) (g 4) (g 5) (g 42) (g 43) w → Q .normal g w) (h : fse_Build_p3 kn (g 1) (g 2) (g 4) (g 5) (g 9) (g 10) (g 42) (g 43) w) : den pg ann_fse_Build (dropS 1 (dropS 4 (bI (takeS 1 (dropS 2 (bI (bI (dropS 1 (takeS 1 (dropS 1 (dropS 1 (dropS 3 code_fse_Build)))))))))))) Q g w := by
  have e : (fse_Build_p3 kn (g 1) (g 2) (g 4) (g 5) (g 9) (g 10) (g 42) (g 43) w) = den pg ann_fse_Build (dropS 1 (dropS 4 (bI (takeS 1 (dropS 2 (bI (bI (dropS 1 (takeS 1 (dropS 1 (dropS 1 (dropS 3 code_fse_Build)))))))))))) (exQ (fun g w => kn (g 1) (g 2) (g 4) (g 5) (g 42) (g 43) w) (fun _ _ => False) []) g w := by kernel_rfl
  exact den_exQ e h hn (fun _ _ h => h.elim) trivial

def fse_Build_p4 (kn : Value → Value → Value → Value → Value → Value → Value → Value → World → Prop) (c_1 t2 t4 next_5 x_9 k_10 t42 t43 : Value) (w : World) : Prop :=
  (dr w) = (dr w) ∧
  Stp pg (sFAddr 24 c_1 0) (dr w) fun t67 w_ => w_ = (dr w) ∧
  Stp pg (sLoad 3 t67) (dr w) fun t68 w_ => w_ = (dr w) ∧
  (dr w) = (dr w) ∧
  Stp pg (sCvt 3 50 k_10) (dr w) fun t70 w_ => w_ = (dr w) ∧
  Does pg F_math_bits_Len #[t70] (dr w) fun t71 w16_5 =>
  (Same pg (sLoad 3 t67) t68 w16_5 ∧ Same pg (sFAddr 24 c_1 0) t67 w16_5 ∧ True) ∧
  Stp pg (sBin .sub 3 (.tmp 68) (.tmp 71) t68 t71) w16_5 fun t72 w_ => w_ = w16_5 ∧
  Stp pg (sBin .add 3 (.tmp 72) (.const (.int .i64 1)) t72 (.int .i64 1)) w16_5 fun t73 w_ => w_ = w16_5 ∧
  Stp pg (sNil x_9) w16_5 fun t74 w_ => w_ = w16_5 ∧
  Stp pg (sFAddr 43 t74 1) w16_5 fun t75 w_ => w_ = w16_5 ∧
  Stp pg (sStore 3 t75 t73) w16_5 fun _u10 w16_10 =>
  kn c_1 t2 t4 next_5 x_9 k_10 t42 t43 w16_10
theorem fse_Build_p4_ok (Q : Exit → Env → World → Prop) (g : Env) (w : World) (kn : Value → Value → Value → Value → Value → Value → Value → Value → World → Prop) (hn : ∀ g w, kn (g 1) (g 2) (g 4) (g 5) (g 9) (g 10) (g 42) (g 43) w → Q .normal g w) (h : fse_Build_p4 kn (g 1) (g 2) (g 4) (g 5) (g 9) (g 10) (g 42) (g 43) w) : den pg ann_fse_Build (takeS 1 (dropS 4 (bI (takeS 1 (dropS 2 (bI (bI (dropS 1 (takeS 1 (dropS 1 (dropS 1 (dropS 3 code_fse_Build)))))))))))) Q g w := by
  have e : (fse_Build_p4 kn (g 1) (g 2) (g 4) (g 5) (g 9) (g 10) (g 42) (g 43) w) = den pg ann_fse_Build (takeS 1 (dropS 4 (bI (takeS 1 (dropS 2 (bI (bI (dropS 1 (takeS 1 (dropS 1 (dropS 1 (dropS 3 code_fse_Build)))))))))))) (exQ (fun g w => kn (g 1) (g 2) (g 4) (g 5) (g 9) (g 10) (g 42) (g 43) w) (fun _ _ => False) []) g w := by kernel_rfl
  exact den_exQ e h hn (fun _ _ h => h.elim) trivial

def fse_Build_p5 (kn : Value → Value → Value → Value → Value → Value → World → Prop) (c_1 t2 t4 next_5 x_9 k_10 t42 t43 : Value) (w : World) : Prop :=
  fse_Build_p4 (fun c_1 t2 t4 next_5 x_9 k_10 t42 t43 w => fse_Build_p3 kn c_1 t2 t4 next_5 x_9 k_10 t42 t43 w) c_1 t2 t4 next_5 x_9 k_10 t42 t43 w
theorem fse_Build_p5_ok (Q : Exit → Env → World → Prop) (g : Env) (w : World) (kn : Value → Value → Value → Value → Value → Value → World → Prop) (hn : ∀ g w, kn (g 1) (g 2) (g 4) (g 5) (g 42) (g 43) w → Q .normal g w) (h : fse_Build_p5 kn (g 1) (g 2) (g 4) (g 5) (g 9) (g 10) (g 42) (g 43) w) : den pg ann_fse_Build (dropS 4 (bI (takeS 1 (dropS 2 (bI (bI (dropS 1 (takeS 1 (dropS 1 (dropS 1 (dropS 3 code_fse_Build))))))))))) Q g w := by
  exact den_seqs 1 (dropS 4 (bI (takeS 1 (dropS 2 (bI (bI (dropS 1 (takeS 1 (dropS 1 (dropS 1 (dropS 3 code_fse_Build))))))))))) g w (by kernel_rfl) (fse_Build_p4_ok (thenE (fun g w => den pg ann_fse_Build (dropS 1 (dropS 4 (bI (takeS 1 (dropS 2 (bI (bI (dropS 1 (takeS 1 (dropS 1 (dropS 1 (dropS 3 code_fse_Build)))))))))))) Q g w) Q) g w (fun c_1 t2 t4 next_5 x_9 k_10 t42 t43 w => fse_Build_p3 kn c_1 t2 t4 next_5 x_9 k_10 t42 t43 w) (fun g w h => thenE_n (K := fun g w => den pg ann_fse_Build (dropS 1 (dropS 4 (bI (takeS 1 (dropS 2 (bI (bI (dropS 1 (takeS 1 (dropS 1 (dropS 1 (dropS 3 code_fse_Build)))))))))))) Q g w) (fse_Build_p3_ok Q g w kn hn h)) h)

def fse_Build_p6 (kn : Value → Value → Value → Value → Value → Value → Value → Value → World → Prop) (c_1 t2 t4 next_5 t42 t43 : Value) (w : World) : Prop :=
  Stp pg (sFAddr 28 t4 1) w fun t46 w =>
  Stp pg (sLoad 26 t46) w fun t47 w =>
  Stp pg (sIAddr 26 t47 t43) w fun t49 w =>
  Stp pg (sNil t49) w fun t52 w =>
  Stp pg (sFAddr 43 t52 0) w fun t53 w =>
  Stp pg (sLoad 5 t53) w fun t54 w =>
  Stp pg (sIAddr 22 next_5 t54) w fun t55 w =>
  Stp pg (sLoad 3 t55) w fun t56 w =>
  Stp pg (sNil t49) w fun t59 w =>
  Stp pg (sFAddr 43 t59 0) w fun t60 w =>
  Stp pg (sLoad 5 t60) w fun t61 w =>
  Stp pg (sIAddr 22 next_5 t61) w fun t62 w =>
  Stp pg (sLoad 3 t62) w fun t63 w =>
  Stp pg (sBin .add 3 (.tmp 63) (.const (.int .i64 1)) t63 (.int .i64 1)) w fun t64 w =>
  Stp pg (sIAddr 22 next_5 t61) w fun t65 w =>
  Stp pg (sStore 3 t65 t64) w fun _u w =>
  kn c_1 t2 t4 next_5 t49 t56 t42 t43 w
theorem fse_Build_p6_ok (Q : Exit → Env → World → Prop) (g : Env) (w : World) (kn : Value → Value → Value → Value → Value → Value → Value → Value → World → Prop) (hn : ∀ g w, kn (g 1) (g 2) (g 4) (g 5) (g 9) (g 10) (g 42) (g 43) w → Q .normal g w) (h : fse_Build_p6 kn (g 1) (g 2) (g 4) (g 5) (g 42) (g 43) w) : den pg ann_fse_Build (takeS 4 (bI (takeS 1 (dropS 2 (bI (bI (dropS 1 (takeS 1 (dropS 1 (dropS 1 (dropS 3 code_fse_Build))))))))))) Q g w := by
  have e : (fse_Build_p6 kn (g 1) (g 2) (g 4) (g 5) (g 42) (g 43) w) = den pg ann_fse_Build (takeS 4 (bI (takeS 1 (dropS 2 (bI (bI (dropS 1 (takeS 1 (dropS 1 (dropS 1 (dropS 3 code_fse_Build))))))))))) (exQ (fun g w => kn (g 1) (g 2) (g 4) (g 5) (g 9) (g 10) (g 42) (g 43) w) (fun _ _ => False) []) g w := by kernel_rfl
  exact den_exQ e h hn (fun _ _ h => h.elim) trivial

def fse_Build_p7 (kn : Value → Value → Value → Value → Value → Value → World → Prop) (c_1 t2 t4 next_5 t42 t43 : Value) (w : World) : Prop :=
  fse_Build_p6 (fun c_1 t2 t4 next_5 x_9 k_10 t42 t43 w => fse_Build_p5 kn c_1 t2 t4 next_5 x_9 k_10 t42 t43 w) c_1 t2 t4 next_5 t42 t43 w
theorem fse_Build_p7_ok (Q : Exit → Env → World → Prop) (g : Env) (w : World) (kn : Value → Value → Value → Value → Value → Value → World → Prop) (hn : ∀ g w, kn (g 1) (g 2) (g 4) (g 5) (g 42) (g 43) w → Q .normal g w) (h : fse_Build_p7 kn (g 1) (g 2) (g 4) (g 5) (g 42) (g 43) w) : den pg ann_fse_Build (bI (takeS 1 (dropS 2 (bI (bI (dropS 1 (takeS 1 (dropS 1 (dropS 1 (dropS 3 code_fse_Build)))))))))) Q g w := by
  exact den_seqs 4 (bI (takeS 1 (dropS 2 (bI (bI (dropS 1 (takeS 1 (dropS 1 (dropS 1 (dropS 3 code_fse_Build)))))))))) g w (by kernel_rfl) (fse_Build_p6_ok (thenE (fun g w => den pg ann_fse_Build (dropS 4 (bI (takeS 1 (dropS 2 (bI (bI (dropS 1 (takeS 1 (dropS 1 (dropS 1 (dropS 3 code_fse_Build))))))))))) Q g w) Q) g w (fun c_1 t2 t4 next_5 x_9 k_10 t42 t43 w => fse_Build_p5 kn c_1 t2 t4 next_5 x_9 k_10 t42 t43 w) (fun g w h => thenE_n (K := fun g w => den pg ann_fse_Build (dropS 4 (bI (takeS 1 (dropS 2 (bI (bI (dropS 1 (takeS 1 (dropS 1 (dropS 1 (dropS 3 code_fse_Build))))))))))) Q g w) (fse_Build_p5_ok Q g w kn hn h)) h)

def fse_Build_p8 (kn : Value → Value → Value → Value → Value → Value → World → Prop) (c_1 t2 t4 next_5 t42 t43 : Value) (w : World) : Prop :=
  fse_Build_p7 kn c_1 t2 t4 next_5 t42 t43 w
theorem fse_Build_p8_ok (Q : Exit → Env → World → Prop) (g : Env) (w : World) (kn : Value → Value → Value → Value → Value → Value → World → Prop) (hn : ∀ g w, kn (g 1) (g 2) (g 4) (g 5) (g 42) (g 43) w → Q .normal g w) (h : fse_Build_p8 kn (g 1) (g 2) (g 4) (g 5) (g 42) (g 43) w) : den pg ann_fse_Build (takeS 1 (dropS 2 (bI (bI (dropS 1 (takeS 1 (dropS 1 (dropS 1 (dropS 3 code_fse_Build))))))))) Q g w :=
  den_blk 3 (takeS 1 (dropS 2 (bI (bI (dropS 1 (takeS 1 (dropS 1 (dropS 1 (dropS 3 code_fse_Build))))))))) g w (by kernel_rfl) (fse_Build_p7_ok (blk 3 Q) g w kn hn h)

def fse_Build_p9 (kn : Value → Value → Value → Value → Value → Value → World → Prop) (c_1 t2 t4 next_5 t42 t43 : Value) (w : World) : Prop :=
  fse_Build_p8 (fun c_1 t2 t4 next_5 t42 t43 w => fse_Build_p2 kn c_1 t2 t4 next_5 t42 t43 w) c_1 t2 t4 next_5 t42 t43 w
theorem fse_Build_p9_ok (Q : Exit → Env → World → Prop) (g : Env) (w : World) (kn : Value → Value → Value → Value → Value → Value → World → Prop) (hn : ∀ g w, kn (g 1) (g 2) (g 4) (g 5) (g 42) (g 43) w → Q .normal g w) (h : fse_Build_p9 kn (g 1) (g 2) (g 4) (g 5) (g 42) (g 43) w) : den pg ann_fse_Build (dropS 2 (bI (bI (dropS 1 (takeS 1 (dropS 1 (dropS 1 (dropS 3 code_fse_Build)))))))) Q g w := by
  exact den_seqs 1 (dropS 2 (bI (bI (dropS 1 (takeS 1 (dropS 1 (dropS 1 (dropS 3 code_fse_Build)))))))) g w (by kernel_rfl) (fse_Build_p8_ok (thenE (fun g w => den pg ann_fse_Build (dropS 1 (dropS 2 (bI (bI (dropS 1 (takeS 1 (dropS 1 (dropS 1 (dropS 3 code_fse_Build))))))))) Q g w) Q) g w (fun c_1 t2 t4 next_5 t42 t43 w => fse_Build_p2 kn c_1 t2 t4 next_5 t42 t43 w) (fun g w h => thenE_n (K := fun g w => den pg ann_fse_Build (dropS 1 (dropS 2 (bI (bI (dropS 1 (takeS 1 (dropS 1 (dropS 1 (dropS 3 code_fse_Build))))))))) Q g w) (fse_Build_p2_ok Q g w kn hn h)) h)

def fse_Build_p10 (kn : Value → Value → Value → Value → Value → Value → World → Prop) (k2 : Value → Value → World → Prop) (c_1 t2 t4 next_5 t42 t43 : Value) (w : World) : Prop :=
  Stp pg (sBin .lss 3 (.tmp 43) (.tmp 42) t43 t42) w fun t44 w =>
  Cnd t44
    (kn c_1 t2 t4 next_5 t42 t43 w)
    (k2 t2 t4 w)
theorem fse_Build_p10_ok (Q : Exit → Env → World → Prop) (g : Env) (w : World) (kn : Value → Value → Value → Value → Value → Value → World → Prop) (k2 : Value → Value → World → Prop) (hn : ∀ g w, kn (g 1) (g 2) (g 4) (g 5) (g 42) (g 43) w → Q .normal g w) (h2 : ∀ g w, k2 (g 2) (g 4) w → Q (.exit 2) g w) (h : fse_Build_p10 kn k2 (g 1) (g 2) (g 4) (g 5) (g 42) (g 43) w) : den pg ann_fse_Build (takeS 2 (bI (bI (dropS 1 (takeS 1 (dropS 1 (dropS 1 (dropS 3 code_fse_Build)))))))) Q g w := by
  have e : (fse_Build_p10 kn k2 (g 1) (g 2) (g 4) (g 5) (g 42) (g 43) w) = den pg ann_fse_Build (takeS 2 (bI (bI (dropS 1 (takeS 1 (dropS 1 (dropS 1 (dropS 3 code_fse_Build)))))))) (exQ (fun g w => kn (g 1) (g 2) (g 4) (g 5) (g 42) (g 43) w) (fun _ _ => False) [(2, fun g w => k2 (g 2) (g 4) w)]) g w := by kernel_rfl
  exact den_exQ e h hn (fun _ _ h => h.elim) ⟨h2, trivial⟩

def fse_Build_p11 (kn : Value → Value → Value → Value → Value → Value → World → Prop) (k2 : Value → Value → World → Prop) (c_1 t2 t4 next_5 t42 t43 : Value) (w : World) : Prop :=
  fse_Build_p10 (fun c_1 t2 t4 next_5 t42 t43 w => fse_Build_p9 kn c_1 t2 t4 next_5 t42 t43 w) k2 c_1 t2 t4 next_5 t42 t43 w
theorem fse_Build_p11_ok (Q : Exit → Env → World → Prop) (g : Env) (w : World) (kn : Value → Value → Value → Value → Value → Value → World → Prop) (k2 : Value → Value → World → Prop) (hn : ∀ g w, kn (g 1) (g 2) (g 4) (g 5) (g 42) (g 43) w → Q .normal g w) (h2 : ∀ g w, k2 (g 2) (g 4) w → Q (.exit 2) g w) (h : fse_Build_p11 kn k2 (g 1) (g 2) (g 4) (g 5) (g 42) (g 43) w) : den pg ann_fse_Build (bI (bI (dropS 1 (takeS 1 (dropS 1 (dropS 1 (dropS 3 code_fse_Build))))))) Q g w := by
  exact den_seqs 2 (bI (bI (dropS 1 (takeS 1 (dropS 1 (dropS 1 (dropS 3 code_fse_Build))))))) g w (by kernel_rfl) (fse_Build_p10_ok (thenE (fun g w => den pg ann_fse_Build (dropS 2 (bI (bI (dropS 1 (takeS 1 (dropS 1 (dropS 1 (dropS 3 code_fse_Build)))))))) Q g w) Q) g w (fun c_1 t2 t4 next_5 t42 t43 w => fse_Build_p9 kn c_1 t2 t4 next_5 t42 t43 w) k2 (fun g w h => thenE_n (K := fun g w => den pg ann_fse_Build (dropS 2 (bI (bI (dropS 1 (takeS 1 (dropS 1 (dropS 1 (dropS 3 code_fse_Build)))))))) Q g w) (fse_Build_p9_ok Q g w kn hn h)) h2 h)

def fse_Build_p12 (k2 : Value → Value → World → Prop) (c_1 t2 t4 next_5 t42 t43 : Value) (w : World) : Prop :=
  LoopD (fun (X : Value → World → Prop) (t : Value) (w : World) => fse_Build_p11 (fun _ _ _ _ _ t43 w => X t43 w) k2 c_1 t2 t4 next_5 t42 t w) t43 w
theorem fse_Build_p12_ok (Q : Exit → Env → World → Prop) (g : Env) (w : World) (k2 : Value → Value → World → Prop) (h2 : ∀ g w, k2 (g 2) (g 4) w → Q (.exit 2) g w) (h : fse_Build_p12 k2 (g 1) (g 2) (g 4) (g 5) (g 42) (g 43) w) : den pg ann_fse_Build (bI (dropS 1 (takeS 1 (dropS 1 (dropS 1 (dropS 3 code_fse_Build)))))) Q g w := by
  refine den_loops (T := Value) (fun g : Env => g 43) (fun X t w => fse_Build_p11 (fun _ _ _ _ _ t43 w => X t43 w) k2 (g 1) (g 2) (g 4) (g 5) (g 42) t w) (bI (dropS 1 (takeS 1 (dropS 1 (dropS 1 (dropS 3 code_fse_Build)))))) (by kernel_rfl) h (fun X g1 w1 ha h1 => ?_)
  rw [← agree_at (s := 1) ha (by kernel_rfl)] at h1
  rw [← agree_at (s := 2) ha (by kernel_rfl)] at h1
  rw [← agree_at (s := 4) ha (by kernel_rfl)] at h1
  rw [← agree_at (s := 5) ha (by kernel_rfl)] at h1
  rw [← agree_at (s := 42) ha (by kernel_rfl)] at h1
  exact (fse_Build_p11_ok (thenE (fun g2 w2 => X ((fun g : Env => g 43) g2) w2) Q) g1 w1 (fun _ _ _ _ _ t43 w => X t43 w) k2 (fun _ _ h => h) h2 h1)

def fse_Build_p13 (kn : Value → Value → World → Prop) (c_1 t2 t4 next_5 t42 t43 : Value) (w : World) : Prop :=
  fse_Build_p12 kn c_1 t2 t4 next_5 t42 t43 w
theorem fse_Build_p13_ok (Q : Exit → Env → World → Prop) (g : Env) (w : World) (kn : Value → Value → World → Prop) (hn : ∀ g w, kn (g 2) (g 4) w → Q .normal g w) (h : fse_Build_p13 kn (g 1) (g 2) (g 4) (g 5) (g 42) (g 43) w) : den pg ann_fse_Build (dropS 1 (takeS 1 (dropS 1 (dropS 1 (dropS 3 code_fse_Build))))) Q g w :=
  den_blk 2 (dropS 1 (takeS 1 (dropS 1 (dropS 1 (dropS 3 code_fse_Build))))) g w (by kernel_rfl) (fse_Build_p12_ok (blk 2 Q) g w kn hn h)

def fse_Build_p14 (kn : Value → Value → Value → Value → Value → Value → World → Prop) (c_1 t2 t4 next_5 : Value) (w : World) : Prop :=
  Stp pg (sFAddr 28 t4 1) w fun t40 w =>
  Stp pg (sLoad 26 t40) w fun t41 w =>
  Stp pg (sBi .len #[26] 3 [t41]) w fun t42 w =>
  kn c_1 t2 t4 next_5 t42 (.int .i64 0) w
theorem fse_Build_p14_ok (Q : Exit → Env → World → Prop) (g : Env) (w : World) (kn : Value → Value → Value → Value → Value → Value → World → Prop) (hn : ∀ g w, kn (g 1) (g 2) (g 4) (g 5) (g 42) (g 43) w → Q .normal g w) (h : fse_Build_p14 kn (g 1) (g 2) (g 4) (g 5) w) : den pg ann_fse_Build (takeS 1 (takeS 1 (dropS 1 (dropS 1 (dropS 3 code_fse_Build))))) Q g w := by
  have e : (fse_Build_p14 kn (g 1) (g 2) (g 4) (g 5) w) = den pg ann_fse_Build (takeS 1 (takeS 1 (dropS 1 (dropS 1 (dropS 3 code_fse_Build))))) (exQ (fun g w => kn (g 1) (g 2) (g 4) (g 5) (g 42) (g 43) w) (fun _ _ => False) []) g w := by kernel_rfl
  exact den_exQ e h hn (fun _ _ h => h.elim) trivial

def fse_Build_p15 (kn : Value → Value → World → Prop) (c_1 t2 t4 next_5 : Value) (w : World) : Prop :=
  fse_Build_p14 (fun c_1 t2 t4 next_5 t42 t43 w => fse_Build_p13 kn c_1 t2 t4 next_5 t42 t43 w) c_1 t2 t4 next_5 w
theorem fse_Build_p15_ok (Q : Exit → Env → World → Prop) (g : Env) (w : World) (kn : Value → Value → World → Prop) (hn : ∀ g w, kn (g 2) (g 4) w → Q .normal g w) (h : fse_Build_p15 kn (g 1) (g 2) (g 4) (g 5) w) : den pg ann_fse_Build (takeS 1 (dropS 1 (dropS 1 (dropS 3 code_fse_Build)))) Q g w := by
  exact den_seqs 1 (takeS 1 (dropS 1 (dropS 1 (dropS 3 code_fse_Build)))) g w (by kernel_rfl) (fse_Build_p14_ok (thenE (fun g w => den pg ann_fse_Build (dropS 1 (takeS 1 (dropS 1 (dropS 1 (dropS 3 code_fse_Build))))) Q g w) Q) g w (fun c_1 t2 t4 next_5 t42 t43 w => fse_Build_p13 kn c_1 t2 t4 next_5 t42 t43 w) (fun g w h => thenE_n (K := fun g w => den pg ann_fse_Build (dropS 1 (takeS 1 (dropS 1 (dropS 1 (dropS 3 code_fse_Build))))) Q g w) (fse_Build_p13_ok Q g w kn hn h)) h)

def fse_Build_p16 (R : Value → World → Prop) (c_1 t2 t4 next_5 : Value) (w : World) : Prop :=
  fse_Build_p15 (fun t2 t4 w => fse_Build_p1 R t2 t4 w) c_1 t2 t4 next_5 w
theorem fse_Build_p16_ok (Q : Exit → Env → World → Prop) (g : Env) (w : World) (R : Value → World → Prop) (hr : ∀ g w, (resVals pg rs_fse_Build g w fun vs => R (tup vs) w) → Q .ret g w) (h : fse_Build_p16 R (g 1) (g 2) (g 4) (g 5) w) : den pg ann_fse_Build (dropS 1 (dropS 1 (dropS 3 code_fse_Build))) Q g w := by
  exact den_seqs 1 (dropS 1 (dropS 1 (dropS 3 code_fse_Build))) g w (by kernel_rfl) (fse_Build_p15_ok (thenE (fun g w => den pg ann_fse_Build (dropS 1 (dropS 1 (dropS 1 (dropS 3 code_fse_Build)))) Q g w) Q) g w (fun t2 t4 w => fse_Build_p1 R t2 t4 w) (fun g w h => thenE_n (K := fun g w => den pg ann_fse_Build (dropS 1 (dropS 1 (dropS 1 (dropS 3 code_fse_Build)))) Q g w) (fse_Build_p1_ok Q g w R hr h)) h)

def fse_Build_p17 (kn : Value → Value → Value → Value → Value → Value → Value → World → Prop) (k0 : Value → Value → Value → Value → World → Prop) (c_1 t2 t4 next_5 t25 t26 t27 : Value) (w : World) : Prop :=
  Stp pg (sBin .lss 3 (.tmp 27) (.tmp 26) t27 t26) w fun t28 w =>
  Cnd t28
    (Stp pg (sIAddr 22 t25 t27) w fun t30 w =>
    Stp pg (sLoad 3 t30) w fun t31 w =>
    Stp pg (sUn .neg t31) w fun t36 w =>
    Stp pg (sBi .max #[3, 3] 3 [t31, t36]) w fun t37 w =>
    Stp pg (sIAddr 22 next_5 t27) w fun t38 w =>
    Stp pg (sStore 3 t38 t37) w fun _u w =>
    Stp pg (sBin .add 3 (.tmp 27) (.const (.int .i64 1)) t27 (.int .i64 1)) w fun t39 w =>
    kn c_1 t2 t4 next_5 t25 t26 t39 w)
    (k0 c_1 t2 t4 next_5 w)
theorem fse_Build_p17_ok (Q : Exit → Env → World → Prop) (g : Env) (w : World) (kn : Value → Value → Value → Value → Value → Value → Value → World → Prop) (k0 : Value → Value → Value → Value → World → Prop) (hn : ∀ g w, kn (g 1) (g 2) (g 4) (g 5) (g 25) (g 26) (g 27) w → Q .normal g w) (h0 : ∀ g w, k0 (g 1) (g 2) (g 4) (g 5) w → Q (.exit 0) g w) (h : fse_Build_p17 kn k0 (g 1) (g 2) (g 4) (g 5) (g 25) (g 26) (g 27) w) : den pg ann_fse_Build (bI (bI (dropS 1 (takeS 1 (dropS 1 (dropS 3 code_fse_Build)))))) Q g w := by
  have e : (fse_Build_p17 kn k0 (g 1) (g 2) (g 4) (g 5) (g 25) (g 26) (g 27) w) = den pg ann_fse_Build (bI (bI (dropS 1 (takeS 1 (dropS 1 (dropS 3 code_fse_Build)))))) (exQ (fun g w => kn (g 1) (g 2) (g 4) (g 5) (g 25) (g 26) (g 27) w) (fun _ _ => False) [(0, fun g w => k0 (g 1) (g 2) (g 4) (g 5) w)]) g w := by kernel_rfl
  exact den_exQ e h hn (fun _ _ h => h.elim) ⟨h0, trivial⟩

def fse_Build_p18 (k0 : Value → Value → Value → Value → World → Prop) (c_1 t2 t4 next_5 t25 t26 t27 : Value) (w : World) : Prop :=
  LoopD (fun (X : Value → World → Prop) (t : Value) (w : World) => fse_Build_p17 (fun _ _ _ _ _ _ t27 w => X t27 w) k0 c_1 t2 t4 next_5 t25 t26 t w) t27 w
theorem fse_Build_p18_ok (Q : Exit → Env → World → Prop) (g : Env) (w : World) (k0 : Value → Value → Value → Value → World → Prop) (h0 : ∀ g w, k0 (g 1) (g 2) (g 4) (g 5) w → Q (.exit 0) g w) (h : fse_Build_p18 k0 (g 1) (g 2) (g 4) (g 5) (g 25) (g 26) (g 27) w) : den pg ann_fse_Build (bI (dropS 1 (takeS 1 (dropS 1 (dropS 3 code_fse_Build))))) Q g w := by
  refine den_loops (T := Value) (fun g : Env => g 27) (fun X t w => fse_Build_p17 (fun _ _ _ _ _ _ t27 w => X t27 w) k0 (g 1) (g 2) (g 4) (g 5) (g 25) (g 26) t w) (bI (dropS 1 (takeS 1 (dropS 1 (dropS 3 code_fse_Build))))) (by kernel_rfl) h (fun X g1 w1 ha h1 => ?_)
  rw [← agree_at (s := 1) ha (by kernel_rfl)] at h1
  rw [← agree_at (s := 2) ha (by kernel_rfl)] at h1
  rw [← agree_at (s := 4) ha (by kernel_rfl)] at h1
  rw [← agree_at (s := 5) ha (by kernel_rfl)] at h1
  rw [← agree_at (s := 25) ha (by kernel_rfl)] at h1
  rw [← agree_at (s := 26) ha (by kernel_rfl)] at h1
  exact (fse_Build_p17_ok (thenE (fun g2 w2 => X ((fun g : Env => g 27) g2) w2) Q) g1 w1 (fun _ _ _ _ _ _ t27 w => X t27 w) k0 (fun _ _ h => h) h0 h1)

def fse_Build_p19 (kn : Value → Value → Value → Value → World → Prop) (c_1 t2 t4 next_5 t25 t26 t27 : Value) (w : World) : Prop :=
  fse_Build_p18 kn c_1 t2 t4 next_5 t25 t26 t27 w
theorem fse_Build_p19_ok (Q : Exit → Env → World → Prop) (g : Env) (w : World) (kn : Value → Value → Value → Value → World → Prop) (hn : ∀ g w, kn (g 1) (g 2) (g 4) (g 5) w → Q .normal g w) (h : fse_Build_p19 kn (g 1) (g 2) (g 4) (g 5) (g 25) (g 26) (g 27) w) : den pg ann_fse_Build (dropS 1 (takeS 1 (dropS 1 (dropS 3 code_fse_Build)))) Q g w :=
  den_blk 0 (dropS 1 (takeS 1 (dropS 1 (dropS 3 code_fse_Build)))) g w (by kernel_rfl) (fse_Build_p18_ok (blk 0 Q) g w kn hn h)

def fse_Build_p20 (kn : Value → Value → Value → Value → Value → Value → Value → World → Prop) (c_1 t2 t4 next_5 : Value) (w : World) : Prop :=
  Stp pg (sFAddr 24 c_1 1) w fun t24 w =>
  Stp pg (sLoad 22 t24) w fun t25 w =>
  Stp pg (sBi .len #[22] 3 [t25]) w fun t26 w =>
  kn c_1 t2 t4 next_5 t25 t26 (.int .i64 0) w
theorem fse_Build_p20_ok (Q : Exit → Env → World → Prop) (g : Env) (w : World) (kn : Value → Value → Value → Value → Value → Value → Value → World → Prop) (hn : ∀ g w, kn (g 1) (g 2) (g 4) (g 5) (g 25) (g 26) (g 27) w → Q .normal g w) (h : fse_Build_p20 kn (g 1) (g 2) (g 4) (g 5) w) : den pg ann_fse_Build (takeS 1 (takeS 1 (dropS 1 (dropS 3 code_fse_Build)))) Q g w := by
  have e : (fse_Build_p20 kn (g 1) (g 2) (g 4) (g 5) w) = den pg ann_fse_Build (takeS 1 (takeS 1 (dropS 1 (dropS 3 code_fse_Build)))) (exQ (fun g w => kn (g 1) (g 2) (g 4) (g 5) (g 25) (g 26) (g 27) w) (fun _ _ => False) []) g w := by kernel_rfl
  exact den_exQ e h hn (fun _ _ h => h.elim) trivial

def fse_Build_p21 (kn : Value → Value → Value → Value → World → Prop) (c_1 t2 t4 next_5 : Value) (w : World) : Prop :=
  fse_Build_p20 (fun c_1 t2 t4 next_5 t25 t26 t27 w => fse_Build_p19 kn c_1 t2 t4 next_5 t25 t26 t27 w) c_1 t2 t4 next_5 w
theorem fse_Build_p21_ok (Q : Exit → Env → World → Prop) (g : Env) (w : World) (kn : Value → Value → Value → Value → World → Prop) (hn : ∀ g w, kn (g 1) (g 2) (g 4) (g 5) w → Q .normal g w) (h : fse_Build_p21 kn (g 1) (g 2) (g 4) (g 5) w) : den pg ann_fse_Build (takeS 1 (dropS 1 (dropS 3 code_fse_Build))) Q g w := by
  exact den_seqs 1 (takeS 1 (dropS 1 (dropS 3 code_fse_Build))) g w (by kernel_rfl) (fse_Build_p20_ok (thenE (fun g w => den pg ann_fse_Build (dropS 1 (takeS 1 (dropS 1 (dropS 3 code_fse_Build)))) Q g w) Q) g w (fun c_1 t2 t4 next_5 t25 t26 t27 w => fse_Build_p19 kn c_1 t2 t4 next_5 t25 t26 t27 w) (fun g w h => thenE_n (K := fun g w => den pg ann_fse_Build (dropS 1 (takeS 1 (dropS 1 (dropS 3 code_fse_Build)))) Q g w) (fse_Build_p19_ok Q g w kn hn h)) h)

def fse_Build_p22 (R : Value → World → Prop) (c_1 t2 t4 next_5 : Value) (w : World) : Prop :=
  fse_Build_p21 (fun c_1 t2 t4 next_5 w => fse_Build_p16 R c_1 t2 t4 next_5 w) c_1 t2 t4 next_5 w
theorem fse_Build_p22_ok (Q : Exit → Env → World → Prop) (g : Env) (w : World) (R : Value → World → Prop) (hr : ∀ g w, (resVals pg rs_fse_Build g w fun vs => R (tup vs) w) → Q .ret g w) (h : fse_Build_p22 R (g 1) (g 2) (g 4) (g 5) w) : den pg ann_fse_Build (dropS 1 (dropS 3 code_fse_Build)) Q g w := by
  exact den_seqs 1 (dropS 1 (dropS 3 code_fse_Build)) g w (by kernel_rfl) (fse_Build_p21_ok (thenE (fun g w => den pg ann_fse_Build (dropS 1 (dropS 1 (dropS 3 code_fse_Build))) Q g w) Q) g w (fun c_1 t2 t4 next_5 w => fse_Build_p16 R c_1 t2 t4 next_5 w) (fun g w h => thenE_n (K := fun g w => den pg ann_fse_Build (dropS 1 (dropS 1 (dropS 3 code_fse_Build))) Q g w) (fse_Build_p16_ok Q g w R hr h)) h)

def fse_Build_p23 (kn : Value → Value → Value → Value → World → Prop) (c_1 t2 t4 : Value) (w : World) : Prop :=
  Stp pg (sFAddr 24 c_1 1) w fun t20 w =>
  Stp pg (sLoad 22 t20) w fun t21 w =>
  Stp pg (sBi .len #[22] 3 [t21]) w fun t22 w =>
  Stp pg (sMkSlice 22 t22 t22) w fun t23 w =>
  kn c_1 t2 t4 t23 w
theorem fse_Build_p23_ok (Q : Exit → Env → World → Prop) (g : Env) (w : World) (kn : Value → Value → Value → Value → World → Prop) (hn : ∀ g w, kn (g 1) (g 2) (g 4) (g 5) w → Q .normal g w) (h : fse_Build_p23 kn (g 1) (g 2) (g 4) w) : den pg ann_fse_Build (takeS 1 (dropS 3 code_fse_Build)) Q g w := by
  have e : (fse_Build_p23 kn (g 1) (g 2) (g 4) w) = den pg ann_fse_Build (takeS 1 (dropS 3 code_fse_Build)) (exQ (fun g w => kn (g 1) (g 2) (g 4) (g 5) w) (fun _ _ => False) []) g w := by kernel_rfl
  exact den_exQ e h hn (fun _ _ h => h.elim) trivial

def fse_Build_p24 (R : Value → World → Prop) (c_1 t2 t4 : Value) (w : World) : Prop :=
  fse_Build_p23 (fun c_1 t2 t4 next_5 w => fse_Build_p22 R c_1 t2 t4 next_5 w) c_1 t2 t4 w
theorem fse_Build_p24_ok (Q : Exit → Env → World → Prop) (g : Env) (w : World) (R : Value → World → Prop) (hr : ∀ g w, (resVals pg rs_fse_Build g w fun vs => R (tup vs) w) → Q .ret g w) (h : fse_Build_p24 R (g 1) (g 2) (g 4) w) : den pg ann_fse_Build (dropS 3 code_fse_Build) Q g w := by
  exact den_seqs 1 (dropS 3 code_fse_Build) g w (by kernel_rfl) (fse_Build_p23_ok (thenE (fun g w => den pg ann_fse_Build (dropS 1 (dropS 3 code_fse_Build)) Q g w) Q) g w (fun c_1 t2 t4 next_5 w => fse_Build_p22 R c_1 t2 t4 next_5 w) (fun g w h => thenE_n (K := fun g w => den pg ann_fse_Build (dropS 1 (dropS 3 code_fse_Build)) Q g w) (fse_Build_p22_ok Q g w R hr h)) h)

def fse_Build_p25 (kn : Value → Value → Value → World → Prop) (R : Value → World → Prop) (c_0 : Value) (w : World) : Prop :=
  Stp pg (sBox 24 c_0) w fun c_1 w =>
  Stp pg (sAlloc 28) w fun t2 w =>
  Stp pg (sLoad 24 c_1) w fun t11 w =>
  Does pg F_normal_Check #[t11, (.int .i64 15)] w fun t12 w =>
  Stp pg (sBin .neq 29 (.tmp 12) (.const (.int .i64 0)) t12 (.int .i64 0)) w fun t13 w =>
  Cnd t13
    (Stp pg (sBuild 28 []) w fun t14 w =>
    Stp pg (sStore 28 t2 t14) w fun _u w =>
    LdR pg 28 t2 w fun r0 => R (.tuple #[r0, (.int .i64 1)]) w)
    (Ord (ordB F_fse_Build 3 (opsIn 3 code_fse_Build) 3 5 w)
      (Stp pg (sFAddr 24 c_1 0) (dr w) fun t15 w_ => w_ = (dr w) ∧
      Stp pg (sLoad 3 t15) (dr w) fun t16 w_ => w_ = (dr w) ∧
      Stp pg (sLoad 24 c_1) (dr w) fun t17 w_ => w_ = (dr w) ∧
      Does pg F_fse_spread #[t17] (dr w) fun t18 w3_3 =>
      (Same pg (sLoad 3 t15) t16 w3_3 ∧ Same pg (sFAddr 24 c_1 0) t15 w3_3 ∧ True) ∧
      Stp pg (sBuild 28 [(0, t16), (1, t18)]) w3_3 fun t19 w_ => w_ = w3_3 ∧
      Stp pg (sAlloc 28) w3_3 fun t4 w3_5 =>
      (Same pg (sBuild 28 [(0, t16), (1, t18)]) t19 w3_5 ∧ Same pg (sLoad 3 t15) t16 w3_5 ∧ Same pg (sFAddr 24 c_1 0) t15 w3_5 ∧ True) ∧
      Stp pg (sStore 28 t4 t19) w3_5 fun _u6 w3_6 =>
      kn c_1 t2 t4 w3_6)
      (Stp pg (sFAddr 24 c_1 0) (dr w) fun t15 w_ => w_ = (dr w) ∧
      Stp pg (sLoad 3 t15) (dr w) fun t16 w_ => w_ = (dr w) ∧
      Stp pg (sLoad 24 c_1) (dr w) fun t17 w_ => w_ = (dr w) ∧
      Stp pg (sAlloc 28) (dr w) fun t4 w3_3 =>
      (Same pg (sLoad 24 c_1) t17 w3_3 ∧ Same pg (sLoad 3 t15) t16 w3_3 ∧ Same pg (sFAddr 24 c_1 0) t15 w3_3 ∧ True) ∧
      Does pg F_fse_spread #[t17] w3_3 fun t18 w3_4 =>
      (Same pg (sLoad 3 t15) t16 w3_4 ∧ Same pg (sFAddr 24 c_1 0) t15 w3_4 ∧ True) ∧
      Stp pg (sBuild 28 [(0, t16), (1, t18)]) w3_4 fun t19 w_ => w_ = w3_4 ∧
      Stp pg (sStore 28 t4 t19) w3_4 fun _u6 w3_6 =>
      kn c_1 t2 t4 w3_6))
theorem fse_Build_p25_ok (Q : Exit → Env → World → Prop) (g : Env) (w : World) (kn : Value → Value → Value → World → Prop) (R : Value → World → Prop) (hn : ∀ g w, kn (g 1) (g 2) (g 4) w → Q .normal g w) (hr : ∀ g w, (resVals pg rs_fse_Build g w fun vs => R (tup vs) w) → Q .ret g w) (h : fse_Build_p25 kn R (g 0) w) : den pg ann_fse_Build (takeS 3 code_fse_Build) Q g w := by
  have e : (fse_Build_p25 kn R (g 0) w) = den pg ann_fse_Build (takeS 3 code_fse_Build) (exQ (fun g w => kn (g 1) (g 2) (g 4) w) (fun g w => resVals pg rs_fse_Build g w fun vs => R (tup vs) w) []) g w := by kernel_rfl
  exact den_exQ e h hn hr trivial

def fse_Build_p26 (R : Value → World → Prop) (c_0 : Value) (w : World) : Prop :=
  fse_Build_p25 (fun c_1 t2 t4 w => fse_Build_p24 R c_1 t2 t4 w) R c_0 w
theorem fse_Build_p26_ok (Q : Exit → Env → World → Prop) (g : Env) (w : World) (R : Value → World → Prop) (hr : ∀ g w, (resVals pg rs_fse_Build g w fun vs => R (tup vs) w) → Q .ret g w) (h : fse_Build_p26 R (g 0) w) : den pg ann_fse_Build code_fse_Build Q g w := by
  exact den_seqs 3 code_fse_Build g w (by kernel_rfl) (fse_Build_p25_ok (thenE (fun g w => den pg ann_fse_Build (dropS 3 code_fse_Build) Q g w) Q) g w (fun c_1 t2 t4 w => fse_Build_p24 R c_1 t2 t4 w) R (fun g w h => thenE_n (K := fun g w => den pg ann_fse_Build (dropS 3 code_fse_Build) Q g w) (fse_Build_p24_ok Q g w R hr h)) hr h)

def fse_Build (a0 : Value) (w : World) (R : Value → World → Prop) : Prop :=
  fse_Build_p26 R a0 w
theorem fse_Build_does {a0 : Value} {w : World} {R : Value → World → Prop} (h : fse_Build a0 w R) : Does pg F_fse_Build #[a0] w R := by
  refine does_of_den (ann := ann_fse_Build) (fn := Try.f14) (c := code_fse_Build) (args := [a0]) (rs := rs_fse_Build) (N := 91) TryM.mixed (by kernel_rfl) Try.func14 (by kernel_rfl) (by kernel_rfl) (by kernel_rfl) (of_decide_eq_true (by kernel_rfl)) (by kernel_rfl) ?_
  exact (fse_Build_p26_ok (retQ pg rs_fse_Build R) (envOf [a0]) w R (fun _ _ h => h) h)
-- PIECES fse_Build/0 fse_Build_p1 fse_Build_p12 fse_Build_p13 fse_Build_p14 fse_Build_p15 fse_Build_p16 fse_Build_p18 fse_Build_p19 fse_Build_p20 fse_Build_p21 fse_Build_p22 fse_Build_p23 fse_Build_p24 fse_Build_p25 fse_Build_p26
-- PIECES fse_Build/1 fse_Build_p2 fse_Build_p3 fse_Build_p4 fse_Build_p5 fse_Build_p6 fse_Build_p7 fse_Build_p8 fse_Build_p9 fse_Build_p10 fse_Build_p11
-- PIECES fse_Build/2 fse_Build_p17

end Go.Proofs.Ytcbkdccobhkbpaa

/- The pieces of bodies, written by a program of ours off the loaded code, each with its proof. -/
import Derived.Test.YtcbkdccobhkbpaaF
namespace Go.Proofs.Ytcbkdccobhkbpaa
open Go Go.En
set_option linter.unusedVariables false
set_option maxRecDepth 20000
attribute [local irreducible] Go.En.den

/- lighterman/lightermanlaw07.FseBuilds -/
def ann_law07_FseBuilds : FA := ⟨F_law07_FseBuilds, fun i => .leaf ([], []) []⟩
def rs_law07_FseBuilds : List ResultVar := [.tmp 2]
noncomputable def code_law07_FseBuilds : Code := bodyOf Try.f3
def law07_FseBuilds_p1 (R : Value → World → Prop) (c_0 : Value) (w : World) : Prop :=
  Stp pg (sBox 24 c_0) w fun c_1 w =>
  Does pg F_law07_awake #[] w fun t8 w =>
  Stp pg (sUn .not t8) w fun t10 w =>
  Cnd t10
    (R (.bool false) w)
    (Stp pg (sFAddr 24 c_1 1) w fun t11 w =>
    Stp pg (sLoad 22 t11) w fun t12 w =>
    Stp pg (sBi .len #[22] 3 [t12]) w fun t13 w =>
    Stp pg (sBin .gtr 3 (.tmp 13) (.const (.int .i64 300)) t13 (.int .i64 300)) w fun t14 w =>
    Gd (isB t14 false) (fun K => Stp pg (sFAddr 24 c_1 0) w K) w fun t16 w =>
    Gd (isB t14 false) (fun K => Stp pg (sLoad 3 t16) w K) w fun t17 w =>
    Gd (isB t14 false) (fun K => Stp pg (sBin .gtr 3 (.tmp 17) (.const (.int .i64 10)) t17 (.int .i64 10)) w K) w fun t18 w =>
    Gd (isB t14 false) (fun K => K t18 w) w fun t19 w =>
    Gd (isB t19 true) (fun K => Stp pg (sFAddr 24 c_1 0) w K) w fun t20 w =>
    Gd (isB t19 true) (fun K => Stp pg (sLoad 3 t20) w K) w fun t21 w =>
    Gd (isB t19 true) (fun K => Stp pg (sBin .leq 3 (.tmp 21) (.const (.int .i64 15)) t21 (.int .i64 15)) w K) w fun t22 w =>
    Gd (isB t14 false) (fun K => Stp pg (sPick t19 t22 (.bool false)) w K) w fun t23 w =>
    Stp pg (sPick t14 (.bool true) t23) w fun t24 w =>
    Cnd t24
      (R (.bool true) w)
      (Stp pg (sLoad 24 c_1) w fun t26 w =>
      Does pg F_fse_Build #[t26] w fun t27 w =>
      Stp pg (sExtr t27 0) w fun t28 w =>
      Stp pg (sExtr t27 1) w fun t29 w =>
      Stp pg (sAlloc 28) w fun t4 w =>
      Stp pg (sStore 28 t4 t28) w fun _u w =>
      Stp pg (sLoad 24 c_1) w fun t31 w =>
      Does pg F_law07_modelOf #[t31] w fun t32 w =>
      Does pg F_ref07_Build #[t32] w fun t33 w =>
      Stp pg (sExtr t33 0) w fun t34 w =>
      Stp pg (sExtr t33 1) w fun t35 w =>
      Stp pg (sAlloc 34) w fun w_6 w =>
      Stp pg (sStore 34 w_6 t34) w fun _u w =>
      Stp pg (sBin .eql 29 (.tmp 36) (.tmp 37) t29 t35) w fun t38 w =>
      Gd (isB t38 true) (fun K => Stp pg (sLoad 28 t4) w K) w fun t40 w =>
      Gd (isB t38 true) (fun K => Stp pg (sLoad 34 w_6) w K) w fun t41 w =>
      Gd (isB t38 true) (fun K => Does pg F_law07_sameTable #[t40, t41] w K) w fun t42 w =>
      Stp pg (sPick t38 t42 (.bool false)) w fun t43 w =>
      R t43 w))
theorem law07_FseBuilds_p1_ok (Q : Exit → Env → World → Prop) (g : Env) (w : World) (R : Value → World → Prop) (hr : ∀ g w, (resVals pg rs_law07_FseBuilds g w fun vs => R (tup vs) w) → Q .ret g w) (h : law07_FseBuilds_p1 R (g 0) w) : den pg ann_law07_FseBuilds code_law07_FseBuilds Q g w := by
  have e : (law07_FseBuilds_p1 R (g 0) w) = den pg ann_law07_FseBuilds code_law07_FseBuilds (exQ (fun _ _ => False) (fun g w => resVals pg rs_law07_FseBuilds g w fun vs => R (tup vs) w) []) g w := by kernel_rfl
  exact den_exQ e h (fun _ _ h => h.elim) hr trivial

def law07_FseBuilds (a0 : Value) (w : World) (R : Value → World → Prop) : Prop :=
  law07_FseBuilds_p1 R a0 w
theorem law07_FseBuilds_does {a0 : Value} {w : World} {R : Value → World → Prop} (h : law07_FseBuilds a0 w R) : Does pg F_law07_FseBuilds #[a0] w R := by
  refine does_of_den (ann := ann_law07_FseBuilds) (fn := Try.f3) (c := code_law07_FseBuilds) (args := [a0]) (rs := rs_law07_FseBuilds) (N := 44) TryM.mixed (by kernel_rfl) Try.func3 (by kernel_rfl) (by kernel_rfl) (by kernel_rfl) (of_decide_eq_true (by kernel_rfl)) (by kernel_rfl) ?_
  exact (law07_FseBuilds_p1_ok (retQ pg rs_law07_FseBuilds R) (envOf [a0]) w R (fun _ _ h => h) h)
-- PIECES law07_FseBuilds/0 law07_FseBuilds_p1

/- lighterman/lightermanlaw07.FseParts -/
def ann_law07_FseParts : FA := ⟨F_law07_FseParts, fun i => match Nat.beq i 21 with | true => .leaf ([], []) [(false, []), (false, []), (false, []), (false, []), (false, []), (false, []), (false, []), (false, []), (false, []), (false, []), (false, []), (false, []), (false, []), (false, []), (false, []), (false, []), (false, []), (false, []), (false, []), (false, []), (false, []), (false, []), (false, []), (false, []), (false, []), (false, []), (false, []), (false, []), (false, [])] | false => .leaf ([], []) []⟩
def rs_law07_FseParts : List ResultVar := [.tmp 2]
noncomputable def code_law07_FseParts : Code := bodyOf Try.f4
def law07_FseParts_p1 (R : Value → World → Prop)  (w : World) : Prop :=
  R (.bool true) w
theorem law07_FseParts_p1_ok (Q : Exit → Env → World → Prop) (g : Env) (w : World) (R : Value → World → Prop) (hr : ∀ g w, (resVals pg rs_law07_FseParts g w fun vs => R (tup vs) w) → Q .ret g w) (h : law07_FseParts_p1 R w) : den pg ann_law07_FseParts (dropS 1 (dropS 1 (dropS 1 (dropS 7 code_law07_FseParts)))) Q g w := by
  have e : (law07_FseParts_p1 R w) = den pg ann_law07_FseParts (dropS 1 (dropS 1 (dropS 1 (dropS 7 code_law07_FseParts)))) (exQ (fun _ _ => False) (fun g w => resVals pg rs_law07_FseParts g w fun vs => R (tup vs) w) []) g w := by kernel_rfl
  exact den_exQ e h (fun _ _ h => h.elim) hr trivial

def law07_FseParts_p2 (kn : Value → Value → Value → Value → Value → World → Prop) (c_1 t4 n_6 t8 s_9 : Value) (w : World) : Prop :=
  Stp pg (sBin .add 3 (.tmp 60) (.const (.int .i64 1)) s_9 (.int .i64 1)) w fun t61 w =>
  kn c_1 t4 n_6 t8 t61 w
theorem law07_FseParts_p2_ok (Q : Exit → Env → World → Prop) (g : Env) (w : World) (kn : Value → Value → Value → Value → Value → World → Prop) (hn : ∀ g w, kn (g 1) (g 4) (g 6) (g 8) (g 9) w → Q .normal g w) (h : law07_FseParts_p2 kn (g 1) (g 4) (g 6) (g 8) (g 9) w) : den pg ann_law07_FseParts (dropS 1 (dropS 1 (bI (bI (dropS 1 (takeS 1 (dropS 1 (dropS 1 (dropS 7 code_law07_FseParts))))))))) Q g w := by
  have e : (law07_FseParts_p2 kn (g 1) (g 4) (g 6) (g 8) (g 9) w) = den pg ann_law07_FseParts (dropS 1 (dropS 1 (bI (bI (dropS 1 (takeS 1 (dropS 1 (dropS 1 (dropS 7 code_law07_FseParts))))))))) (exQ (fun g w => kn (g 1) (g 4) (g 6) (g 8) (g 9) w) (fun _ _ => False) []) g w := by kernel_rfl
  exact den_exQ e h hn (fun _ _ h => h.elim) trivial

def law07_FseParts_p3 (kn : Value → Value → Value → Value → Value → World → Prop) (R : Value → World → Prop) (c_1 t4 n_6 t8 s_9 want_10 : Value) (w : World) : Prop :=
  Stp pg (sIAddr 41 n_6 s_9) w fun t101 w =>
  Stp pg (sLoad 3 t101) w fun t102 w =>
  Stp pg (sBin .neq 3 (.tmp 102) (.tmp 103) t102 want_10) w fun t104 w =>
  Cnd t104
    (R (.bool false) w)
    (kn c_1 t4 n_6 t8 s_9 w)
theorem law07_FseParts_p3_ok (Q : Exit → Env → World → Prop) (g : Env) (w : World) (kn : Value → Value → Value → Value → Value → World → Prop) (R : Value → World → Prop) (hn : ∀ g w, kn (g 1) (g 4) (g 6) (g 8) (g 9) w → Q .normal g w) (hr : ∀ g w, (resVals pg rs_law07_FseParts g w fun vs => R (tup vs) w) → Q .ret g w) (h : law07_FseParts_p3 kn R (g 1) (g 4) (g 6) (g 8) (g 9) (g 10) w) : den pg ann_law07_FseParts (dropS 2 (bI (takeS 1 (dropS 1 (bI (bI (dropS 1 (takeS 1 (dropS 1 (dropS 1 (dropS 7 code_law07_FseParts))))))))))) Q g w := by
  have e : (law07_FseParts_p3 kn R (g 1) (g 4) (g 6) (g 8) (g 9) (g 10) w) = den pg ann_law07_FseParts (dropS 2 (bI (takeS 1 (dropS 1 (bI (bI (dropS 1 (takeS 1 (dropS 1 (dropS 1 (dropS 7 code_law07_FseParts))))))))))) (exQ (fun g w => kn (g 1) (g 4) (g 6) (g 8) (g 9) w) (fun g w => resVals pg rs_law07_FseParts g w fun vs => R (tup vs) w) []) g w := by kernel_rfl
  exact den_exQ e h hn hr trivial

def law07_FseParts_p4 (kn : Value → Value → Value → Value → Value → Value → World → Prop) (R : Value → World → Prop) (c_1 t4 n_6 t8 s_9 : Value) (w : World) : Prop :=
  Stp pg (sFAddr 24 c_1 1) w fun t62 w =>
  Stp pg (sLoad 22 t62) w fun t63 w =>
  Stp pg (sIAddr 22 t63 s_9) w fun t65 w =>
  Stp pg (sLoad 3 t65) w fun t66 w =>
  Stp pg (sBin .lss 3 (.tmp 67) (.const (.int .i64 0)) t66 (.int .i64 0)) w fun t68 w =>
  Cnd t68
    (Stp pg (sFAddr 28 t4 1) (dr w) fun t69 w_ => w_ = (dr w) ∧
    Stp pg (sLoad 26 t69) (dr w) fun t70 w_ => w_ = (dr w) ∧
    (dr w) = (dr w) ∧
    Stp pg (sIAddr 26 t70 t8) (dr w) fun t72 w_ => w_ = (dr w) ∧
    Stp pg (sFAddr 43 t72 0) (dr w) fun t73 w_ => w_ = (dr w) ∧
    Stp pg (sLoad 5 t73) (dr w) fun t74 w_ => w_ = (dr w) ∧
    Stp pg (sCvt 5 3 t74) (dr w) fun t75 w_ => w_ = (dr w) ∧
    (dr w) = (dr w) ∧
    Stp pg (sBin .neq 3 (.tmp 75) (.tmp 76) t75 s_9) (dr w) fun t77 w_ => w_ = (dr w) ∧
    (dr w) = (dr w) ∧
    Gd (isB t77 false) (fun K => Stp pg (sFAddr 28 t4 1) (dr w) K) (dr w) fun t79 w_ => w_ = (dr w) ∧
    Gd (isB t77 false) (fun K => Stp pg (sLoad 26 t79) (dr w) K) (dr w) fun t80 w_ => w_ = (dr w) ∧
    Gd (isB t77 false) (fun K => K t8 (dr w)) (dr w) fun t81 w_ => w_ = (dr w) ∧
    Gd (isB t77 false) (fun K => Stp pg (sIAddr 26 t80 t81) (dr w) K) (dr w) fun t82 w_ => w_ = (dr w) ∧
    Gd (isB t77 false) (fun K => Stp pg (sFAddr 43 t82 1) (dr w) K) (dr w) fun t83 w_ => w_ = (dr w) ∧
    Gd (isB t77 false) (fun K => Stp pg (sLoad 3 t83) (dr w) K) (dr w) fun t84 w_ => w_ = (dr w) ∧
    Gd (isB t77 false) (fun K => Stp pg (sFAddr 28 t4 0) (dr w) K) (dr w) fun t85 w_ => w_ = (dr w) ∧
    Gd (isB t77 false) (fun K => Stp pg (sLoad 3 t85) (dr w) K) (dr w) fun t86 w_ => w_ = (dr w) ∧
    Gd (isB t77 false) (fun K => Stp pg (sBin .neq 3 (.tmp 84) (.tmp 86) t84 t86) (dr w) K) (dr w) fun t87 w_ => w_ = (dr w) ∧
    Stp pg (sPick t77 (.bool true) t87) (dr w) fun t88 w_ => w_ = (dr w) ∧
    (dr w) = (dr w) ∧
    Gd (isB t88 false) (fun K => Stp pg (sFAddr 28 t4 1) (dr w) K) (dr w) fun t90 w_ => w_ = (dr w) ∧
    Gd (isB t88 false) (fun K => Stp pg (sLoad 26 t90) (dr w) K) (dr w) fun t91 w_ => w_ = (dr w) ∧
    Gd (isB t88 false) (fun K => K t8 (dr w)) (dr w) fun t92 w_ => w_ = (dr w) ∧
    Gd (isB t88 false) (fun K => Stp pg (sIAddr 26 t91 t92) (dr w) K) (dr w) fun t93 w_ => w_ = (dr w) ∧
    Gd (isB t88 false) (fun K => Stp pg (sFAddr 43 t93 2) (dr w) K) (dr w) fun t94 w_ => w_ = (dr w) ∧
    Gd (isB t88 false) (fun K => Stp pg (sLoad 3 t94) (dr w) K) (dr w) fun t95 w_ => w_ = (dr w) ∧
    Gd (isB t88 false) (fun K => Stp pg (sBin .neq 3 (.tmp 95) (.const (.int .i64 0)) t95 (.int .i64 0)) (dr w) K) (dr w) fun t96 w_ => w_ = (dr w) ∧
    Stp pg (sPick t88 (.bool true) t96) (dr w) fun t97 w_ => w_ = (dr w) ∧
    Cnd t97
      (R (.bool false) (dr w))
      (Stp pg (sBin .sub 3 (.tmp 98) (.const (.int .i64 1)) t8 (.int .i64 1)) (dr w) fun t99 w =>
      kn c_1 t4 n_6 t99 s_9 (.int .i64 1) w))
    (kn c_1 t4 n_6 t8 s_9 t66 w)
theorem law07_FseParts_p4_ok (Q : Exit → Env → World → Prop) (g : Env) (w : World) (kn : Value → Value → Value → Value → Value → Value → World → Prop) (R : Value → World → Prop) (hn : ∀ g w, kn (g 1) (g 4) (g 6) (g 8) (g 9) (g 10) w → Q .normal g w) (hr : ∀ g w, (resVals pg rs_law07_FseParts g w fun vs => R (tup vs) w) → Q .ret g w) (h : law07_FseParts_p4 kn R (g 1) (g 4) (g 6) (g 8) (g 9) w) : den pg ann_law07_FseParts (takeS 2 (bI (takeS 1 (dropS 1 (bI (bI (dropS 1 (takeS 1 (dropS 1 (dropS 1 (dropS 7 code_law07_FseParts))))))))))) Q g w := by
  have e : (law07_FseParts_p4 kn R (g 1) (g 4) (g 6) (g 8) (g 9) w) = den pg ann_law07_FseParts (takeS 2 (bI (takeS 1 (dropS 1 (bI (bI (dropS 1 (takeS 1 (dropS 1 (dropS 1 (dropS 7 code_law07_FseParts))))))))))) (exQ (fun g w => kn (g 1) (g 4) (g 6) (g 8) (g 9) (g 10) w) (fun g w => resVals pg rs_law07_FseParts g w fun vs => R (tup vs) w) []) g w := by kernel_rfl
  exact den_exQ e h hn hr trivial

def law07_FseParts_p5 (kn : Value → Value → Value → Value → Value → World → Prop) (R : Value → World → Prop) (c_1 t4 n_6 t8 s_9 : Value) (w : World) : Prop :=
  law07_FseParts_p4 (fun c_1 t4 n_6 t8 s_9 want_10 w => law07_FseParts_p3 kn R c_1 t4 n_6 t8 s_9 want_10 w) R c_1 t4 n_6 t8 s_9 w
theorem law07_FseParts_p5_ok (Q : Exit → Env → World → Prop) (g : Env) (w : World) (kn : Value → Value → Value → Value → Value → World → Prop) (R : Value → World → Prop) (hn : ∀ g w, kn (g 1) (g 4) (g 6) (g 8) (g 9) w → Q .normal g w) (hr : ∀ g w, (resVals pg rs_law07_FseParts g w fun vs => R (tup vs) w) → Q .ret g w) (h : law07_FseParts_p5 kn R (g 1) (g 4) (g 6) (g 8) (g 9) w) : den pg ann_law07_FseParts (bI (takeS 1 (dropS 1 (bI (bI (dropS 1 (takeS 1 (dropS 1 (dropS 1 (dropS 7 code_law07_FseParts)))))))))) Q g w := by
  exact den_seqs 2 (bI (takeS 1 (dropS 1 (bI (bI (dropS 1 (takeS 1 (dropS 1 (dropS 1 (dropS 7 code_law07_FseParts)))))))))) g w (by kernel_rfl) (law07_FseParts_p4_ok (thenE (fun g w => den pg ann_law07_FseParts (dropS 2 (bI (takeS 1 (dropS 1 (bI (bI (dropS 1 (takeS 1 (dropS 1 (dropS 1 (dropS 7 code_law07_FseParts))))))))))) Q g w) Q) g w (fun c_1 t4 n_6 t8 s_9 want_10 w => law07_FseParts_p3 kn R c_1 t4 n_6 t8 s_9 want_10 w) R (fun g w h => thenE_n (K := fun g w => den pg ann_law07_FseParts (dropS 2 (bI (takeS 1 (dropS 1 (bI (bI (dropS 1 (takeS 1 (dropS 1 (dropS 1 (dropS 7 code_law07_FseParts))))))))))) Q g w) (law07_FseParts_p3_ok Q g w kn R hn hr h)) hr h)

def law07_FseParts_p6 (kn : Value → Value → Value → Value → Value → World → Prop) (R : Value → World → Prop) (c_1 t4 n_6 t8 s_9 : Value) (w : World) : Prop :=
  law07_FseParts_p5 kn R c_1 t4 n_6 t8 s_9 w
theorem law07_FseParts_p6_ok (Q : Exit → Env → World → Prop) (g : Env) (w : World) (kn : Value → Value → Value → Value → Value → World → Prop) (R : Value → World → Prop) (hn : ∀ g w, kn (g 1) (g 4) (g 6) (g 8) (g 9) w → Q .normal g w) (hr : ∀ g w, (resVals pg rs_law07_FseParts g w fun vs => R (tup vs) w) → Q .ret g w) (h : law07_FseParts_p6 kn R (g 1) (g 4) (g 6) (g 8) (g 9) w) : den pg ann_law07_FseParts (takeS 1 (dropS 1 (bI (bI (dropS 1 (takeS 1 (dropS 1 (dropS 1 (dropS 7 code_law07_FseParts))))))))) Q g w :=
  den_blk 3 (takeS 1 (dropS 1 (bI (bI (dropS 1 (takeS 1 (dropS 1 (dropS 1 (dropS 7 code_law07_FseParts))))))))) g w (by kernel_rfl) (law07_FseParts_p5_ok (blk 3 Q) g w kn R hn hr h)

def law07_FseParts_p7 (kn : Value → Value → Value → Value → Value → World → Prop) (R : Value → World → Prop) (c_1 t4 n_6 t8 s_9 : Value) (w : World) : Prop :=
  law07_FseParts_p6 (fun c_1 t4 n_6 t8 s_9 w => law07_FseParts_p2 kn c_1 t4 n_6 t8 s_9 w) R c_1 t4 n_6 t8 s_9 w
theorem law07_FseParts_p7_ok (Q : Exit → Env → World → Prop) (g : Env) (w : World) (kn : Value → Value → Value → Value → Value → World → Prop) (R : Value → World → Prop) (hn : ∀ g w, kn (g 1) (g 4) (g 6) (g 8) (g 9) w → Q .normal g w) (hr : ∀ g w, (resVals pg rs_law07_FseParts g w fun vs => R (tup vs) w) → Q .ret g w) (h : law07_FseParts_p7 kn R (g 1) (g 4) (g 6) (g 8) (g 9) w) : den pg ann_law07_FseParts (dropS 1 (bI (bI (dropS 1 (takeS 1 (dropS 1 (dropS 1 (dropS 7 code_law07_FseParts)))))))) Q g w := by
  exact den_seqs 1 (dropS 1 (bI (bI (dropS 1 (takeS 1 (dropS 1 (dropS 1 (dropS 7 code_law07_FseParts)))))))) g w (by kernel_rfl) (law07_FseParts_p6_ok (thenE (fun g w => den pg ann_law07_FseParts (dropS 1 (dropS 1 (bI (bI (dropS 1 (takeS 1 (dropS 1 (dropS 1 (dropS 7 code_law07_FseParts))))))))) Q g w) Q) g w (fun c_1 t4 n_6 t8 s_9 w => law07_FseParts_p2 kn c_1 t4 n_6 t8 s_9 w) R (fun g w h => thenE_n (K := fun g w => den pg ann_law07_FseParts (dropS 1 (dropS 1 (bI (bI (dropS 1 (takeS 1 (dropS 1 (dropS 1 (dropS 7 code_law07_FseParts))))))))) Q g w) (law07_FseParts_p2_ok Q g w kn hn h)) hr h)

def law07_FseParts_p8 (kn : Value → Value → Value → Value → Value → World → Prop) (k2 : World → Prop) (c_1 t4 n_6 t8 s_9 : Value) (w : World) : Prop :=
  Stp pg (sFAddr 24 c_1 1) w fun t56 w =>
  Stp pg (sLoad 22 t56) w fun t57 w =>
  Stp pg (sBi .len #[22] 3 [t57]) w fun t58 w =>
  Stp pg (sBin .lss 3 (.tmp 55) (.tmp 58) s_9 t58) w fun t59 w =>
  Cnd t59
    (kn c_1 t4 n_6 t8 s_9 w)
    (k2 w)
theorem law07_FseParts_p8_ok (Q : Exit → Env → World → Prop) (g : Env) (w : World) (kn : Value → Value → Value → Value → Value → World → Prop) (k2 : World → Prop) (hn : ∀ g w, kn (g 1) (g 4) (g 6) (g 8) (g 9) w → Q .normal g w) (h2 : ∀ g w, k2 w → Q (.exit 2) g w) (h : law07_FseParts_p8 kn k2 (g 1) (g 4) (g 6) (g 8) (g 9) w) : den pg ann_law07_FseParts (takeS 1 (bI (bI (dropS 1 (takeS 1 (dropS 1 (dropS 1 (dropS 7 code_law07_FseParts)))))))) Q g w := by
  have e : (law07_FseParts_p8 kn k2 (g 1) (g 4) (g 6) (g 8) (g 9) w) = den pg ann_law07_FseParts (takeS 1 (bI (bI (dropS 1 (takeS 1 (dropS 1 (dropS 1 (dropS 7 code_law07_FseParts)))))))) (exQ (fun g w => kn (g 1) (g 4) (g 6) (g 8) (g 9) w) (fun _ _ => False) [(2, fun g w => k2 w)]) g w := by kernel_rfl
  exact den_exQ e h hn (fun _ _ h => h.elim) ⟨h2, trivial⟩

def law07_FseParts_p9 (kn : Value → Value → Value → Value → Value → World → Prop) (k2 : World → Prop) (R : Value → World → Prop) (c_1 t4 n_6 t8 s_9 : Value) (w : World) : Prop :=
  law07_FseParts_p8 (fun c_1 t4 n_6 t8 s_9 w => law07_FseParts_p7 kn R c_1 t4 n_6 t8 s_9 w) k2 c_1 t4 n_6 t8 s_9 w
theorem law07_FseParts_p9_ok (Q : Exit → Env → World → Prop) (g : Env) (w : World) (kn : Value → Value → Value → Value → Value → World → Prop) (k2 : World → Prop) (R : Value → World → Prop) (hn : ∀ g w, kn (g 1) (g 4) (g 6) (g 8) (g 9) w → Q .normal g w) (h2 : ∀ g w, k2 w → Q (.exit 2) g w) (hr : ∀ g w, (resVals pg rs_law07_FseParts g w fun vs => R (tup vs) w) → Q .ret g w) (h : law07_FseParts_p9 kn k2 R (g 1) (g 4) (g 6) (g 8) (g 9) w) : den pg ann_law07_FseParts (bI (bI (dropS 1 (takeS 1 (dropS 1 (dropS 1 (dropS 7 code_law07_FseParts))))))) Q g w := by
  exact den_seqs 1 (bI (bI (dropS 1 (takeS 1 (dropS 1 (dropS 1 (dropS 7 code_law07_FseParts))))))) g w (by kernel_rfl) (law07_FseParts_p8_ok (thenE (fun g w => den pg ann_law07_FseParts (dropS 1 (bI (bI (dropS 1 (takeS 1 (dropS 1 (dropS 1 (dropS 7 code_law07_FseParts)))))))) Q g w) Q) g w (fun c_1 t4 n_6 t8 s_9 w => law07_FseParts_p7 kn R c_1 t4 n_6 t8 s_9 w) k2 (fun g w h => thenE_n (K := fun g w => den pg ann_law07_FseParts (dropS 1 (bI (bI (dropS 1 (takeS 1 (dropS 1 (dropS 1 (dropS 7 code_law07_FseParts)))))))) Q g w) (law07_FseParts_p7_ok Q g w kn R hn hr h)) h2 h)

def law07_FseParts_p10 (k2 : World → Prop) (R : Value → World → Prop) (c_1 t4 n_6 t8 s_9 : Value) (w : World) : Prop :=
  LoopD (fun (X : (Value × Value) → World → Prop) (t : Value × Value) (w : World) => law07_FseParts_p9 (fun _ _ _ t8 s_9 w => X (t8, s_9) w) k2 R c_1 t4 n_6 t.1 t.2 w) (t8, s_9) w
theorem law07_FseParts_p10_ok (Q : Exit → Env → World → Prop) (g : Env) (w : World) (k2 : World → Prop) (R : Value → World → Prop) (h2 : ∀ g w, k2 w → Q (.exit 2) g w) (hr : ∀ g w, (resVals pg rs_law07_FseParts g w fun vs => R (tup vs) w) → Q .ret g w) (h : law07_FseParts_p10 k2 R (g 1) (g 4) (g 6) (g 8) (g 9) w) : den pg ann_law07_FseParts (bI (dropS 1 (takeS 1 (dropS 1 (dropS 1 (dropS 7 code_law07_FseParts)))))) Q g w := by
  refine den_loops (T := Value × Value) (fun g : Env => (g 8, g 9)) (fun X t w => law07_FseParts_p9 (fun _ _ _ t8 s_9 w => X (t8, s_9) w) k2 R (g 1) (g 4) (g 6) t.1 t.2 w) (bI (dropS 1 (takeS 1 (dropS 1 (dropS 1 (dropS 7 code_law07_FseParts)))))) (by kernel_rfl) h (fun X g1 w1 ha h1 => ?_)
  rw [← agree_at (s := 1) ha (by kernel_rfl)] at h1
  rw [← agree_at (s := 4) ha (by kernel_rfl)] at h1
  rw [← agree_at (s := 6) ha (by kernel_rfl)] at h1
  exact (law07_FseParts_p9_ok (thenE (fun g2 w2 => X ((fun g : Env => (g 8, g 9)) g2) w2) Q) g1 w1 (fun _ _ _ t8 s_9 w => X (t8, s_9) w) k2 R (fun _ _ h => h) h2 hr h1)

def law07_FseParts_p11 (kn : World → Prop) (R : Value → World → Prop) (c_1 t4 n_6 t8 s_9 : Value) (w : World) : Prop :=
  law07_FseParts_p10 kn R c_1 t4 n_6 t8 s_9 w
theorem law07_FseParts_p11_ok (Q : Exit → Env → World → Prop) (g : Env) (w : World) (kn : World → Prop) (R : Value → World → Prop) (hn : ∀ g w, kn w → Q .normal g w) (hr : ∀ g w, (resVals pg rs_law07_FseParts g w fun vs => R (tup vs) w) → Q .ret g w) (h : law07_FseParts_p11 kn R (g 1) (g 4) (g 6) (g 8) (g 9) w) : den pg ann_law07_FseParts (dropS 1 (takeS 1 (dropS 1 (dropS 1 (dropS 7 code_law07_FseParts))))) Q g w :=
  den_blk 2 (dropS 1 (takeS 1 (dropS 1 (dropS 1 (dropS 7 code_law07_FseParts))))) g w (by kernel_rfl) (law07_FseParts_p10_ok (blk 2 Q) g w kn R hn hr h)

def law07_FseParts_p12 (kn : Value → Value → Value → Value → Value → World → Prop) (c_1 t4 n_6 t8 : Value) (w : World) : Prop :=
  kn c_1 t4 n_6 t8 (.int .i64 0) w
theorem law07_FseParts_p12_ok (Q : Exit → Env → World → Prop) (g : Env) (w : World) (kn : Value → Value → Value → Value → Value → World → Prop) (hn : ∀ g w, kn (g 1) (g 4) (g 6) (g 8) (g 9) w → Q .normal g w) (h : law07_FseParts_p12 kn (g 1) (g 4) (g 6) (g 8) w) : den pg ann_law07_FseParts (takeS 1 (takeS 1 (dropS 1 (dropS 1 (dropS 7 code_law07_FseParts))))) Q g w := by
  have e : (law07_FseParts_p12 kn (g 1) (g 4) (g 6) (g 8) w) = den pg ann_law07_FseParts (takeS 1 (takeS 1 (dropS 1 (dropS 1 (dropS 7 code_law07_FseParts))))) (exQ (fun g w => kn (g 1) (g 4) (g 6) (g 8) (g 9) w) (fun _ _ => False) []) g w := by kernel_rfl
  exact den_exQ e h hn (fun _ _ h => h.elim) trivial

def law07_FseParts_p13 (kn : World → Prop) (R : Value → World → Prop) (c_1 t4 n_6 t8 : Value) (w : World) : Prop :=
  law07_FseParts_p12 (fun c_1 t4 n_6 t8 s_9 w => law07_FseParts_p11 kn R c_1 t4 n_6 t8 s_9 w) c_1 t4 n_6 t8 w
theorem law07_FseParts_p13_ok (Q : Exit → Env → World → Prop) (g : Env) (w : World) (kn : World → Prop) (R : Value → World → Prop) (hn : ∀ g w, kn w → Q .normal g w) (hr : ∀ g w, (resVals pg rs_law07_FseParts g w fun vs => R (tup vs) w) → Q .ret g w) (h : law07_FseParts_p13 kn R (g 1) (g 4) (g 6) (g 8) w) : den pg ann_law07_FseParts (takeS 1 (dropS 1 (dropS 1 (dropS 7 code_law07_FseParts)))) Q g w := by
  exact den_seqs 1 (takeS 1 (dropS 1 (dropS 1 (dropS 7 code_law07_FseParts)))) g w (by kernel_rfl) (law07_FseParts_p12_ok (thenE (fun g w => den pg ann_law07_FseParts (dropS 1 (takeS 1 (dropS 1 (dropS 1 (dropS 7 code_law07_FseParts))))) Q g w) Q) g w (fun c_1 t4 n_6 t8 s_9 w => law07_FseParts_p11 kn R c_1 t4 n_6 t8 s_9 w) (fun g w h => thenE_n (K := fun g w => den pg ann_law07_FseParts (dropS 1 (takeS 1 (dropS 1 (dropS 1 (dropS 7 code_law07_FseParts))))) Q g w) (law07_FseParts_p11_ok Q g w kn R hn hr h)) h)

def law07_FseParts_p14 (R : Value → World → Prop) (c_1 t4 n_6 t8 : Value) (w : World) : Prop :=
  law07_FseParts_p13 (fun  w => law07_FseParts_p1 R w) R c_1 t4 n_6 t8 w
theorem law07_FseParts_p14_ok (Q : Exit → Env → World → Prop) (g : Env) (w : World) (R : Value → World → Prop) (hr : ∀ g w, (resVals pg rs_law07_FseParts g w fun vs => R (tup vs) w) → Q .ret g w) (h : law07_FseParts_p14 R (g 1) (g 4) (g 6) (g 8) w) : den pg ann_law07_FseParts (dropS 1 (dropS 1 (dropS 7 code_law07_FseParts))) Q g w := by
  exact den_seqs 1 (dropS 1 (dropS 1 (dropS 7 code_law07_FseParts))) g w (by kernel_rfl) (law07_FseParts_p13_ok (thenE (fun g w => den pg ann_law07_FseParts (dropS 1 (dropS 1 (dropS 1 (dropS 7 code_law07_FseParts)))) Q g w) Q) g w (fun  w => law07_FseParts_p1 R w) R (fun g w h => thenE_n (K := fun g w => den pg ann_law07_FseParts (dropS 1 (dropS 1 (dropS 1 (dropS 7 code_law07_FseParts)))) Q g w) (law07_FseParts_p1_ok Q g w R hr h)) hr h)

def law07_FseParts_p15 (kn : Value → Value → Value → Value → World → Prop) (c_1 t4 n_6 : Value) (w : World) : Prop :=
  Stp pg (sFAddr 28 t4 1) w fun t51 w =>
  Stp pg (sLoad 26 t51) w fun t52 w =>
  Stp pg (sBi .len #[26] 3 [t52]) w fun t53 w =>
  Stp pg (sBin .sub 3 (.tmp 53) (.const (.int .i64 1)) t53 (.int .i64 1)) w fun t54 w =>
  kn c_1 t4 n_6 t54 w
theorem law07_FseParts_p15_ok (Q : Exit → Env → World → Prop) (g : Env) (w : World) (kn : Value → Value → Value → Value → World → Prop) (hn : ∀ g w, kn (g 1) (g 4) (g 6) (g 8) w → Q .normal g w) (h : law07_FseParts_p15 kn (g 1) (g 4) (g 6) w) : den pg ann_law07_FseParts (takeS 1 (dropS 1 (dropS 7 code_law07_FseParts))) Q g w := by
  have e : (law07_FseParts_p15 kn (g 1) (g 4) (g 6) w) = den pg ann_law07_FseParts (takeS 1 (dropS 1 (dropS 7 code_law07_FseParts))) (exQ (fun g w => kn (g 1) (g 4) (g 6) (g 8) w) (fun _ _ => False) []) g w := by kernel_rfl
  exact den_exQ e h hn (fun _ _ h => h.elim) trivial

def law07_FseParts_p16 (R : Value → World → Prop) (c_1 t4 n_6 : Value) (w : World) : Prop :=
  law07_FseParts_p15 (fun c_1 t4 n_6 t8 w => law07_FseParts_p14 R c_1 t4 n_6 t8 w) c_1 t4 n_6 w
theorem law07_FseParts_p16_ok (Q : Exit → Env → World → Prop) (g : Env) (w : World) (R : Value → World → Prop) (hr : ∀ g w, (resVals pg rs_law07_FseParts g w fun vs => R (tup vs) w) → Q .ret g w) (h : law07_FseParts_p16 R (g 1) (g 4) (g 6) w) : den pg ann_law07_FseParts (dropS 1 (dropS 7 code_law07_FseParts)) Q g w := by
  exact den_seqs 1 (dropS 1 (dropS 7 code_law07_FseParts)) g w (by kernel_rfl) (law07_FseParts_p15_ok (thenE (fun g w => den pg ann_law07_FseParts (dropS 1 (dropS 1 (dropS 7 code_law07_FseParts))) Q g w) Q) g w (fun c_1 t4 n_6 t8 w => law07_FseParts_p14 R c_1 t4 n_6 t8 w) (fun g w h => thenE_n (K := fun g w => den pg ann_law07_FseParts (dropS 1 (dropS 1 (dropS 7 code_law07_FseParts))) Q g w) (law07_FseParts_p14_ok Q g w R hr h)) h)

def law07_FseParts_p17 (kn : Value → Value → Value → Value → World → Prop) (k0 : Value → Value → Value → World → Prop) (c_1 t4 n_6 i_7 : Value) (w : World) : Prop :=
  Stp pg (sFAddr 28 t4 1) w fun t35 w =>
  Stp pg (sLoad 26 t35) w fun t36 w =>
  Stp pg (sBi .len #[26] 3 [t36]) w fun t37 w =>
  Stp pg (sBin .lss 3 (.tmp 34) (.tmp 37) i_7 t37) w fun t38 w =>
  Cnd t38
    (Stp pg (sFAddr 28 t4 1) w fun t41 w =>
    Stp pg (sLoad 26 t41) w fun t42 w =>
    Stp pg (sIAddr 26 t42 i_7) w fun t44 w =>
    Stp pg (sFAddr 43 t44 0) w fun t45 w =>
    Stp pg (sLoad 5 t45) w fun t46 w =>
    Stp pg (sIAddr 41 n_6 t46) w fun t47 w =>
    Stp pg (sLoad 3 t47) w fun t48 w =>
    Stp pg (sBin .add 3 (.tmp 48) (.const (.int .i64 1)) t48 (.int .i64 1)) w fun t49 w =>
    Stp pg (sIAddr 41 n_6 t46) w fun t50 w =>
    Stp pg (sStore 3 t50 t49) w fun _u w =>
    Stp pg (sBin .add 3 (.tmp 39) (.const (.int .i64 1)) i_7 (.int .i64 1)) w fun t40 w =>
    kn c_1 t4 n_6 t40 w)
    (k0 c_1 t4 n_6 w)
theorem law07_FseParts_p17_ok (Q : Exit → Env → World → Prop) (g : Env) (w : World) (kn : Value → Value → Value → Value → World → Prop) (k0 : Value → Value → Value → World → Prop) (hn : ∀ g w, kn (g 1) (g 4) (g 6) (g 7) w → Q .normal g w) (h0 : ∀ g w, k0 (g 1) (g 4) (g 6) w → Q (.exit 0) g w) (h : law07_FseParts_p17 kn k0 (g 1) (g 4) (g 6) (g 7) w) : den pg ann_law07_FseParts (bI (bI (dropS 1 (takeS 1 (dropS 7 code_law07_FseParts))))) Q g w := by
  have e : (law07_FseParts_p17 kn k0 (g 1) (g 4) (g 6) (g 7) w) = den pg ann_law07_FseParts (bI (bI (dropS 1 (takeS 1 (dropS 7 code_law07_FseParts))))) (exQ (fun g w => kn (g 1) (g 4) (g 6) (g 7) w) (fun _ _ => False) [(0, fun g w => k0 (g 1) (g 4) (g 6) w)]) g w := by kernel_rfl
  exact den_exQ e h hn (fun _ _ h => h.elim) ⟨h0, trivial⟩

def law07_FseParts_p18 (k0 : Value → Value → Value → World → Prop) (c_1 t4 n_6 i_7 : Value) (w : World) : Prop :=
  LoopD (fun (X : Value → World → Prop) (t : Value) (w : World) => law07_FseParts_p17 (fun _ _ _ i_7 w => X i_7 w) k0 c_1 t4 n_6 t w) i_7 w
theorem law07_FseParts_p18_ok (Q : Exit → Env → World → Prop) (g : Env) (w : World) (k0 : Value → Value → Value → World → Prop) (h0 : ∀ g w, k0 (g 1) (g 4) (g 6) w → Q (.exit 0) g w) (h : law07_FseParts_p18 k0 (g 1) (g 4) (g 6) (g 7) w) : den pg ann_law07_FseParts (bI (dropS 1 (takeS 1 (dropS 7 code_law07_FseParts)))) Q g w := by
  refine den_loops (T := Value) (fun g : Env => g 7) (fun X t w => law07_FseParts_p17 (fun _ _ _ i_7 w => X i_7 w) k0 (g 1) (g 4) (g 6) t w) (bI (dropS 1 (takeS 1 (dropS 7 code_law07_FseParts)))) (by kernel_rfl) h (fun X g1 w1 ha h1 => ?_)
  rw [← agree_at (s := 1) ha (by kernel_rfl)] at h1
  rw [← agree_at (s := 4) ha (by kernel_rfl)] at h1
  rw [← agree_at (s := 6) ha (by kernel_rfl)] at h1
  exact (law07_FseParts_p17_ok (thenE (fun g2 w2 => X ((fun g : Env => g 7) g2) w2) Q) g1 w1 (fun _ _ _ i_7 w => X i_7 w) k0 (fun _ _ h => h) h0 h1)

def law07_FseParts_p19 (kn : Value → Value → Value → World → Prop) (c_1 t4 n_6 i_7 : Value) (w : World) : Prop :=
  law07_FseParts_p18 kn c_1 t4 n_6 i_7 w
theorem law07_FseParts_p19_ok (Q : Exit → Env → World → Prop) (g : Env) (w : World) (kn : Value → Value → Value → World → Prop) (hn : ∀ g w, kn (g 1) (g 4) (g 6) w → Q .normal g w) (h : law07_FseParts_p19 kn (g 1) (g 4) (g 6) (g 7) w) : den pg ann_law07_FseParts (dropS 1 (takeS 1 (dropS 7 code_law07_FseParts))) Q g w :=
  den_blk 0 (dropS 1 (takeS 1 (dropS 7 code_law07_FseParts))) g w (by kernel_rfl) (law07_FseParts_p18_ok (blk 0 Q) g w kn hn h)

def law07_FseParts_p20 (kn : Value → Value → Value → Value → World → Prop) (c_1 t4 n_6 : Value) (w : World) : Prop :=
  kn c_1 t4 n_6 (.int .i64 0) w
theorem law07_FseParts_p20_ok (Q : Exit → Env → World → Prop) (g : Env) (w : World) (kn : Value → Value → Value → Value → World → Prop) (hn : ∀ g w, kn (g 1) (g 4) (g 6) (g 7) w → Q .normal g w) (h : law07_FseParts_p20 kn (g 1) (g 4) (g 6) w) : den pg ann_law07_FseParts (takeS 1 (takeS 1 (dropS 7 code_law07_FseParts))) Q g w := by
  have e : (law07_FseParts_p20 kn (g 1) (g 4) (g 6) w) = den pg ann_law07_FseParts (takeS 1 (takeS 1 (dropS 7 code_law07_FseParts))) (exQ (fun g w => kn (g 1) (g 4) (g 6) (g 7) w) (fun _ _ => False) []) g w := by kernel_rfl
  exact den_exQ e h hn (fun _ _ h => h.elim) trivial

def law07_FseParts_p21 (kn : Value → Value → Value → World → Prop) (c_1 t4 n_6 : Value) (w : World) : Prop :=
  law07_FseParts_p20 (fun c_1 t4 n_6 i_7 w => law07_FseParts_p19 kn c_1 t4 n_6 i_7 w) c_1 t4 n_6 w
theorem law07_FseParts_p21_ok (Q : Exit → Env → World → Prop) (g : Env) (w : World) (kn : Value → Value → Value → World → Prop) (hn : ∀ g w, kn (g 1) (g 4) (g 6) w → Q .normal g w) (h : law07_FseParts_p21 kn (g 1) (g 4) (g 6) w) : den pg ann_law07_FseParts (takeS 1 (dropS 7 code_law07_FseParts)) Q g w := by
  exact den_seqs 1 (takeS 1 (dropS 7 code_law07_FseParts)) g w (by kernel_rfl) (law07_FseParts_p20_ok (thenE (fun g w => den pg ann_law07_FseParts (dropS 1 (takeS 1 (dropS 7 code_law07_FseParts))) Q g w) Q) g w (fun c_1 t4 n_6 i_7 w => law07_FseParts_p19 kn c_1 t4 n_6 i_7 w) (fun g w h => thenE_n (K := fun g w => den pg ann_law07_FseParts (dropS 1 (takeS 1 (dropS 7 code_law07_FseParts))) Q g w) (law07_FseParts_p19_ok Q g w kn hn h)) h)

def law07_FseParts_p22 (R : Value → World → Prop) (c_1 t4 n_6 : Value) (w : World) : Prop :=
  law07_FseParts_p21 (fun c_1 t4 n_6 w => law07_FseParts_p16 R c_1 t4 n_6 w) c_1 t4 n_6 w
theorem law07_FseParts_p22_ok (Q : Exit → Env → World → Prop) (g : Env) (w : World) (R : Value → World → Prop) (hr : ∀ g w, (resVals pg rs_law07_FseParts g w fun vs => R (tup vs) w) → Q .ret g w) (h : law07_FseParts_p22 R (g 1) (g 4) (g 6) w) : den pg ann_law07_FseParts (dropS 7 code_law07_FseParts) Q g w := by
  exact den_seqs 1 (dropS 7 code_law07_FseParts) g w (by kernel_rfl) (law07_FseParts_p21_ok (thenE (fun g w => den pg ann_law07_FseParts (dropS 1 (dropS 7 code_law07_FseParts)) Q g w) Q) g w (fun c_1 t4 n_6 w => law07_FseParts_p16 R c_1 t4 n_6 w) (fun g w h => thenE_n (K := fun g w => den pg ann_law07_FseParts (dropS 1 (dropS 7 code_law07_FseParts)) Q g w) (law07_FseParts_p16_ok Q g w R hr h)) h)

def law07_FseParts_p23 (kn : Value → Value → Value → World → Prop) (R : Value → World → Prop) (c_0 : Value) (w : World) : Prop :=
  Stp pg (sBox 24 c_0) w fun c_1 w =>
  Does pg F_law07_awake #[] w fun t11 w =>
  Stp pg (sUn .not t11) w fun t13 w =>
  Cnd t13
    (R (.bool false) w)
    (Stp pg (sFAddr 24 c_1 1) w fun t14 w =>
    Stp pg (sLoad 22 t14) w fun t15 w =>
    Stp pg (sBi .len #[22] 3 [t15]) w fun t16 w =>
    Stp pg (sBin .gtr 3 (.tmp 16) (.const (.int .i64 300)) t16 (.int .i64 300)) w fun t17 w =>
    Gd (isB t17 false) (fun K => Stp pg (sFAddr 24 c_1 0) w K) w fun t19 w =>
    Gd (isB t17 false) (fun K => Stp pg (sLoad 3 t19) w K) w fun t20 w =>
    Gd (isB t17 false) (fun K => Stp pg (sBin .gtr 3 (.tmp 20) (.const (.int .i64 10)) t20 (.int .i64 10)) w K) w fun t21 w =>
    Stp pg (sPick t17 (.bool true) t21) w fun t22 w =>
    Cnd t22
      (R (.bool true) w)
      (Stp pg (sLoad 24 c_1) w fun t24 w =>
      Does pg F_fse_Build #[t24] w fun t25 w =>
      Stp pg (sExtr t25 0) w fun t26 w =>
      Stp pg (sExtr t25 1) w fun t27 w =>
      Stp pg (sAlloc 28) w fun t4 w =>
      Stp pg (sStore 28 t4 t26) w fun _u w =>
      Stp pg (sBin .neq 29 (.tmp 28) (.const (.int .i64 0)) t27 (.int .i64 0)) w fun t29 w =>
      Cnd t29
        (Stp pg (sFAddr 28 t4 1) w fun t30 w =>
        Stp pg (sLoad 26 t30) w fun t31 w =>
        Stp pg (sBi .len #[26] 3 [t31]) w fun t32 w =>
        Stp pg (sBin .eql 3 (.tmp 32) (.const (.int .i64 0)) t32 (.int .i64 0)) w fun t33 w =>
        R t33 w)
        (Stp pg (sAlloc 41) w fun n_6 w =>
        kn c_1 t4 n_6 w)))
theorem law07_FseParts_p23_ok (Q : Exit → Env → World → Prop) (g : Env) (w : World) (kn : Value → Value → Value → World → Prop) (R : Value → World → Prop) (hn : ∀ g w, kn (g 1) (g 4) (g 6) w → Q .normal g w) (hr : ∀ g w, (resVals pg rs_law07_FseParts g w fun vs => R (tup vs) w) → Q .ret g w) (h : law07_FseParts_p23 kn R (g 0) w) : den pg ann_law07_FseParts (takeS 7 code_law07_FseParts) Q g w := by
  have e : (law07_FseParts_p23 kn R (g 0) w) = den pg ann_law07_FseParts (takeS 7 code_law07_FseParts) (exQ (fun g w => kn (g 1) (g 4) (g 6) w) (fun g w => resVals pg rs_law07_FseParts g w fun vs => R (tup vs) w) []) g w := by kernel_rfl
  exact den_exQ e h hn hr trivial

def law07_FseParts_p24 (R : Value → World → Prop) (c_0 : Value) (w : World) : Prop :=
  law07_FseParts_p23 (fun c_1 t4 n_6 w => law07_FseParts_p22 R c_1 t4 n_6 w) R c_0 w
theorem law07_FseParts_p24_ok (Q : Exit → Env → World → Prop) (g : Env) (w : World) (R : Value → World → Prop) (hr : ∀ g w, (resVals pg rs_law07_FseParts g w fun vs => R (tup vs) w) → Q .ret g w) (h : law07_FseParts_p24 R (g 0) w) : den pg ann_law07_FseParts code_law07_FseParts Q g w := by
  exact den_seqs 7 code_law07_FseParts g w (by kernel_rfl) (law07_FseParts_p23_ok (thenE (fun g w => den pg ann_law07_FseParts (dropS 7 code_law07_FseParts) Q g w) Q) g w (fun c_1 t4 n_6 w => law07_FseParts_p22 R c_1 t4 n_6 w) R (fun g w h => thenE_n (K := fun g w => den pg ann_law07_FseParts (dropS 7 code_law07_FseParts) Q g w) (law07_FseParts_p22_ok Q g w R hr h)) hr h)

def law07_FseParts (a0 : Value) (w : World) (R : Value → World → Prop) : Prop :=
  law07_FseParts_p24 R a0 w
theorem law07_FseParts_does {a0 : Value} {w : World} {R : Value → World → Prop} (h : law07_FseParts a0 w R) : Does pg F_law07_FseParts #[a0] w R := by
  refine does_of_den (ann := ann_law07_FseParts) (fn := Try.f4) (c := code_law07_FseParts) (args := [a0]) (rs := rs_law07_FseParts) (N := 105) TryM.mixed (by kernel_rfl) Try.func4 (by kernel_rfl) (by kernel_rfl) (by kernel_rfl) (of_decide_eq_true (by kernel_rfl)) (by kernel_rfl) ?_
  exact (law07_FseParts_p24_ok (retQ pg rs_law07_FseParts R) (envOf [a0]) w R (fun _ _ h => h) h)
-- PIECES law07_FseParts/0 law07_FseParts_p1 law07_FseParts_p10 law07_FseParts_p11 law07_FseParts_p12 law07_FseParts_p13 law07_FseParts_p14 law07_FseParts_p15 law07_FseParts_p16 law07_FseParts_p18 law07_FseParts_p19 law07_FseParts_p20 law07_FseParts_p21 law07_FseParts_p22 law07_FseParts_p23 law07_FseParts_p24
-- PIECES law07_FseParts/1 law07_FseParts_p2 law07_FseParts_p3 law07_FseParts_p4 law07_FseParts_p5 law07_FseParts_p6 law07_FseParts_p7 law07_FseParts_p8 law07_FseParts_p9
-- PIECES law07_FseParts/2 law07_FseParts_p17

/- lighterman/lightermanlaw07.FseBefore -/
def ann_law07_FseBefore : FA := ⟨F_law07_FseBefore, fun i => .leaf ([], []) []⟩
def rs_law07_FseBefore : List ResultVar := [.tmp 6]
noncomputable def code_law07_FseBefore : Code := bodyOf Try.f5
def law07_FseBefore_p1 (R : Value → World → Prop) (symbol_2 t8 s_10 i_11 x_12 n_13 f_14 g_18 k_19 h_20 t21 first_22 : Value) (w : World) : Prop :=
  Stp pg (sBin .neq 29 (.tmp 125) (.const (.int .i64 1)) g_18 (.int .i64 1)) w fun t126 w =>
  Gd (isB t126 false) (fun K => K h_20 w) w fun t128 w =>
  Gd (isB t126 false) (fun K => Stp pg (sBin .eql 29 (.tmp 128) (.const (.int .i64 0)) t128 (.int .i64 0)) w K) w fun t129 w =>
  Gd (isB t126 false) (fun K => K first_22 w) w fun t130 w =>
  Gd (isB t126 false) (fun K => Stp pg (sBin .geq 3 (.tmp 130) (.const (.int .i64 0)) t130 (.int .i64 0)) w K) w fun t131 w =>
  Gd (isB t126 false) (fun K => Stp pg (sBin .neq 4 (.tmp 129) (.tmp 131) t129 t131) w K) w fun t132 w =>
  Stp pg (sPick t126 (.bool true) t132) w fun t133 w =>
  Gd (isB t133 false) (fun K => K h_20 w) w fun t135 w =>
  Gd (isB t133 false) (fun K => Stp pg (sBin .eql 29 (.tmp 135) (.const (.int .i64 0)) t135 (.int .i64 0)) w K) w fun t136 w =>
  Gd (isB t133 false) (fun K => K t136 w) w fun t137 w =>
  Gd (isB t137 true) (fun K => K k_19 w) w fun t138 w =>
  Gd (isB t137 true) (fun K => K first_22 w) w fun t139 w =>
  Gd (isB t137 true) (fun K => Stp pg (sBin .neq 3 (.tmp 138) (.tmp 139) t138 t139) w K) w fun t140 w =>
  Gd (isB t133 false) (fun K => Stp pg (sPick t137 t140 (.bool false)) w K) w fun t141 w =>
  Stp pg (sPick t133 (.bool true) t141) w fun t142 w =>
  Cnd t142
    (R (.bool false) w)
    (Stp pg (sBin .lss 3 (.tmp 143) (.const (.int .i64 0)) first_22 (.int .i64 0)) w fun t144 w =>
    Cnd t144
      (Stp pg (sBin .eql 29 (.tmp 145) (.const (.int .i64 21)) f_14 (.int .i64 21)) w fun t146 w =>
      Gd (isB t146 true) (fun K => K h_20 w) w fun t148 w =>
      Gd (isB t146 true) (fun K => Stp pg (sBin .eql 29 (.tmp 148) (.const (.int .i64 21)) t148 (.int .i64 21)) w K) w fun t149 w =>
      Stp pg (sPick t146 t149 (.bool false)) w fun t150 w =>
      Gd (isB t150 true) (fun K => K t21 w) w fun t152 w =>
      Gd (isB t150 true) (fun K => Stp pg (sBin .eql 3 (.tmp 152) (.const (.int .i64 0)) t152 (.int .i64 0)) w K) w fun t153 w =>
      Stp pg (sPick t150 t153 (.bool false)) w fun t154 w =>
      R t154 w)
      (Stp pg (sBin .neq 29 (.tmp 155) (.const (.int .i64 0)) f_14 (.int .i64 0)) w fun t156 w =>
      Gd (isB t156 false) (fun K => K t21 w) w fun t158 w =>
      Gd (isB t156 false) (fun K => Stp pg (sBin .neq 3 (.tmp 158) (.const (.int .i64 1)) t158 (.int .i64 1)) w K) w fun t159 w =>
      Stp pg (sPick t156 (.bool true) t159) w fun t160 w =>
      Gd (isB t160 false) (fun K => K i_11 w) w fun t162 w =>
      Gd (isB t160 false) (fun K => Stp pg (sBin .lss 3 (.tmp 162) (.const (.int .i64 0)) t162 (.int .i64 0)) w K) w fun t163 w =>
      Stp pg (sPick t160 (.bool true) t163) w fun t164 w =>
      Gd (isB t164 false) (fun K => K i_11 w) w fun t166 w =>
      Gd (isB t164 false) (fun K => Stp pg (sFAddr 28 t8 1) w K) w fun t167 w =>
      Gd (isB t164 false) (fun K => Stp pg (sLoad 26 t167) w K) w fun t168 w =>
      Gd (isB t164 false) (fun K => Stp pg (sBi .len #[26] 3 [t168]) w K) w fun t169 w =>
      Gd (isB t164 false) (fun K => Stp pg (sBin .geq 3 (.tmp 166) (.tmp 169) t166 t169) w K) w fun t170 w =>
      Stp pg (sPick t164 (.bool true) t170) w fun t171 w =>
      Cnd t171
        (R (.bool false) w)
        (Stp pg (sFAddr 28 t8 1) w fun t172 w =>
        Stp pg (sLoad 26 t172) w fun t173 w =>
        Stp pg (sIAddr 26 t173 i_11) w fun t175 w =>
        Stp pg (sLoad 43 t175) w fun t176 w =>
        Stp pg (sAlloc 43) w fun y_25 w =>
        Stp pg (sStore 43 y_25 t176) w fun _u w =>
        Stp pg (sFAddr 43 y_25 0) w fun t177 w =>
        Stp pg (sLoad 5 t177) w fun t178 w =>
        Stp pg (sBin .eql 5 (.tmp 178) (.tmp 179) t178 symbol_2) w fun t180 w =>
        Gd (isB t180 true) (fun K => Stp pg (sFAddr 43 y_25 1) w K) w fun t182 w =>
        Gd (isB t180 true) (fun K => Stp pg (sLoad 3 t182) w K) w fun t183 w =>
        Gd (isB t180 true) (fun K => K n_13 w) w fun t184 w =>
        Gd (isB t180 true) (fun K => Stp pg (sBin .eql 3 (.tmp 183) (.tmp 184) t183 t184) w K) w fun t185 w =>
        Stp pg (sPick t180 t185 (.bool false)) w fun t186 w =>
        Gd (isB t186 true) (fun K => Stp pg (sFAddr 43 y_25 2) w K) w fun t188 w =>
        Gd (isB t186 true) (fun K => Stp pg (sLoad 3 t188) w K) w fun t189 w =>
        Gd (isB t186 true) (fun K => K x_12 w) w fun t190 w =>
        Gd (isB t186 true) (fun K => Stp pg (sCvt 45 3 t190) w K) w fun t191 w =>
        Gd (isB t186 true) (fun K => Stp pg (sBin .add 3 (.tmp 189) (.tmp 191) t189 t191) w K) w fun t192 w =>
        Gd (isB t186 true) (fun K => K s_10 w) w fun t193 w =>
        Gd (isB t186 true) (fun K => Stp pg (sBin .eql 3 (.tmp 192) (.tmp 193) t192 t193) w K) w fun t194 w =>
        Stp pg (sPick t186 t194 (.bool false)) w fun t195 w =>
        Gd (isB t195 true) (fun K => K x_12 w) w fun t197 w =>
        Gd (isB t195 true) (fun K => K n_13 w) w fun t198 w =>
        Gd (isB t195 true) (fun K => Stp pg (sCvt 3 50 t198) w K) w fun t199 w =>
        Gd (isB t195 true) (fun K => Stp pg (sBin .shl 45 (.const (.int .u64 1)) (.tmp 199) (.int .u64 1) t199) w K) w fun t200 w =>
        Gd (isB t195 true) (fun K => Stp pg (sBin .lss 45 (.tmp 197) (.tmp 200) t197 t200) w K) w fun t201 w =>
        Stp pg (sPick t195 t201 (.bool false)) w fun t202 w =>
        R t202 w)))
theorem law07_FseBefore_p1_ok (Q : Exit → Env → World → Prop) (g : Env) (w : World) (R : Value → World → Prop) (hr : ∀ g w, (resVals pg rs_law07_FseBefore g w fun vs => R (tup vs) w) → Q .ret g w) (h : law07_FseBefore_p1 R (g 2) (g 8) (g 10) (g 11) (g 12) (g 13) (g 14) (g 18) (g 19) (g 20) (g 21) (g 22) w) : den pg ann_law07_FseBefore (dropS 1 (dropS 12 code_law07_FseBefore)) Q g w := by
  have e : (law07_FseBefore_p1 R (g 2) (g 8) (g 10) (g 11) (g 12) (g 13) (g 14) (g 18) (g 19) (g 20) (g 21) (g 22) w) = den pg ann_law07_FseBefore (dropS 1 (dropS 12 code_law07_FseBefore)) (exQ (fun _ _ => False) (fun g w => resVals pg rs_law07_FseBefore g w fun vs => R (tup vs) w) []) g w := by kernel_rfl
  exact den_exQ e h (fun _ _ h => h.elim) hr trivial

def law07_FseBefore_p2 (kn : Value → Value → Value → Value → Value → Value → Value → Value → Value → Value → Value → Value → Value → World → Prop) (symbol_2 t8 s_10 i_11 x_12 n_13 f_14 g_18 k_19 h_20 t21 first_22 j_23 : Value) (w : World) : Prop :=
  Stp pg (sBin .add 3 (.tmp 86) (.const (.int .i64 1)) j_23 (.int .i64 1)) w fun t87 w =>
  kn symbol_2 t8 s_10 i_11 x_12 n_13 f_14 g_18 k_19 h_20 t21 first_22 t87 w
theorem law07_FseBefore_p2_ok (Q : Exit → Env → World → Prop) (g : Env) (w : World) (kn : Value → Value → Value → Value → Value → Value → Value → Value → Value → Value → Value → Value → Value → World → Prop) (hn : ∀ g w, kn (g 2) (g 8) (g 10) (g 11) (g 12) (g 13) (g 14) (g 18) (g 19) (g 20) (g 21) (g 22) (g 23) w → Q .normal g w) (h : law07_FseBefore_p2 kn (g 2) (g 8) (g 10) (g 11) (g 12) (g 13) (g 14) (g 18) (g 19) (g 20) (g 21) (g 22) (g 23) w) : den pg ann_law07_FseBefore (dropS 1 (dropS 1 (bI (bI (dropS 1 (takeS 1 (dropS 12 code_law07_FseBefore))))))) Q g w := by
  have e : (law07_FseBefore_p2 kn (g 2) (g 8) (g 10) (g 11) (g 12) (g 13) (g 14) (g 18) (g 19) (g 20) (g 21) (g 22) (g 23) w) = den pg ann_law07_FseBefore (dropS 1 (dropS 1 (bI (bI (dropS 1 (takeS 1 (dropS 12 code_law07_FseBefore))))))) (exQ (fun g w => kn (g 2) (g 8) (g 10) (g 11) (g 12) (g 13) (g 14) (g 18) (g 19) (g 20) (g 21) (g 22) (g 23) w) (fun _ _ => False) []) g w := by kernel_rfl
  exact den_exQ e h hn (fun _ _ h => h.elim) trivial

def law07_FseBefore_p3 (kn : Value → Value → Value → Value → Value → Value → Value → Value → Value → Value → Value → Value → Value → World → Prop) (symbol_2 t8 s_10 i_11 x_12 n_13 f_14 g_18 k_19 h_20 t21 first_22 j_23 y_24 : Value) (w : World) : Prop :=
  Stp pg (sFAddr 43 y_24 0) w fun t102 w =>
  Stp pg (sLoad 5 t102) w fun t103 w =>
  Stp pg (sBin .eql 5 (.tmp 103) (.tmp 104) t103 symbol_2) w fun t105 w =>
  Gd (isB t105 true) (fun K => K s_10 w) w fun t107 w =>
  Gd (isB t105 true) (fun K => Stp pg (sFAddr 43 y_24 2) w K) w fun t108 w =>
  Gd (isB t105 true) (fun K => Stp pg (sLoad 3 t108) w K) w fun t109 w =>
  Gd (isB t105 true) (fun K => Stp pg (sBin .geq 3 (.tmp 107) (.tmp 109) t107 t109) w K) w fun t110 w =>
  Stp pg (sPick t105 t110 (.bool false)) w fun t111 w =>
  Gd (isB t111 true) (fun K => K s_10 w) w fun t113 w =>
  Gd (isB t111 true) (fun K => Stp pg (sFAddr 43 y_24 2) w K) w fun t114 w =>
  Gd (isB t111 true) (fun K => Stp pg (sLoad 3 t114) w K) w fun t115 w =>
  Gd (isB t111 true) (fun K => Stp pg (sFAddr 43 y_24 1) w K) w fun t116 w =>
  Gd (isB t111 true) (fun K => Stp pg (sLoad 3 t116) w K) w fun t117 w =>
  Gd (isB t111 true) (fun K => Stp pg (sCvt 3 50 t117) w K) w fun t118 w =>
  Gd (isB t111 true) (fun K => Stp pg (sBin .shl 3 (.const (.int .i64 1)) (.tmp 118) (.int .i64 1) t118) w K) w fun t119 w =>
  Gd (isB t111 true) (fun K => Stp pg (sBin .add 3 (.tmp 115) (.tmp 119) t115 t119) w K) w fun t120 w =>
  Gd (isB t111 true) (fun K => Stp pg (sBin .lss 3 (.tmp 113) (.tmp 120) t113 t120) w K) w fun t121 w =>
  Stp pg (sPick t111 t121 (.bool false)) w fun t122 w =>
  Cnd t122
    (Stp pg (sBin .add 3 (.tmp 123) (.const (.int .i64 1)) t21 (.int .i64 1)) w fun t124 w =>
    kn symbol_2 t8 s_10 i_11 x_12 n_13 f_14 g_18 k_19 h_20 t124 first_22 j_23 w)
    (kn symbol_2 t8 s_10 i_11 x_12 n_13 f_14 g_18 k_19 h_20 t21 first_22 j_23 w)
theorem law07_FseBefore_p3_ok (Q : Exit → Env → World → Prop) (g : Env) (w : World) (kn : Value → Value → Value → Value → Value → Value → Value → Value → Value → Value → Value → Value → Value → World → Prop) (hn : ∀ g w, kn (g 2) (g 8) (g 10) (g 11) (g 12) (g 13) (g 14) (g 18) (g 19) (g 20) (g 21) (g 22) (g 23) w → Q .normal g w) (h : law07_FseBefore_p3 kn (g 2) (g 8) (g 10) (g 11) (g 12) (g 13) (g 14) (g 18) (g 19) (g 20) (g 21) (g 22) (g 23) (g 24) w) : den pg ann_law07_FseBefore (dropS 2 (bI (takeS 1 (dropS 1 (bI (bI (dropS 1 (takeS 1 (dropS 12 code_law07_FseBefore))))))))) Q g w := by
  have e : (law07_FseBefore_p3 kn (g 2) (g 8) (g 10) (g 11) (g 12) (g 13) (g 14) (g 18) (g 19) (g 20) (g 21) (g 22) (g 23) (g 24) w) = den pg ann_law07_FseBefore (dropS 2 (bI (takeS 1 (dropS 1 (bI (bI (dropS 1 (takeS 1 (dropS 12 code_law07_FseBefore))))))))) (exQ (fun g w => kn (g 2) (g 8) (g 10) (g 11) (g 12) (g 13) (g 14) (g 18) (g 19) (g 20) (g 21) (g 22) (g 23) w) (fun _ _ => False) []) g w := by kernel_rfl
  exact den_exQ e h hn (fun _ _ h => h.elim) trivial

def law07_FseBefore_p4 (kn : Value → Value → Value → Value → Value → Value → Value → Value → Value → Value → Value → Value → Value → Value → World → Prop) (symbol_2 t8 s_10 i_11 x_12 n_13 f_14 g_18 k_19 h_20 t21 first_22 j_23 : Value) (w : World) : Prop :=
  Stp pg (sFAddr 28 t8 1) w fun t88 w =>
  Stp pg (sLoad 26 t88) w fun t89 w =>
  Stp pg (sIAddr 26 t89 j_23) w fun t91 w =>
  Stp pg (sLoad 43 t91) w fun t92 w =>
  Stp pg (sAlloc 43) w fun y_24 w =>
  Stp pg (sStore 43 y_24 t92) w fun _u w =>
  Stp pg (sFAddr 43 y_24 0) w fun t93 w =>
  Stp pg (sLoad 5 t93) w fun t94 w =>
  Stp pg (sBin .eql 5 (.tmp 94) (.tmp 95) t94 symbol_2) w fun t96 w =>
  Gd (isB t96 true) (fun K => K first_22 w) w fun t98 w =>
  Gd (isB t96 true) (fun K => Stp pg (sBin .lss 3 (.tmp 98) (.const (.int .i64 0)) t98 (.int .i64 0)) w K) w fun t99 w =>
  Stp pg (sPick t96 t99 (.bool false)) w fun t100 w =>
  Cnd t100
    (kn symbol_2 t8 s_10 i_11 x_12 n_13 f_14 g_18 k_19 h_20 t21 j_23 j_23 y_24 w)
    (kn symbol_2 t8 s_10 i_11 x_12 n_13 f_14 g_18 k_19 h_20 t21 first_22 j_23 y_24 w)
theorem law07_FseBefore_p4_ok (Q : Exit → Env → World → Prop) (g : Env) (w : World) (kn : Value → Value → Value → Value → Value → Value → Value → Value → Value → Value → Value → Value → Value → Value → World → Prop) (hn : ∀ g w, kn (g 2) (g 8) (g 10) (g 11) (g 12) (g 13) (g 14) (g 18) (g 19) (g 20) (g 21) (g 22) (g 23) (g 24) w → Q .normal g w) (h : law07_FseBefore_p4 kn (g 2) (g 8) (g 10) (g 11) (g 12) (g 13) (g 14) (g 18) (g 19) (g 20) (g 21) (g 22) (g 23) w) : den pg ann_law07_FseBefore (takeS 2 (bI (takeS 1 (dropS 1 (bI (bI (dropS 1 (takeS 1 (dropS 12 code_law07_FseBefore))))))))) Q g w := by
  have e : (law07_FseBefore_p4 kn (g 2) (g 8) (g 10) (g 11) (g 12) (g 13) (g 14) (g 18) (g 19) (g 20) (g 21) (g 22) (g 23) w) = den pg ann_law07_FseBefore (takeS 2 (bI (takeS 1 (dropS 1 (bI (bI (dropS 1 (takeS 1 (dropS 12 code_law07_FseBefore))))))))) (exQ (fun g w => kn (g 2) (g 8) (g 10) (g 11) (g 12) (g 13) (g 14) (g 18) (g 19) (g 20) (g 21) (g 22) (g 23) (g 24) w) (fun _ _ => False) []) g w := by kernel_rfl
  exact den_exQ e h hn (fun _ _ h => h.elim) trivial

def law07_FseBefore_p5 (kn : Value → Value → Value → Value → Value → Value → Value → Value → Value → Value → Value → Value → Value → World → Prop) (symbol_2 t8 s_10 i_11 x_12 n_13 f_14 g_18 k_19 h_20 t21 first_22 j_23 : Value) (w : World) : Prop :=
  law07_FseBefore_p4 (fun symbol_2 t8 s_10 i_11 x_12 n_13 f_14 g_18 k_19 h_20 t21 first_22 j_23 y_24 w => law07_FseBefore_p3 kn symbol_2 t8 s_10 i_11 x_12 n_13 f_14 g_18 k_19 h_20 t21 first_22 j_23 y_24 w) symbol_2 t8 s_10 i_11 x_12 n_13 f_14 g_18 k_19 h_20 t21 first_22 j_23 w
theorem law07_FseBefore_p5_ok (Q : Exit → Env → World → Prop) (g : Env) (w : World) (kn : Value → Value → Value → Value → Value → Value → Value → Value → Value → Value → Value → Value → Value → World → Prop) (hn : ∀ g w, kn (g 2) (g 8) (g 10) (g 11) (g 12) (g 13) (g 14) (g 18) (g 19) (g 20) (g 21) (g 22) (g 23) w → Q .normal g w) (h : law07_FseBefore_p5 kn (g 2) (g 8) (g 10) (g 11) (g 12) (g 13) (g 14) (g 18) (g 19) (g 20) (g 21) (g 22) (g 23) w) : den pg ann_law07_FseBefore (bI (takeS 1 (dropS 1 (bI (bI (dropS 1 (takeS 1 (dropS 12 code_law07_FseBefore)))))))) Q g w := by
  exact den_seqs 2 (bI (takeS 1 (dropS 1 (bI (bI (dropS 1 (takeS 1 (dropS 12 code_law07_FseBefore)))))))) g w (by kernel_rfl) (law07_FseBefore_p4_ok (thenE (fun g w => den pg ann_law07_FseBefore (dropS 2 (bI (takeS 1 (dropS 1 (bI (bI (dropS 1 (takeS 1 (dropS 12 code_law07_FseBefore))))))))) Q g w) Q) g w (fun symbol_2 t8 s_10 i_11 x_12 n_13 f_14 g_18 k_19 h_20 t21 first_22 j_23 y_24 w => law07_FseBefore_p3 kn symbol_2 t8 s_10 i_11 x_12 n_13 f_14 g_18 k_19 h_20 t21 first_22 j_23 y_24 w) (fun g w h => thenE_n (K := fun g w => den pg ann_law07_FseBefore (dropS 2 (bI (takeS 1 (dropS 1 (bI (bI (dropS 1 (takeS 1 (dropS 12 code_law07_FseBefore))))))))) Q g w) (law07_FseBefore_p3_ok Q g w kn hn h)) h)

def law07_FseBefore_p6 (kn : Value → Value → Value → Value → Value → Value → Value → Value → Value → Value → Value → Value → Value → World → Prop) (symbol_2 t8 s_10 i_11 x_12 n_13 f_14 g_18 k_19 h_20 t21 first_22 j_23 : Value) (w : World) : Prop :=
  law07_FseBefore_p5 kn symbol_2 t8 s_10 i_11 x_12 n_13 f_14 g_18 k_19 h_20 t21 first_22 j_23 w
theorem law07_FseBefore_p6_ok (Q : Exit → Env → World → Prop) (g : Env) (w : World) (kn : Value → Value → Value → Value → Value → Value → Value → Value → Value → Value → Value → Value → Value → World → Prop) (hn : ∀ g w, kn (g 2) (g 8) (g 10) (g 11) (g 12) (g 13) (g 14) (g 18) (g 19) (g 20) (g 21) (g 22) (g 23) w → Q .normal g w) (h : law07_FseBefore_p6 kn (g 2) (g 8) (g 10) (g 11) (g 12) (g 13) (g 14) (g 18) (g 19) (g 20) (g 21) (g 22) (g 23) w) : den pg ann_law07_FseBefore (takeS 1 (dropS 1 (bI (bI (dropS 1 (takeS 1 (dropS 12 code_law07_FseBefore))))))) Q g w :=
  den_blk 1 (takeS 1 (dropS 1 (bI (bI (dropS 1 (takeS 1 (dropS 12 code_law07_FseBefore))))))) g w (by kernel_rfl) (law07_FseBefore_p5_ok (blk 1 Q) g w kn hn h)

def law07_FseBefore_p7 (kn : Value → Value → Value → Value → Value → Value → Value → Value → Value → Value → Value → Value → Value → World → Prop) (symbol_2 t8 s_10 i_11 x_12 n_13 f_14 g_18 k_19 h_20 t21 first_22 j_23 : Value) (w : World) : Prop :=
  law07_FseBefore_p6 (fun symbol_2 t8 s_10 i_11 x_12 n_13 f_14 g_18 k_19 h_20 t21 first_22 j_23 w => law07_FseBefore_p2 kn symbol_2 t8 s_10 i_11 x_12 n_13 f_14 g_18 k_19 h_20 t21 first_22 j_23 w) symbol_2 t8 s_10 i_11 x_12 n_13 f_14 g_18 k_19 h_20 t21 first_22 j_23 w
theorem law07_FseBefore_p7_ok (Q : Exit → Env → World → Prop) (g : Env) (w : World) (kn : Value → Value → Value → Value → Value → Value → Value → Value → Value → Value → Value → Value → Value → World → Prop) (hn : ∀ g w, kn (g 2) (g 8) (g 10) (g 11) (g 12) (g 13) (g 14) (g 18) (g 19) (g 20) (g 21) (g 22) (g 23) w → Q .normal g w) (h : law07_FseBefore_p7 kn (g 2) (g 8) (g 10) (g 11) (g 12) (g 13) (g 14) (g 18) (g 19) (g 20) (g 21) (g 22) (g 23) w) : den pg ann_law07_FseBefore (dropS 1 (bI (bI (dropS 1 (takeS 1 (dropS 12 code_law07_FseBefore)))))) Q g w := by
  exact den_seqs 1 (dropS 1 (bI (bI (dropS 1 (takeS 1 (dropS 12 code_law07_FseBefore)))))) g w (by kernel_rfl) (law07_FseBefore_p6_ok (thenE (fun g w => den pg ann_law07_FseBefore (dropS 1 (dropS 1 (bI (bI (dropS 1 (takeS 1 (dropS 12 code_law07_FseBefore))))))) Q g w) Q) g w (fun symbol_2 t8 s_10 i_11 x_12 n_13 f_14 g_18 k_19 h_20 t21 first_22 j_23 w => law07_FseBefore_p2 kn symbol_2 t8 s_10 i_11 x_12 n_13 f_14 g_18 k_19 h_20 t21 first_22 j_23 w) (fun g w h => thenE_n (K := fun g w => den pg ann_law07_FseBefore (dropS 1 (dropS 1 (bI (bI (dropS 1 (takeS 1 (dropS 12 code_law07_FseBefore))))))) Q g w) (law07_FseBefore_p2_ok Q g w kn hn h)) h)

def law07_FseBefore_p8 (kn : Value → Value → Value → Value → Value → Value → Value → Value → Value → Value → Value → Value → Value → World → Prop) (k0 : Value → Value → Value → Value → Value → Value → Value → Value → Value → Value → Value → Value → World → Prop) (symbol_2 t8 s_10 i_11 x_12 n_13 f_14 g_18 k_19 h_20 t21 first_22 j_23 : Value) (w : World) : Prop :=
  Stp pg (sFAddr 28 t8 1) w fun t82 w =>
  Stp pg (sLoad 26 t82) w fun t83 w =>
  Stp pg (sBi .len #[26] 3 [t83]) w fun t84 w =>
  Stp pg (sBin .lss 3 (.tmp 81) (.tmp 84) j_23 t84) w fun t85 w =>
  Cnd t85
    (kn symbol_2 t8 s_10 i_11 x_12 n_13 f_14 g_18 k_19 h_20 t21 first_22 j_23 w)
    (k0 symbol_2 t8 s_10 i_11 x_12 n_13 f_14 g_18 k_19 h_20 t21 first_22 w)
theorem law07_FseBefore_p8_ok (Q : Exit → Env → World → Prop) (g : Env) (w : World) (kn : Value → Value → Value → Value → Value → Value → Value → Value → Value → Value → Value → Value → Value → World → Prop) (k0 : Value → Value → Value → Value → Value → Value → Value → Value → Value → Value → Value → Value → World → Prop) (hn : ∀ g w, kn (g 2) (g 8) (g 10) (g 11) (g 12) (g 13) (g 14) (g 18) (g 19) (g 20) (g 21) (g 22) (g 23) w → Q .normal g w) (h0 : ∀ g w, k0 (g 2) (g 8) (g 10) (g 11) (g 12) (g 13) (g 14) (g 18) (g 19) (g 20) (g 21) (g 22) w → Q (.exit 0) g w) (h : law07_FseBefore_p8 kn k0 (g 2) (g 8) (g 10) (g 11) (g 12) (g 13) (g 14) (g 18) (g 19) (g 20) (g 21) (g 22) (g 23) w) : den pg ann_law07_FseBefore (takeS 1 (bI (bI (dropS 1 (takeS 1 (dropS 12 code_law07_FseBefore)))))) Q g w := by
  have e : (law07_FseBefore_p8 kn k0 (g 2) (g 8) (g 10) (g 11) (g 12) (g 13) (g 14) (g 18) (g 19) (g 20) (g 21) (g 22) (g 23) w) = den pg ann_law07_FseBefore (takeS 1 (bI (bI (dropS 1 (takeS 1 (dropS 12 code_law07_FseBefore)))))) (exQ (fun g w => kn (g 2) (g 8) (g 10) (g 11) (g 12) (g 13) (g 14) (g 18) (g 19) (g 20) (g 21) (g 22) (g 23) w) (fun _ _ => False) [(0, fun g w => k0 (g 2) (g 8) (g 10) (g 11) (g 12) (g 13) (g 14) (g 18) (g 19) (g 20) (g 21) (g 22) w)]) g w := by kernel_rfl
  exact den_exQ e h hn (fun _ _ h => h.elim) ⟨h0, trivial⟩

def law07_FseBefore_p9 (kn : Value → Value → Value → Value → Value → Value → Value → Value → Value → Value → Value → Value → Value → World → Prop) (k0 : Value → Value → Value → Value → Value → Value → Value → Value → Value → Value → Value → Value → World → Prop) (symbol_2 t8 s_10 i_11 x_12 n_13 f_14 g_18 k_19 h_20 t21 first_22 j_23 : Value) (w : World) : Prop :=
  law07_FseBefore_p8 (fun symbol_2 t8 s_10 i_11 x_12 n_13 f_14 g_18 k_19 h_20 t21 first_22 j_23 w => law07_FseBefore_p7 kn symbol_2 t8 s_10 i_11 x_12 n_13 f_14 g_18 k_19 h_20 t21 first_22 j_23 w) k0 symbol_2 t8 s_10 i_11 x_12 n_13 f_14 g_18 k_19 h_20 t21 first_22 j_23 w
theorem law07_FseBefore_p9_ok (Q : Exit → Env → World → Prop) (g : Env) (w : World) (kn : Value → Value → Value → Value → Value → Value → Value → Value → Value → Value → Value → Value → Value → World → Prop) (k0 : Value → Value → Value → Value → Value → Value → Value → Value → Value → Value → Value → Value → World → Prop) (hn : ∀ g w, kn (g 2) (g 8) (g 10) (g 11) (g 12) (g 13) (g 14) (g 18) (g 19) (g 20) (g 21) (g 22) (g 23) w → Q .normal g w) (h0 : ∀ g w, k0 (g 2) (g 8) (g 10) (g 11) (g 12) (g 13) (g 14) (g 18) (g 19) (g 20) (g 21) (g 22) w → Q (.exit 0) g w) (h : law07_FseBefore_p9 kn k0 (g 2) (g 8) (g 10) (g 11) (g 12) (g 13) (g 14) (g 18) (g 19) (g 20) (g 21) (g 22) (g 23) w) : den pg ann_law07_FseBefore (bI (bI (dropS 1 (takeS 1 (dropS 12 code_law07_FseBefore))))) Q g w := by
  exact den_seqs 1 (bI (bI (dropS 1 (takeS 1 (dropS 12 code_law07_FseBefore))))) g w (by kernel_rfl) (law07_FseBefore_p8_ok (thenE (fun g w => den pg ann_law07_FseBefore (dropS 1 (bI (bI (dropS 1 (takeS 1 (dropS 12 code_law07_FseBefore)))))) Q g w) Q) g w (fun symbol_2 t8 s_10 i_11 x_12 n_13 f_14 g_18 k_19 h_20 t21 first_22 j_23 w => law07_FseBefore_p7 kn symbol_2 t8 s_10 i_11 x_12 n_13 f_14 g_18 k_19 h_20 t21 first_22 j_23 w) k0 (fun g w h => thenE_n (K := fun g w => den pg ann_law07_FseBefore (dropS 1 (bI (bI (dropS 1 (takeS 1 (dropS 12 code_law07_FseBefore)))))) Q g w) (law07_FseBefore_p7_ok Q g w kn hn h)) h0 h)

def law07_FseBefore_p10 (k0 : Value → Value → Value → Value → Value → Value → Value → Value → Value → Value → Value → Value → World → Prop) (symbol_2 t8 s_10 i_11 x_12 n_13 f_14 g_18 k_19 h_20 t21 first_22 j_23 : Value) (w : World) : Prop :=
  LoopD (fun (X : (Value × Value × Value) → World → Prop) (t : Value × Value × Value) (w : World) => law07_FseBefore_p9 (fun _ _ _ _ _ _ _ _ _ _ t21 first_22 j_23 w => X (t21, first_22, j_23) w) k0 symbol_2 t8 s_10 i_11 x_12 n_13 f_14 g_18 k_19 h_20 t.1 t.2.1 t.2.2 w) (t21, first_22, j_23) w
theorem law07_FseBefore_p10_ok (Q : Exit → Env → World → Prop) (g : Env) (w : World) (k0 : Value → Value → Value → Value → Value → Value → Value → Value → Value → Value → Value → Value → World → Prop) (h0 : ∀ g w, k0 (g 2) (g 8) (g 10) (g 11) (g 12) (g 13) (g 14) (g 18) (g 19) (g 20) (g 21) (g 22) w → Q (.exit 0) g w) (h : law07_FseBefore_p10 k0 (g 2) (g 8) (g 10) (g 11) (g 12) (g 13) (g 14) (g 18) (g 19) (g 20) (g 21) (g 22) (g 23) w) : den pg ann_law07_FseBefore (bI (dropS 1 (takeS 1 (dropS 12 code_law07_FseBefore)))) Q g w := by
  refine den_loops (T := Value × Value × Value) (fun g : Env => (g 21, g 22, g 23)) (fun X t w => law07_FseBefore_p9 (fun _ _ _ _ _ _ _ _ _ _ t21 first_22 j_23 w => X (t21, first_22, j_23) w) k0 (g 2) (g 8) (g 10) (g 11) (g 12) (g 13) (g 14) (g 18) (g 19) (g 20) t.1 t.2.1 t.2.2 w) (bI (dropS 1 (takeS 1 (dropS 12 code_law07_FseBefore)))) (by kernel_rfl) h (fun X g1 w1 ha h1 => ?_)
  rw [← agree_at (s := 2) ha (by kernel_rfl)] at h1
  rw [← agree_at (s := 8) ha (by kernel_rfl)] at h1
  rw [← agree_at (s := 10) ha (by kernel_rfl)] at h1
  rw [← agree_at (s := 11) ha (by kernel_rfl)] at h1
  rw [← agree_at (s := 12) ha (by kernel_rfl)] at h1
  rw [← agree_at (s := 13) ha (by kernel_rfl)] at h1
  rw [← agree_at (s := 14) ha (by kernel_rfl)] at h1
  rw [← agree_at (s := 18) ha (by kernel_rfl)] at h1
  rw [← agree_at (s := 19) ha (by kernel_rfl)] at h1
  rw [← agree_at (s := 20) ha (by kernel_rfl)] at h1
  exact (law07_FseBefore_p9_ok (thenE (fun g2 w2 => X ((fun g : Env => (g 21, g 22, g 23)) g2) w2) Q) g1 w1 (fun _ _ _ _ _ _ _ _ _ _ t21 first_22 j_23 w => X (t21, first_22, j_23) w) k0 (fun _ _ h => h) h0 h1)

def law07_FseBefore_p11 (kn : Value → Value → Value → Value → Value → Value → Value → Value → Value → Value → Value → Value → World → Prop) (symbol_2 t8 s_10 i_11 x_12 n_13 f_14 g_18 k_19 h_20 t21 first_22 j_23 : Value) (w : World) : Prop :=
  law07_FseBefore_p10 kn symbol_2 t8 s_10 i_11 x_12 n_13 f_14 g_18 k_19 h_20 t21 first_22 j_23 w
theorem law07_FseBefore_p11_ok (Q : Exit → Env → World → Prop) (g : Env) (w : World) (kn : Value → Value → Value → Value → Value → Value → Value → Value → Value → Value → Value → Value → World → Prop) (hn : ∀ g w, kn (g 2) (g 8) (g 10) (g 11) (g 12) (g 13) (g 14) (g 18) (g 19) (g 20) (g 21) (g 22) w → Q .normal g w) (h : law07_FseBefore_p11 kn (g 2) (g 8) (g 10) (g 11) (g 12) (g 13) (g 14) (g 18) (g 19) (g 20) (g 21) (g 22) (g 23) w) : den pg ann_law07_FseBefore (dropS 1 (takeS 1 (dropS 12 code_law07_FseBefore))) Q g w :=
  den_blk 0 (dropS 1 (takeS 1 (dropS 12 code_law07_FseBefore))) g w (by kernel_rfl) (law07_FseBefore_p10_ok (blk 0 Q) g w kn hn h)

def law07_FseBefore_p12 (kn : Value → Value → Value → Value → Value → Value → Value → Value → Value → Value → Value → Value → Value → World → Prop) (symbol_2 t8 s_10 i_11 x_12 n_13 f_14 g_18 k_19 h_20 t21 first_22 : Value) (w : World) : Prop :=
  kn symbol_2 t8 s_10 i_11 x_12 n_13 f_14 g_18 k_19 h_20 t21 first_22 (.int .i64 0) w
theorem law07_FseBefore_p12_ok (Q : Exit → Env → World → Prop) (g : Env) (w : World) (kn : Value → Value → Value → Value → Value → Value → Value → Value → Value → Value → Value → Value → Value → World → Prop) (hn : ∀ g w, kn (g 2) (g 8) (g 10) (g 11) (g 12) (g 13) (g 14) (g 18) (g 19) (g 20) (g 21) (g 22) (g 23) w → Q .normal g w) (h : law07_FseBefore_p12 kn (g 2) (g 8) (g 10) (g 11) (g 12) (g 13) (g 14) (g 18) (g 19) (g 20) (g 21) (g 22) w) : den pg ann_law07_FseBefore (takeS 1 (takeS 1 (dropS 12 code_law07_FseBefore))) Q g w := by
  have e : (law07_FseBefore_p12 kn (g 2) (g 8) (g 10) (g 11) (g 12) (g 13) (g 14) (g 18) (g 19) (g 20) (g 21) (g 22) w) = den pg ann_law07_FseBefore (takeS 1 (takeS 1 (dropS 12 code_law07_FseBefore))) (exQ (fun g w => kn (g 2) (g 8) (g 10) (g 11) (g 12) (g 13) (g 14) (g 18) (g 19) (g 20) (g 21) (g 22) (g 23) w) (fun _ _ => False) []) g w := by kernel_rfl
  exact den_exQ e h hn (fun _ _ h => h.elim) trivial

def law07_FseBefore_p13 (kn : Value → Value → Value → Value → Value → Value → Value → Value → Value → Value → Value → Value → World → Prop) (symbol_2 t8 s_10 i_11 x_12 n_13 f_14 g_18 k_19 h_20 t21 first_22 : Value) (w : World) : Prop :=
  law07_FseBefore_p12 (fun symbol_2 t8 s_10 i_11 x_12 n_13 f_14 g_18 k_19 h_20 t21 first_22 j_23 w => law07_FseBefore_p11 kn symbol_2 t8 s_10 i_11 x_12 n_13 f_14 g_18 k_19 h_20 t21 first_22 j_23 w) symbol_2 t8 s_10 i_11 x_12 n_13 f_14 g_18 k_19 h_20 t21 first_22 w
theorem law07_FseBefore_p13_ok (Q : Exit → Env → World → Prop) (g : Env) (w : World) (kn : Value → Value → Value → Value → Value → Value → Value → Value → Value → Value → Value → Value → World → Prop) (hn : ∀ g w, kn (g 2) (g 8) (g 10) (g 11) (g 12) (g 13) (g 14) (g 18) (g 19) (g 20) (g 21) (g 22) w → Q .normal g w) (h : law07_FseBefore_p13 kn (g 2) (g 8) (g 10) (g 11) (g 12) (g 13) (g 14) (g 18) (g 19) (g 20) (g 21) (g 22) w) : den pg ann_law07_FseBefore (takeS 1 (dropS 12 code_law07_FseBefore)) Q g w := by
  exact den_seqs 1 (takeS 1 (dropS 12 code_law07_FseBefore)) g w (by kernel_rfl) (law07_FseBefore_p12_ok (thenE (fun g w => den pg ann_law07_FseBefore (dropS 1 (takeS 1 (dropS 12 code_law07_FseBefore))) Q g w) Q) g w (fun symbol_2 t8 s_10 i_11 x_12 n_13 f_14 g_18 k_19 h_20 t21 first_22 j_23 w => law07_FseBefore_p11 kn symbol_2 t8 s_10 i_11 x_12 n_13 f_14 g_18 k_19 h_20 t21 first_22 j_23 w) (fun g w h => thenE_n (K := fun g w => den pg ann_law07_FseBefore (dropS 1 (takeS 1 (dropS 12 code_law07_FseBefore))) Q g w) (law07_FseBefore_p11_ok Q g w kn hn h)) h)

def law07_FseBefore_p14 (R : Value → World → Prop) (symbol_2 t8 s_10 i_11 x_12 n_13 f_14 g_18 k_19 h_20 t21 first_22 : Value) (w : World) : Prop :=
  law07_FseBefore_p13 (fun symbol_2 t8 s_10 i_11 x_12 n_13 f_14 g_18 k_19 h_20 t21 first_22 w => law07_FseBefore_p1 R symbol_2 t8 s_10 i_11 x_12 n_13 f_14 g_18 k_19 h_20 t21 first_22 w) symbol_2 t8 s_10 i_11 x_12 n_13 f_14 g_18 k_19 h_20 t21 first_22 w
theorem law07_FseBefore_p14_ok (Q : Exit → Env → World → Prop) (g : Env) (w : World) (R : Value → World → Prop) (hr : ∀ g w, (resVals pg rs_law07_FseBefore g w fun vs => R (tup vs) w) → Q .ret g w) (h : law07_FseBefore_p14 R (g 2) (g 8) (g 10) (g 11) (g 12) (g 13) (g 14) (g 18) (g 19) (g 20) (g 21) (g 22) w) : den pg ann_law07_FseBefore (dropS 12 code_law07_FseBefore) Q g w := by
  exact den_seqs 1 (dropS 12 code_law07_FseBefore) g w (by kernel_rfl) (law07_FseBefore_p13_ok (thenE (fun g w => den pg ann_law07_FseBefore (dropS 1 (dropS 12 code_law07_FseBefore)) Q g w) Q) g w (fun symbol_2 t8 s_10 i_11 x_12 n_13 f_14 g_18 k_19 h_20 t21 first_22 w => law07_FseBefore_p1 R symbol_2 t8 s_10 i_11 x_12 n_13 f_14 g_18 k_19 h_20 t21 first_22 w) (fun g w h => thenE_n (K := fun g w => den pg ann_law07_FseBefore (dropS 1 (dropS 12 code_law07_FseBefore)) Q g w) (law07_FseBefore_p1_ok Q g w R hr h)) h)

def law07_FseBefore_p15 (kn : Value → Value → Value → Value → Value → Value → Value → Value → Value → Value → Value → Value → World → Prop) (R : Value → World → Prop) (c_0 state_1 symbol_2 : Value) (w : World) : Prop :=
  Stp pg (sBox 24 c_0) w fun c_3 w =>
  Does pg F_law07_awake #[] w fun t26 w =>
  Stp pg (sUn .not t26) w fun t28 w =>
  Cnd t28
    (R (.bool false) w)
    (Stp pg (sFAddr 24 c_3 1) w fun t29 w =>
    Stp pg (sLoad 22 t29) w fun t30 w =>
    Stp pg (sBi .len #[22] 3 [t30]) w fun t31 w =>
    Stp pg (sBin .gtr 3 (.tmp 31) (.const (.int .i64 300)) t31 (.int .i64 300)) w fun t32 w =>
    Gd (isB t32 false) (fun K => Stp pg (sFAddr 24 c_3 0) w K) w fun t34 w =>
    Gd (isB t32 false) (fun K => Stp pg (sLoad 3 t34) w K) w fun t35 w =>
    Gd (isB t32 false) (fun K => Stp pg (sBin .gtr 3 (.tmp 35) (.const (.int .i64 10)) t35 (.int .i64 10)) w K) w fun t36 w =>
    Stp pg (sPick t32 (.bool true) t36) w fun t37 w =>
    Cnd t37
      (R (.bool true) w)
      (Stp pg (sLoad 24 c_3) w fun t39 w =>
      Does pg F_fse_Build #[t39] w fun t40 w =>
      Stp pg (sExtr t40 0) w fun t41 w =>
      Stp pg (sExtr t40 1) w fun t42 w =>
      Stp pg (sAlloc 28) w fun t8 w =>
      Stp pg (sStore 28 t8 t41) w fun _u w =>
      Stp pg (sBin .neq 29 (.tmp 43) (.const (.int .i64 0)) t42 (.int .i64 0)) w fun t44 w =>
      Cnd t44
        (Stp pg (sFAddr 28 t8 1) w fun t45 w =>
        Stp pg (sLoad 26 t45) w fun t46 w =>
        Stp pg (sBi .len #[26] 3 [t46]) w fun t47 w =>
        Stp pg (sBin .eql 3 (.tmp 47) (.const (.int .i64 0)) t47 (.int .i64 0)) w fun t48 w =>
        R t48 w)
        (Stp pg (sCvt 44 3 state_1) w fun t50 w =>
        Stp pg (sFAddr 28 t8 1) w fun t51 w =>
        Stp pg (sLoad 26 t51) w fun t52 w =>
        Stp pg (sBi .len #[26] 3 [t52]) w fun t53 w =>
        Stp pg (sBin .rem 3 (.tmp 50) (.tmp 53) t50 t53) w fun t54 w =>
        Stp pg (sLoad 28 t8) w fun t56 w =>
        Does pg F_fse_Before #[t56, t54, symbol_2] w fun t59 w =>
        Stp pg (sExtr t59 0) w fun t60 w =>
        Stp pg (sExtr t59 1) w fun t61 w =>
        Stp pg (sExtr t59 2) w fun t62 w =>
        Stp pg (sExtr t59 3) w fun t63 w =>
        Stp pg (sLoad 28 t8) w fun t65 w =>
        Stp pg (sFAddr 28 t8 1) w fun t66 w =>
        Stp pg (sLoad 26 t66) w fun t67 w =>
        Stp pg (sBi .len #[26] 3 [t67]) w fun t68 w =>
        Does pg F_fse_Before #[t65, t68, symbol_2] w fun t70 w =>
        Stp pg (sExtr t70 0) w fun t71 w =>
        Stp pg (sExtr t70 1) w fun t72 w =>
        Stp pg (sExtr t70 2) w fun t73 w =>
        Stp pg (sExtr t70 3) w fun t74 w =>
        Stp pg (sLoad 28 t8) w fun t76 w =>
        Does pg F_fse_First #[t76, symbol_2] w fun t78 w =>
        Stp pg (sExtr t78 0) w fun t79 w =>
        Stp pg (sExtr t78 1) w fun t80 w =>
        kn symbol_2 t8 t54 t60 t61 t62 t63 t74 t79 t80 (.int .i64 0) (.int .i64 (-1)) w)))
theorem law07_FseBefore_p15_ok (Q : Exit → Env → World → Prop) (g : Env) (w : World) (kn : Value → Value → Value → Value → Value → Value → Value → Value → Value → Value → Value → Value → World → Prop) (R : Value → World → Prop) (hn : ∀ g w, kn (g 2) (g 8) (g 10) (g 11) (g 12) (g 13) (g 14) (g 18) (g 19) (g 20) (g 21) (g 22) w → Q .normal g w) (hr : ∀ g w, (resVals pg rs_law07_FseBefore g w fun vs => R (tup vs) w) → Q .ret g w) (h : law07_FseBefore_p15 kn R (g 0) (g 1) (g 2) w) : den pg ann_law07_FseBefore (takeS 12 code_law07_FseBefore) Q g w := by
  have e : (law07_FseBefore_p15 kn R (g 0) (g 1) (g 2) w) = den pg ann_law07_FseBefore (takeS 12 code_law07_FseBefore) (exQ (fun g w => kn (g 2) (g 8) (g 10) (g 11) (g 12) (g 13) (g 14) (g 18) (g 19) (g 20) (g 21) (g 22) w) (fun g w => resVals pg rs_law07_FseBefore g w fun vs => R (tup vs) w) []) g w := by kernel_rfl
  exact den_exQ e h hn hr trivial

def law07_FseBefore_p16 (R : Value → World → Prop) (c_0 state_1 symbol_2 : Value) (w : World) : Prop :=
  law07_FseBefore_p15 (fun symbol_2 t8 s_10 i_11 x_12 n_13 f_14 g_18 k_19 h_20 t21 first_22 w => law07_FseBefore_p14 R symbol_2 t8 s_10 i_11 x_12 n_13 f_14 g_18 k_19 h_20 t21 first_22 w) R c_0 state_1 symbol_2 w
theorem law07_FseBefore_p16_ok (Q : Exit → Env → World → Prop) (g : Env) (w : World) (R : Value → World → Prop) (hr : ∀ g w, (resVals pg rs_law07_FseBefore g w fun vs => R (tup vs) w) → Q .ret g w) (h : law07_FseBefore_p16 R (g 0) (g 1) (g 2) w) : den pg ann_law07_FseBefore code_law07_FseBefore Q g w := by
  exact den_seqs 12 code_law07_FseBefore g w (by kernel_rfl) (law07_FseBefore_p15_ok (thenE (fun g w => den pg ann_law07_FseBefore (dropS 12 code_law07_FseBefore) Q g w) Q) g w (fun symbol_2 t8 s_10 i_11 x_12 n_13 f_14 g_18 k_19 h_20 t21 first_22 w => law07_FseBefore_p14 R symbol_2 t8 s_10 i_11 x_12 n_13 f_14 g_18 k_19 h_20 t21 first_22 w) R (fun g w h => thenE_n (K := fun g w => den pg ann_law07_FseBefore (dropS 12 code_law07_FseBefore) Q g w) (law07_FseBefore_p14_ok Q g w R hr h)) hr h)

def law07_FseBefore (a0 a1 a2 : Value) (w : World) (R : Value → World → Prop) : Prop :=
  law07_FseBefore_p16 R a0 a1 a2 w
theorem law07_FseBefore_does {a0 a1 a2 : Value} {w : World} {R : Value → World → Prop} (h : law07_FseBefore a0 a1 a2 w R) : Does pg F_law07_FseBefore #[a0, a1, a2] w R := by
  refine does_of_den (ann := ann_law07_FseBefore) (fn := Try.f5) (c := code_law07_FseBefore) (args := [a0, a1, a2]) (rs := rs_law07_FseBefore) (N := 203) TryM.mixed (by kernel_rfl) Try.func5 (by kernel_rfl) (by kernel_rfl) (by kernel_rfl) (of_decide_eq_true (by kernel_rfl)) (by kernel_rfl) ?_
  exact (law07_FseBefore_p16_ok (retQ pg rs_law07_FseBefore R) (envOf [a0, a1, a2]) w R (fun _ _ h => h) h)
-- PIECES law07_FseBefore/0 law07_FseBefore_p1 law07_FseBefore_p10 law07_FseBefore_p11 law07_FseBefore_p12 law07_FseBefore_p13 law07_FseBefore_p14 law07_FseBefore_p15 law07_FseBefore_p16
-- PIECES law07_FseBefore/1 law07_FseBefore_p2 law07_FseBefore_p3 law07_FseBefore_p4 law07_FseBefore_p5 law07_FseBefore_p6 law07_FseBefore_p7 law07_FseBefore_p8 law07_FseBefore_p9

/- lighterman/lightermanlaw07.FseReads -/
def ann_law07_FseReads : FA := ⟨F_law07_FseReads, fun i => match Nat.beq i 24 with | true => .leaf ([5, 7], [(5, 6)]) [(false, []), (false, []), (false, []), (false, []), (false, []), (true, []), (false, [0]), (true, []), (false, []), (false, [])] | false => match Nat.beq i 28 with | true => .leaf ([5, 7], [(5, 6)]) [(false, []), (false, []), (false, []), (false, []), (false, []), (true, []), (false, [0]), (true, []), (false, []), (false, []), (false, [])] | false => .leaf ([], []) []⟩
def rs_law07_FseReads : List ResultVar := [.tmp 8]
noncomputable def code_law07_FseReads : Code := bodyOf Try.f6
def law07_FseReads_p1 (R : Value → World → Prop) (r_14 v_16 s_18 z_19 : Value) (w : World) : Prop :=
  (dr w) = (dr w) ∧
  (dr w) = (dr w) ∧
  Stp pg (sBin .eql 3 (.tmp 113) (.tmp 114) s_18 z_19) (dr w) fun t115 w_ => w_ = (dr w) ∧
  (dr w) = (dr w) ∧
  Gd (isB t115 true) (fun K => K r_14 (dr w)) (dr w) fun t117 w_ => w_ = (dr w) ∧
  Gd (isB t115 true) (fun K => Does pg F_bits_Backward_Left #[t117] (dr w) K) (dr w) fun t118 w28_5 =>
  Gd (isB t115 true) (fun K => Stp pg (sLoad 60 v_16) w28_5 K) w28_5 fun t119 w_ => w_ = w28_5 ∧
  (Gs (isB t115 true) (Same pg (sLoad 60 v_16) t119 (dr w)) ∧ True) ∧
  Gd (isB t115 true) (fun K => Does pg F_ref05_Left #[t119] w28_5 K) w28_5 fun t120 w28_7 =>
  Gd (isB t115 true) (fun K => Stp pg (sBin .eql 3 (.tmp 118) (.tmp 120) t118 t120) w28_7 K) w28_7 fun t121 w_ => w_ = w28_7 ∧
  Stp pg (sPick t115 t121 (.bool false)) w28_7 fun t122 w_ => w_ = w28_7 ∧
  w28_7 = w28_7 ∧
  R t122 w28_7
theorem law07_FseReads_p1_ok (Q : Exit → Env → World → Prop) (g : Env) (w : World) (R : Value → World → Prop) (hr : ∀ g w, (resVals pg rs_law07_FseReads g w fun vs => R (tup vs) w) → Q .ret g w) (h : law07_FseReads_p1 R (g 14) (g 16) (g 18) (g 19) w) : den pg ann_law07_FseReads (dropS 1 (dropS 6 (dropS 7 code_law07_FseReads))) Q g w := by
  have e : (law07_FseReads_p1 R (g 14) (g 16) (g 18) (g 19) w) = den pg ann_law07_FseReads (dropS 1 (dropS 6 (dropS 7 code_law07_FseReads))) (exQ (fun _ _ => False) (fun g w => resVals pg rs_law07_FseReads g w fun vs => R (tup vs) w) []) g w := by kernel_rfl
  exact den_exQ e h (fun _ _ h => h.elim) hr trivial

def law07_FseReads_p2 (kn : Value → Value → Value → Value → Value → Value → Value → Value → World → Prop) (k0 : Value → Value → Value → Value → World → Prop) (R : Value → World → Prop) (n_2 t10 w_12 r_14 v_16 s_18 z_19 i_20 : Value) (w : World) : Prop :=
  Stp pg (sBin .rem 5 (.tmp 86) (.const (.int .u8 40)) n_2 (.int .u8 40)) w fun t87 w =>
  Stp pg (sCvt 5 3 t87) w fun t88 w =>
  Stp pg (sBin .lss 3 (.tmp 85) (.tmp 88) i_20 t88) w fun t89 w =>
  Cnd t89
    ((dr w) = (dr w) ∧
    (dr w) = (dr w) ∧
    Stp pg (sBin .neq 3 (.tmp 92) (.tmp 93) s_18 z_19) (dr w) fun t94 w_ => w_ = (dr w) ∧
    (dr w) = (dr w) ∧
    Gd (isB t94 false) (fun K => K r_14 (dr w)) (dr w) fun t96 w_ => w_ = (dr w) ∧
    Gd (isB t94 false) (fun K => Does pg F_bits_Backward_Left #[t96] (dr w) K) (dr w) fun t97 w24_5 =>
    Gd (isB t94 false) (fun K => Stp pg (sLoad 60 v_16) w24_5 K) w24_5 fun t98 w_ => w_ = w24_5 ∧
    (Gs (isB t94 false) (Same pg (sLoad 60 v_16) t98 (dr w)) ∧ True) ∧
    Gd (isB t94 false) (fun K => Does pg F_ref05_Left #[t98] w24_5 K) w24_5 fun t99 w24_7 =>
    Gd (isB t94 false) (fun K => Stp pg (sBin .neq 3 (.tmp 97) (.tmp 99) t97 t99) w24_7 K) w24_7 fun t100 w_ => w_ = w24_7 ∧
    Stp pg (sPick t94 (.bool true) t100) w24_7 fun t101 w_ => w_ = w24_7 ∧
    Cnd t101
      (R (.bool false) w24_7)
      (Stp pg (sLoad 28 t10) w24_7 fun t102 w =>
      Does pg F_fse_Next #[t102, s_18, r_14] w fun t105 w =>
      Stp pg (sLoad 34 w_12) w fun t107 w =>
      Stp pg (sLoad 60 v_16) w fun t109 w =>
      Does pg F_ref07_Next #[t107, z_19, t109] w fun t110 w =>
      Stp pg (sExtr t110 0) w fun t111 w =>
      Stp pg (sExtr t110 1) w fun t112 w =>
      Stp pg (sStore 60 v_16 t111) w fun _u w =>
      Stp pg (sBin .add 3 (.tmp 90) (.const (.int .i64 1)) i_20 (.int .i64 1)) w fun t91 w =>
      kn n_2 t10 w_12 r_14 v_16 t105 t112 t91 w))
    (k0 r_14 v_16 s_18 z_19 w)
theorem law07_FseReads_p2_ok (Q : Exit → Env → World → Prop) (g : Env) (w : World) (kn : Value → Value → Value → Value → Value → Value → Value → Value → World → Prop) (k0 : Value → Value → Value → Value → World → Prop) (R : Value → World → Prop) (hn : ∀ g w, kn (g 2) (g 10) (g 12) (g 14) (g 16) (g 18) (g 19) (g 20) w → Q .normal g w) (h0 : ∀ g w, k0 (g 14) (g 16) (g 18) (g 19) w → Q (.exit 0) g w) (hr : ∀ g w, (resVals pg rs_law07_FseReads g w fun vs => R (tup vs) w) → Q .ret g w) (h : law07_FseReads_p2 kn k0 R (g 2) (g 10) (g 12) (g 14) (g 16) (g 18) (g 19) (g 20) w) : den pg ann_law07_FseReads (bI (bI (dropS 1 (takeS 1 (dropS 6 (dropS 7 code_law07_FseReads)))))) Q g w := by
  have e : (law07_FseReads_p2 kn k0 R (g 2) (g 10) (g 12) (g 14) (g 16) (g 18) (g 19) (g 20) w) = den pg ann_law07_FseReads (bI (bI (dropS 1 (takeS 1 (dropS 6 (dropS 7 code_law07_FseReads)))))) (exQ (fun g w => kn (g 2) (g 10) (g 12) (g 14) (g 16) (g 18) (g 19) (g 20) w) (fun g w => resVals pg rs_law07_FseReads g w fun vs => R (tup vs) w) [(0, fun g w => k0 (g 14) (g 16) (g 18) (g 19) w)]) g w := by kernel_rfl
  exact den_exQ e h hn hr ⟨h0, trivial⟩

def law07_FseReads_p3 (k0 : Value → Value → Value → Value → World → Prop) (R : Value → World → Prop) (n_2 t10 w_12 r_14 v_16 s_18 z_19 i_20 : Value) (w : World) : Prop :=
  LoopD (fun (X : (Value × Value × Value) → World → Prop) (t : Value × Value × Value) (w : World) => law07_FseReads_p2 (fun _ _ _ _ _ s_18 z_19 i_20 w => X (s_18, z_19, i_20) w) k0 R n_2 t10 w_12 r_14 v_16 t.1 t.2.1 t.2.2 w) (s_18, z_19, i_20) w
theorem law07_FseReads_p3_ok (Q : Exit → Env → World → Prop) (g : Env) (w : World) (k0 : Value → Value → Value → Value → World → Prop) (R : Value → World → Prop) (h0 : ∀ g w, k0 (g 14) (g 16) (g 18) (g 19) w → Q (.exit 0) g w) (hr : ∀ g w, (resVals pg rs_law07_FseReads g w fun vs => R (tup vs) w) → Q .ret g w) (h : law07_FseReads_p3 k0 R (g 2) (g 10) (g 12) (g 14) (g 16) (g 18) (g 19) (g 20) w) : den pg ann_law07_FseReads (bI (dropS 1 (takeS 1 (dropS 6 (dropS 7 code_law07_FseReads))))) Q g w := by
  refine den_loops (T := Value × Value × Value) (fun g : Env => (g 18, g 19, g 20)) (fun X t w => law07_FseReads_p2 (fun _ _ _ _ _ s_18 z_19 i_20 w => X (s_18, z_19, i_20) w) k0 R (g 2) (g 10) (g 12) (g 14) (g 16) t.1 t.2.1 t.2.2 w) (bI (dropS 1 (takeS 1 (dropS 6 (dropS 7 code_law07_FseReads))))) (by kernel_rfl) h (fun X g1 w1 ha h1 => ?_)
  rw [← agree_at (s := 2) ha (by kernel_rfl)] at h1
  rw [← agree_at (s := 10) ha (by kernel_rfl)] at h1
  rw [← agree_at (s := 12) ha (by kernel_rfl)] at h1
  rw [← agree_at (s := 14) ha (by kernel_rfl)] at h1
  rw [← agree_at (s := 16) ha (by kernel_rfl)] at h1
  exact (law07_FseReads_p2_ok (thenE (fun g2 w2 => X ((fun g : Env => (g 18, g 19, g 20)) g2) w2) Q) g1 w1 (fun _ _ _ _ _ s_18 z_19 i_20 w => X (s_18, z_19, i_20) w) k0 R (fun _ _ h => h) h0 hr h1)

def law07_FseReads_p4 (kn : Value → Value → Value → Value → World → Prop) (R : Value → World → Prop) (n_2 t10 w_12 r_14 v_16 s_18 z_19 i_20 : Value) (w : World) : Prop :=
  law07_FseReads_p3 kn R n_2 t10 w_12 r_14 v_16 s_18 z_19 i_20 w
theorem law07_FseReads_p4_ok (Q : Exit → Env → World → Prop) (g : Env) (w : World) (kn : Value → Value → Value → Value → World → Prop) (R : Value → World → Prop) (hn : ∀ g w, kn (g 14) (g 16) (g 18) (g 19) w → Q .normal g w) (hr : ∀ g w, (resVals pg rs_law07_FseReads g w fun vs => R (tup vs) w) → Q .ret g w) (h : law07_FseReads_p4 kn R (g 2) (g 10) (g 12) (g 14) (g 16) (g 18) (g 19) (g 20) w) : den pg ann_law07_FseReads (dropS 1 (takeS 1 (dropS 6 (dropS 7 code_law07_FseReads)))) Q g w :=
  den_blk 0 (dropS 1 (takeS 1 (dropS 6 (dropS 7 code_law07_FseReads)))) g w (by kernel_rfl) (law07_FseReads_p3_ok (blk 0 Q) g w kn R hn hr h)

def law07_FseReads_p5 (kn : Value → Value → Value → Value → Value → Value → Value → Value → World → Prop) (n_2 t10 w_12 r_14 v_16 s_18 z_19 : Value) (w : World) : Prop :=
  kn n_2 t10 w_12 r_14 v_16 s_18 z_19 (.int .i64 0) w
theorem law07_FseReads_p5_ok (Q : Exit → Env → World → Prop) (g : Env) (w : World) (kn : Value → Value → Value → Value → Value → Value → Value → Value → World → Prop) (hn : ∀ g w, kn (g 2) (g 10) (g 12) (g 14) (g 16) (g 18) (g 19) (g 20) w → Q .normal g w) (h : law07_FseReads_p5 kn (g 2) (g 10) (g 12) (g 14) (g 16) (g 18) (g 19) w) : den pg ann_law07_FseReads (takeS 1 (takeS 1 (dropS 6 (dropS 7 code_law07_FseReads)))) Q g w := by
  have e : (law07_FseReads_p5 kn (g 2) (g 10) (g 12) (g 14) (g 16) (g 18) (g 19) w) = den pg ann_law07_FseReads (takeS 1 (takeS 1 (dropS 6 (dropS 7 code_law07_FseReads)))) (exQ (fun g w => kn (g 2) (g 10) (g 12) (g 14) (g 16) (g 18) (g 19) (g 20) w) (fun _ _ => False) []) g w := by kernel_rfl
  exact den_exQ e h hn (fun _ _ h => h.elim) trivial

def law07_FseReads_p6 (kn : Value → Value → Value → Value → World → Prop) (R : Value → World → Prop) (n_2 t10 w_12 r_14 v_16 s_18 z_19 : Value) (w : World) : Prop :=
  law07_FseReads_p5 (fun n_2 t10 w_12 r_14 v_16 s_18 z_19 i_20 w => law07_FseReads_p4 kn R n_2 t10 w_12 r_14 v_16 s_18 z_19 i_20 w) n_2 t10 w_12 r_14 v_16 s_18 z_19 w
theorem law07_FseReads_p6_ok (Q : Exit → Env → World → Prop) (g : Env) (w : World) (kn : Value → Value → Value → Value → World → Prop) (R : Value → World → Prop) (hn : ∀ g w, kn (g 14) (g 16) (g 18) (g 19) w → Q .normal g w) (hr : ∀ g w, (resVals pg rs_law07_FseReads g w fun vs => R (tup vs) w) → Q .ret g w) (h : law07_FseReads_p6 kn R (g 2) (g 10) (g 12) (g 14) (g 16) (g 18) (g 19) w) : den pg ann_law07_FseReads (takeS 1 (dropS 6 (dropS 7 code_law07_FseReads))) Q g w := by
  exact den_seqs 1 (takeS 1 (dropS 6 (dropS 7 code_law07_FseReads))) g w (by kernel_rfl) (law07_FseReads_p5_ok (thenE (fun g w => den pg ann_law07_FseReads (dropS 1 (takeS 1 (dropS 6 (dropS 7 code_law07_FseReads)))) Q g w) Q) g w (fun n_2 t10 w_12 r_14 v_16 s_18 z_19 i_20 w => law07_FseReads_p4 kn R n_2 t10 w_12 r_14 v_16 s_18 z_19 i_20 w) (fun g w h => thenE_n (K := fun g w => den pg ann_law07_FseReads (dropS 1 (takeS 1 (dropS 6 (dropS 7 code_law07_FseReads)))) Q g w) (law07_FseReads_p4_ok Q g w kn R hn hr h)) h)

def law07_FseReads_p7 (R : Value → World → Prop) (n_2 t10 w_12 r_14 v_16 s_18 z_19 : Value) (w : World) : Prop :=
  law07_FseReads_p6 (fun r_14 v_16 s_18 z_19 w => law07_FseReads_p1 R r_14 v_16 s_18 z_19 w) R n_2 t10 w_12 r_14 v_16 s_18 z_19 w
theorem law07_FseReads_p7_ok (Q : Exit → Env → World → Prop) (g : Env) (w : World) (R : Value → World → Prop) (hr : ∀ g w, (resVals pg rs_law07_FseReads g w fun vs => R (tup vs) w) → Q .ret g w) (h : law07_FseReads_p7 R (g 2) (g 10) (g 12) (g 14) (g 16) (g 18) (g 19) w) : den pg ann_law07_FseReads (dropS 6 (dropS 7 code_law07_FseReads)) Q g w := by
  exact den_seqs 1 (dropS 6 (dropS 7 code_law07_FseReads)) g w (by kernel_rfl) (law07_FseReads_p6_ok (thenE (fun g w => den pg ann_law07_FseReads (dropS 1 (dropS 6 (dropS 7 code_law07_FseReads))) Q g w) Q) g w (fun r_14 v_16 s_18 z_19 w => law07_FseReads_p1 R r_14 v_16 s_18 z_19 w) R (fun g w h => thenE_n (K := fun g w => den pg ann_law07_FseReads (dropS 1 (dropS 6 (dropS 7 code_law07_FseReads))) Q g w) (law07_FseReads_p1_ok Q g w R hr h)) hr h)

def law07_FseReads_p8 (kn : Value → Value → Value → Value → Value → Value → Value → World → Prop) (R : Value → World → Prop) (b_1 n_2 t10 w_12 : Value) (w : World) : Prop :=
  Does pg F_bits_NewBackward #[b_1] w fun t62 w =>
  Stp pg (sExtr t62 0) w fun t63 w =>
  Stp pg (sExtr t62 1) w fun t64 w =>
  Stp pg (sCvt 52 9 b_1) w fun t67 w =>
  Does pg F_ref05_New #[t67] w fun t68 w =>
  Stp pg (sExtr t68 0) w fun t69 w =>
  Stp pg (sExtr t68 1) w fun t70 w =>
  Stp pg (sAlloc 60) w fun v_16 w =>
  Stp pg (sStore 60 v_16 t69) w fun _u w =>
  Stp pg (sBin .neq 29 (.tmp 71) (.tmp 72) t64 t70) w fun t73 w =>
  Cnd t73
    (R (.bool false) w)
    (Stp pg (sBin .neq 29 (.tmp 74) (.const (.int .i64 0)) t64 (.int .i64 0)) w fun t75 w =>
    Cnd t75
      (R (.bool true) w)
      (Stp pg (sLoad 28 t10) w fun t76 w =>
      Does pg F_fse_Start #[t76, t63] w fun t78 w =>
      Stp pg (sLoad 34 w_12) w fun t80 w =>
      Stp pg (sLoad 60 v_16) w fun t81 w =>
      Does pg F_ref07_Start #[t80, t81] w fun t82 w =>
      Stp pg (sExtr t82 0) w fun t83 w =>
      Stp pg (sExtr t82 1) w fun t84 w =>
      Stp pg (sStore 60 v_16 t83) w fun _u w =>
      kn n_2 t10 w_12 t63 v_16 t78 t84 w))
theorem law07_FseReads_p8_ok (Q : Exit → Env → World → Prop) (g : Env) (w : World) (kn : Value → Value → Value → Value → Value → Value → Value → World → Prop) (R : Value → World → Prop) (hn : ∀ g w, kn (g 2) (g 10) (g 12) (g 14) (g 16) (g 18) (g 19) w → Q .normal g w) (hr : ∀ g w, (resVals pg rs_law07_FseReads g w fun vs => R (tup vs) w) → Q .ret g w) (h : law07_FseReads_p8 kn R (g 1) (g 2) (g 10) (g 12) w) : den pg ann_law07_FseReads (takeS 6 (dropS 7 code_law07_FseReads)) Q g w := by
  have e : (law07_FseReads_p8 kn R (g 1) (g 2) (g 10) (g 12) w) = den pg ann_law07_FseReads (takeS 6 (dropS 7 code_law07_FseReads)) (exQ (fun g w => kn (g 2) (g 10) (g 12) (g 14) (g 16) (g 18) (g 19) w) (fun g w => resVals pg rs_law07_FseReads g w fun vs => R (tup vs) w) []) g w := by kernel_rfl
  exact den_exQ e h hn hr trivial

def law07_FseReads_p9 (R : Value → World → Prop) (b_1 n_2 t10 w_12 : Value) (w : World) : Prop :=
  law07_FseReads_p8 (fun n_2 t10 w_12 r_14 v_16 s_18 z_19 w => law07_FseReads_p7 R n_2 t10 w_12 r_14 v_16 s_18 z_19 w) R b_1 n_2 t10 w_12 w
theorem law07_FseReads_p9_ok (Q : Exit → Env → World → Prop) (g : Env) (w : World) (R : Value → World → Prop) (hr : ∀ g w, (resVals pg rs_law07_FseReads g w fun vs => R (tup vs) w) → Q .ret g w) (h : law07_FseReads_p9 R (g 1) (g 2) (g 10) (g 12) w) : den pg ann_law07_FseReads (dropS 7 code_law07_FseReads) Q g w := by
  exact den_seqs 6 (dropS 7 code_law07_FseReads) g w (by kernel_rfl) (law07_FseReads_p8_ok (thenE (fun g w => den pg ann_law07_FseReads (dropS 6 (dropS 7 code_law07_FseReads)) Q g w) Q) g w (fun n_2 t10 w_12 r_14 v_16 s_18 z_19 w => law07_FseReads_p7 R n_2 t10 w_12 r_14 v_16 s_18 z_19 w) R (fun g w h => thenE_n (K := fun g w => den pg ann_law07_FseReads (dropS 6 (dropS 7 code_law07_FseReads)) Q g w) (law07_FseReads_p7_ok Q g w R hr h)) hr h)

def law07_FseReads_p10 (kn : Value → Value → Value → Value → World → Prop) (R : Value → World → Prop) (c_0 b_1 n_2 one_3 : Value) (w : World) : Prop :=
  Stp pg (sBox 24 c_0) w fun c_4 w =>
  Does pg F_law07_awake #[] w fun t21 w =>
  Stp pg (sUn .not t21) w fun t23 w =>
  Cnd t23
    (R (.bool false) w)
    (Stp pg (sFAddr 24 c_4 1) w fun t24 w =>
    Stp pg (sLoad 22 t24) w fun t25 w =>
    Stp pg (sBi .len #[22] 3 [t25]) w fun t26 w =>
    Stp pg (sBin .gtr 3 (.tmp 26) (.const (.int .i64 300)) t26 (.int .i64 300)) w fun t27 w =>
    Gd (isB t27 false) (fun K => Stp pg (sFAddr 24 c_4 0) w K) w fun t29 w =>
    Gd (isB t27 false) (fun K => Stp pg (sLoad 3 t29) w K) w fun t30 w =>
    Gd (isB t27 false) (fun K => Stp pg (sBin .gtr 3 (.tmp 30) (.const (.int .i64 9)) t30 (.int .i64 9)) w K) w fun t31 w =>
    Stp pg (sPick t27 (.bool true) t31) w fun t32 w =>
    Gd (isB t32 false) (fun K => K b_1 w) w fun t34 w =>
    Gd (isB t32 false) (fun K => Stp pg (sBi .len #[52] 3 [t34]) w K) w fun t35 w =>
    Gd (isB t32 false) (fun K => Stp pg (sBin .gtr 3 (.tmp 35) (.const (.int .i64 100)) t35 (.int .i64 100)) w K) w fun t36 w =>
    Stp pg (sPick t32 (.bool true) t36) w fun t37 w =>
    Cnd t37
      (R (.bool true) w)
      (Stp pg (sLoad 24 c_4) w fun t39 w =>
      Does pg F_fse_Build #[t39] w fun t40 w =>
      Stp pg (sExtr t40 0) w fun t41 w =>
      Stp pg (sExtr t40 1) w fun t42 w =>
      Stp pg (sAlloc 28) w fun t10 w =>
      Stp pg (sStore 28 t10 t41) w fun _u w =>
      Stp pg (sLoad 24 c_4) w fun t44 w =>
      Does pg F_law07_modelOf #[t44] w fun t45 w =>
      Does pg F_ref07_Build #[t45] w fun t46 w =>
      Stp pg (sExtr t46 0) w fun t47 w =>
      Stp pg (sExtr t46 1) w fun t48 w =>
      Stp pg (sAlloc 34) w fun w_12 w =>
      Stp pg (sStore 34 w_12 t47) w fun _u w =>
      Cnd one_3
        (Does pg F_fse_One #[n_2] w fun t51 w =>
        Stp pg (sStore 28 t10 t51) w fun _u w =>
        Stp pg (sCvt 5 3 n_2) w fun t53 w =>
        Does pg F_ref07_One #[t53] w fun t54 w =>
        Stp pg (sStore 34 w_12 t54) w fun _u w =>
        kn b_1 n_2 t10 w_12 w)
        (Stp pg (sBin .neq 29 (.tmp 55) (.const (.int .i64 0)) t42 (.int .i64 0)) w fun t56 w =>
        Cnd t56
          (Stp pg (sBin .eql 29 (.tmp 57) (.tmp 58) t42 t48) w fun t59 w =>
          R t59 w)
          (kn b_1 n_2 t10 w_12 w))))
theorem law07_FseReads_p10_ok (Q : Exit → Env → World → Prop) (g : Env) (w : World) (kn : Value → Value → Value → Value → World → Prop) (R : Value → World → Prop) (hn : ∀ g w, kn (g 1) (g 2) (g 10) (g 12) w → Q .normal g w) (hr : ∀ g w, (resVals pg rs_law07_FseReads g w fun vs => R (tup vs) w) → Q .ret g w) (h : law07_FseReads_p10 kn R (g 0) (g 1) (g 2) (g 3) w) : den pg ann_law07_FseReads (takeS 7 code_law07_FseReads) Q g w := by
  have e : (law07_FseReads_p10 kn R (g 0) (g 1) (g 2) (g 3) w) = den pg ann_law07_FseReads (takeS 7 code_law07_FseReads) (exQ (fun g w => kn (g 1) (g 2) (g 10) (g 12) w) (fun g w => resVals pg rs_law07_FseReads g w fun vs => R (tup vs) w) []) g w := by kernel_rfl
  exact den_exQ e h hn hr trivial

def law07_FseReads_p11 (R : Value → World → Prop) (c_0 b_1 n_2 one_3 : Value) (w : World) : Prop :=
  law07_FseReads_p10 (fun b_1 n_2 t10 w_12 w => law07_FseReads_p9 R b_1 n_2 t10 w_12 w) R c_0 b_1 n_2 one_3 w
theorem law07_FseReads_p11_ok (Q : Exit → Env → World → Prop) (g : Env) (w : World) (R : Value → World → Prop) (hr : ∀ g w, (resVals pg rs_law07_FseReads g w fun vs => R (tup vs) w) → Q .ret g w) (h : law07_FseReads_p11 R (g 0) (g 1) (g 2) (g 3) w) : den pg ann_law07_FseReads code_law07_FseReads Q g w := by
  exact den_seqs 7 code_law07_FseReads g w (by kernel_rfl) (law07_FseReads_p10_ok (thenE (fun g w => den pg ann_law07_FseReads (dropS 7 code_law07_FseReads) Q g w) Q) g w (fun b_1 n_2 t10 w_12 w => law07_FseReads_p9 R b_1 n_2 t10 w_12 w) R (fun g w h => thenE_n (K := fun g w => den pg ann_law07_FseReads (dropS 7 code_law07_FseReads) Q g w) (law07_FseReads_p9_ok Q g w R hr h)) hr h)

def law07_FseReads (a0 a1 a2 a3 : Value) (w : World) (R : Value → World → Prop) : Prop :=
  law07_FseReads_p11 R a0 a1 a2 a3 w
theorem law07_FseReads_does {a0 a1 a2 a3 : Value} {w : World} {R : Value → World → Prop} (h : law07_FseReads a0 a1 a2 a3 w R) : Does pg F_law07_FseReads #[a0, a1, a2, a3] w R := by
  refine does_of_den (ann := ann_law07_FseReads) (fn := Try.f6) (c := code_law07_FseReads) (args := [a0, a1, a2, a3]) (rs := rs_law07_FseReads) (N := 123) TryM.mixed (by kernel_rfl) Try.func6 (by kernel_rfl) (by kernel_rfl) (by kernel_rfl) (of_decide_eq_true (by kernel_rfl)) (by kernel_rfl) ?_
  exact (law07_FseReads_p11_ok (retQ pg rs_law07_FseReads R) (envOf [a0, a1, a2, a3]) w R (fun _ _ h => h) h)
-- PIECES law07_FseReads/0 law07_FseReads_p1 law07_FseReads_p3 law07_FseReads_p4 law07_FseReads_p5 law07_FseReads_p6 law07_FseReads_p7 law07_FseReads_p8 law07_FseReads_p9 law07_FseReads_p10 law07_FseReads_p11
-- PIECES law07_FseReads/1 law07_FseReads_p2

/- lighterman/lightermanlaw07.FseBack -/
def ann_law07_FseBack : FA := ⟨F_law07_FseBack, fun i => match Nat.beq i 13 with | true => .leaf ([15, 16], []) [(false, []), (false, []), (false, []), (false, []), (false, []), (false, []), (false, []), (false, []), (false, []), (false, []), (false, []), (false, []), (false, []), (false, []), (false, []), (true, []), (true, []), (false, [])] | false => match Nat.beq i 15 with | true => .leaf ([7], []) [(false, []), (false, []), (false, []), (false, []), (false, []), (false, []), (false, []), (true, []), (false, []), (false, []), (false, []), (false, []), (false, [])] | false => match Nat.beq i 21 with | true => .leaf ([6], []) [(false, []), (false, []), (false, []), (false, []), (false, []), (false, []), (true, []), (false, []), (false, []), (false, []), (false, []), (false, []), (false, []), (false, []), (false, []), (false, [])] | false => match Nat.beq i 34 with | true => .leaf ([], []) [(false, []), (false, []), (false, []), (false, []), (false, []), (false, []), (false, []), (false, []), (false, []), (false, []), (false, []), (false, []), (false, []), (false, []), (false, []), (false, []), (false, []), (false, []), (false, []), (false, []), (false, []), (false, [])] | false => .leaf ([], []) []⟩
def rs_law07_FseBack : List ResultVar := [.tmp 4]
noncomputable def code_law07_FseBack : Code := bodyOf Try.f7
def law07_FseBack_p1 (R : Value → World → Prop) (r_18 : Value) (w : World) : Prop :=
  Does pg F_bits_Backward_Left #[r_18] w fun t172 w =>
  Stp pg (sBin .eql 3 (.tmp 172) (.const (.int .i64 0)) t172 (.int .i64 0)) w fun t173 w =>
  R t173 w
theorem law07_FseBack_p1_ok (Q : Exit → Env → World → Prop) (g : Env) (w : World) (R : Value → World → Prop) (hr : ∀ g w, (resVals pg rs_law07_FseBack g w fun vs => R (tup vs) w) → Q .ret g w) (h : law07_FseBack_p1 R (g 18) w) : den pg ann_law07_FseBack (dropS 1 (dropS 4 (dropS 1 (dropS 3 (dropS 1 (dropS 7 code_law07_FseBack)))))) Q g w := by
  have e : (law07_FseBack_p1 R (g 18) w) = den pg ann_law07_FseBack (dropS 1 (dropS 4 (dropS 1 (dropS 3 (dropS 1 (dropS 7 code_law07_FseBack)))))) (exQ (fun _ _ => False) (fun g w => resVals pg rs_law07_FseBack g w fun vs => R (tup vs) w) []) g w := by kernel_rfl
  exact den_exQ e h (fun _ _ h => h.elim) hr trivial

def law07_FseBack_p2 (kn : Value → Value → Value → Value → Value → World → Prop) (t6 l_8 s_11 r_18 i_20 : Value) (w : World) : Prop :=
  Stp pg (sBin .add 3 (.tmp 138) (.const (.int .i64 1)) i_20 (.int .i64 1)) w fun t139 w =>
  kn t6 l_8 s_11 r_18 t139 w
theorem law07_FseBack_p2_ok (Q : Exit → Env → World → Prop) (g : Env) (w : World) (kn : Value → Value → Value → Value → Value → World → Prop) (hn : ∀ g w, kn (g 6) (g 8) (g 11) (g 18) (g 20) w → Q .normal g w) (h : law07_FseBack_p2 kn (g 6) (g 8) (g 11) (g 18) (g 20) w) : den pg ann_law07_FseBack (dropS 2 (bI (bI (dropS 1 (takeS 1 (dropS 4 (dropS 1 (dropS 3 (dropS 1 (dropS 7 code_law07_FseBack)))))))))) Q g w := by
  have e : (law07_FseBack_p2 kn (g 6) (g 8) (g 11) (g 18) (g 20) w) = den pg ann_law07_FseBack (dropS 2 (bI (bI (dropS 1 (takeS 1 (dropS 4 (dropS 1 (dropS 3 (dropS 1 (dropS 7 code_law07_FseBack)))))))))) (exQ (fun g w => kn (g 6) (g 8) (g 11) (g 18) (g 20) w) (fun _ _ => False) []) g w := by kernel_rfl
  exact den_exQ e h hn (fun _ _ h => h.elim) trivial

def law07_FseBack_p3 (kn : Value → Value → Value → Value → Value → World → Prop) (k4 : Value → World → Prop) (R : Value → World → Prop) (t6 l_8 s_11 r_18 i_20 : Value) (w : World) : Prop :=
  Stp pg (sBi .len #[52] 3 [l_8]) w fun t136 w =>
  Stp pg (sBin .lss 3 (.tmp 134) (.tmp 136) i_20 t136) w fun t137 w =>
  Cnd t137
    ((dr w) = (dr w) ∧
    Stp pg (sBin .lss 3 (.tmp 140) (.const (.int .i64 0)) s_11 (.int .i64 0)) (dr w) fun t141 w_ => w_ = (dr w) ∧
    (dr w) = (dr w) ∧
    Gd (isB t141 false) (fun K => K s_11 (dr w)) (dr w) fun t143 w_ => w_ = (dr w) ∧
    Gd (isB t141 false) (fun K => Stp pg (sFAddr 28 t6 1) (dr w) K) (dr w) fun t144 w_ => w_ = (dr w) ∧
    Gd (isB t141 false) (fun K => Stp pg (sLoad 26 t144) (dr w) K) (dr w) fun t145 w_ => w_ = (dr w) ∧
    Gd (isB t141 false) (fun K => Stp pg (sBi .len #[26] 3 [t145]) (dr w) K) (dr w) fun t146 w_ => w_ = (dr w) ∧
    Gd (isB t141 false) (fun K => Stp pg (sBin .geq 3 (.tmp 143) (.tmp 146) t143 t146) (dr w) K) (dr w) fun t147 w_ => w_ = (dr w) ∧
    Stp pg (sPick t141 (.bool true) t147) (dr w) fun t148 w_ => w_ = (dr w) ∧
    (dr w) = (dr w) ∧
    Gd (isB t148 false) (fun K => Stp pg (sFAddr 28 t6 1) (dr w) K) (dr w) fun t150 w_ => w_ = (dr w) ∧
    Gd (isB t148 false) (fun K => Stp pg (sLoad 26 t150) (dr w) K) (dr w) fun t151 w_ => w_ = (dr w) ∧
    Gd (isB t148 false) (fun K => K s_11 (dr w)) (dr w) fun t152 w_ => w_ = (dr w) ∧
    Gd (isB t148 false) (fun K => Stp pg (sIAddr 26 t151 t152) (dr w) K) (dr w) fun t153 w_ => w_ = (dr w) ∧
    Gd (isB t148 false) (fun K => Stp pg (sFAddr 43 t153 0) (dr w) K) (dr w) fun t154 w_ => w_ = (dr w) ∧
    Gd (isB t148 false) (fun K => Stp pg (sLoad 5 t154) (dr w) K) (dr w) fun t155 w_ => w_ = (dr w) ∧
    Gd (isB t148 false) (fun K => K l_8 (dr w)) (dr w) fun t156 w_ => w_ = (dr w) ∧
    Gd (isB t148 false) (fun K => K i_20 (dr w)) (dr w) fun t157 w_ => w_ = (dr w) ∧
    Gd (isB t148 false) (fun K => Stp pg (sIAddr 52 t156 t157) (dr w) K) (dr w) fun t158 w_ => w_ = (dr w) ∧
    Gd (isB t148 false) (fun K => Stp pg (sLoad 5 t158) (dr w) K) (dr w) fun t159 w_ => w_ = (dr w) ∧
    Gd (isB t148 false) (fun K => Stp pg (sBin .neq 5 (.tmp 155) (.tmp 159) t155 t159) (dr w) K) (dr w) fun t160 w_ => w_ = (dr w) ∧
    Stp pg (sPick t148 (.bool true) t160) (dr w) fun t161 w_ => w_ = (dr w) ∧
    Cnd t161
      (R (.bool false) (dr w))
      (Stp pg (sBi .len #[52] 3 [l_8]) (dr w) fun t164 w =>
      Stp pg (sBin .sub 3 (.tmp 164) (.const (.int .i64 1)) t164 (.int .i64 1)) w fun t165 w =>
      Stp pg (sBin .lss 3 (.tmp 162) (.tmp 165) i_20 t165) w fun t166 w =>
      Cnd t166
        (Stp pg (sLoad 28 t6) w fun t167 w =>
        Does pg F_fse_Next #[t167, s_11, r_18] w fun t170 w =>
        kn t6 l_8 t170 r_18 i_20 w)
        (kn t6 l_8 s_11 r_18 i_20 w)))
    (k4 r_18 w)
theorem law07_FseBack_p3_ok (Q : Exit → Env → World → Prop) (g : Env) (w : World) (kn : Value → Value → Value → Value → Value → World → Prop) (k4 : Value → World → Prop) (R : Value → World → Prop) (hn : ∀ g w, kn (g 6) (g 8) (g 11) (g 18) (g 20) w → Q .normal g w) (h4 : ∀ g w, k4 (g 18) w → Q (.exit 4) g w) (hr : ∀ g w, (resVals pg rs_law07_FseBack g w fun vs => R (tup vs) w) → Q .ret g w) (h : law07_FseBack_p3 kn k4 R (g 6) (g 8) (g 11) (g 18) (g 20) w) : den pg ann_law07_FseBack (takeS 2 (bI (bI (dropS 1 (takeS 1 (dropS 4 (dropS 1 (dropS 3 (dropS 1 (dropS 7 code_law07_FseBack)))))))))) Q g w := by
  have e : (law07_FseBack_p3 kn k4 R (g 6) (g 8) (g 11) (g 18) (g 20) w) = den pg ann_law07_FseBack (takeS 2 (bI (bI (dropS 1 (takeS 1 (dropS 4 (dropS 1 (dropS 3 (dropS 1 (dropS 7 code_law07_FseBack)))))))))) (exQ (fun g w => kn (g 6) (g 8) (g 11) (g 18) (g 20) w) (fun g w => resVals pg rs_law07_FseBack g w fun vs => R (tup vs) w) [(4, fun g w => k4 (g 18) w)]) g w := by kernel_rfl
  exact den_exQ e h hn hr ⟨h4, trivial⟩

def law07_FseBack_p4 (kn : Value → Value → Value → Value → Value → World → Prop) (k4 : Value → World → Prop) (R : Value → World → Prop) (t6 l_8 s_11 r_18 i_20 : Value) (w : World) : Prop :=
  law07_FseBack_p3 (fun t6 l_8 s_11 r_18 i_20 w => law07_FseBack_p2 kn t6 l_8 s_11 r_18 i_20 w) k4 R t6 l_8 s_11 r_18 i_20 w
theorem law07_FseBack_p4_ok (Q : Exit → Env → World → Prop) (g : Env) (w : World) (kn : Value → Value → Value → Value → Value → World → Prop) (k4 : Value → World → Prop) (R : Value → World → Prop) (hn : ∀ g w, kn (g 6) (g 8) (g 11) (g 18) (g 20) w → Q .normal g w) (h4 : ∀ g w, k4 (g 18) w → Q (.exit 4) g w) (hr : ∀ g w, (resVals pg rs_law07_FseBack g w fun vs => R (tup vs) w) → Q .ret g w) (h : law07_FseBack_p4 kn k4 R (g 6) (g 8) (g 11) (g 18) (g 20) w) : den pg ann_law07_FseBack (bI (bI (dropS 1 (takeS 1 (dropS 4 (dropS 1 (dropS 3 (dropS 1 (dropS 7 code_law07_FseBack))))))))) Q g w := by
  exact den_seqs 2 (bI (bI (dropS 1 (takeS 1 (dropS 4 (dropS 1 (dropS 3 (dropS 1 (dropS 7 code_law07_FseBack))))))))) g w (by kernel_rfl) (law07_FseBack_p3_ok (thenE (fun g w => den pg ann_law07_FseBack (dropS 2 (bI (bI (dropS 1 (takeS 1 (dropS 4 (dropS 1 (dropS 3 (dropS 1 (dropS 7 code_law07_FseBack)))))))))) Q g w) Q) g w (fun t6 l_8 s_11 r_18 i_20 w => law07_FseBack_p2 kn t6 l_8 s_11 r_18 i_20 w) k4 R (fun g w h => thenE_n (K := fun g w => den pg ann_law07_FseBack (dropS 2 (bI (bI (dropS 1 (takeS 1 (dropS 4 (dropS 1 (dropS 3 (dropS 1 (dropS 7 code_law07_FseBack)))))))))) Q g w) (law07_FseBack_p2_ok Q g w kn hn h)) h4 hr h)

def law07_FseBack_p5 (k4 : Value → World → Prop) (R : Value → World → Prop) (t6 l_8 s_11 r_18 i_20 : Value) (w : World) : Prop :=
  LoopD (fun (X : (Value × Value) → World → Prop) (t : Value × Value) (w : World) => law07_FseBack_p4 (fun _ _ s_11 _ i_20 w => X (s_11, i_20) w) k4 R t6 l_8 t.1 r_18 t.2 w) (s_11, i_20) w
theorem law07_FseBack_p5_ok (Q : Exit → Env → World → Prop) (g : Env) (w : World) (k4 : Value → World → Prop) (R : Value → World → Prop) (h4 : ∀ g w, k4 (g 18) w → Q (.exit 4) g w) (hr : ∀ g w, (resVals pg rs_law07_FseBack g w fun vs => R (tup vs) w) → Q .ret g w) (h : law07_FseBack_p5 k4 R (g 6) (g 8) (g 11) (g 18) (g 20) w) : den pg ann_law07_FseBack (bI (dropS 1 (takeS 1 (dropS 4 (dropS 1 (dropS 3 (dropS 1 (dropS 7 code_law07_FseBack)))))))) Q g w := by
  refine den_loops (T := Value × Value) (fun g : Env => (g 11, g 20)) (fun X t w => law07_FseBack_p4 (fun _ _ s_11 _ i_20 w => X (s_11, i_20) w) k4 R (g 6) (g 8) t.1 (g 18) t.2 w) (bI (dropS 1 (takeS 1 (dropS 4 (dropS 1 (dropS 3 (dropS 1 (dropS 7 code_law07_FseBack)))))))) (by kernel_rfl) h (fun X g1 w1 ha h1 => ?_)
  rw [← agree_at (s := 6) ha (by kernel_rfl)] at h1
  rw [← agree_at (s := 8) ha (by kernel_rfl)] at h1
  rw [← agree_at (s := 18) ha (by kernel_rfl)] at h1
  exact (law07_FseBack_p4_ok (thenE (fun g2 w2 => X ((fun g : Env => (g 11, g 20)) g2) w2) Q) g1 w1 (fun _ _ s_11 _ i_20 w => X (s_11, i_20) w) k4 R (fun _ _ h => h) h4 hr h1)

def law07_FseBack_p6 (kn : Value → World → Prop) (R : Value → World → Prop) (t6 l_8 s_11 r_18 i_20 : Value) (w : World) : Prop :=
  law07_FseBack_p5 kn R t6 l_8 s_11 r_18 i_20 w
theorem law07_FseBack_p6_ok (Q : Exit → Env → World → Prop) (g : Env) (w : World) (kn : Value → World → Prop) (R : Value → World → Prop) (hn : ∀ g w, kn (g 18) w → Q .normal g w) (hr : ∀ g w, (resVals pg rs_law07_FseBack g w fun vs => R (tup vs) w) → Q .ret g w) (h : law07_FseBack_p6 kn R (g 6) (g 8) (g 11) (g 18) (g 20) w) : den pg ann_law07_FseBack (dropS 1 (takeS 1 (dropS 4 (dropS 1 (dropS 3 (dropS 1 (dropS 7 code_law07_FseBack))))))) Q g w :=
  den_blk 4 (dropS 1 (takeS 1 (dropS 4 (dropS 1 (dropS 3 (dropS 1 (dropS 7 code_law07_FseBack))))))) g w (by kernel_rfl) (law07_FseBack_p5_ok (blk 4 Q) g w kn R hn hr h)

def law07_FseBack_p7 (kn : Value → Value → Value → Value → Value → World → Prop) (t6 l_8 s_11 r_18 : Value) (w : World) : Prop :=
  kn t6 l_8 s_11 r_18 (.int .i64 0) w
theorem law07_FseBack_p7_ok (Q : Exit → Env → World → Prop) (g : Env) (w : World) (kn : Value → Value → Value → Value → Value → World → Prop) (hn : ∀ g w, kn (g 6) (g 8) (g 11) (g 18) (g 20) w → Q .normal g w) (h : law07_FseBack_p7 kn (g 6) (g 8) (g 11) (g 18) w) : den pg ann_law07_FseBack (takeS 1 (takeS 1 (dropS 4 (dropS 1 (dropS 3 (dropS 1 (dropS 7 code_law07_FseBack))))))) Q g w := by
  have e : (law07_FseBack_p7 kn (g 6) (g 8) (g 11) (g 18) w) = den pg ann_law07_FseBack (takeS 1 (takeS 1 (dropS 4 (dropS 1 (dropS 3 (dropS 1 (dropS 7 code_law07_FseBack))))))) (exQ (fun g w => kn (g 6) (g 8) (g 11) (g 18) (g 20) w) (fun _ _ => False) []) g w := by kernel_rfl
  exact den_exQ e h hn (fun _ _ h => h.elim) trivial

def law07_FseBack_p8 (kn : Value → World → Prop) (R : Value → World → Prop) (t6 l_8 s_11 r_18 : Value) (w : World) : Prop :=
  law07_FseBack_p7 (fun t6 l_8 s_11 r_18 i_20 w => law07_FseBack_p6 kn R t6 l_8 s_11 r_18 i_20 w) t6 l_8 s_11 r_18 w
theorem law07_FseBack_p8_ok (Q : Exit → Env → World → Prop) (g : Env) (w : World) (kn : Value → World → Prop) (R : Value → World → Prop) (hn : ∀ g w, kn (g 18) w → Q .normal g w) (hr : ∀ g w, (resVals pg rs_law07_FseBack g w fun vs => R (tup vs) w) → Q .ret g w) (h : law07_FseBack_p8 kn R (g 6) (g 8) (g 11) (g 18) w) : den pg ann_law07_FseBack (takeS 1 (dropS 4 (dropS 1 (dropS 3 (dropS 1 (dropS 7 code_law07_FseBack)))))) Q g w := by
  exact den_seqs 1 (takeS 1 (dropS 4 (dropS 1 (dropS 3 (dropS 1 (dropS 7 code_law07_FseBack)))))) g w (by kernel_rfl) (law07_FseBack_p7_ok (thenE (fun g w => den pg ann_law07_FseBack (dropS 1 (takeS 1 (dropS 4 (dropS 1 (dropS 3 (dropS 1 (dropS 7 code_law07_FseBack))))))) Q g w) Q) g w (fun t6 l_8 s_11 r_18 i_20 w => law07_FseBack_p6 kn R t6 l_8 s_11 r_18 i_20 w) (fun g w h => thenE_n (K := fun g w => den pg ann_law07_FseBack (dropS 1 (takeS 1 (dropS 4 (dropS 1 (dropS 3 (dropS 1 (dropS 7 code_law07_FseBack))))))) Q g w) (law07_FseBack_p6_ok Q g w kn R hn hr h)) h)

def law07_FseBack_p9 (R : Value → World → Prop) (t6 l_8 s_11 r_18 : Value) (w : World) : Prop :=
  law07_FseBack_p8 (fun r_18 w => law07_FseBack_p1 R r_18 w) R t6 l_8 s_11 r_18 w
theorem law07_FseBack_p9_ok (Q : Exit → Env → World → Prop) (g : Env) (w : World) (R : Value → World → Prop) (hr : ∀ g w, (resVals pg rs_law07_FseBack g w fun vs => R (tup vs) w) → Q .ret g w) (h : law07_FseBack_p9 R (g 6) (g 8) (g 11) (g 18) w) : den pg ann_law07_FseBack (dropS 4 (dropS 1 (dropS 3 (dropS 1 (dropS 7 code_law07_FseBack))))) Q g w := by
  exact den_seqs 1 (dropS 4 (dropS 1 (dropS 3 (dropS 1 (dropS 7 code_law07_FseBack))))) g w (by kernel_rfl) (law07_FseBack_p8_ok (thenE (fun g w => den pg ann_law07_FseBack (dropS 1 (dropS 4 (dropS 1 (dropS 3 (dropS 1 (dropS 7 code_law07_FseBack)))))) Q g w) Q) g w (fun r_18 w => law07_FseBack_p1 R r_18 w) R (fun g w h => thenE_n (K := fun g w => den pg ann_law07_FseBack (dropS 1 (dropS 4 (dropS 1 (dropS 3 (dropS 1 (dropS 7 code_law07_FseBack)))))) Q g w) (law07_FseBack_p1_ok Q g w R hr h)) hr h)

def law07_FseBack_p10 (kn : Value → Value → Value → Value → World → Prop) (R : Value → World → Prop) (t6 l_8 w_10 s_11 : Value) (w : World) : Prop :=
  Stp pg (sCvt 3 45 s_11) w fun t119 w =>
  Stp pg (sFAddr 28 t6 0) w fun t120 w =>
  Stp pg (sLoad 3 t120) w fun t121 w =>
  Does pg F_bits_Writer_Write #[w_10, t119, t121] w fun t122 w =>
  Does pg F_bits_Writer_Closed #[w_10] w fun t125 w =>
  Does pg F_bits_NewBackward #[t125] w fun t126 w =>
  Stp pg (sExtr t126 0) w fun t127 w =>
  Stp pg (sExtr t126 1) w fun t128 w =>
  Stp pg (sBin .neq 29 (.tmp 129) (.const (.int .i64 0)) t128 (.int .i64 0)) w fun t130 w =>
  Cnd t130
    (R (.bool false) w)
    (Stp pg (sLoad 28 t6) w fun t131 w =>
    Does pg F_fse_Start #[t131, t127] w fun t133 w =>
    kn t6 l_8 t133 t127 w)
theorem law07_FseBack_p10_ok (Q : Exit → Env → World → Prop) (g : Env) (w : World) (kn : Value → Value → Value → Value → World → Prop) (R : Value → World → Prop) (hn : ∀ g w, kn (g 6) (g 8) (g 11) (g 18) w → Q .normal g w) (hr : ∀ g w, (resVals pg rs_law07_FseBack g w fun vs => R (tup vs) w) → Q .ret g w) (h : law07_FseBack_p10 kn R (g 6) (g 8) (g 10) (g 11) w) : den pg ann_law07_FseBack (takeS 4 (dropS 1 (dropS 3 (dropS 1 (dropS 7 code_law07_FseBack))))) Q g w := by
  have e : (law07_FseBack_p10 kn R (g 6) (g 8) (g 10) (g 11) w) = den pg ann_law07_FseBack (takeS 4 (dropS 1 (dropS 3 (dropS 1 (dropS 7 code_law07_FseBack))))) (exQ (fun g w => kn (g 6) (g 8) (g 11) (g 18) w) (fun g w => resVals pg rs_law07_FseBack g w fun vs => R (tup vs) w) []) g w := by kernel_rfl
  exact den_exQ e h hn hr trivial

def law07_FseBack_p11 (R : Value → World → Prop) (t6 l_8 w_10 s_11 : Value) (w : World) : Prop :=
  law07_FseBack_p10 (fun t6 l_8 s_11 r_18 w => law07_FseBack_p9 R t6 l_8 s_11 r_18 w) R t6 l_8 w_10 s_11 w
theorem law07_FseBack_p11_ok (Q : Exit → Env → World → Prop) (g : Env) (w : World) (R : Value → World → Prop) (hr : ∀ g w, (resVals pg rs_law07_FseBack g w fun vs => R (tup vs) w) → Q .ret g w) (h : law07_FseBack_p11 R (g 6) (g 8) (g 10) (g 11) w) : den pg ann_law07_FseBack (dropS 1 (dropS 3 (dropS 1 (dropS 7 code_law07_FseBack)))) Q g w := by
  exact den_seqs 4 (dropS 1 (dropS 3 (dropS 1 (dropS 7 code_law07_FseBack)))) g w (by kernel_rfl) (law07_FseBack_p10_ok (thenE (fun g w => den pg ann_law07_FseBack (dropS 4 (dropS 1 (dropS 3 (dropS 1 (dropS 7 code_law07_FseBack))))) Q g w) Q) g w (fun t6 l_8 s_11 r_18 w => law07_FseBack_p9 R t6 l_8 s_11 r_18 w) R (fun g w h => thenE_n (K := fun g w => den pg ann_law07_FseBack (dropS 4 (dropS 1 (dropS 3 (dropS 1 (dropS 7 code_law07_FseBack))))) Q g w) (law07_FseBack_p9_ok Q g w R hr h)) hr h)

def law07_FseBack_p12 (kn : Value → Value → Value → Value → Value → World → Prop) (k2 : Value → Value → Value → Value → World → Prop) (R : Value → World → Prop) (t6 l_8 w_10 s_11 i_13 : Value) (w : World) : Prop :=
  Stp pg (sBin .geq 3 (.tmp 94) (.const (.int .i64 0)) i_13 (.int .i64 0)) w fun t95 w =>
  Cnd t95
    (Stp pg (sLoad 28 t6) (dr w) fun t99 w_ => w_ = (dr w) ∧
    (dr w) = (dr w) ∧
    (dr w) = (dr w) ∧
    (dr w) = (dr w) ∧
    Stp pg (sIAddr 52 l_8 i_13) (dr w) fun t103 w_ => w_ = (dr w) ∧
    Stp pg (sLoad 5 t103) (dr w) fun t104 w_ => w_ = (dr w) ∧
    Does pg F_fse_Before #[t99, s_11, t104] (dr w) fun t105 w21_6 =>
    w21_6 = w21_6 ∧
    Stp pg (sExtr t105 0) w21_6 fun t106 w_ => w_ = w21_6 ∧
    Stp pg (sExtr t105 1) w21_6 fun t107 w_ => w_ = w21_6 ∧
    Stp pg (sExtr t105 2) w21_6 fun t108 w_ => w_ = w21_6 ∧
    Stp pg (sExtr t105 3) w21_6 fun t109 w_ => w_ = w21_6 ∧
    w21_6 = w21_6 ∧
    w21_6 = w21_6 ∧
    w21_6 = w21_6 ∧
    w21_6 = w21_6 ∧
    Stp pg (sBin .neq 29 (.tmp 110) (.const (.int .i64 0)) t109 (.int .i64 0)) w21_6 fun t111 w =>
    Cnd t111
      (R (.bool false) w)
      (Does pg F_bits_Writer_Write #[w_10, t107, t108] w fun t115 w =>
      Stp pg (sBin .sub 3 (.tmp 96) (.const (.int .i64 1)) i_13 (.int .i64 1)) w fun t97 w =>
      kn t6 l_8 w_10 t106 t97 w))
    (k2 t6 l_8 w_10 s_11 w)
theorem law07_FseBack_p12_ok (Q : Exit → Env → World → Prop) (g : Env) (w : World) (kn : Value → Value → Value → Value → Value → World → Prop) (k2 : Value → Value → Value → Value → World → Prop) (R : Value → World → Prop) (hn : ∀ g w, kn (g 6) (g 8) (g 10) (g 11) (g 13) w → Q .normal g w) (h2 : ∀ g w, k2 (g 6) (g 8) (g 10) (g 11) w → Q (.exit 2) g w) (hr : ∀ g w, (resVals pg rs_law07_FseBack g w fun vs => R (tup vs) w) → Q .ret g w) (h : law07_FseBack_p12 kn k2 R (g 6) (g 8) (g 10) (g 11) (g 13) w) : den pg ann_law07_FseBack (bI (bI (dropS 1 (takeS 1 (dropS 3 (dropS 1 (dropS 7 code_law07_FseBack))))))) Q g w := by
  have e : (law07_FseBack_p12 kn k2 R (g 6) (g 8) (g 10) (g 11) (g 13) w) = den pg ann_law07_FseBack (bI (bI (dropS 1 (takeS 1 (dropS 3 (dropS 1 (dropS 7 code_law07_FseBack))))))) (exQ (fun g w => kn (g 6) (g 8) (g 10) (g 11) (g 13) w) (fun g w => resVals pg rs_law07_FseBack g w fun vs => R (tup vs) w) [(2, fun g w => k2 (g 6) (g 8) (g 10) (g 11) w)]) g w := by kernel_rfl
  exact den_exQ e h hn hr ⟨h2, trivial⟩

def law07_FseBack_p13 (k2 : Value → Value → Value → Value → World → Prop) (R : Value → World → Prop) (t6 l_8 w_10 s_11 i_13 : Value) (w : World) : Prop :=
  LoopD (fun (X : (Value × Value) → World → Prop) (t : Value × Value) (w : World) => law07_FseBack_p12 (fun _ _ _ s_11 i_13 w => X (s_11, i_13) w) k2 R t6 l_8 w_10 t.1 t.2 w) (s_11, i_13) w
theorem law07_FseBack_p13_ok (Q : Exit → Env → World → Prop) (g : Env) (w : World) (k2 : Value → Value → Value → Value → World → Prop) (R : Value → World → Prop) (h2 : ∀ g w, k2 (g 6) (g 8) (g 10) (g 11) w → Q (.exit 2) g w) (hr : ∀ g w, (resVals pg rs_law07_FseBack g w fun vs => R (tup vs) w) → Q .ret g w) (h : law07_FseBack_p13 k2 R (g 6) (g 8) (g 10) (g 11) (g 13) w) : den pg ann_law07_FseBack (bI (dropS 1 (takeS 1 (dropS 3 (dropS 1 (dropS 7 code_law07_FseBack)))))) Q g w := by
  refine den_loops (T := Value × Value) (fun g : Env => (g 11, g 13)) (fun X t w => law07_FseBack_p12 (fun _ _ _ s_11 i_13 w => X (s_11, i_13) w) k2 R (g 6) (g 8) (g 10) t.1 t.2 w) (bI (dropS 1 (takeS 1 (dropS 3 (dropS 1 (dropS 7 code_law07_FseBack)))))) (by kernel_rfl) h (fun X g1 w1 ha h1 => ?_)
  rw [← agree_at (s := 6) ha (by kernel_rfl)] at h1
  rw [← agree_at (s := 8) ha (by kernel_rfl)] at h1
  rw [← agree_at (s := 10) ha (by kernel_rfl)] at h1
  exact (law07_FseBack_p12_ok (thenE (fun g2 w2 => X ((fun g : Env => (g 11, g 13)) g2) w2) Q) g1 w1 (fun _ _ _ s_11 i_13 w => X (s_11, i_13) w) k2 R (fun _ _ h => h) h2 hr h1)

def law07_FseBack_p14 (kn : Value → Value → Value → Value → World → Prop) (R : Value → World → Prop) (t6 l_8 w_10 s_11 i_13 : Value) (w : World) : Prop :=
  law07_FseBack_p13 kn R t6 l_8 w_10 s_11 i_13 w
theorem law07_FseBack_p14_ok (Q : Exit → Env → World → Prop) (g : Env) (w : World) (kn : Value → Value → Value → Value → World → Prop) (R : Value → World → Prop) (hn : ∀ g w, kn (g 6) (g 8) (g 10) (g 11) w → Q .normal g w) (hr : ∀ g w, (resVals pg rs_law07_FseBack g w fun vs => R (tup vs) w) → Q .ret g w) (h : law07_FseBack_p14 kn R (g 6) (g 8) (g 10) (g 11) (g 13) w) : den pg ann_law07_FseBack (dropS 1 (takeS 1 (dropS 3 (dropS 1 (dropS 7 code_law07_FseBack))))) Q g w :=
  den_blk 2 (dropS 1 (takeS 1 (dropS 3 (dropS 1 (dropS 7 code_law07_FseBack))))) g w (by kernel_rfl) (law07_FseBack_p13_ok (blk 2 Q) g w kn R hn hr h)

def law07_FseBack_p15 (kn : Value → Value → Value → Value → Value → World → Prop) (t6 l_8 w_10 s_11 : Value) (w : World) : Prop :=
  Stp pg (sBi .len #[52] 3 [l_8]) w fun t92 w =>
  Stp pg (sBin .sub 3 (.tmp 92) (.const (.int .i64 2)) t92 (.int .i64 2)) w fun t93 w =>
  kn t6 l_8 w_10 s_11 t93 w
theorem law07_FseBack_p15_ok (Q : Exit → Env → World → Prop) (g : Env) (w : World) (kn : Value → Value → Value → Value → Value → World → Prop) (hn : ∀ g w, kn (g 6) (g 8) (g 10) (g 11) (g 13) w → Q .normal g w) (h : law07_FseBack_p15 kn (g 6) (g 8) (g 10) (g 11) w) : den pg ann_law07_FseBack (takeS 1 (takeS 1 (dropS 3 (dropS 1 (dropS 7 code_law07_FseBack))))) Q g w := by
  have e : (law07_FseBack_p15 kn (g 6) (g 8) (g 10) (g 11) w) = den pg ann_law07_FseBack (takeS 1 (takeS 1 (dropS 3 (dropS 1 (dropS 7 code_law07_FseBack))))) (exQ (fun g w => kn (g 6) (g 8) (g 10) (g 11) (g 13) w) (fun _ _ => False) []) g w := by kernel_rfl
  exact den_exQ e h hn (fun _ _ h => h.elim) trivial

def law07_FseBack_p16 (kn : Value → Value → Value → Value → World → Prop) (R : Value → World → Prop) (t6 l_8 w_10 s_11 : Value) (w : World) : Prop :=
  law07_FseBack_p15 (fun t6 l_8 w_10 s_11 i_13 w => law07_FseBack_p14 kn R t6 l_8 w_10 s_11 i_13 w) t6 l_8 w_10 s_11 w
theorem law07_FseBack_p16_ok (Q : Exit → Env → World → Prop) (g : Env) (w : World) (kn : Value → Value → Value → Value → World → Prop) (R : Value → World → Prop) (hn : ∀ g w, kn (g 6) (g 8) (g 10) (g 11) w → Q .normal g w) (hr : ∀ g w, (resVals pg rs_law07_FseBack g w fun vs => R (tup vs) w) → Q .ret g w) (h : law07_FseBack_p16 kn R (g 6) (g 8) (g 10) (g 11) w) : den pg ann_law07_FseBack (takeS 1 (dropS 3 (dropS 1 (dropS 7 code_law07_FseBack)))) Q g w := by
  exact den_seqs 1 (takeS 1 (dropS 3 (dropS 1 (dropS 7 code_law07_FseBack)))) g w (by kernel_rfl) (law07_FseBack_p15_ok (thenE (fun g w => den pg ann_law07_FseBack (dropS 1 (takeS 1 (dropS 3 (dropS 1 (dropS 7 code_law07_FseBack))))) Q g w) Q) g w (fun t6 l_8 w_10 s_11 i_13 w => law07_FseBack_p14 kn R t6 l_8 w_10 s_11 i_13 w) (fun g w h => thenE_n (K := fun g w => den pg ann_law07_FseBack (dropS 1 (takeS 1 (dropS 3 (dropS 1 (dropS 7 code_law07_FseBack))))) Q g w) (law07_FseBack_p14_ok Q g w kn R hn hr h)) h)

def law07_FseBack_p17 (R : Value → World → Prop) (t6 l_8 w_10 s_11 : Value) (w : World) : Prop :=
  law07_FseBack_p16 (fun t6 l_8 w_10 s_11 w => law07_FseBack_p11 R t6 l_8 w_10 s_11 w) R t6 l_8 w_10 s_11 w
theorem law07_FseBack_p17_ok (Q : Exit → Env → World → Prop) (g : Env) (w : World) (R : Value → World → Prop) (hr : ∀ g w, (resVals pg rs_law07_FseBack g w fun vs => R (tup vs) w) → Q .ret g w) (h : law07_FseBack_p17 R (g 6) (g 8) (g 10) (g 11) w) : den pg ann_law07_FseBack (dropS 3 (dropS 1 (dropS 7 code_law07_FseBack))) Q g w := by
  exact den_seqs 1 (dropS 3 (dropS 1 (dropS 7 code_law07_FseBack))) g w (by kernel_rfl) (law07_FseBack_p16_ok (thenE (fun g w => den pg ann_law07_FseBack (dropS 1 (dropS 3 (dropS 1 (dropS 7 code_law07_FseBack)))) Q g w) Q) g w (fun t6 l_8 w_10 s_11 w => law07_FseBack_p11 R t6 l_8 w_10 s_11 w) R (fun g w h => thenE_n (K := fun g w => den pg ann_law07_FseBack (dropS 1 (dropS 3 (dropS 1 (dropS 7 code_law07_FseBack)))) Q g w) (law07_FseBack_p11_ok Q g w R hr h)) hr h)

def law07_FseBack_p18 (kn : Value → Value → Value → Value → World → Prop) (R : Value → World → Prop) (t6 l_8 : Value) (w : World) : Prop :=
  Does pg F_bits_NewWriter #[] w fun t77 w =>
  Stp pg (sLoad 28 t6) (dr w) fun t79 w_ => w_ = (dr w) ∧
  (dr w) = (dr w) ∧
  (dr w) = (dr w) ∧
  Stp pg (sBi .len #[52] 3 [l_8]) (dr w) fun t82 w_ => w_ = (dr w) ∧
  Stp pg (sBin .sub 3 (.tmp 82) (.const (.int .i64 1)) t82 (.int .i64 1)) (dr w) fun t83 w_ => w_ = (dr w) ∧
  Stp pg (sIAddr 52 l_8 t83) (dr w) fun t84 w_ => w_ = (dr w) ∧
  Stp pg (sLoad 5 t84) (dr w) fun t85 w_ => w_ = (dr w) ∧
  Does pg F_fse_First #[t79, t85] (dr w) fun t86 w15_7 =>
  w15_7 = w15_7 ∧
  Stp pg (sExtr t86 0) w15_7 fun t87 w_ => w_ = w15_7 ∧
  Stp pg (sExtr t86 1) w15_7 fun t88 w_ => w_ = w15_7 ∧
  w15_7 = w15_7 ∧
  w15_7 = w15_7 ∧
  Stp pg (sBin .neq 29 (.tmp 89) (.const (.int .i64 0)) t88 (.int .i64 0)) w15_7 fun t90 w =>
  Cnd t90
    (R (.bool false) w)
    (kn t6 l_8 t77 t87 w)
theorem law07_FseBack_p18_ok (Q : Exit → Env → World → Prop) (g : Env) (w : World) (kn : Value → Value → Value → Value → World → Prop) (R : Value → World → Prop) (hn : ∀ g w, kn (g 6) (g 8) (g 10) (g 11) w → Q .normal g w) (hr : ∀ g w, (resVals pg rs_law07_FseBack g w fun vs => R (tup vs) w) → Q .ret g w) (h : law07_FseBack_p18 kn R (g 6) (g 8) w) : den pg ann_law07_FseBack (takeS 3 (dropS 1 (dropS 7 code_law07_FseBack))) Q g w := by
  have e : (law07_FseBack_p18 kn R (g 6) (g 8) w) = den pg ann_law07_FseBack (takeS 3 (dropS 1 (dropS 7 code_law07_FseBack))) (exQ (fun g w => kn (g 6) (g 8) (g 10) (g 11) w) (fun g w => resVals pg rs_law07_FseBack g w fun vs => R (tup vs) w) []) g w := by kernel_rfl
  exact den_exQ e h hn hr trivial

def law07_FseBack_p19 (R : Value → World → Prop) (t6 l_8 : Value) (w : World) : Prop :=
  law07_FseBack_p18 (fun t6 l_8 w_10 s_11 w => law07_FseBack_p17 R t6 l_8 w_10 s_11 w) R t6 l_8 w
theorem law07_FseBack_p19_ok (Q : Exit → Env → World → Prop) (g : Env) (w : World) (R : Value → World → Prop) (hr : ∀ g w, (resVals pg rs_law07_FseBack g w fun vs => R (tup vs) w) → Q .ret g w) (h : law07_FseBack_p19 R (g 6) (g 8) w) : den pg ann_law07_FseBack (dropS 1 (dropS 7 code_law07_FseBack)) Q g w := by
  exact den_seqs 3 (dropS 1 (dropS 7 code_law07_FseBack)) g w (by kernel_rfl) (law07_FseBack_p18_ok (thenE (fun g w => den pg ann_law07_FseBack (dropS 3 (dropS 1 (dropS 7 code_law07_FseBack))) Q g w) Q) g w (fun t6 l_8 w_10 s_11 w => law07_FseBack_p17 R t6 l_8 w_10 s_11 w) R (fun g w h => thenE_n (K := fun g w => den pg ann_law07_FseBack (dropS 3 (dropS 1 (dropS 7 code_law07_FseBack))) Q g w) (law07_FseBack_p17_ok Q g w R hr h)) hr h)

def law07_FseBack_p20 (kn : Value → Value → Value → Value → World → Prop) (k0 : Value → Value → World → Prop) (picks_1 t6 l_8 i_9 : Value) (w : World) : Prop :=
  Stp pg (sBi .len #[71] 3 [picks_1]) w fun t56 w =>
  Stp pg (sBin .lss 3 (.tmp 54) (.tmp 56) i_9 t56) w fun t57 w =>
  Cnd t57
    ((dr w) = (dr w) ∧
    Stp pg (sFAddr 28 t6 1) (dr w) fun t61 w_ => w_ = (dr w) ∧
    Stp pg (sLoad 26 t61) (dr w) fun t62 w_ => w_ = (dr w) ∧
    (dr w) = (dr w) ∧
    (dr w) = (dr w) ∧
    Stp pg (sIAddr 71 picks_1 i_9) (dr w) fun t65 w_ => w_ = (dr w) ∧
    Stp pg (sLoad 44 t65) (dr w) fun t66 w_ => w_ = (dr w) ∧
    Stp pg (sCvt 44 3 t66) (dr w) fun t67 w_ => w_ = (dr w) ∧
    Stp pg (sFAddr 28 t6 1) (dr w) fun t68 w_ => w_ = (dr w) ∧
    Stp pg (sLoad 26 t68) (dr w) fun t69 w_ => w_ = (dr w) ∧
    Stp pg (sBi .len #[26] 3 [t69]) (dr w) fun t70 w_ => w_ = (dr w) ∧
    Stp pg (sBin .rem 3 (.tmp 67) (.tmp 70) t67 t70) (dr w) fun t71 w_ => w_ = (dr w) ∧
    Stp pg (sIAddr 26 t62 t71) (dr w) fun t72 w_ => w_ = (dr w) ∧
    Stp pg (sFAddr 43 t72 0) (dr w) fun t73 w_ => w_ = (dr w) ∧
    Stp pg (sLoad 5 t73) (dr w) fun t74 w_ => w_ = (dr w) ∧
    Stp pg (sBuildSlice 52 1 [(0, t74)]) (dr w) fun t75 w13_15 =>
    Stp pg (sBi .append #[52, 52] 52 [l_8, t75]) w13_15 fun t76 w13_16 =>
    w13_16 = w13_16 ∧
    Stp pg (sBin .add 3 (.tmp 58) (.const (.int .i64 1)) i_9 (.int .i64 1)) w13_16 fun t59 w =>
    kn picks_1 t6 t76 t59 w)
    (k0 t6 l_8 w)
theorem law07_FseBack_p20_ok (Q : Exit → Env → World → Prop) (g : Env) (w : World) (kn : Value → Value → Value → Value → World → Prop) (k0 : Value → Value → World → Prop) (hn : ∀ g w, kn (g 1) (g 6) (g 8) (g 9) w → Q .normal g w) (h0 : ∀ g w, k0 (g 6) (g 8) w → Q (.exit 0) g w) (h : law07_FseBack_p20 kn k0 (g 1) (g 6) (g 8) (g 9) w) : den pg ann_law07_FseBack (bI (bI (dropS 1 (takeS 1 (dropS 7 code_law07_FseBack))))) Q g w := by
  have e : (law07_FseBack_p20 kn k0 (g 1) (g 6) (g 8) (g 9) w) = den pg ann_law07_FseBack (bI (bI (dropS 1 (takeS 1 (dropS 7 code_law07_FseBack))))) (exQ (fun g w => kn (g 1) (g 6) (g 8) (g 9) w) (fun _ _ => False) [(0, fun g w => k0 (g 6) (g 8) w)]) g w := by kernel_rfl
  exact den_exQ e h hn (fun _ _ h => h.elim) ⟨h0, trivial⟩

def law07_FseBack_p21 (k0 : Value → Value → World → Prop) (picks_1 t6 l_8 i_9 : Value) (w : World) : Prop :=
  LoopD (fun (X : (Value × Value) → World → Prop) (t : Value × Value) (w : World) => law07_FseBack_p20 (fun _ _ l_8 i_9 w => X (l_8, i_9) w) k0 picks_1 t6 t.1 t.2 w) (l_8, i_9) w
theorem law07_FseBack_p21_ok (Q : Exit → Env → World → Prop) (g : Env) (w : World) (k0 : Value → Value → World → Prop) (h0 : ∀ g w, k0 (g 6) (g 8) w → Q (.exit 0) g w) (h : law07_FseBack_p21 k0 (g 1) (g 6) (g 8) (g 9) w) : den pg ann_law07_FseBack (bI (dropS 1 (takeS 1 (dropS 7 code_law07_FseBack)))) Q g w := by
  refine den_loops (T := Value × Value) (fun g : Env => (g 8, g 9)) (fun X t w => law07_FseBack_p20 (fun _ _ l_8 i_9 w => X (l_8, i_9) w) k0 (g 1) (g 6) t.1 t.2 w) (bI (dropS 1 (takeS 1 (dropS 7 code_law07_FseBack)))) (by kernel_rfl) h (fun X g1 w1 ha h1 => ?_)
  rw [← agree_at (s := 1) ha (by kernel_rfl)] at h1
  rw [← agree_at (s := 6) ha (by kernel_rfl)] at h1
  exact (law07_FseBack_p20_ok (thenE (fun g2 w2 => X ((fun g : Env => (g 8, g 9)) g2) w2) Q) g1 w1 (fun _ _ l_8 i_9 w => X (l_8, i_9) w) k0 (fun _ _ h => h) h0 h1)

def law07_FseBack_p22 (kn : Value → Value → World → Prop) (picks_1 t6 l_8 i_9 : Value) (w : World) : Prop :=
  law07_FseBack_p21 kn picks_1 t6 l_8 i_9 w
theorem law07_FseBack_p22_ok (Q : Exit → Env → World → Prop) (g : Env) (w : World) (kn : Value → Value → World → Prop) (hn : ∀ g w, kn (g 6) (g 8) w → Q .normal g w) (h : law07_FseBack_p22 kn (g 1) (g 6) (g 8) (g 9) w) : den pg ann_law07_FseBack (dropS 1 (takeS 1 (dropS 7 code_law07_FseBack))) Q g w :=
  den_blk 0 (dropS 1 (takeS 1 (dropS 7 code_law07_FseBack))) g w (by kernel_rfl) (law07_FseBack_p21_ok (blk 0 Q) g w kn hn h)

def law07_FseBack_p23 (kn : Value → Value → Value → Value → World → Prop) (picks_1 t6 l_8 : Value) (w : World) : Prop :=
  kn picks_1 t6 l_8 (.int .i64 0) w
theorem law07_FseBack_p23_ok (Q : Exit → Env → World → Prop) (g : Env) (w : World) (kn : Value → Value → Value → Value → World → Prop) (hn : ∀ g w, kn (g 1) (g 6) (g 8) (g 9) w → Q .normal g w) (h : law07_FseBack_p23 kn (g 1) (g 6) (g 8) w) : den pg ann_law07_FseBack (takeS 1 (takeS 1 (dropS 7 code_law07_FseBack))) Q g w := by
  have e : (law07_FseBack_p23 kn (g 1) (g 6) (g 8) w) = den pg ann_law07_FseBack (takeS 1 (takeS 1 (dropS 7 code_law07_FseBack))) (exQ (fun g w => kn (g 1) (g 6) (g 8) (g 9) w) (fun _ _ => False) []) g w := by kernel_rfl
  exact den_exQ e h hn (fun _ _ h => h.elim) trivial

def law07_FseBack_p24 (kn : Value → Value → World → Prop) (picks_1 t6 l_8 : Value) (w : World) : Prop :=
  law07_FseBack_p23 (fun picks_1 t6 l_8 i_9 w => law07_FseBack_p22 kn picks_1 t6 l_8 i_9 w) picks_1 t6 l_8 w
theorem law07_FseBack_p24_ok (Q : Exit → Env → World → Prop) (g : Env) (w : World) (kn : Value → Value → World → Prop) (hn : ∀ g w, kn (g 6) (g 8) w → Q .normal g w) (h : law07_FseBack_p24 kn (g 1) (g 6) (g 8) w) : den pg ann_law07_FseBack (takeS 1 (dropS 7 code_law07_FseBack)) Q g w := by
  exact den_seqs 1 (takeS 1 (dropS 7 code_law07_FseBack)) g w (by kernel_rfl) (law07_FseBack_p23_ok (thenE (fun g w => den pg ann_law07_FseBack (dropS 1 (takeS 1 (dropS 7 code_law07_FseBack))) Q g w) Q) g w (fun picks_1 t6 l_8 i_9 w => law07_FseBack_p22 kn picks_1 t6 l_8 i_9 w) (fun g w h => thenE_n (K := fun g w => den pg ann_law07_FseBack (dropS 1 (takeS 1 (dropS 7 code_law07_FseBack))) Q g w) (law07_FseBack_p22_ok Q g w kn hn h)) h)

def law07_FseBack_p25 (R : Value → World → Prop) (picks_1 t6 l_8 : Value) (w : World) : Prop :=
  law07_FseBack_p24 (fun t6 l_8 w => law07_FseBack_p19 R t6 l_8 w) picks_1 t6 l_8 w
theorem law07_FseBack_p25_ok (Q : Exit → Env → World → Prop) (g : Env) (w : World) (R : Value → World → Prop) (hr : ∀ g w, (resVals pg rs_law07_FseBack g w fun vs => R (tup vs) w) → Q .ret g w) (h : law07_FseBack_p25 R (g 1) (g 6) (g 8) w) : den pg ann_law07_FseBack (dropS 7 code_law07_FseBack) Q g w := by
  exact den_seqs 1 (dropS 7 code_law07_FseBack) g w (by kernel_rfl) (law07_FseBack_p24_ok (thenE (fun g w => den pg ann_law07_FseBack (dropS 1 (dropS 7 code_law07_FseBack)) Q g w) Q) g w (fun t6 l_8 w => law07_FseBack_p19 R t6 l_8 w) (fun g w h => thenE_n (K := fun g w => den pg ann_law07_FseBack (dropS 1 (dropS 7 code_law07_FseBack)) Q g w) (law07_FseBack_p19_ok Q g w R hr h)) h)

def law07_FseBack_p26 (kn : Value → Value → Value → World → Prop) (R : Value → World → Prop) (c_0 picks_1 : Value) (w : World) : Prop :=
  Stp pg (sBox 24 c_0) w fun c_2 w =>
  Does pg F_law07_awake #[] w fun t21 w =>
  Stp pg (sUn .not t21) w fun t23 w =>
  Cnd t23
    (R (.bool false) w)
    (Stp pg (sFAddr 24 c_2 1) w fun t24 w =>
    Stp pg (sLoad 22 t24) w fun t25 w =>
    Stp pg (sBi .len #[22] 3 [t25]) w fun t26 w =>
    Stp pg (sBin .gtr 3 (.tmp 26) (.const (.int .i64 300)) t26 (.int .i64 300)) w fun t27 w =>
    Gd (isB t27 false) (fun K => Stp pg (sFAddr 24 c_2 0) w K) w fun t29 w =>
    Gd (isB t27 false) (fun K => Stp pg (sLoad 3 t29) w K) w fun t30 w =>
    Gd (isB t27 false) (fun K => Stp pg (sBin .gtr 3 (.tmp 30) (.const (.int .i64 10)) t30 (.int .i64 10)) w K) w fun t31 w =>
    Stp pg (sPick t27 (.bool true) t31) w fun t32 w =>
    Gd (isB t32 false) (fun K => K picks_1 w) w fun t34 w =>
    Gd (isB t32 false) (fun K => Stp pg (sBi .len #[71] 3 [t34]) w K) w fun t35 w =>
    Gd (isB t32 false) (fun K => Stp pg (sBin .eql 3 (.tmp 35) (.const (.int .i64 0)) t35 (.int .i64 0)) w K) w fun t36 w =>
    Stp pg (sPick t32 (.bool true) t36) w fun t37 w =>
    Gd (isB t37 false) (fun K => K picks_1 w) w fun t39 w =>
    Gd (isB t37 false) (fun K => Stp pg (sBi .len #[71] 3 [t39]) w K) w fun t40 w =>
    Gd (isB t37 false) (fun K => Stp pg (sBin .gtr 3 (.tmp 40) (.const (.int .i64 60)) t40 (.int .i64 60)) w K) w fun t41 w =>
    Stp pg (sPick t37 (.bool true) t41) w fun t42 w =>
    Cnd t42
      (R (.bool true) w)
      (Stp pg (sLoad 24 c_2) w fun t44 w =>
      Does pg F_fse_Build #[t44] w fun t45 w =>
      Stp pg (sExtr t45 0) w fun t46 w =>
      Stp pg (sExtr t45 1) w fun t47 w =>
      Stp pg (sAlloc 28) w fun t6 w =>
      Stp pg (sStore 28 t6 t46) w fun _u w =>
      Stp pg (sBin .neq 29 (.tmp 48) (.const (.int .i64 0)) t47 (.int .i64 0)) w fun t49 w =>
      Cnd t49
        (Stp pg (sFAddr 28 t6 1) w fun t50 w =>
        Stp pg (sLoad 26 t50) w fun t51 w =>
        Stp pg (sBi .len #[26] 3 [t51]) w fun t52 w =>
        Stp pg (sBin .eql 3 (.tmp 52) (.const (.int .i64 0)) t52 (.int .i64 0)) w fun t53 w =>
        R t53 w)
        (kn picks_1 t6 (.slice none 0 0) w)))
theorem law07_FseBack_p26_ok (Q : Exit → Env → World → Prop) (g : Env) (w : World) (kn : Value → Value → Value → World → Prop) (R : Value → World → Prop) (hn : ∀ g w, kn (g 1) (g 6) (g 8) w → Q .normal g w) (hr : ∀ g w, (resVals pg rs_law07_FseBack g w fun vs => R (tup vs) w) → Q .ret g w) (h : law07_FseBack_p26 kn R (g 0) (g 1) w) : den pg ann_law07_FseBack (takeS 7 code_law07_FseBack) Q g w := by
  have e : (law07_FseBack_p26 kn R (g 0) (g 1) w) = den pg ann_law07_FseBack (takeS 7 code_law07_FseBack) (exQ (fun g w => kn (g 1) (g 6) (g 8) w) (fun g w => resVals pg rs_law07_FseBack g w fun vs => R (tup vs) w) []) g w := by kernel_rfl
  exact den_exQ e h hn hr trivial

def law07_FseBack_p27 (R : Value → World → Prop) (c_0 picks_1 : Value) (w : World) : Prop :=
  law07_FseBack_p26 (fun picks_1 t6 l_8 w => law07_FseBack_p25 R picks_1 t6 l_8 w) R c_0 picks_1 w
theorem law07_FseBack_p27_ok (Q : Exit → Env → World → Prop) (g : Env) (w : World) (R : Value → World → Prop) (hr : ∀ g w, (resVals pg rs_law07_FseBack g w fun vs => R (tup vs) w) → Q .ret g w) (h : law07_FseBack_p27 R (g 0) (g 1) w) : den pg ann_law07_FseBack code_law07_FseBack Q g w := by
  exact den_seqs 7 code_law07_FseBack g w (by kernel_rfl) (law07_FseBack_p26_ok (thenE (fun g w => den pg ann_law07_FseBack (dropS 7 code_law07_FseBack) Q g w) Q) g w (fun picks_1 t6 l_8 w => law07_FseBack_p25 R picks_1 t6 l_8 w) R (fun g w h => thenE_n (K := fun g w => den pg ann_law07_FseBack (dropS 7 code_law07_FseBack) Q g w) (law07_FseBack_p25_ok Q g w R hr h)) hr h)

def law07_FseBack (a0 a1 : Value) (w : World) (R : Value → World → Prop) : Prop :=
  law07_FseBack_p27 R a0 a1 w
theorem law07_FseBack_does {a0 a1 : Value} {w : World} {R : Value → World → Prop} (h : law07_FseBack a0 a1 w R) : Does pg F_law07_FseBack #[a0, a1] w R := by
  refine does_of_den (ann := ann_law07_FseBack) (fn := Try.f7) (c := code_law07_FseBack) (args := [a0, a1]) (rs := rs_law07_FseBack) (N := 174) TryM.mixed (by kernel_rfl) Try.func7 (by kernel_rfl) (by kernel_rfl) (by kernel_rfl) (of_decide_eq_true (by kernel_rfl)) (by kernel_rfl) ?_
  exact (law07_FseBack_p27_ok (retQ pg rs_law07_FseBack R) (envOf [a0, a1]) w R (fun _ _ h => h) h)
-- PIECES law07_FseBack/0 law07_FseBack_p1 law07_FseBack_p5 law07_FseBack_p6 law07_FseBack_p7 law07_FseBack_p8 law07_FseBack_p9 law07_FseBack_p10 law07_FseBack_p11 law07_FseBack_p13 law07_FseBack_p14 law07_FseBack_p15 law07_FseBack_p16 law07_FseBack_p17 law07_FseBack_p18 law07_FseBack_p19 law07_FseBack_p21 law07_FseBack_p22 law07_FseBack_p23 law07_FseBack_p24 law07_FseBack_p25 law07_FseBack_p26 law07_FseBack_p27
-- PIECES law07_FseBack/1 law07_FseBack_p2 law07_FseBack_p3 law07_FseBack_p4
-- PIECES law07_FseBack/2 law07_FseBack_p12
-- PIECES law07_FseBack/3 law07_FseBack_p20

/- lighterman/lightermanlaw06.NormalReads -/
def ann_law06_NormalReads : FA := ⟨F_law06_NormalReads, fun i => match Nat.beq i 8 with | true => .leaf ([10, 12], [(10, 11)]) [(false, []), (false, []), (false, []), (false, []), (false, []), (false, []), (false, []), (false, []), (false, []), (false, []), (true, []), (false, [0]), (true, []), (false, []), (false, [])] | false => .leaf ([], []) []⟩
def rs_law06_NormalReads : List ResultVar := [.tmp 6]
noncomputable def code_law06_NormalReads : Code := bodyOf Try.f8
def law06_NormalReads_p1 (R : Value → World → Prop) (b_0 most_1 symbols_2 : Value) (w : World) : Prop :=
  Does pg F_law06_awake #[] w fun t14 w =>
  Stp pg (sUn .not t14) w fun t16 w =>
  Cnd t16
    (R (.bool false) w)
    (Stp pg (sBi .len #[52] 3 [b_0]) w fun t18 w =>
    Stp pg (sBin .gtr 3 (.tmp 18) (.const (.int .i64 300)) t18 (.int .i64 300)) w fun t19 w =>
    Gd (isB t19 false) (fun K => K symbols_2 w) w fun t21 w =>
    Gd (isB t19 false) (fun K => Stp pg (sBin .lss 3 (.tmp 21) (.const (.int .i64 0)) t21 (.int .i64 0)) w K) w fun t22 w =>
    Stp pg (sPick t19 (.bool true) t22) w fun t23 w =>
    Gd (isB t23 false) (fun K => K symbols_2 w) w fun t25 w =>
    Gd (isB t23 false) (fun K => Stp pg (sBin .gtr 3 (.tmp 25) (.const (.int .i64 1000)) t25 (.int .i64 1000)) w K) w fun t26 w =>
    Stp pg (sPick t23 (.bool true) t26) w fun t27 w =>
    Cnd t27
      (R (.bool true) w)
      (Does pg F_normal_Read #[b_0, most_1, symbols_2] w fun t32 w =>
      Stp pg (sExtr t32 0) w fun t33 w =>
      Stp pg (sExtr t32 1) w fun t34 w =>
      Stp pg (sExtr t32 2) w fun t35 w =>
      Stp pg (sAlloc 24) w fun c_8 w =>
      Stp pg (sStore 24 c_8 t33) w fun _u w =>
      Stp pg (sCvt 52 9 b_0) w fun t38 w =>
      Does pg F_ref06_Read #[t38, most_1, symbols_2] w fun t41 w =>
      Stp pg (sExtr t41 0) w fun t42 w =>
      Stp pg (sExtr t41 1) w fun t43 w =>
      Stp pg (sExtr t41 2) w fun t44 w =>
      Stp pg (sAlloc 37) w fun w_11 w =>
      Stp pg (sStore 37 w_11 t42) w fun _u w =>
      (dr w) = (dr w) ∧
      (dr w) = (dr w) ∧
      Stp pg (sBin .neq 3 (.tmp 45) (.tmp 46) t34 t43) (dr w) fun t47 w_ => w_ = (dr w) ∧
      (dr w) = (dr w) ∧
      Gd (isB t47 false) (fun K => K t35 (dr w)) (dr w) fun t49 w_ => w_ = (dr w) ∧
      Gd (isB t47 false) (fun K => K t44 (dr w)) (dr w) fun t50 w_ => w_ = (dr w) ∧
      Gd (isB t47 false) (fun K => Stp pg (sBin .neq 29 (.tmp 49) (.tmp 50) t49 t50) (dr w) K) (dr w) fun t51 w_ => w_ = (dr w) ∧
      Stp pg (sPick t47 (.bool true) t51) (dr w) fun t52 w_ => w_ = (dr w) ∧
      (dr w) = (dr w) ∧
      Gd (isB t52 false) (fun K => Stp pg (sLoad 24 c_8) (dr w) K) (dr w) fun t54 w_ => w_ = (dr w) ∧
      Gd (isB t52 false) (fun K => Does pg F_law06_modelOf #[t54] (dr w) K) (dr w) fun t55 w8_10 =>
      Gd (isB t52 false) (fun K => Stp pg (sLoad 37 w_11) w8_10 K) w8_10 fun t56 w_ => w_ = w8_10 ∧
      (Gs (isB t52 false) (Same pg (sLoad 37 w_11) t56 (dr w)) ∧ True) ∧
      Gd (isB t52 false) (fun K => Does pg F_ref06_Same #[t55, t56] w8_10 K) w8_10 fun t57 w8_12 =>
      Gd (isB t52 false) (fun K => Stp pg (sUn .not t57) w8_12 K) w8_12 fun t58 w_ => w_ = w8_12 ∧
      Stp pg (sPick t52 (.bool true) t58) w8_12 fun t59 w_ => w_ = w8_12 ∧
      Cnd t59
        (R (.bool false) w8_12)
        (Stp pg (sBin .neq 29 (.tmp 60) (.const (.int .i64 0)) t35 (.int .i64 0)) w8_12 fun t61 w =>
        Gd (isB t61 false) (fun K => K symbols_2 w) w fun t63 w =>
        Gd (isB t61 false) (fun K => Stp pg (sBin .gtr 3 (.tmp 63) (.const (.int .i64 256)) t63 (.int .i64 256)) w K) w fun t64 w =>
        Stp pg (sPick t61 (.bool true) t64) w fun t65 w =>
        Cnd t65
          (R (.bool true) w)
          (Stp pg (sLoad 24 c_8) w fun t66 w =>
          Does pg F_normal_Check #[t66, most_1] w fun t68 w =>
          Stp pg (sBin .eql 29 (.tmp 68) (.const (.int .i64 0)) t68 (.int .i64 0)) w fun t69 w =>
          Gd (isB t69 true) (fun K => Stp pg (sFAddr 24 c_8 1) w K) w fun t71 w =>
          Gd (isB t69 true) (fun K => Stp pg (sLoad 22 t71) w K) w fun t72 w =>
          Gd (isB t69 true) (fun K => Stp pg (sBi .len #[22] 3 [t72]) w K) w fun t73 w =>
          Gd (isB t69 true) (fun K => K symbols_2 w) w fun t74 w =>
          Gd (isB t69 true) (fun K => Stp pg (sBin .leq 3 (.tmp 73) (.tmp 74) t73 t74) w K) w fun t75 w =>
          Stp pg (sPick t69 t75 (.bool false)) w fun t76 w =>
          R t76 w))))
theorem law06_NormalReads_p1_ok (Q : Exit → Env → World → Prop) (g : Env) (w : World) (R : Value → World → Prop) (hr : ∀ g w, (resVals pg rs_law06_NormalReads g w fun vs => R (tup vs) w) → Q .ret g w) (h : law06_NormalReads_p1 R (g 0) (g 1) (g 2) w) : den pg ann_law06_NormalReads code_law06_NormalReads Q g w := by
  have e : (law06_NormalReads_p1 R (g 0) (g 1) (g 2) w) = den pg ann_law06_NormalReads code_law06_NormalReads (exQ (fun _ _ => False) (fun g w => resVals pg rs_law06_NormalReads g w fun vs => R (tup vs) w) []) g w := by kernel_rfl
  exact den_exQ e h (fun _ _ h => h.elim) hr trivial

def law06_NormalReads (a0 a1 a2 : Value) (w : World) (R : Value → World → Prop) : Prop :=
  law06_NormalReads_p1 R a0 a1 a2 w
theorem law06_NormalReads_does {a0 a1 a2 : Value} {w : World} {R : Value → World → Prop} (h : law06_NormalReads a0 a1 a2 w R) : Does pg F_law06_NormalReads #[a0, a1, a2] w R := by
  refine does_of_den (ann := ann_law06_NormalReads) (fn := Try.f8) (c := code_law06_NormalReads) (args := [a0, a1, a2]) (rs := rs_law06_NormalReads) (N := 77) TryM.mixed (by kernel_rfl) Try.func8 (by kernel_rfl) (by kernel_rfl) (by kernel_rfl) (of_decide_eq_true (by kernel_rfl)) (by kernel_rfl) ?_
  exact (law06_NormalReads_p1_ok (retQ pg rs_law06_NormalReads R) (envOf [a0, a1, a2]) w R (fun _ _ h => h) h)
-- PIECES law06_NormalReads/0 law06_NormalReads_p1

/- lighterman/lightermanlaw06.NormalWrites -/
def ann_law06_NormalWrites : FA := ⟨F_law06_NormalWrites, fun i => match Nat.beq i 14 with | true => .leaf ([10, 12, 26, 28], [(10, 11), (26, 27)]) [(false, []), (false, []), (false, []), (false, []), (false, []), (false, []), (false, []), (false, []), (false, []), (false, []), (true, []), (false, [0]), (true, []), (false, []), (false, []), (false, []), (false, []), (false, []), (false, []), (false, []), (false, []), (false, []), (false, []), (false, []), (false, []), (false, []), (true, []), (false, [0]), (true, []), (false, []), (false, [])] | false => .leaf ([], []) []⟩
def rs_law06_NormalWrites : List ResultVar := [.tmp 4]
noncomputable def code_law06_NormalWrites : Code := bodyOf Try.f9
def law06_NormalWrites_p1 (R : Value → World → Prop) (c_0 most_1 : Value) (w : World) : Prop :=
  Stp pg (sBox 24 c_0) w fun c_2 w =>
  Does pg F_law06_awake #[] w fun t15 w =>
  Stp pg (sUn .not t15) w fun t17 w =>
  Cnd t17
    (R (.bool false) w)
    (Stp pg (sFAddr 24 c_2 1) w fun t18 w =>
    Stp pg (sLoad 22 t18) w fun t19 w =>
    Stp pg (sBi .len #[22] 3 [t19]) w fun t20 w =>
    Stp pg (sBin .gtr 3 (.tmp 20) (.const (.int .i64 300)) t20 (.int .i64 300)) w fun t21 w =>
    Cnd t21
      (R (.bool true) w)
      (Stp pg (sLoad 24 c_2) w fun t22 w =>
      Does pg F_normal_Check #[t22, most_1] w fun t24 w =>
      Stp pg (sLoad 24 c_2) w fun t26 w =>
      Does pg F_normal_Write #[t26] w fun t27 w =>
      Stp pg (sExtr t27 0) w fun t28 w =>
      Stp pg (sExtr t27 1) w fun t29 w =>
      Stp pg (sLoad 24 c_2) w fun t31 w =>
      Does pg F_law06_modelOf #[t31] w fun t32 w =>
      Does pg F_ref06_Check #[t32, most_1] w fun t34 w =>
      Stp pg (sBin .neq 29 (.tmp 30) (.tmp 34) t24 t34) w fun t35 w =>
      Gd (isB t35 false) (fun K => K t29 w) w fun t37 w =>
      Gd (isB t35 false) (fun K => Stp pg (sBin .eql 29 (.tmp 37) (.const (.int .i64 0)) t37 (.int .i64 0)) w K) w fun t38 w =>
      Gd (isB t35 false) (fun K => Stp pg (sLoad 24 c_2) w K) w fun t39 w =>
      Gd (isB t35 false) (fun K => Does pg F_law06_modelOf #[t39] w K) w fun t40 w =>
      Gd (isB t35 false) (fun K => Does pg F_ref06_May #[t40] w K) w fun t41 w =>
      Gd (isB t35 false) (fun K => Stp pg (sBin .neq 4 (.tmp 38) (.tmp 41) t38 t41) w K) w fun t42 w =>
      Stp pg (sPick t35 (.bool true) t42) w fun t43 w =>
      Cnd t43
        (R (.bool false) w)
        (Stp pg (sBin .neq 29 (.tmp 44) (.const (.int .i64 0)) t29 (.int .i64 0)) w fun t45 w =>
        Cnd t45
          (Stp pg (sBin .eql 29 (.tmp 46) (.const (.int .i64 1)) t29 (.int .i64 1)) w fun t47 w =>
          Gd (isB t47 true) (fun K => K t28 w) w fun t49 w =>
          Gd (isB t47 true) (fun K => Stp pg (sBi .len #[52] 3 [t49]) w K) w fun t50 w =>
          Gd (isB t47 true) (fun K => Stp pg (sBin .eql 3 (.tmp 50) (.const (.int .i64 0)) t50 (.int .i64 0)) w K) w fun t51 w =>
          Stp pg (sPick t47 t51 (.bool false)) w fun t52 w =>
          R t52 w)
          (Stp pg (sCvt 52 9 t28) w fun t55 w =>
          Does pg F_ref06_Read #[t55, (.int .i64 15), (.int .i64 256)] w fun t56 w =>
          Stp pg (sExtr t56 0) w fun t57 w =>
          Stp pg (sExtr t56 1) w fun t58 w =>
          Stp pg (sExtr t56 2) w fun t59 w =>
          Stp pg (sAlloc 37) w fun d_9 w =>
          Stp pg (sStore 37 d_9 t57) w fun _u w =>
          Does pg F_normal_Read #[t28, (.int .i64 15), (.int .i64 256)] w fun t62 w =>
          Stp pg (sExtr t62 0) w fun t63 w =>
          Stp pg (sExtr t62 1) w fun t64 w =>
          Stp pg (sExtr t62 2) w fun t65 w =>
          Stp pg (sAlloc 24) w fun x_12 w =>
          Stp pg (sStore 24 x_12 t63) w fun _u w =>
          (dr w) = (dr w) ∧
          Stp pg (sBin .eql 29 (.tmp 66) (.const (.int .i64 0)) t59 (.int .i64 0)) (dr w) fun t67 w_ => w_ = (dr w) ∧
          (dr w) = (dr w) ∧
          Gd (isB t67 true) (fun K => K t58 (dr w)) (dr w) fun t69 w_ => w_ = (dr w) ∧
          Gd (isB t67 true) (fun K => K t28 (dr w)) (dr w) fun t70 w_ => w_ = (dr w) ∧
          Gd (isB t67 true) (fun K => Stp pg (sBi .len #[52] 3 [t70]) (dr w) K) (dr w) fun t71 w_ => w_ = (dr w) ∧
          Gd (isB t67 true) (fun K => Stp pg (sBin .eql 3 (.tmp 69) (.tmp 71) t69 t71) (dr w) K) (dr w) fun t72 w_ => w_ = (dr w) ∧
          Stp pg (sPick t67 t72 (.bool false)) (dr w) fun t73 w_ => w_ = (dr w) ∧
          (dr w) = (dr w) ∧
          Gd (isB t73 true) (fun K => Stp pg (sLoad 24 c_2) (dr w) K) (dr w) fun t75 w_ => w_ = (dr w) ∧
          Gd (isB t73 true) (fun K => Does pg F_law06_modelOf #[t75] (dr w) K) (dr w) fun t76 w14_10 =>
          Gd (isB t73 true) (fun K => Stp pg (sLoad 37 d_9) w14_10 K) w14_10 fun t77 w_ => w_ = w14_10 ∧
          (Gs (isB t73 true) (Same pg (sLoad 37 d_9) t77 (dr w)) ∧ True) ∧
          Gd (isB t73 true) (fun K => Does pg F_ref06_Same #[t76, t77] w14_10 K) w14_10 fun t78 w14_12 =>
          Stp pg (sPick t73 t78 (.bool false)) w14_12 fun t79 w_ => w_ = w14_12 ∧
          w14_12 = w14_12 ∧
          Gd (isB t79 true) (fun K => K t65 w14_12) w14_12 fun t81 w_ => w_ = w14_12 ∧
          Gd (isB t79 true) (fun K => Stp pg (sBin .eql 29 (.tmp 81) (.const (.int .i64 0)) t81 (.int .i64 0)) w14_12 K) w14_12 fun t82 w_ => w_ = w14_12 ∧
          Stp pg (sPick t79 t82 (.bool false)) w14_12 fun t83 w_ => w_ = w14_12 ∧
          w14_12 = w14_12 ∧
          Gd (isB t83 true) (fun K => K t64 w14_12) w14_12 fun t85 w_ => w_ = w14_12 ∧
          Gd (isB t83 true) (fun K => K t28 w14_12) w14_12 fun t86 w_ => w_ = w14_12 ∧
          Gd (isB t83 true) (fun K => Stp pg (sBi .len #[52] 3 [t86]) w14_12 K) w14_12 fun t87 w_ => w_ = w14_12 ∧
          Gd (isB t83 true) (fun K => Stp pg (sBin .eql 3 (.tmp 85) (.tmp 87) t85 t87) w14_12 K) w14_12 fun t88 w_ => w_ = w14_12 ∧
          Stp pg (sPick t83 t88 (.bool false)) w14_12 fun t89 w_ => w_ = w14_12 ∧
          w14_12 = w14_12 ∧
          Gd (isB t89 true) (fun K => Stp pg (sLoad 24 x_12) w14_12 K) w14_12 fun t91 w_ => w_ = w14_12 ∧
          Gd (isB t89 true) (fun K => Does pg F_law06_modelOf #[t91] w14_12 K) w14_12 fun t92 w14_26 =>
          Gd (isB t89 true) (fun K => Stp pg (sLoad 37 d_9) w14_26 K) w14_26 fun t93 w_ => w_ = w14_26 ∧
          (Gs (isB t89 true) (Same pg (sLoad 37 d_9) t93 w14_12) ∧ True) ∧
          Gd (isB t89 true) (fun K => Does pg F_ref06_Same #[t92, t93] w14_26 K) w14_26 fun t94 w14_28 =>
          Stp pg (sPick t89 t94 (.bool false)) w14_28 fun t95 w_ => w_ = w14_28 ∧
          w14_28 = w14_28 ∧
          R t95 w14_28))))
theorem law06_NormalWrites_p1_ok (Q : Exit → Env → World → Prop) (g : Env) (w : World) (R : Value → World → Prop) (hr : ∀ g w, (resVals pg rs_law06_NormalWrites g w fun vs => R (tup vs) w) → Q .ret g w) (h : law06_NormalWrites_p1 R (g 0) (g 1) w) : den pg ann_law06_NormalWrites code_law06_NormalWrites Q g w := by
  have e : (law06_NormalWrites_p1 R (g 0) (g 1) w) = den pg ann_law06_NormalWrites code_law06_NormalWrites (exQ (fun _ _ => False) (fun g w => resVals pg rs_law06_NormalWrites g w fun vs => R (tup vs) w) []) g w := by kernel_rfl
  exact den_exQ e h (fun _ _ h => h.elim) hr trivial

def law06_NormalWrites (a0 a1 : Value) (w : World) (R : Value → World → Prop) : Prop :=
  law06_NormalWrites_p1 R a0 a1 w
theorem law06_NormalWrites_does {a0 a1 : Value} {w : World} {R : Value → World → Prop} (h : law06_NormalWrites a0 a1 w R) : Does pg F_law06_NormalWrites #[a0, a1] w R := by
  refine does_of_den (ann := ann_law06_NormalWrites) (fn := Try.f9) (c := code_law06_NormalWrites) (args := [a0, a1]) (rs := rs_law06_NormalWrites) (N := 96) TryM.mixed (by kernel_rfl) Try.func9 (by kernel_rfl) (by kernel_rfl) (by kernel_rfl) (of_decide_eq_true (by kernel_rfl)) (by kernel_rfl) ?_
  exact (law06_NormalWrites_p1_ok (retQ pg rs_law06_NormalWrites R) (envOf [a0, a1]) w R (fun _ _ h => h) h)
-- PIECES law06_NormalWrites/0 law06_NormalWrites_p1

/- lighterman/lightermanlaw06.NormalOf -/
def ann_law06_NormalOf : FA := ⟨F_law06_NormalOf, fun i => match Nat.beq i 25 with | true => .leaf ([], []) [(false, []), (false, []), (false, []), (false, []), (false, []), (false, []), (false, []), (false, []), (false, []), (false, []), (false, []), (false, [])] | false => .leaf ([], []) []⟩
def rs_law06_NormalOf : List ResultVar := [.tmp 4]
noncomputable def code_law06_NormalOf : Code := bodyOf Try.f10
def law06_NormalOf_p1 (R : Value → World → Prop)  (w : World) : Prop :=
  R (.bool true) w
theorem law06_NormalOf_p1_ok (Q : Exit → Env → World → Prop) (g : Env) (w : World) (R : Value → World → Prop) (hr : ∀ g w, (resVals pg rs_law06_NormalOf g w fun vs => R (tup vs) w) → Q .ret g w) (h : law06_NormalOf_p1 R w) : den pg ann_law06_NormalOf (dropS 1 (dropS 4 (dropS 1 (dropS 7 code_law06_NormalOf)))) Q g w := by
  have e : (law06_NormalOf_p1 R w) = den pg ann_law06_NormalOf (dropS 1 (dropS 4 (dropS 1 (dropS 7 code_law06_NormalOf)))) (exQ (fun _ _ => False) (fun g w => resVals pg rs_law06_NormalOf g w fun vs => R (tup vs) w) []) g w := by kernel_rfl
  exact den_exQ e h (fun _ _ h => h.elim) hr trivial

def law06_NormalOf_p2 (kn : Value → Value → Value → World → Prop) (k2 : World → Prop) (R : Value → World → Prop) (often_0 c_11 i_13 : Value) (w : World) : Prop :=
  Stp pg (sFAddr 24 c_11 1) w fun t105 w =>
  Stp pg (sLoad 22 t105) w fun t106 w =>
  Stp pg (sBi .len #[22] 3 [t106]) w fun t107 w =>
  Stp pg (sBin .lss 3 (.tmp 104) (.tmp 107) i_13 t107) w fun t108 w =>
  Cnd t108
    (Stp pg (sFAddr 24 c_11 1) (dr w) fun t111 w_ => w_ = (dr w) ∧
    Stp pg (sLoad 22 t111) (dr w) fun t112 w_ => w_ = (dr w) ∧
    (dr w) = (dr w) ∧
    Stp pg (sIAddr 22 t112 i_13) (dr w) fun t114 w_ => w_ = (dr w) ∧
    Stp pg (sLoad 3 t114) (dr w) fun t115 w_ => w_ = (dr w) ∧
    Stp pg (sBin .neq 3 (.tmp 115) (.const (.int .i64 0)) t115 (.int .i64 0)) (dr w) fun t116 w_ => w_ = (dr w) ∧
    (dr w) = (dr w) ∧
    (dr w) = (dr w) ∧
    Stp pg (sIAddr 89 often_0 i_13) (dr w) fun t119 w_ => w_ = (dr w) ∧
    Stp pg (sLoad 90 t119) (dr w) fun t120 w_ => w_ = (dr w) ∧
    Stp pg (sBin .gtr 90 (.tmp 120) (.const (.int .u32 0)) t120 (.int .u32 0)) (dr w) fun t121 w_ => w_ = (dr w) ∧
    Stp pg (sBin .neq 4 (.tmp 116) (.tmp 121) t116 t121) (dr w) fun t122 w_ => w_ = (dr w) ∧
    Cnd t122
      (R (.bool false) (dr w))
      (Stp pg (sBin .add 3 (.tmp 109) (.const (.int .i64 1)) i_13 (.int .i64 1)) (dr w) fun t110 w =>
      kn often_0 c_11 t110 w))
    (k2 w)
theorem law06_NormalOf_p2_ok (Q : Exit → Env → World → Prop) (g : Env) (w : World) (kn : Value → Value → Value → World → Prop) (k2 : World → Prop) (R : Value → World → Prop) (hn : ∀ g w, kn (g 0) (g 11) (g 13) w → Q .normal g w) (h2 : ∀ g w, k2 w → Q (.exit 2) g w) (hr : ∀ g w, (resVals pg rs_law06_NormalOf g w fun vs => R (tup vs) w) → Q .ret g w) (h : law06_NormalOf_p2 kn k2 R (g 0) (g 11) (g 13) w) : den pg ann_law06_NormalOf (bI (bI (dropS 1 (takeS 1 (dropS 4 (dropS 1 (dropS 7 code_law06_NormalOf))))))) Q g w := by
  have e : (law06_NormalOf_p2 kn k2 R (g 0) (g 11) (g 13) w) = den pg ann_law06_NormalOf (bI (bI (dropS 1 (takeS 1 (dropS 4 (dropS 1 (dropS 7 code_law06_NormalOf))))))) (exQ (fun g w => kn (g 0) (g 11) (g 13) w) (fun g w => resVals pg rs_law06_NormalOf g w fun vs => R (tup vs) w) [(2, fun g w => k2 w)]) g w := by kernel_rfl
  exact den_exQ e h hn hr ⟨h2, trivial⟩

def law06_NormalOf_p3 (k2 : World → Prop) (R : Value → World → Prop) (often_0 c_11 i_13 : Value) (w : World) : Prop :=
  LoopD (fun (X : Value → World → Prop) (t : Value) (w : World) => law06_NormalOf_p2 (fun _ _ i_13 w => X i_13 w) k2 R often_0 c_11 t w) i_13 w
theorem law06_NormalOf_p3_ok (Q : Exit → Env → World → Prop) (g : Env) (w : World) (k2 : World → Prop) (R : Value → World → Prop) (h2 : ∀ g w, k2 w → Q (.exit 2) g w) (hr : ∀ g w, (resVals pg rs_law06_NormalOf g w fun vs => R (tup vs) w) → Q .ret g w) (h : law06_NormalOf_p3 k2 R (g 0) (g 11) (g 13) w) : den pg ann_law06_NormalOf (bI (dropS 1 (takeS 1 (dropS 4 (dropS 1 (dropS 7 code_law06_NormalOf)))))) Q g w := by
  refine den_loops (T := Value) (fun g : Env => g 13) (fun X t w => law06_NormalOf_p2 (fun _ _ i_13 w => X i_13 w) k2 R (g 0) (g 11) t w) (bI (dropS 1 (takeS 1 (dropS 4 (dropS 1 (dropS 7 code_law06_NormalOf)))))) (by kernel_rfl) h (fun X g1 w1 ha h1 => ?_)
  rw [← agree_at (s := 0) ha (by kernel_rfl)] at h1
  rw [← agree_at (s := 11) ha (by kernel_rfl)] at h1
  exact (law06_NormalOf_p2_ok (thenE (fun g2 w2 => X ((fun g : Env => g 13) g2) w2) Q) g1 w1 (fun _ _ i_13 w => X i_13 w) k2 R (fun _ _ h => h) h2 hr h1)

def law06_NormalOf_p4 (kn : World → Prop) (R : Value → World → Prop) (often_0 c_11 i_13 : Value) (w : World) : Prop :=
  law06_NormalOf_p3 kn R often_0 c_11 i_13 w
theorem law06_NormalOf_p4_ok (Q : Exit → Env → World → Prop) (g : Env) (w : World) (kn : World → Prop) (R : Value → World → Prop) (hn : ∀ g w, kn w → Q .normal g w) (hr : ∀ g w, (resVals pg rs_law06_NormalOf g w fun vs => R (tup vs) w) → Q .ret g w) (h : law06_NormalOf_p4 kn R (g 0) (g 11) (g 13) w) : den pg ann_law06_NormalOf (dropS 1 (takeS 1 (dropS 4 (dropS 1 (dropS 7 code_law06_NormalOf))))) Q g w :=
  den_blk 2 (dropS 1 (takeS 1 (dropS 4 (dropS 1 (dropS 7 code_law06_NormalOf))))) g w (by kernel_rfl) (law06_NormalOf_p3_ok (blk 2 Q) g w kn R hn hr h)

def law06_NormalOf_p5 (kn : Value → Value → Value → World → Prop) (often_0 c_11 : Value) (w : World) : Prop :=
  kn often_0 c_11 (.int .i64 0) w
theorem law06_NormalOf_p5_ok (Q : Exit → Env → World → Prop) (g : Env) (w : World) (kn : Value → Value → Value → World → Prop) (hn : ∀ g w, kn (g 0) (g 11) (g 13) w → Q .normal g w) (h : law06_NormalOf_p5 kn (g 0) (g 11) w) : den pg ann_law06_NormalOf (takeS 1 (takeS 1 (dropS 4 (dropS 1 (dropS 7 code_law06_NormalOf))))) Q g w := by
  have e : (law06_NormalOf_p5 kn (g 0) (g 11) w) = den pg ann_law06_NormalOf (takeS 1 (takeS 1 (dropS 4 (dropS 1 (dropS 7 code_law06_NormalOf))))) (exQ (fun g w => kn (g 0) (g 11) (g 13) w) (fun _ _ => False) []) g w := by kernel_rfl
  exact den_exQ e h hn (fun _ _ h => h.elim) trivial

def law06_NormalOf_p6 (kn : World → Prop) (R : Value → World → Prop) (often_0 c_11 : Value) (w : World) : Prop :=
  law06_NormalOf_p5 (fun often_0 c_11 i_13 w => law06_NormalOf_p4 kn R often_0 c_11 i_13 w) often_0 c_11 w
theorem law06_NormalOf_p6_ok (Q : Exit → Env → World → Prop) (g : Env) (w : World) (kn : World → Prop) (R : Value → World → Prop) (hn : ∀ g w, kn w → Q .normal g w) (hr : ∀ g w, (resVals pg rs_law06_NormalOf g w fun vs => R (tup vs) w) → Q .ret g w) (h : law06_NormalOf_p6 kn R (g 0) (g 11) w) : den pg ann_law06_NormalOf (takeS 1 (dropS 4 (dropS 1 (dropS 7 code_law06_NormalOf)))) Q g w := by
  exact den_seqs 1 (takeS 1 (dropS 4 (dropS 1 (dropS 7 code_law06_NormalOf)))) g w (by kernel_rfl) (law06_NormalOf_p5_ok (thenE (fun g w => den pg ann_law06_NormalOf (dropS 1 (takeS 1 (dropS 4 (dropS 1 (dropS 7 code_law06_NormalOf))))) Q g w) Q) g w (fun often_0 c_11 i_13 w => law06_NormalOf_p4 kn R often_0 c_11 i_13 w) (fun g w h => thenE_n (K := fun g w => den pg ann_law06_NormalOf (dropS 1 (takeS 1 (dropS 4 (dropS 1 (dropS 7 code_law06_NormalOf))))) Q g w) (law06_NormalOf_p4_ok Q g w kn R hn hr h)) h)

def law06_NormalOf_p7 (R : Value → World → Prop) (often_0 c_11 : Value) (w : World) : Prop :=
  law06_NormalOf_p6 (fun  w => law06_NormalOf_p1 R w) R often_0 c_11 w
theorem law06_NormalOf_p7_ok (Q : Exit → Env → World → Prop) (g : Env) (w : World) (R : Value → World → Prop) (hr : ∀ g w, (resVals pg rs_law06_NormalOf g w fun vs => R (tup vs) w) → Q .ret g w) (h : law06_NormalOf_p7 R (g 0) (g 11) w) : den pg ann_law06_NormalOf (dropS 4 (dropS 1 (dropS 7 code_law06_NormalOf))) Q g w := by
  exact den_seqs 1 (dropS 4 (dropS 1 (dropS 7 code_law06_NormalOf))) g w (by kernel_rfl) (law06_NormalOf_p6_ok (thenE (fun g w => den pg ann_law06_NormalOf (dropS 1 (dropS 4 (dropS 1 (dropS 7 code_law06_NormalOf)))) Q g w) Q) g w (fun  w => law06_NormalOf_p1 R w) R (fun g w h => thenE_n (K := fun g w => den pg ann_law06_NormalOf (dropS 1 (dropS 4 (dropS 1 (dropS 7 code_law06_NormalOf)))) Q g w) (law06_NormalOf_p1_ok Q g w R hr h)) hr h)

def law06_NormalOf_p8 (kn : Value → Value → World → Prop) (R : Value → World → Prop) (often_0 log_1 sum_6 t7 last_8 : Value) (w : World) : Prop :=
  Stp pg (sBin .geq 3 (.tmp 41) (.const (.int .i64 5)) log_1 (.int .i64 5)) w fun t42 w =>
  Gd (isB t42 true) (fun K => K log_1 w) w fun t44 w =>
  Gd (isB t42 true) (fun K => Stp pg (sBin .leq 3 (.tmp 44) (.const (.int .i64 15)) t44 (.int .i64 15)) w K) w fun t45 w =>
  Stp pg (sPick t42 t45 (.bool false)) w fun t46 w =>
  Gd (isB t46 true) (fun K => K often_0 w) w fun t48 w =>
  Gd (isB t46 true) (fun K => Stp pg (sBi .len #[89] 3 [t48]) w K) w fun t49 w =>
  Gd (isB t46 true) (fun K => Stp pg (sBin .leq 3 (.tmp 49) (.const (.int .i64 256)) t49 (.int .i64 256)) w K) w fun t50 w =>
  Stp pg (sPick t46 t50 (.bool false)) w fun t51 w =>
  Gd (isB t51 true) (fun K => K t7 w) w fun t53 w =>
  Gd (isB t51 true) (fun K => Stp pg (sBin .geq 3 (.tmp 53) (.const (.int .i64 2)) t53 (.int .i64 2)) w K) w fun t54 w =>
  Stp pg (sPick t51 t54 (.bool false)) w fun t55 w =>
  Gd (isB t55 true) (fun K => K t7 w) w fun t57 w =>
  Gd (isB t55 true) (fun K => K log_1 w) w fun t58 w =>
  Gd (isB t55 true) (fun K => Does pg F_ref06_Power #[t58] w K) w fun t59 w =>
  Gd (isB t55 true) (fun K => Stp pg (sBin .leq 3 (.tmp 57) (.tmp 59) t57 t59) w K) w fun t60 w =>
  Stp pg (sPick t55 t60 (.bool false)) w fun t61 w =>
  Gd (isB t61 true) (fun K => K sum_6 w) w fun t63 w =>
  Gd (isB t61 true) (fun K => Stp pg (sBin .leq 45 (.tmp 63) (.const (.int .u64 2147483647)) t63 (.int .u64 2147483647)) w K) w fun t64 w =>
  Stp pg (sPick t61 t64 (.bool false)) w fun t65 w =>
  Does pg F_normal_Of #[often_0, log_1] w fun t69 w =>
  Stp pg (sExtr t69 0) w fun t70 w =>
  Stp pg (sExtr t69 1) w fun t71 w =>
  Stp pg (sAlloc 24) w fun c_11 w =>
  Stp pg (sStore 24 c_11 t70) w fun _u w =>
  Stp pg (sUn .not t65) w fun t73 w =>
  Cnd t73
    (Stp pg (sBin .eql 29 (.tmp 74) (.const (.int .i64 1)) t71 (.int .i64 1)) w fun t75 w =>
    Gd (isB t75 true) (fun K => Stp pg (sFAddr 24 c_11 1) w K) w fun t77 w =>
    Gd (isB t75 true) (fun K => Stp pg (sLoad 22 t77) w K) w fun t78 w =>
    Gd (isB t75 true) (fun K => Stp pg (sBi .len #[22] 3 [t78]) w K) w fun t79 w =>
    Gd (isB t75 true) (fun K => Stp pg (sBin .eql 3 (.tmp 79) (.const (.int .i64 0)) t79 (.int .i64 0)) w K) w fun t80 w =>
    Stp pg (sPick t75 t80 (.bool false)) w fun t81 w =>
    R t81 w)
    (Stp pg (sBin .neq 29 (.tmp 82) (.const (.int .i64 0)) t71 (.int .i64 0)) w fun t83 w =>
    Gd (isB t83 false) (fun K => Stp pg (sFAddr 24 c_11 0) w K) w fun t85 w =>
    Gd (isB t83 false) (fun K => Stp pg (sLoad 3 t85) w K) w fun t86 w =>
    Gd (isB t83 false) (fun K => K log_1 w) w fun t87 w =>
    Gd (isB t83 false) (fun K => Stp pg (sBin .neq 3 (.tmp 86) (.tmp 87) t86 t87) w K) w fun t88 w =>
    Stp pg (sPick t83 (.bool true) t88) w fun t89 w =>
    Gd (isB t89 false) (fun K => Stp pg (sFAddr 24 c_11 1) w K) w fun t91 w =>
    Gd (isB t89 false) (fun K => Stp pg (sLoad 22 t91) w K) w fun t92 w =>
    Gd (isB t89 false) (fun K => Stp pg (sBi .len #[22] 3 [t92]) w K) w fun t93 w =>
    Gd (isB t89 false) (fun K => K last_8 w) w fun t94 w =>
    Gd (isB t89 false) (fun K => Stp pg (sBin .add 3 (.tmp 94) (.const (.int .i64 1)) t94 (.int .i64 1)) w K) w fun t95 w =>
    Gd (isB t89 false) (fun K => Stp pg (sBin .neq 3 (.tmp 93) (.tmp 95) t93 t95) w K) w fun t96 w =>
    Stp pg (sPick t89 (.bool true) t96) w fun t97 w =>
    Gd (isB t97 false) (fun K => Stp pg (sLoad 24 c_11) w K) w fun t99 w =>
    Gd (isB t97 false) (fun K => Does pg F_law06_modelOf #[t99] w K) w fun t100 w =>
    Gd (isB t97 false) (fun K => Does pg F_ref06_May #[t100] w K) w fun t101 w =>
    Gd (isB t97 false) (fun K => Stp pg (sUn .not t101) w K) w fun t102 w =>
    Stp pg (sPick t97 (.bool true) t102) w fun t103 w =>
    Cnd t103
      (R (.bool false) w)
      (kn often_0 c_11 w))
theorem law06_NormalOf_p8_ok (Q : Exit → Env → World → Prop) (g : Env) (w : World) (kn : Value → Value → World → Prop) (R : Value → World → Prop) (hn : ∀ g w, kn (g 0) (g 11) w → Q .normal g w) (hr : ∀ g w, (resVals pg rs_law06_NormalOf g w fun vs => R (tup vs) w) → Q .ret g w) (h : law06_NormalOf_p8 kn R (g 0) (g 1) (g 6) (g 7) (g 8) w) : den pg ann_law06_NormalOf (takeS 4 (dropS 1 (dropS 7 code_law06_NormalOf))) Q g w := by
  have e : (law06_NormalOf_p8 kn R (g 0) (g 1) (g 6) (g 7) (g 8) w) = den pg ann_law06_NormalOf (takeS 4 (dropS 1 (dropS 7 code_law06_NormalOf))) (exQ (fun g w => kn (g 0) (g 11) w) (fun g w => resVals pg rs_law06_NormalOf g w fun vs => R (tup vs) w) []) g w := by kernel_rfl
  exact den_exQ e h hn hr trivial

def law06_NormalOf_p9 (R : Value → World → Prop) (often_0 log_1 sum_6 t7 last_8 : Value) (w : World) : Prop :=
  law06_NormalOf_p8 (fun often_0 c_11 w => law06_NormalOf_p7 R often_0 c_11 w) R often_0 log_1 sum_6 t7 last_8 w
theorem law06_NormalOf_p9_ok (Q : Exit → Env → World → Prop) (g : Env) (w : World) (R : Value → World → Prop) (hr : ∀ g w, (resVals pg rs_law06_NormalOf g w fun vs => R (tup vs) w) → Q .ret g w) (h : law06_NormalOf_p9 R (g 0) (g 1) (g 6) (g 7) (g 8) w) : den pg ann_law06_NormalOf (dropS 1 (dropS 7 code_law06_NormalOf)) Q g w := by
  exact den_seqs 4 (dropS 1 (dropS 7 code_law06_NormalOf)) g w (by kernel_rfl) (law06_NormalOf_p8_ok (thenE (fun g w => den pg ann_law06_NormalOf (dropS 4 (dropS 1 (dropS 7 code_law06_NormalOf))) Q g w) Q) g w (fun often_0 c_11 w => law06_NormalOf_p7 R often_0 c_11 w) R (fun g w h => thenE_n (K := fun g w => den pg ann_law06_NormalOf (dropS 4 (dropS 1 (dropS 7 code_law06_NormalOf))) Q g w) (law06_NormalOf_p7_ok Q g w R hr h)) hr h)

def law06_NormalOf_p10 (kn : Value → Value → Value → Value → Value → Value → World → Prop) (often_0 log_1 sum_6 t7 last_8 i_9 : Value) (w : World) : Prop :=
  Stp pg (sBin .add 3 (.tmp 24) (.const (.int .i64 1)) i_9 (.int .i64 1)) w fun t25 w =>
  kn often_0 log_1 sum_6 t7 last_8 t25 w
theorem law06_NormalOf_p10_ok (Q : Exit → Env → World → Prop) (g : Env) (w : World) (kn : Value → Value → Value → Value → Value → Value → World → Prop) (hn : ∀ g w, kn (g 0) (g 1) (g 6) (g 7) (g 8) (g 9) w → Q .normal g w) (h : law06_NormalOf_p10 kn (g 0) (g 1) (g 6) (g 7) (g 8) (g 9) w) : den pg ann_law06_NormalOf (dropS 2 (bI (bI (dropS 1 (takeS 1 (dropS 7 code_law06_NormalOf)))))) Q g w := by
  have e : (law06_NormalOf_p10 kn (g 0) (g 1) (g 6) (g 7) (g 8) (g 9) w) = den pg ann_law06_NormalOf (dropS 2 (bI (bI (dropS 1 (takeS 1 (dropS 7 code_law06_NormalOf)))))) (exQ (fun g w => kn (g 0) (g 1) (g 6) (g 7) (g 8) (g 9) w) (fun _ _ => False) []) g w := by kernel_rfl
  exact den_exQ e h hn (fun _ _ h => h.elim) trivial

def law06_NormalOf_p11 (kn : Value → Value → Value → Value → Value → Value → World → Prop) (k0 : Value → Value → Value → Value → Value → World → Prop) (often_0 log_1 sum_6 t7 last_8 i_9 : Value) (w : World) : Prop :=
  Stp pg (sBi .len #[89] 3 [often_0]) w fun t22 w =>
  Stp pg (sBin .lss 3 (.tmp 20) (.tmp 22) i_9 t22) w fun t23 w =>
  Cnd t23
    (Stp pg (sIAddr 89 often_0 i_9) w fun t29 w =>
    Stp pg (sLoad 90 t29) w fun t30 w =>
    Stp pg (sCvt 90 45 t30) w fun t31 w =>
    Stp pg (sBin .add 45 (.tmp 26) (.tmp 31) sum_6 t31) w fun t32 w =>
    Stp pg (sIAddr 89 often_0 i_9) w fun t35 w =>
    Stp pg (sLoad 90 t35) w fun t36 w =>
    Stp pg (sBin .gtr 90 (.tmp 36) (.const (.int .u32 0)) t36 (.int .u32 0)) w fun t37 w =>
    Cnd t37
      (Stp pg (sBin .add 3 (.tmp 38) (.const (.int .i64 1)) t7 (.int .i64 1)) w fun t39 w =>
      kn often_0 log_1 t32 t39 i_9 i_9 w)
      (kn often_0 log_1 t32 t7 last_8 i_9 w))
    (k0 often_0 log_1 sum_6 t7 last_8 w)
theorem law06_NormalOf_p11_ok (Q : Exit → Env → World → Prop) (g : Env) (w : World) (kn : Value → Value → Value → Value → Value → Value → World → Prop) (k0 : Value → Value → Value → Value → Value → World → Prop) (hn : ∀ g w, kn (g 0) (g 1) (g 6) (g 7) (g 8) (g 9) w → Q .normal g w) (h0 : ∀ g w, k0 (g 0) (g 1) (g 6) (g 7) (g 8) w → Q (.exit 0) g w) (h : law06_NormalOf_p11 kn k0 (g 0) (g 1) (g 6) (g 7) (g 8) (g 9) w) : den pg ann_law06_NormalOf (takeS 2 (bI (bI (dropS 1 (takeS 1 (dropS 7 code_law06_NormalOf)))))) Q g w := by
  have e : (law06_NormalOf_p11 kn k0 (g 0) (g 1) (g 6) (g 7) (g 8) (g 9) w) = den pg ann_law06_NormalOf (takeS 2 (bI (bI (dropS 1 (takeS 1 (dropS 7 code_law06_NormalOf)))))) (exQ (fun g w => kn (g 0) (g 1) (g 6) (g 7) (g 8) (g 9) w) (fun _ _ => False) [(0, fun g w => k0 (g 0) (g 1) (g 6) (g 7) (g 8) w)]) g w := by kernel_rfl
  exact den_exQ e h hn (fun _ _ h => h.elim) ⟨h0, trivial⟩

def law06_NormalOf_p12 (kn : Value → Value → Value → Value → Value → Value → World → Prop) (k0 : Value → Value → Value → Value → Value → World → Prop) (often_0 log_1 sum_6 t7 last_8 i_9 : Value) (w : World) : Prop :=
  law06_NormalOf_p11 (fun often_0 log_1 sum_6 t7 last_8 i_9 w => law06_NormalOf_p10 kn often_0 log_1 sum_6 t7 last_8 i_9 w) k0 often_0 log_1 sum_6 t7 last_8 i_9 w
theorem law06_NormalOf_p12_ok (Q : Exit → Env → World → Prop) (g : Env) (w : World) (kn : Value → Value → Value → Value → Value → Value → World → Prop) (k0 : Value → Value → Value → Value → Value → World → Prop) (hn : ∀ g w, kn (g 0) (g 1) (g 6) (g 7) (g 8) (g 9) w → Q .normal g w) (h0 : ∀ g w, k0 (g 0) (g 1) (g 6) (g 7) (g 8) w → Q (.exit 0) g w) (h : law06_NormalOf_p12 kn k0 (g 0) (g 1) (g 6) (g 7) (g 8) (g 9) w) : den pg ann_law06_NormalOf (bI (bI (dropS 1 (takeS 1 (dropS 7 code_law06_NormalOf))))) Q g w := by
  exact den_seqs 2 (bI (bI (dropS 1 (takeS 1 (dropS 7 code_law06_NormalOf))))) g w (by kernel_rfl) (law06_NormalOf_p11_ok (thenE (fun g w => den pg ann_law06_NormalOf (dropS 2 (bI (bI (dropS 1 (takeS 1 (dropS 7 code_law06_NormalOf)))))) Q g w) Q) g w (fun often_0 log_1 sum_6 t7 last_8 i_9 w => law06_NormalOf_p10 kn often_0 log_1 sum_6 t7 last_8 i_9 w) k0 (fun g w h => thenE_n (K := fun g w => den pg ann_law06_NormalOf (dropS 2 (bI (bI (dropS 1 (takeS 1 (dropS 7 code_law06_NormalOf)))))) Q g w) (law06_NormalOf_p10_ok Q g w kn hn h)) h0 h)

def law06_NormalOf_p13 (k0 : Value → Value → Value → Value → Value → World → Prop) (often_0 log_1 sum_6 t7 last_8 i_9 : Value) (w : World) : Prop :=
  LoopD (fun (X : (Value × Value × Value × Value) → World → Prop) (t : Value × Value × Value × Value) (w : World) => law06_NormalOf_p12 (fun _ _ sum_6 t7 last_8 i_9 w => X (sum_6, t7, last_8, i_9) w) k0 often_0 log_1 t.1 t.2.1 t.2.2.1 t.2.2.2 w) (sum_6, t7, last_8, i_9) w
theorem law06_NormalOf_p13_ok (Q : Exit → Env → World → Prop) (g : Env) (w : World) (k0 : Value → Value → Value → Value → Value → World → Prop) (h0 : ∀ g w, k0 (g 0) (g 1) (g 6) (g 7) (g 8) w → Q (.exit 0) g w) (h : law06_NormalOf_p13 k0 (g 0) (g 1) (g 6) (g 7) (g 8) (g 9) w) : den pg ann_law06_NormalOf (bI (dropS 1 (takeS 1 (dropS 7 code_law06_NormalOf)))) Q g w := by
  refine den_loops (T := Value × Value × Value × Value) (fun g : Env => (g 6, g 7, g 8, g 9)) (fun X t w => law06_NormalOf_p12 (fun _ _ sum_6 t7 last_8 i_9 w => X (sum_6, t7, last_8, i_9) w) k0 (g 0) (g 1) t.1 t.2.1 t.2.2.1 t.2.2.2 w) (bI (dropS 1 (takeS 1 (dropS 7 code_law06_NormalOf)))) (by kernel_rfl) h (fun X g1 w1 ha h1 => ?_)
  rw [← agree_at (s := 0) ha (by kernel_rfl)] at h1
  rw [← agree_at (s := 1) ha (by kernel_rfl)] at h1
  exact (law06_NormalOf_p12_ok (thenE (fun g2 w2 => X ((fun g : Env => (g 6, g 7, g 8, g 9)) g2) w2) Q) g1 w1 (fun _ _ sum_6 t7 last_8 i_9 w => X (sum_6, t7, last_8, i_9) w) k0 (fun _ _ h => h) h0 h1)

def law06_NormalOf_p14 (kn : Value → Value → Value → Value → Value → World → Prop) (often_0 log_1 sum_6 t7 last_8 i_9 : Value) (w : World) : Prop :=
  law06_NormalOf_p13 kn often_0 log_1 sum_6 t7 last_8 i_9 w
theorem law06_NormalOf_p14_ok (Q : Exit → Env → World → Prop) (g : Env) (w : World) (kn : Value → Value → Value → Value → Value → World → Prop) (hn : ∀ g w, kn (g 0) (g 1) (g 6) (g 7) (g 8) w → Q .normal g w) (h : law06_NormalOf_p14 kn (g 0) (g 1) (g 6) (g 7) (g 8) (g 9) w) : den pg ann_law06_NormalOf (dropS 1 (takeS 1 (dropS 7 code_law06_NormalOf))) Q g w :=
  den_blk 0 (dropS 1 (takeS 1 (dropS 7 code_law06_NormalOf))) g w (by kernel_rfl) (law06_NormalOf_p13_ok (blk 0 Q) g w kn hn h)

def law06_NormalOf_p15 (kn : Value → Value → Value → Value → Value → Value → World → Prop) (often_0 log_1 sum_6 t7 last_8 : Value) (w : World) : Prop :=
  kn often_0 log_1 sum_6 t7 last_8 (.int .i64 0) w
theorem law06_NormalOf_p15_ok (Q : Exit → Env → World → Prop) (g : Env) (w : World) (kn : Value → Value → Value → Value → Value → Value → World → Prop) (hn : ∀ g w, kn (g 0) (g 1) (g 6) (g 7) (g 8) (g 9) w → Q .normal g w) (h : law06_NormalOf_p15 kn (g 0) (g 1) (g 6) (g 7) (g 8) w) : den pg ann_law06_NormalOf (takeS 1 (takeS 1 (dropS 7 code_law06_NormalOf))) Q g w := by
  have e : (law06_NormalOf_p15 kn (g 0) (g 1) (g 6) (g 7) (g 8) w) = den pg ann_law06_NormalOf (takeS 1 (takeS 1 (dropS 7 code_law06_NormalOf))) (exQ (fun g w => kn (g 0) (g 1) (g 6) (g 7) (g 8) (g 9) w) (fun _ _ => False) []) g w := by kernel_rfl
  exact den_exQ e h hn (fun _ _ h => h.elim) trivial

def law06_NormalOf_p16 (kn : Value → Value → Value → Value → Value → World → Prop) (often_0 log_1 sum_6 t7 last_8 : Value) (w : World) : Prop :=
  law06_NormalOf_p15 (fun often_0 log_1 sum_6 t7 last_8 i_9 w => law06_NormalOf_p14 kn often_0 log_1 sum_6 t7 last_8 i_9 w) often_0 log_1 sum_6 t7 last_8 w
theorem law06_NormalOf_p16_ok (Q : Exit → Env → World → Prop) (g : Env) (w : World) (kn : Value → Value → Value → Value → Value → World → Prop) (hn : ∀ g w, kn (g 0) (g 1) (g 6) (g 7) (g 8) w → Q .normal g w) (h : law06_NormalOf_p16 kn (g 0) (g 1) (g 6) (g 7) (g 8) w) : den pg ann_law06_NormalOf (takeS 1 (dropS 7 code_law06_NormalOf)) Q g w := by
  exact den_seqs 1 (takeS 1 (dropS 7 code_law06_NormalOf)) g w (by kernel_rfl) (law06_NormalOf_p15_ok (thenE (fun g w => den pg ann_law06_NormalOf (dropS 1 (takeS 1 (dropS 7 code_law06_NormalOf))) Q g w) Q) g w (fun often_0 log_1 sum_6 t7 last_8 i_9 w => law06_NormalOf_p14 kn often_0 log_1 sum_6 t7 last_8 i_9 w) (fun g w h => thenE_n (K := fun g w => den pg ann_law06_NormalOf (dropS 1 (takeS 1 (dropS 7 code_law06_NormalOf))) Q g w) (law06_NormalOf_p14_ok Q g w kn hn h)) h)

def law06_NormalOf_p17 (R : Value → World → Prop) (often_0 log_1 sum_6 t7 last_8 : Value) (w : World) : Prop :=
  law06_NormalOf_p16 (fun often_0 log_1 sum_6 t7 last_8 w => law06_NormalOf_p9 R often_0 log_1 sum_6 t7 last_8 w) often_0 log_1 sum_6 t7 last_8 w
theorem law06_NormalOf_p17_ok (Q : Exit → Env → World → Prop) (g : Env) (w : World) (R : Value → World → Prop) (hr : ∀ g w, (resVals pg rs_law06_NormalOf g w fun vs => R (tup vs) w) → Q .ret g w) (h : law06_NormalOf_p17 R (g 0) (g 1) (g 6) (g 7) (g 8) w) : den pg ann_law06_NormalOf (dropS 7 code_law06_NormalOf) Q g w := by
  exact den_seqs 1 (dropS 7 code_law06_NormalOf) g w (by kernel_rfl) (law06_NormalOf_p16_ok (thenE (fun g w => den pg ann_law06_NormalOf (dropS 1 (dropS 7 code_law06_NormalOf)) Q g w) Q) g w (fun often_0 log_1 sum_6 t7 last_8 w => law06_NormalOf_p9 R often_0 log_1 sum_6 t7 last_8 w) (fun g w h => thenE_n (K := fun g w => den pg ann_law06_NormalOf (dropS 1 (dropS 7 code_law06_NormalOf)) Q g w) (law06_NormalOf_p9_ok Q g w R hr h)) h)

def law06_NormalOf_p18 (kn : Value → Value → Value → Value → Value → World → Prop) (R : Value → World → Prop) (often_0 log_1 : Value) (w : World) : Prop :=
  Does pg F_law06_awake #[] w fun t14 w =>
  Stp pg (sUn .not t14) w fun t16 w =>
  Cnd t16
    (R (.bool false) w)
    (Stp pg (sBi .len #[89] 3 [often_0]) w fun t18 w =>
    Stp pg (sBin .gtr 3 (.tmp 18) (.const (.int .i64 300)) t18 (.int .i64 300)) w fun t19 w =>
    Cnd t19
      (R (.bool true) w)
      (kn often_0 log_1 (.int .u64 0) (.int .i64 0) (.int .i64 0) w))
theorem law06_NormalOf_p18_ok (Q : Exit → Env → World → Prop) (g : Env) (w : World) (kn : Value → Value → Value → Value → Value → World → Prop) (R : Value → World → Prop) (hn : ∀ g w, kn (g 0) (g 1) (g 6) (g 7) (g 8) w → Q .normal g w) (hr : ∀ g w, (resVals pg rs_law06_NormalOf g w fun vs => R (tup vs) w) → Q .ret g w) (h : law06_NormalOf_p18 kn R (g 0) (g 1) w) : den pg ann_law06_NormalOf (takeS 7 code_law06_NormalOf) Q g w := by
  have e : (law06_NormalOf_p18 kn R (g 0) (g 1) w) = den pg ann_law06_NormalOf (takeS 7 code_law06_NormalOf) (exQ (fun g w => kn (g 0) (g 1) (g 6) (g 7) (g 8) w) (fun g w => resVals pg rs_law06_NormalOf g w fun vs => R (tup vs) w) []) g w := by kernel_rfl
  exact den_exQ e h hn hr trivial

def law06_NormalOf_p19 (R : Value → World → Prop) (often_0 log_1 : Value) (w : World) : Prop :=
  law06_NormalOf_p18 (fun often_0 log_1 sum_6 t7 last_8 w => law06_NormalOf_p17 R often_0 log_1 sum_6 t7 last_8 w) R often_0 log_1 w
theorem law06_NormalOf_p19_ok (Q : Exit → Env → World → Prop) (g : Env) (w : World) (R : Value → World → Prop) (hr : ∀ g w, (resVals pg rs_law06_NormalOf g w fun vs => R (tup vs) w) → Q .ret g w) (h : law06_NormalOf_p19 R (g 0) (g 1) w) : den pg ann_law06_NormalOf code_law06_NormalOf Q g w := by
  exact den_seqs 7 code_law06_NormalOf g w (by kernel_rfl) (law06_NormalOf_p18_ok (thenE (fun g w => den pg ann_law06_NormalOf (dropS 7 code_law06_NormalOf) Q g w) Q) g w (fun often_0 log_1 sum_6 t7 last_8 w => law06_NormalOf_p17 R often_0 log_1 sum_6 t7 last_8 w) R (fun g w h => thenE_n (K := fun g w => den pg ann_law06_NormalOf (dropS 7 code_law06_NormalOf) Q g w) (law06_NormalOf_p17_ok Q g w R hr h)) hr h)

def law06_NormalOf (a0 a1 : Value) (w : World) (R : Value → World → Prop) : Prop :=
  law06_NormalOf_p19 R a0 a1 w
theorem law06_NormalOf_does {a0 a1 : Value} {w : World} {R : Value → World → Prop} (h : law06_NormalOf a0 a1 w R) : Does pg F_law06_NormalOf #[a0, a1] w R := by
  refine does_of_den (ann := ann_law06_NormalOf) (fn := Try.f10) (c := code_law06_NormalOf) (args := [a0, a1]) (rs := rs_law06_NormalOf) (N := 123) TryM.mixed (by kernel_rfl) Try.func10 (by kernel_rfl) (by kernel_rfl) (by kernel_rfl) (of_decide_eq_true (by kernel_rfl)) (by kernel_rfl) ?_
  exact (law06_NormalOf_p19_ok (retQ pg rs_law06_NormalOf R) (envOf [a0, a1]) w R (fun _ _ h => h) h)
-- PIECES law06_NormalOf/0 law06_NormalOf_p1 law06_NormalOf_p3 law06_NormalOf_p4 law06_NormalOf_p5 law06_NormalOf_p6 law06_NormalOf_p7 law06_NormalOf_p8 law06_NormalOf_p9 law06_NormalOf_p13 law06_NormalOf_p14 law06_NormalOf_p15 law06_NormalOf_p16 law06_NormalOf_p17 law06_NormalOf_p18 law06_NormalOf_p19
-- PIECES law06_NormalOf/1 law06_NormalOf_p2
-- PIECES law06_NormalOf/2 law06_NormalOf_p10 law06_NormalOf_p11 law06_NormalOf_p12

/- lighterman/lightermanlaw06.NormalCut -/
def ann_law06_NormalCut : FA := ⟨F_law06_NormalCut, fun i => match Nat.beq i 14 with | true => .leaf ([14, 16, 17], [(14, 15)]) [(false, []), (false, []), (false, []), (false, []), (false, []), (false, []), (false, []), (false, []), (false, []), (false, []), (false, []), (false, []), (false, []), (false, []), (true, []), (false, [0]), (true, []), (true, []), (false, []), (false, [])] | false => .leaf ([], []) []⟩
def rs_law06_NormalCut : List ResultVar := [.tmp 8]
noncomputable def code_law06_NormalCut : Code := bodyOf Try.f11
def law06_NormalCut_p1 (R : Value → World → Prop) (often_0 log_1 at_2 more_3 : Value) (w : World) : Prop :=
  Does pg F_law06_awake #[] w fun t20 w =>
  Stp pg (sUn .not t20) w fun t22 w =>
  Cnd t22
    (R (.bool false) w)
    (Stp pg (sBi .len #[89] 3 [often_0]) w fun t24 w =>
    Stp pg (sBin .gtr 3 (.tmp 24) (.const (.int .i64 300)) t24 (.int .i64 300)) w fun t25 w =>
    Gd (isB t25 false) (fun K => K more_3 w) w fun t27 w =>
    Gd (isB t25 false) (fun K => Stp pg (sBi .len #[52] 3 [t27]) w K) w fun t28 w =>
    Gd (isB t25 false) (fun K => Stp pg (sBin .gtr 3 (.tmp 28) (.const (.int .i64 50)) t28 (.int .i64 50)) w K) w fun t29 w =>
    Stp pg (sPick t25 (.bool true) t29) w fun t30 w =>
    Cnd t30
      (R (.bool true) w)
      (Does pg F_normal_Of #[often_0, log_1] w fun t34 w =>
      Stp pg (sExtr t34 0) w fun t35 w =>
      Stp pg (sExtr t34 1) w fun t36 w =>
      Stp pg (sAlloc 24) w fun c_10 w =>
      Stp pg (sStore 24 c_10 t35) w fun _u w =>
      Stp pg (sBin .neq 29 (.tmp 37) (.const (.int .i64 0)) t36 (.int .i64 0)) w fun t38 w =>
      Cnd t38
        (Stp pg (sFAddr 24 c_10 1) w fun t39 w =>
        Stp pg (sLoad 22 t39) w fun t40 w =>
        Stp pg (sBi .len #[22] 3 [t40]) w fun t41 w =>
        Stp pg (sBin .eql 3 (.tmp 41) (.const (.int .i64 0)) t41 (.int .i64 0)) w fun t42 w =>
        R t42 w)
        (Stp pg (sLoad 24 c_10) w fun t44 w =>
        Does pg F_normal_Write #[t44] w fun t45 w =>
        Stp pg (sExtr t45 0) w fun t46 w =>
        Stp pg (sExtr t45 1) w fun t47 w =>
        Stp pg (sBin .neq 29 (.tmp 48) (.const (.int .i64 0)) t47 (.int .i64 0)) w fun t49 w =>
        Cnd t49
          (R (.bool false) w)
          (Stp pg (sCvt 44 3 at_2) w fun t53 w =>
          Stp pg (sBi .len #[52] 3 [t46]) w fun t55 w =>
          Stp pg (sBin .rem 3 (.tmp 53) (.tmp 55) t53 t55) w fun t56 w =>
          Stp pg (sSlice 52 t46 none (some t56) none) w fun t57 w =>
          Does pg F_normal_Read #[t57, (.int .i64 15), (.int .i64 256)] w fun t58 w =>
          Stp pg (sExtr t58 0) w fun t59 w =>
          Stp pg (sExtr t58 1) w fun t60 w =>
          Stp pg (sExtr t58 2) w fun t61 w =>
          Stp pg (sAlloc 24) w fun t14 w =>
          Stp pg (sStore 24 t14 t59) w fun _u w =>
          Stp pg (sBi .append #[52, 52] 52 [t46, more_3]) w fun t65 w =>
          Does pg F_normal_Read #[t65, (.int .i64 15), (.int .i64 256)] w fun t66 w =>
          Stp pg (sExtr t66 0) w fun t67 w =>
          Stp pg (sExtr t66 1) w fun t68 w =>
          Stp pg (sExtr t66 2) w fun t69 w =>
          Stp pg (sAlloc 24) w fun d_17 w =>
          Stp pg (sStore 24 d_17 t67) w fun _u w =>
          (dr w) = (dr w) ∧
          Stp pg (sBin .eql 29 (.tmp 70) (.const (.int .i64 10)) t61 (.int .i64 10)) (dr w) fun t71 w_ => w_ = (dr w) ∧
          (dr w) = (dr w) ∧
          Gd (isB t71 true) (fun K => K t69 (dr w)) (dr w) fun t73 w_ => w_ = (dr w) ∧
          Gd (isB t71 true) (fun K => Stp pg (sBin .eql 29 (.tmp 73) (.const (.int .i64 0)) t73 (.int .i64 0)) (dr w) K) (dr w) fun t74 w_ => w_ = (dr w) ∧
          Stp pg (sPick t71 t74 (.bool false)) (dr w) fun t75 w_ => w_ = (dr w) ∧
          (dr w) = (dr w) ∧
          Gd (isB t75 true) (fun K => K t68 (dr w)) (dr w) fun t77 w_ => w_ = (dr w) ∧
          Gd (isB t75 true) (fun K => K t46 (dr w)) (dr w) fun t78 w_ => w_ = (dr w) ∧
          Gd (isB t75 true) (fun K => Stp pg (sBi .len #[52] 3 [t78]) (dr w) K) (dr w) fun t79 w_ => w_ = (dr w) ∧
          Gd (isB t75 true) (fun K => Stp pg (sBin .eql 3 (.tmp 77) (.tmp 79) t77 t79) (dr w) K) (dr w) fun t80 w_ => w_ = (dr w) ∧
          Stp pg (sPick t75 t80 (.bool false)) (dr w) fun t81 w_ => w_ = (dr w) ∧
          (dr w) = (dr w) ∧
          Gd (isB t81 true) (fun K => Stp pg (sLoad 24 d_17) (dr w) K) (dr w) fun t83 w_ => w_ = (dr w) ∧
          Gd (isB t81 true) (fun K => Does pg F_law06_modelOf #[t83] (dr w) K) (dr w) fun t84 w14_14 =>
          Gd (isB t81 true) (fun K => Stp pg (sLoad 24 c_10) w14_14 K) w14_14 fun t85 w_ => w_ = w14_14 ∧
          (Gs (isB t81 true) (Same pg (sLoad 24 c_10) t85 (dr w)) ∧ True) ∧
          Gd (isB t81 true) (fun K => Does pg F_law06_modelOf #[t85] w14_14 K) w14_14 fun t86 w14_16 =>
          Gd (isB t81 true) (fun K => Does pg F_ref06_Same #[t84, t86] w14_16 K) w14_16 fun t87 w14_17 =>
          Stp pg (sPick t81 t87 (.bool false)) w14_17 fun t88 w_ => w_ = w14_17 ∧
          w14_17 = w14_17 ∧
          R t88 w14_17))))
theorem law06_NormalCut_p1_ok (Q : Exit → Env → World → Prop) (g : Env) (w : World) (R : Value → World → Prop) (hr : ∀ g w, (resVals pg rs_law06_NormalCut g w fun vs => R (tup vs) w) → Q .ret g w) (h : law06_NormalCut_p1 R (g 0) (g 1) (g 2) (g 3) w) : den pg ann_law06_NormalCut code_law06_NormalCut Q g w := by
  have e : (law06_NormalCut_p1 R (g 0) (g 1) (g 2) (g 3) w) = den pg ann_law06_NormalCut code_law06_NormalCut (exQ (fun _ _ => False) (fun g w => resVals pg rs_law06_NormalCut g w fun vs => R (tup vs) w) []) g w := by kernel_rfl
  exact den_exQ e h (fun _ _ h => h.elim) hr trivial

def law06_NormalCut (a0 a1 a2 a3 : Value) (w : World) (R : Value → World → Prop) : Prop :=
  law06_NormalCut_p1 R a0 a1 a2 a3 w
theorem law06_NormalCut_does {a0 a1 a2 a3 : Value} {w : World} {R : Value → World → Prop} (h : law06_NormalCut a0 a1 a2 a3 w R) : Does pg F_law06_NormalCut #[a0, a1, a2, a3] w R := by
  refine does_of_den (ann := ann_law06_NormalCut) (fn := Try.f11) (c := code_law06_NormalCut) (args := [a0, a1, a2, a3]) (rs := rs_law06_NormalCut) (N := 89) TryM.mixed (by kernel_rfl) Try.func11 (by kernel_rfl) (by kernel_rfl) (by kernel_rfl) (of_decide_eq_true (by kernel_rfl)) (by kernel_rfl) ?_
  exact (law06_NormalCut_p1_ok (retQ pg rs_law06_NormalCut R) (envOf [a0, a1, a2, a3]) w R (fun _ _ h => h) h)
-- PIECES law06_NormalCut/0 law06_NormalCut_p1

/- lighterman/lightermanlaw06.NormalLast -/
def ann_law06_NormalLast : FA := ⟨F_law06_NormalLast, fun i => match Nat.beq i 20 with | true => .leaf ([18, 20, 21, 27], [(18, 19)]) [(false, []), (false, []), (false, []), (false, []), (false, []), (false, []), (false, []), (false, []), (false, []), (false, []), (false, []), (false, []), (false, []), (false, []), (false, []), (false, []), (false, []), (false, []), (true, []), (false, [0]), (true, []), (true, []), (false, []), (false, []), (false, []), (false, []), (false, []), (true, []), (false, []), (false, []), (false, [])] | false => .leaf ([], []) []⟩
def rs_law06_NormalLast : List ResultVar := [.tmp 6]
noncomputable def code_law06_NormalLast : Code := bodyOf Try.f12
def law06_NormalLast_p1 (R : Value → World → Prop) (k_8 c_9 : Value) (w : World) : Prop :=
  Stp pg (sLoad 24 c_9) w fun t61 w =>
  Does pg F_normal_Check #[t61, (.int .i64 15)] w fun t62 w =>
  Stp pg (sLoad 24 c_9) w fun t64 w =>
  Does pg F_normal_Write #[t64] w fun t65 w =>
  Stp pg (sExtr t65 0) w fun t66 w =>
  Stp pg (sExtr t65 1) w fun t67 w =>
  Does pg F_normal_Read #[t66, (.int .i64 15), (.int .i64 256)] w fun t70 w =>
  Stp pg (sExtr t70 0) w fun t71 w =>
  Stp pg (sExtr t70 1) w fun t72 w =>
  Stp pg (sExtr t70 2) w fun t73 w =>
  Stp pg (sAlloc 24) w fun d_15 w =>
  Stp pg (sStore 24 d_15 t71) w fun _u w =>
  (dr w) = (dr w) ∧
  Stp pg (sBin .eql 29 (.tmp 74) (.const (.int .i64 0)) t62 (.int .i64 0)) (dr w) fun t75 w_ => w_ = (dr w) ∧
  (dr w) = (dr w) ∧
  Gd (isB t75 true) (fun K => K t67 (dr w)) (dr w) fun t77 w_ => w_ = (dr w) ∧
  Gd (isB t75 true) (fun K => Stp pg (sBin .eql 29 (.tmp 77) (.const (.int .i64 0)) t77 (.int .i64 0)) (dr w) K) (dr w) fun t78 w_ => w_ = (dr w) ∧
  Stp pg (sPick t75 t78 (.bool false)) (dr w) fun t79 w_ => w_ = (dr w) ∧
  (dr w) = (dr w) ∧
  Gd (isB t79 true) (fun K => K t73 (dr w)) (dr w) fun t81 w_ => w_ = (dr w) ∧
  Gd (isB t79 true) (fun K => Stp pg (sBin .eql 29 (.tmp 81) (.const (.int .i64 0)) t81 (.int .i64 0)) (dr w) K) (dr w) fun t82 w_ => w_ = (dr w) ∧
  Stp pg (sPick t79 t82 (.bool false)) (dr w) fun t83 w_ => w_ = (dr w) ∧
  (dr w) = (dr w) ∧
  Gd (isB t83 true) (fun K => K t72 (dr w)) (dr w) fun t85 w_ => w_ = (dr w) ∧
  Gd (isB t83 true) (fun K => K t66 (dr w)) (dr w) fun t86 w_ => w_ = (dr w) ∧
  Gd (isB t83 true) (fun K => Stp pg (sBi .len #[52] 3 [t86]) (dr w) K) (dr w) fun t87 w_ => w_ = (dr w) ∧
  Gd (isB t83 true) (fun K => Stp pg (sBin .eql 3 (.tmp 85) (.tmp 87) t85 t87) (dr w) K) (dr w) fun t88 w_ => w_ = (dr w) ∧
  Stp pg (sPick t83 t88 (.bool false)) (dr w) fun t89 w_ => w_ = (dr w) ∧
  (dr w) = (dr w) ∧
  Gd (isB t89 true) (fun K => Stp pg (sLoad 24 c_9) (dr w) K) (dr w) fun t91 w_ => w_ = (dr w) ∧
  Gd (isB t89 true) (fun K => Does pg F_law06_modelOf #[t91] (dr w) K) (dr w) fun t92 w20_18 =>
  Gd (isB t89 true) (fun K => Stp pg (sLoad 24 d_15) w20_18 K) w20_18 fun t93 w_ => w_ = w20_18 ∧
  (Gs (isB t89 true) (Same pg (sLoad 24 d_15) t93 (dr w)) ∧ True) ∧
  Gd (isB t89 true) (fun K => Does pg F_law06_modelOf #[t93] w20_18 K) w20_18 fun t94 w20_20 =>
  Gd (isB t89 true) (fun K => Does pg F_ref06_Same #[t92, t94] w20_20 K) w20_20 fun t95 w20_21 =>
  Stp pg (sPick t89 t95 (.bool false)) w20_21 fun t96 w_ => w_ = w20_21 ∧
  w20_21 = w20_21 ∧
  Gd (isB t96 true) (fun K => Stp pg (sLoad 24 c_9) w20_21 K) w20_21 fun t98 w_ => w_ = w20_21 ∧
  Gd (isB t96 true) (fun K => K k_8 w20_21) w20_21 fun t99 w_ => w_ = w20_21 ∧
  Gd (isB t96 true) (fun K => Stp pg (sBin .sub 3 (.tmp 99) (.const (.int .i64 1)) t99 (.int .i64 1)) w20_21 K) w20_21 fun t100 w_ => w_ = w20_21 ∧
  Gd (isB t96 true) (fun K => Does pg F_normal_Check #[t98, t100] w20_21 K) w20_21 fun t101 w20_27 =>
  Gd (isB t96 true) (fun K => Stp pg (sBin .eql 29 (.tmp 101) (.const (.int .i64 12)) t101 (.int .i64 12)) w20_27 K) w20_27 fun t102 w_ => w_ = w20_27 ∧
  Stp pg (sPick t96 t102 (.bool false)) w20_27 fun t103 w_ => w_ = w20_27 ∧
  w20_27 = w20_27 ∧
  R t103 w20_27
theorem law06_NormalLast_p1_ok (Q : Exit → Env → World → Prop) (g : Env) (w : World) (R : Value → World → Prop) (hr : ∀ g w, (resVals pg rs_law06_NormalLast g w fun vs => R (tup vs) w) → Q .ret g w) (h : law06_NormalLast_p1 R (g 8) (g 9) w) : den pg ann_law06_NormalLast (dropS 1 (dropS 1 (dropS 5 code_law06_NormalLast))) Q g w := by
  have e : (law06_NormalLast_p1 R (g 8) (g 9) w) = den pg ann_law06_NormalLast (dropS 1 (dropS 1 (dropS 5 code_law06_NormalLast))) (exQ (fun _ _ => False) (fun g w => resVals pg rs_law06_NormalLast g w fun vs => R (tup vs) w) []) g w := by kernel_rfl
  exact den_exQ e h (fun _ _ h => h.elim) hr trivial

def law06_NormalLast_p2 (kn : Value → Value → Value → World → Prop) (k2 : Value → Value → World → Prop) (k_8 c_9 i_11 : Value) (w : World) : Prop :=
  Stp pg (sCvt 3 50 k_8) w fun t43 w =>
  Stp pg (sBin .shl 3 (.const (.int .i64 1)) (.tmp 43) (.int .i64 1) t43) w fun t44 w =>
  Stp pg (sBin .lss 3 (.tmp 41) (.tmp 44) i_11 t44) w fun t45 w =>
  Cnd t45
    (Stp pg (sFAddr 24 c_9 1) w fun t48 w =>
    Stp pg (sLoad 22 t48) w fun t49 w =>
    Stp pg (sBuildSlice 22 1 [(0, (.int .i64 (-1)))]) w fun t50 w =>
    Stp pg (sBi .append #[22, 22] 22 [t49, t50]) w fun t51 w =>
    Stp pg (sFAddr 24 c_9 1) w fun t52 w =>
    Stp pg (sStore 22 t52 t51) w fun _u w =>
    Stp pg (sBin .add 3 (.tmp 46) (.const (.int .i64 1)) i_11 (.int .i64 1)) w fun t47 w =>
    kn k_8 c_9 t47 w)
    (k2 k_8 c_9 w)
theorem law06_NormalLast_p2_ok (Q : Exit → Env → World → Prop) (g : Env) (w : World) (kn : Value → Value → Value → World → Prop) (k2 : Value → Value → World → Prop) (hn : ∀ g w, kn (g 8) (g 9) (g 11) w → Q .normal g w) (h2 : ∀ g w, k2 (g 8) (g 9) w → Q (.exit 2) g w) (h : law06_NormalLast_p2 kn k2 (g 8) (g 9) (g 11) w) : den pg ann_law06_NormalLast (bI (bI (dropS 2 (cT (dropS 1 (takeS 1 (dropS 1 (dropS 5 code_law06_NormalLast)))))))) Q g w := by
  have e : (law06_NormalLast_p2 kn k2 (g 8) (g 9) (g 11) w) = den pg ann_law06_NormalLast (bI (bI (dropS 2 (cT (dropS 1 (takeS 1 (dropS 1 (dropS 5 code_law06_NormalLast)))))))) (exQ (fun g w => kn (g 8) (g 9) (g 11) w) (fun _ _ => False) [(2, fun g w => k2 (g 8) (g 9) w)]) g w := by kernel_rfl
  exact den_exQ e h hn (fun _ _ h => h.elim) ⟨h2, trivial⟩

def law06_NormalLast_p3 (k2 : Value → Value → World → Prop) (k_8 c_9 i_11 : Value) (w : World) : Prop :=
  LoopD (fun (X : Value → World → Prop) (t : Value) (w : World) => law06_NormalLast_p2 (fun _ _ i_11 w => X i_11 w) k2 k_8 c_9 t w) i_11 w
theorem law06_NormalLast_p3_ok (Q : Exit → Env → World → Prop) (g : Env) (w : World) (k2 : Value → Value → World → Prop) (h2 : ∀ g w, k2 (g 8) (g 9) w → Q (.exit 2) g w) (h : law06_NormalLast_p3 k2 (g 8) (g 9) (g 11) w) : den pg ann_law06_NormalLast (bI (dropS 2 (cT (dropS 1 (takeS 1 (dropS 1 (dropS 5 code_law06_NormalLast))))))) Q g w := by
  refine den_loops (T := Value) (fun g : Env => g 11) (fun X t w => law06_NormalLast_p2 (fun _ _ i_11 w => X i_11 w) k2 (g 8) (g 9) t w) (bI (dropS 2 (cT (dropS 1 (takeS 1 (dropS 1 (dropS 5 code_law06_NormalLast))))))) (by kernel_rfl) h (fun X g1 w1 ha h1 => ?_)
  rw [← agree_at (s := 8) ha (by kernel_rfl)] at h1
  rw [← agree_at (s := 9) ha (by kernel_rfl)] at h1
  exact (law06_NormalLast_p2_ok (thenE (fun g2 w2 => X ((fun g : Env => g 11) g2) w2) Q) g1 w1 (fun _ _ i_11 w => X i_11 w) k2 (fun _ _ h => h) h2 h1)

def law06_NormalLast_p4 (kn : Value → Value → World → Prop) (k_8 c_9 i_11 : Value) (w : World) : Prop :=
  law06_NormalLast_p3 kn k_8 c_9 i_11 w
theorem law06_NormalLast_p4_ok (Q : Exit → Env → World → Prop) (g : Env) (w : World) (kn : Value → Value → World → Prop) (hn : ∀ g w, kn (g 8) (g 9) w → Q .normal g w) (h : law06_NormalLast_p4 kn (g 8) (g 9) (g 11) w) : den pg ann_law06_NormalLast (dropS 2 (cT (dropS 1 (takeS 1 (dropS 1 (dropS 5 code_law06_NormalLast)))))) Q g w :=
  den_blk 2 (dropS 2 (cT (dropS 1 (takeS 1 (dropS 1 (dropS 5 code_law06_NormalLast)))))) g w (by kernel_rfl) (law06_NormalLast_p3_ok (blk 2 Q) g w kn hn h)

def law06_NormalLast_p5 (kn : Value → Value → Value → World → Prop) (k_8 c_9 : Value) (w : World) : Prop :=
  Stp pg (sFAddr 24 c_9 1) w fun t40 w =>
  Stp pg (sStore 22 t40 (.slice none 0 0)) w fun _u w =>
  kn k_8 c_9 (.int .i64 0) w
theorem law06_NormalLast_p5_ok (Q : Exit → Env → World → Prop) (g : Env) (w : World) (kn : Value → Value → Value → World → Prop) (hn : ∀ g w, kn (g 8) (g 9) (g 11) w → Q .normal g w) (h : law06_NormalLast_p5 kn (g 8) (g 9) w) : den pg ann_law06_NormalLast (takeS 2 (cT (dropS 1 (takeS 1 (dropS 1 (dropS 5 code_law06_NormalLast)))))) Q g w := by
  have e : (law06_NormalLast_p5 kn (g 8) (g 9) w) = den pg ann_law06_NormalLast (takeS 2 (cT (dropS 1 (takeS 1 (dropS 1 (dropS 5 code_law06_NormalLast)))))) (exQ (fun g w => kn (g 8) (g 9) (g 11) w) (fun _ _ => False) []) g w := by kernel_rfl
  exact den_exQ e h hn (fun _ _ h => h.elim) trivial

def law06_NormalLast_p6 (kn : Value → Value → World → Prop) (k_8 c_9 : Value) (w : World) : Prop :=
  law06_NormalLast_p5 (fun k_8 c_9 i_11 w => law06_NormalLast_p4 kn k_8 c_9 i_11 w) k_8 c_9 w
theorem law06_NormalLast_p6_ok (Q : Exit → Env → World → Prop) (g : Env) (w : World) (kn : Value → Value → World → Prop) (hn : ∀ g w, kn (g 8) (g 9) w → Q .normal g w) (h : law06_NormalLast_p6 kn (g 8) (g 9) w) : den pg ann_law06_NormalLast (cT (dropS 1 (takeS 1 (dropS 1 (dropS 5 code_law06_NormalLast))))) Q g w := by
  exact den_seqs 2 (cT (dropS 1 (takeS 1 (dropS 1 (dropS 5 code_law06_NormalLast))))) g w (by kernel_rfl) (law06_NormalLast_p5_ok (thenE (fun g w => den pg ann_law06_NormalLast (dropS 2 (cT (dropS 1 (takeS 1 (dropS 1 (dropS 5 code_law06_NormalLast)))))) Q g w) Q) g w (fun k_8 c_9 i_11 w => law06_NormalLast_p4 kn k_8 c_9 i_11 w) (fun g w h => thenE_n (K := fun g w => den pg ann_law06_NormalLast (dropS 2 (cT (dropS 1 (takeS 1 (dropS 1 (dropS 5 code_law06_NormalLast)))))) Q g w) (law06_NormalLast_p4_ok Q g w kn hn h)) h)

def law06_NormalLast_p7 (kn : Value → Value → World → Prop) (k_8 c_9 : Value) (w : World) : Prop :=
  Stp pg (sFAddr 24 c_9 1) w fun t53 w =>
  Stp pg (sLoad 22 t53) w fun t54 w =>
  Stp pg (sCvt 3 50 k_8) w fun t56 w =>
  Stp pg (sBin .shl 3 (.const (.int .i64 1)) (.tmp 56) (.int .i64 1) t56) w fun t57 w =>
  Stp pg (sBuildSlice 22 1 [(0, t57)]) w fun t58 w =>
  Stp pg (sBi .append #[22, 22] 22 [t54, t58]) w fun t59 w =>
  Stp pg (sFAddr 24 c_9 1) w fun t60 w =>
  Stp pg (sStore 22 t60 t59) w fun _u w =>
  kn k_8 c_9 w
theorem law06_NormalLast_p7_ok (Q : Exit → Env → World → Prop) (g : Env) (w : World) (kn : Value → Value → World → Prop) (hn : ∀ g w, kn (g 8) (g 9) w → Q .normal g w) (h : law06_NormalLast_p7 kn (g 8) (g 9) w) : den pg ann_law06_NormalLast (cE (dropS 1 (takeS 1 (dropS 1 (dropS 5 code_law06_NormalLast))))) Q g w := by
  have e : (law06_NormalLast_p7 kn (g 8) (g 9) w) = den pg ann_law06_NormalLast (cE (dropS 1 (takeS 1 (dropS 1 (dropS 5 code_law06_NormalLast))))) (exQ (fun g w => kn (g 8) (g 9) w) (fun _ _ => False) []) g w := by kernel_rfl
  exact den_exQ e h hn (fun _ _ h => h.elim) trivial

def law06_NormalLast_p8 (kn : Value → Value → World → Prop) (k_8 c_9 t39 : Value) (w : World) : Prop :=
  Cnd t39 (law06_NormalLast_p6 kn k_8 c_9 w) (law06_NormalLast_p7 kn k_8 c_9 w)
theorem law06_NormalLast_p8_ok (Q : Exit → Env → World → Prop) (g : Env) (w : World) (kn : Value → Value → World → Prop) (hn : ∀ g w, kn (g 8) (g 9) w → Q .normal g w) (h : law06_NormalLast_p8 kn (g 8) (g 9) (g 39) w) : den pg ann_law06_NormalLast (dropS 1 (takeS 1 (dropS 1 (dropS 5 code_law06_NormalLast)))) Q g w := by
  refine den_cnd (.tmp 39) (dropS 1 (takeS 1 (dropS 1 (dropS 5 code_law06_NormalLast)))) g w (by kernel_rfl) ?_
  exact Cnd_mono (fun h => (law06_NormalLast_p6_ok Q g w kn hn h)) (fun h => (law06_NormalLast_p7_ok Q g w kn hn h)) h

def law06_NormalLast_p9 (kn : Value → Value → Value → World → Prop) (rare_2 k_8 c_9 : Value) (w : World) : Prop :=
  kn k_8 c_9 rare_2 w
theorem law06_NormalLast_p9_ok (Q : Exit → Env → World → Prop) (g : Env) (w : World) (kn : Value → Value → Value → World → Prop) (hn : ∀ g w, kn (g 8) (g 9) (g 39) w → Q .normal g w) (h : law06_NormalLast_p9 kn (g 2) (g 8) (g 9) w) : den pg ann_law06_NormalLast (takeS 1 (takeS 1 (dropS 1 (dropS 5 code_law06_NormalLast)))) Q g w := by
  have e : (law06_NormalLast_p9 kn (g 2) (g 8) (g 9) w) = den pg ann_law06_NormalLast (takeS 1 (takeS 1 (dropS 1 (dropS 5 code_law06_NormalLast)))) (exQ (fun g w => kn (g 8) (g 9) (g 39) w) (fun _ _ => False) []) g w := by kernel_rfl
  exact den_exQ e h hn (fun _ _ h => h.elim) trivial

def law06_NormalLast_p10 (kn : Value → Value → World → Prop) (rare_2 k_8 c_9 : Value) (w : World) : Prop :=
  law06_NormalLast_p9 (fun k_8 c_9 t39 w => law06_NormalLast_p8 kn k_8 c_9 t39 w) rare_2 k_8 c_9 w
theorem law06_NormalLast_p10_ok (Q : Exit → Env → World → Prop) (g : Env) (w : World) (kn : Value → Value → World → Prop) (hn : ∀ g w, kn (g 8) (g 9) w → Q .normal g w) (h : law06_NormalLast_p10 kn (g 2) (g 8) (g 9) w) : den pg ann_law06_NormalLast (takeS 1 (dropS 1 (dropS 5 code_law06_NormalLast))) Q g w := by
  exact den_seqs 1 (takeS 1 (dropS 1 (dropS 5 code_law06_NormalLast))) g w (by kernel_rfl) (law06_NormalLast_p9_ok (thenE (fun g w => den pg ann_law06_NormalLast (dropS 1 (takeS 1 (dropS 1 (dropS 5 code_law06_NormalLast)))) Q g w) Q) g w (fun k_8 c_9 t39 w => law06_NormalLast_p8 kn k_8 c_9 t39 w) (fun g w h => thenE_n (K := fun g w => den pg ann_law06_NormalLast (dropS 1 (takeS 1 (dropS 1 (dropS 5 code_law06_NormalLast)))) Q g w) (law06_NormalLast_p8_ok Q g w kn hn h)) h)

def law06_NormalLast_p11 (R : Value → World → Prop) (rare_2 k_8 c_9 : Value) (w : World) : Prop :=
  law06_NormalLast_p10 (fun k_8 c_9 w => law06_NormalLast_p1 R k_8 c_9 w) rare_2 k_8 c_9 w
theorem law06_NormalLast_p11_ok (Q : Exit → Env → World → Prop) (g : Env) (w : World) (R : Value → World → Prop) (hr : ∀ g w, (resVals pg rs_law06_NormalLast g w fun vs => R (tup vs) w) → Q .ret g w) (h : law06_NormalLast_p11 R (g 2) (g 8) (g 9) w) : den pg ann_law06_NormalLast (dropS 1 (dropS 5 code_law06_NormalLast)) Q g w := by
  exact den_seqs 1 (dropS 1 (dropS 5 code_law06_NormalLast)) g w (by kernel_rfl) (law06_NormalLast_p10_ok (thenE (fun g w => den pg ann_law06_NormalLast (dropS 1 (dropS 1 (dropS 5 code_law06_NormalLast))) Q g w) Q) g w (fun k_8 c_9 w => law06_NormalLast_p1 R k_8 c_9 w) (fun g w h => thenE_n (K := fun g w => den pg ann_law06_NormalLast (dropS 1 (dropS 1 (dropS 5 code_law06_NormalLast))) Q g w) (law06_NormalLast_p1_ok Q g w R hr h)) h)

def law06_NormalLast_p12 (kn : Value → Value → Value → Value → Value → World → Prop) (k0 : Value → Value → Value → World → Prop) (n_1 rare_2 k_8 c_9 i_10 : Value) (w : World) : Prop :=
  Stp pg (sBin .rem 5 (.tmp 28) (.const (.int .u8 20)) n_1 (.int .u8 20)) w fun t29 w =>
  Stp pg (sCvt 5 3 t29) w fun t30 w =>
  Stp pg (sBin .lss 3 (.tmp 27) (.tmp 30) i_10 t30) w fun t31 w =>
  Cnd t31
    (Stp pg (sFAddr 24 c_9 1) w fun t34 w =>
    Stp pg (sLoad 22 t34) w fun t35 w =>
    Stp pg (sBuildSlice 22 1 [(0, (.int .i64 0))]) w fun t36 w =>
    Stp pg (sBi .append #[22, 22] 22 [t35, t36]) w fun t37 w =>
    Stp pg (sFAddr 24 c_9 1) w fun t38 w =>
    Stp pg (sStore 22 t38 t37) w fun _u w =>
    Stp pg (sBin .add 3 (.tmp 32) (.const (.int .i64 1)) i_10 (.int .i64 1)) w fun t33 w =>
    kn n_1 rare_2 k_8 c_9 t33 w)
    (k0 rare_2 k_8 c_9 w)
theorem law06_NormalLast_p12_ok (Q : Exit → Env → World → Prop) (g : Env) (w : World) (kn : Value → Value → Value → Value → Value → World → Prop) (k0 : Value → Value → Value → World → Prop) (hn : ∀ g w, kn (g 1) (g 2) (g 8) (g 9) (g 10) w → Q .normal g w) (h0 : ∀ g w, k0 (g 2) (g 8) (g 9) w → Q (.exit 0) g w) (h : law06_NormalLast_p12 kn k0 (g 1) (g 2) (g 8) (g 9) (g 10) w) : den pg ann_law06_NormalLast (bI (bI (dropS 1 (takeS 1 (dropS 5 code_law06_NormalLast))))) Q g w := by
  have e : (law06_NormalLast_p12 kn k0 (g 1) (g 2) (g 8) (g 9) (g 10) w) = den pg ann_law06_NormalLast (bI (bI (dropS 1 (takeS 1 (dropS 5 code_law06_NormalLast))))) (exQ (fun g w => kn (g 1) (g 2) (g 8) (g 9) (g 10) w) (fun _ _ => False) [(0, fun g w => k0 (g 2) (g 8) (g 9) w)]) g w := by kernel_rfl
  exact den_exQ e h hn (fun _ _ h => h.elim) ⟨h0, trivial⟩

def law06_NormalLast_p13 (k0 : Value → Value → Value → World → Prop) (n_1 rare_2 k_8 c_9 i_10 : Value) (w : World) : Prop :=
  LoopD (fun (X : Value → World → Prop) (t : Value) (w : World) => law06_NormalLast_p12 (fun _ _ _ _ i_10 w => X i_10 w) k0 n_1 rare_2 k_8 c_9 t w) i_10 w
theorem law06_NormalLast_p13_ok (Q : Exit → Env → World → Prop) (g : Env) (w : World) (k0 : Value → Value → Value → World → Prop) (h0 : ∀ g w, k0 (g 2) (g 8) (g 9) w → Q (.exit 0) g w) (h : law06_NormalLast_p13 k0 (g 1) (g 2) (g 8) (g 9) (g 10) w) : den pg ann_law06_NormalLast (bI (dropS 1 (takeS 1 (dropS 5 code_law06_NormalLast)))) Q g w := by
  refine den_loops (T := Value) (fun g : Env => g 10) (fun X t w => law06_NormalLast_p12 (fun _ _ _ _ i_10 w => X i_10 w) k0 (g 1) (g 2) (g 8) (g 9) t w) (bI (dropS 1 (takeS 1 (dropS 5 code_law06_NormalLast)))) (by kernel_rfl) h (fun X g1 w1 ha h1 => ?_)
  rw [← agree_at (s := 1) ha (by kernel_rfl)] at h1
  rw [← agree_at (s := 2) ha (by kernel_rfl)] at h1
  rw [← agree_at (s := 8) ha (by kernel_rfl)] at h1
  rw [← agree_at (s := 9) ha (by kernel_rfl)] at h1
  exact (law06_NormalLast_p12_ok (thenE (fun g2 w2 => X ((fun g : Env => g 10) g2) w2) Q) g1 w1 (fun _ _ _ _ i_10 w => X i_10 w) k0 (fun _ _ h => h) h0 h1)

def law06_NormalLast_p14 (kn : Value → Value → Value → World → Prop) (n_1 rare_2 k_8 c_9 i_10 : Value) (w : World) : Prop :=
  law06_NormalLast_p13 kn n_1 rare_2 k_8 c_9 i_10 w
theorem law06_NormalLast_p14_ok (Q : Exit → Env → World → Prop) (g : Env) (w : World) (kn : Value → Value → Value → World → Prop) (hn : ∀ g w, kn (g 2) (g 8) (g 9) w → Q .normal g w) (h : law06_NormalLast_p14 kn (g 1) (g 2) (g 8) (g 9) (g 10) w) : den pg ann_law06_NormalLast (dropS 1 (takeS 1 (dropS 5 code_law06_NormalLast))) Q g w :=
  den_blk 0 (dropS 1 (takeS 1 (dropS 5 code_law06_NormalLast))) g w (by kernel_rfl) (law06_NormalLast_p13_ok (blk 0 Q) g w kn hn h)

def law06_NormalLast_p15 (kn : Value → Value → Value → Value → Value → World → Prop) (n_1 rare_2 k_8 c_9 : Value) (w : World) : Prop :=
  kn n_1 rare_2 k_8 c_9 (.int .i64 0) w
theorem law06_NormalLast_p15_ok (Q : Exit → Env → World → Prop) (g : Env) (w : World) (kn : Value → Value → Value → Value → Value → World → Prop) (hn : ∀ g w, kn (g 1) (g 2) (g 8) (g 9) (g 10) w → Q .normal g w) (h : law06_NormalLast_p15 kn (g 1) (g 2) (g 8) (g 9) w) : den pg ann_law06_NormalLast (takeS 1 (takeS 1 (dropS 5 code_law06_NormalLast))) Q g w := by
  have e : (law06_NormalLast_p15 kn (g 1) (g 2) (g 8) (g 9) w) = den pg ann_law06_NormalLast (takeS 1 (takeS 1 (dropS 5 code_law06_NormalLast))) (exQ (fun g w => kn (g 1) (g 2) (g 8) (g 9) (g 10) w) (fun _ _ => False) []) g w := by kernel_rfl
  exact den_exQ e h hn (fun _ _ h => h.elim) trivial

def law06_NormalLast_p16 (kn : Value → Value → Value → World → Prop) (n_1 rare_2 k_8 c_9 : Value) (w : World) : Prop :=
  law06_NormalLast_p15 (fun n_1 rare_2 k_8 c_9 i_10 w => law06_NormalLast_p14 kn n_1 rare_2 k_8 c_9 i_10 w) n_1 rare_2 k_8 c_9 w
theorem law06_NormalLast_p16_ok (Q : Exit → Env → World → Prop) (g : Env) (w : World) (kn : Value → Value → Value → World → Prop) (hn : ∀ g w, kn (g 2) (g 8) (g 9) w → Q .normal g w) (h : law06_NormalLast_p16 kn (g 1) (g 2) (g 8) (g 9) w) : den pg ann_law06_NormalLast (takeS 1 (dropS 5 code_law06_NormalLast)) Q g w := by
  exact den_seqs 1 (takeS 1 (dropS 5 code_law06_NormalLast)) g w (by kernel_rfl) (law06_NormalLast_p15_ok (thenE (fun g w => den pg ann_law06_NormalLast (dropS 1 (takeS 1 (dropS 5 code_law06_NormalLast))) Q g w) Q) g w (fun n_1 rare_2 k_8 c_9 i_10 w => law06_NormalLast_p14 kn n_1 rare_2 k_8 c_9 i_10 w) (fun g w h => thenE_n (K := fun g w => den pg ann_law06_NormalLast (dropS 1 (takeS 1 (dropS 5 code_law06_NormalLast))) Q g w) (law06_NormalLast_p14_ok Q g w kn hn h)) h)

def law06_NormalLast_p17 (R : Value → World → Prop) (n_1 rare_2 k_8 c_9 : Value) (w : World) : Prop :=
  law06_NormalLast_p16 (fun rare_2 k_8 c_9 w => law06_NormalLast_p11 R rare_2 k_8 c_9 w) n_1 rare_2 k_8 c_9 w
theorem law06_NormalLast_p17_ok (Q : Exit → Env → World → Prop) (g : Env) (w : World) (R : Value → World → Prop) (hr : ∀ g w, (resVals pg rs_law06_NormalLast g w fun vs => R (tup vs) w) → Q .ret g w) (h : law06_NormalLast_p17 R (g 1) (g 2) (g 8) (g 9) w) : den pg ann_law06_NormalLast (dropS 5 code_law06_NormalLast) Q g w := by
  exact den_seqs 1 (dropS 5 code_law06_NormalLast) g w (by kernel_rfl) (law06_NormalLast_p16_ok (thenE (fun g w => den pg ann_law06_NormalLast (dropS 1 (dropS 5 code_law06_NormalLast)) Q g w) Q) g w (fun rare_2 k_8 c_9 w => law06_NormalLast_p11 R rare_2 k_8 c_9 w) (fun g w h => thenE_n (K := fun g w => den pg ann_law06_NormalLast (dropS 1 (dropS 5 code_law06_NormalLast)) Q g w) (law06_NormalLast_p11_ok Q g w R hr h)) h)

def law06_NormalLast_p18 (kn : Value → Value → Value → Value → World → Prop) (R : Value → World → Prop) (log_0 n_1 rare_2 : Value) (w : World) : Prop :=
  Does pg F_law06_awake #[] w fun t18 w =>
  Stp pg (sUn .not t18) w fun t20 w =>
  Cnd t20
    (R (.bool false) w)
    (Stp pg (sBin .rem 5 (.tmp 21) (.const (.int .u8 4)) log_0 (.int .u8 4)) w fun t22 w =>
    Stp pg (sCvt 5 3 t22) w fun t23 w =>
    Stp pg (sBin .add 3 (.const (.int .i64 5)) (.tmp 23) (.int .i64 5) t23) w fun t24 w =>
    Stp pg (sBuild 24 [(0, t24)]) w fun t26 w =>
    Stp pg (sAlloc 24) w fun c_9 w =>
    Stp pg (sStore 24 c_9 t26) w fun _u w =>
    kn n_1 rare_2 t24 c_9 w)
theorem law06_NormalLast_p18_ok (Q : Exit → Env → World → Prop) (g : Env) (w : World) (kn : Value → Value → Value → Value → World → Prop) (R : Value → World → Prop) (hn : ∀ g w, kn (g 1) (g 2) (g 8) (g 9) w → Q .normal g w) (hr : ∀ g w, (resVals pg rs_law06_NormalLast g w fun vs => R (tup vs) w) → Q .ret g w) (h : law06_NormalLast_p18 kn R (g 0) (g 1) (g 2) w) : den pg ann_law06_NormalLast (takeS 5 code_law06_NormalLast) Q g w := by
  have e : (law06_NormalLast_p18 kn R (g 0) (g 1) (g 2) w) = den pg ann_law06_NormalLast (takeS 5 code_law06_NormalLast) (exQ (fun g w => kn (g 1) (g 2) (g 8) (g 9) w) (fun g w => resVals pg rs_law06_NormalLast g w fun vs => R (tup vs) w) []) g w := by kernel_rfl
  exact den_exQ e h hn hr trivial

def law06_NormalLast_p19 (R : Value → World → Prop) (log_0 n_1 rare_2 : Value) (w : World) : Prop :=
  law06_NormalLast_p18 (fun n_1 rare_2 k_8 c_9 w => law06_NormalLast_p17 R n_1 rare_2 k_8 c_9 w) R log_0 n_1 rare_2 w
theorem law06_NormalLast_p19_ok (Q : Exit → Env → World → Prop) (g : Env) (w : World) (R : Value → World → Prop) (hr : ∀ g w, (resVals pg rs_law06_NormalLast g w fun vs => R (tup vs) w) → Q .ret g w) (h : law06_NormalLast_p19 R (g 0) (g 1) (g 2) w) : den pg ann_law06_NormalLast code_law06_NormalLast Q g w := by
  exact den_seqs 5 code_law06_NormalLast g w (by kernel_rfl) (law06_NormalLast_p18_ok (thenE (fun g w => den pg ann_law06_NormalLast (dropS 5 code_law06_NormalLast) Q g w) Q) g w (fun n_1 rare_2 k_8 c_9 w => law06_NormalLast_p17 R n_1 rare_2 k_8 c_9 w) R (fun g w h => thenE_n (K := fun g w => den pg ann_law06_NormalLast (dropS 5 code_law06_NormalLast) Q g w) (law06_NormalLast_p17_ok Q g w R hr h)) hr h)

def law06_NormalLast (a0 a1 a2 : Value) (w : World) (R : Value → World → Prop) : Prop :=
  law06_NormalLast_p19 R a0 a1 a2 w
theorem law06_NormalLast_does {a0 a1 a2 : Value} {w : World} {R : Value → World → Prop} (h : law06_NormalLast a0 a1 a2 w R) : Does pg F_law06_NormalLast #[a0, a1, a2] w R := by
  refine does_of_den (ann := ann_law06_NormalLast) (fn := Try.f12) (c := code_law06_NormalLast) (args := [a0, a1, a2]) (rs := rs_law06_NormalLast) (N := 104) TryM.mixed (by kernel_rfl) Try.func12 (by kernel_rfl) (by kernel_rfl) (by kernel_rfl) (of_decide_eq_true (by kernel_rfl)) (by kernel_rfl) ?_
  exact (law06_NormalLast_p19_ok (retQ pg rs_law06_NormalLast R) (envOf [a0, a1, a2]) w R (fun _ _ h => h) h)
-- PIECES law06_NormalLast/0 law06_NormalLast_p1 law06_NormalLast_p3 law06_NormalLast_p4 law06_NormalLast_p5 law06_NormalLast_p6 law06_NormalLast_p7 law06_NormalLast_p8 law06_NormalLast_p9 law06_NormalLast_p10 law06_NormalLast_p11 law06_NormalLast_p13 law06_NormalLast_p14 law06_NormalLast_p15 law06_NormalLast_p16 law06_NormalLast_p17 law06_NormalLast_p18 law06_NormalLast_p19
-- PIECES law06_NormalLast/1 law06_NormalLast_p2
-- PIECES law06_NormalLast/2 law06_NormalLast_p12

end Go.Proofs.Ytcbkdccobhkbpaa

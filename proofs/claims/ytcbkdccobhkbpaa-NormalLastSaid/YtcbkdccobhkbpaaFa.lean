/- The pieces of bodies, written by a program of ours off the loaded code, each with its proof. -/
import Derived.Test.YtcbkdccobhkbpaaF
namespace Go.Proofs.Ytcbkdccobhkbpaa
open Go Go.En
set_option linter.unusedVariables false
set_option maxRecDepth 20000
attribute [local irreducible] Go.En.den
variable (Q : Exit → Env → World → Prop) (g : Env) (w : World)
/- lighterman/lightermanlaw07.FseBuilds -/
def ann_law07_FseBuilds : FA := ⟨F_law07_FseBuilds, fun i => .leaf ([], []) []⟩
def rs_law07_FseBuilds : List ResultVar := [.tmp 2]
noncomputable def code_law07_FseBuilds : Code := bodyOf Try.f3
def law07_FseBuilds_p1 (R : K1) (c_0 : Value) (w : World) : Prop :=
  Stp pg (sBox 24 c_0) w fun c_1 w =>
  Does pg F_law07_awake #[] w fun t8 w =>
  Stp pg (sUn .not t8) w fun t10 w =>
  Cnd t10
    (R (.bool false) w)
    (Stp pg (sFAddr 24 c_1 1) w fun t11 w =>
    Stp pg (sLoad 22 t11) w fun t12 w =>
    Stp pg (sBi .len #[22] 3 [t12]) w fun t13 w =>
    Stp pg (sBin .gtr 3 (.tmp 13) (.const (.int .i64 300)) t13 (.int .i64 300)) w fun t14 w =>
    Gd (isB t14 false) (fun K => Stp pg (sFAddr 24 c_1 0) w K) w fun t16 w =>
    Gd (isB t14 false) (fun K => Stp pg (sLoad 3 t16) w K) w fun t17 w =>
    Gd (isB t14 false) (fun K => Stp pg (sBin .gtr 3 (.tmp 17) (.const (.int .i64 10)) t17 (.int .i64 10)) w K) w fun t18 w =>
    Gd (isB t14 false) (fun K => K t18 w) w fun t19 w =>
    Gd (isB t19 true) (fun K => Stp pg (sFAddr 24 c_1 0) w K) w fun t20 w =>
    Gd (isB t19 true) (fun K => Stp pg (sLoad 3 t20) w K) w fun t21 w =>
    Gd (isB t19 true) (fun K => Stp pg (sBin .leq 3 (.tmp 21) (.const (.int .i64 15)) t21 (.int .i64 15)) w K) w fun t22 w =>
    Gd (isB t14 false) (fun K => Stp pg (sPick t19 t22 (.bool false)) w K) w fun t23 w =>
    Stp pg (sPick t14 (.bool true) t23) w fun t24 w =>
    Cnd t24
      (R (.bool true) w)
      (Stp pg (sLoad 24 c_1) w fun t26 w =>
      Does pg F_fse_Build #[t26] w fun t27 w =>
      Stp pg (sExtr t27 0) w fun t28 w =>
      Stp pg (sExtr t27 1) w fun t29 w =>
      Stp pg (sAlloc 28) w fun t4 w =>
      Stp pg (sStore 28 t4 t28) w fun _u w =>
      Stp pg (sLoad 24 c_1) w fun t31 w =>
      Does pg F_law07_modelOf #[t31] w fun t32 w =>
      Does pg F_ref07_Build #[t32] w fun t33 w =>
      Stp pg (sExtr t33 0) w fun t34 w =>
      Stp pg (sExtr t33 1) w fun t35 w =>
      Stp pg (sAlloc 34) w fun w_6 w =>
      Stp pg (sStore 34 w_6 t34) w fun _u w =>
      Stp pg (sBin .eql 29 (.tmp 36) (.tmp 37) t29 t35) w fun t38 w =>
      Gd (isB t38 true) (fun K => Stp pg (sLoad 28 t4) w K) w fun t40 w =>
      Gd (isB t38 true) (fun K => Stp pg (sLoad 34 w_6) w K) w fun t41 w =>
      Gd (isB t38 true) (fun K => Does pg F_law07_sameTable #[t40, t41] w K) w fun t42 w =>
      Stp pg (sPick t38 t42 (.bool false)) w fun t43 w =>
      R t43 w))
theorem law07_FseBuilds_p1_ok (R : K1) (hr : HR rs_law07_FseBuilds R Q) (h : law07_FseBuilds_p1 R (g 0) w) : den pg ann_law07_FseBuilds code_law07_FseBuilds Q g w :=
  den_exQ (kn := no) (l := []) (by kernel_rfl) h noE hr trivial

def law07_FseBuilds (a0 : Value) (w : World) (R : K1) : Prop :=
  law07_FseBuilds_p1 R a0 w
theorem law07_FseBuilds_does {a0 : Value} {w : World} {R : K1} (h : law07_FseBuilds a0 w R) : Does pg F_law07_FseBuilds #[a0] w R := by
  refine does_of_den (ann := ann_law07_FseBuilds) (fn := Try.f3) (c := code_law07_FseBuilds) (args := [a0]) (rs := rs_law07_FseBuilds) (N := 44) TryM.mixed (by kernel_rfl) Try.func3 (by kernel_rfl) (by kernel_rfl) (by kernel_rfl) (of_decide_eq_true (by kernel_rfl)) (by kernel_rfl) ?_
  exact (law07_FseBuilds_p1_ok (retQ pg rs_law07_FseBuilds R) (envOf [a0]) w R (fun _ _ h => h) h)
-- PIECES law07_FseBuilds/0 law07_FseBuilds_p1

/- lighterman/lightermanlaw07.FseParts -/
def ann_law07_FseParts : FA := ⟨F_law07_FseParts, fun i => match Nat.beq i 21 with | true => .leaf ([], []) [(false, []), (false, []), (false, []), (false, []), (false, []), (false, []), (false, []), (false, []), (false, []), (false, []), (false, []), (false, []), (false, []), (false, []), (false, []), (false, []), (false, []), (false, []), (false, []), (false, []), (false, []), (false, []), (false, []), (false, []), (false, []), (false, []), (false, []), (false, []), (false, [])] | false => .leaf ([], []) []⟩
def rs_law07_FseParts : List ResultVar := [.tmp 2]
noncomputable def code_law07_FseParts : Code := bodyOf Try.f4
def law07_FseParts_p1 (R : K1)  (w : World) : Prop :=
  R (.bool true) w
theorem law07_FseParts_p1_ok (R : K1) (hr : HR rs_law07_FseParts R Q) (h : law07_FseParts_p1 R w) : den pg ann_law07_FseParts (dropS 1 (dropS 1 (dropS 1 (dropS 7 code_law07_FseParts)))) Q g w :=
  den_exQ (kn := no) (l := []) (by kernel_rfl) h noE hr trivial

def law07_FseParts_p2 (kn : K5) (c_1 t4 n_6 t8 s_9 : Value) (w : World) : Prop :=
  Stp pg (sBin .add 3 (.tmp 60) (.const (.int .i64 1)) s_9 (.int .i64 1)) w fun t61 w =>
  kn c_1 t4 n_6 t8 t61 w
theorem law07_FseParts_p2_ok (kn : K5) (hn : ∀ g w, kn (g 1) (g 4) (g 6) (g 8) (g 9) w → Q .normal g w) (h : law07_FseParts_p2 kn (g 1) (g 4) (g 6) (g 8) (g 9) w) : den pg ann_law07_FseParts (dropS 1 (dropS 1 (bI (bI (dropS 1 (takeS 1 (dropS 1 (dropS 1 (dropS 7 code_law07_FseParts))))))))) Q g w :=
  den_exQ (kr := no) (l := []) (by kernel_rfl) h hn noE trivial

def law07_FseParts_p3 (kn : K5) (R : K1) (c_1 t4 n_6 t8 s_9 want_10 : Value) (w : World) : Prop :=
  Stp pg (sIAddr 41 n_6 s_9) w fun t101 w =>
  Stp pg (sLoad 3 t101) w fun t102 w =>
  Stp pg (sBin .neq 3 (.tmp 102) (.tmp 103) t102 want_10) w fun t104 w =>
  Cnd t104
    (R (.bool false) w)
    (kn c_1 t4 n_6 t8 s_9 w)
theorem law07_FseParts_p3_ok (kn : K5) (R : K1) (hn : ∀ g w, kn (g 1) (g 4) (g 6) (g 8) (g 9) w → Q .normal g w) (hr : HR rs_law07_FseParts R Q) (h : law07_FseParts_p3 kn R (g 1) (g 4) (g 6) (g 8) (g 9) (g 10) w) : den pg ann_law07_FseParts (dropS 2 (bI (takeS 1 (dropS 1 (bI (bI (dropS 1 (takeS 1 (dropS 1 (dropS 1 (dropS 7 code_law07_FseParts))))))))))) Q g w :=
  den_exQ (l := []) (by kernel_rfl) h hn hr trivial

def law07_FseParts_p4 (kn : K6) (R : K1) (c_1 t4 n_6 t8 s_9 : Value) (w : World) : Prop :=
  Stp pg (sFAddr 24 c_1 1) w fun t62 w =>
  Stp pg (sLoad 22 t62) w fun t63 w =>
  Stp pg (sIAddr 22 t63 s_9) w fun t65 w =>
  Stp pg (sLoad 3 t65) w fun t66 w =>
  Stp pg (sBin .lss 3 (.tmp 67) (.const (.int .i64 0)) t66 (.int .i64 0)) w fun t68 w =>
  Cnd t68
    (Stp pg (sFAddr 28 t4 1) (dr w) fun t69 w_ => w_ = (dr w) ∧
    Stp pg (sLoad 26 t69) (dr w) fun t70 w_ => w_ = (dr w) ∧
    (dr w) = (dr w) ∧
    Stp pg (sIAddr 26 t70 t8) (dr w) fun t72 w_ => w_ = (dr w) ∧
    Stp pg (sFAddr 43 t72 0) (dr w) fun t73 w_ => w_ = (dr w) ∧
    Stp pg (sLoad 5 t73) (dr w) fun t74 w_ => w_ = (dr w) ∧
    Stp pg (sCvt 5 3 t74) (dr w) fun t75 w_ => w_ = (dr w) ∧
    (dr w) = (dr w) ∧
    Stp pg (sBin .neq 3 (.tmp 75) (.tmp 76) t75 s_9) (dr w) fun t77 w_ => w_ = (dr w) ∧
    (dr w) = (dr w) ∧
    Gd (isB t77 false) (fun K => Stp pg (sFAddr 28 t4 1) (dr w) K) (dr w) fun t79 w_ => w_ = (dr w) ∧
    Gd (isB t77 false) (fun K => Stp pg (sLoad 26 t79) (dr w) K) (dr w) fun t80 w_ => w_ = (dr w) ∧
    Gd (isB t77 false) (fun K => K t8 (dr w)) (dr w) fun t81 w_ => w_ = (dr w) ∧
    Gd (isB t77 false) (fun K => Stp pg (sIAddr 26 t80 t81) (dr w) K) (dr w) fun t82 w_ => w_ = (dr w) ∧
    Gd (isB t77 false) (fun K => Stp pg (sFAddr 43 t82 1) (dr w) K) (dr w) fun t83 w_ => w_ = (dr w) ∧
    Gd (isB t77 false) (fun K => Stp pg (sLoad 3 t83) (dr w) K) (dr w) fun t84 w_ => w_ = (dr w) ∧
    Gd (isB t77 false) (fun K => Stp pg (sFAddr 28 t4 0) (dr w) K) (dr w) fun t85 w_ => w_ = (dr w) ∧
    Gd (isB t77 false) (fun K => Stp pg (sLoad 3 t85) (dr w) K) (dr w) fun t86 w_ => w_ = (dr w) ∧
    Gd (isB t77 false) (fun K => Stp pg (sBin .neq 3 (.tmp 84) (.tmp 86) t84 t86) (dr w) K) (dr w) fun t87 w_ => w_ = (dr w) ∧
    Stp pg (sPick t77 (.bool true) t87) (dr w) fun t88 w_ => w_ = (dr w) ∧
    (dr w) = (dr w) ∧
    Gd (isB t88 false) (fun K => Stp pg (sFAddr 28 t4 1) (dr w) K) (dr w) fun t90 w_ => w_ = (dr w) ∧
    Gd (isB t88 false) (fun K => Stp pg (sLoad 26 t90) (dr w) K) (dr w) fun t91 w_ => w_ = (dr w) ∧
    Gd (isB t88 false) (fun K => K t8 (dr w)) (dr w) fun t92 w_ => w_ = (dr w) ∧
    Gd (isB t88 false) (fun K => Stp pg (sIAddr 26 t91 t92) (dr w) K) (dr w) fun t93 w_ => w_ = (dr w) ∧
    Gd (isB t88 false) (fun K => Stp pg (sFAddr 43 t93 2) (dr w) K) (dr w) fun t94 w_ => w_ = (dr w) ∧
    Gd (isB t88 false) (fun K => Stp pg (sLoad 3 t94) (dr w) K) (dr w) fun t95 w_ => w_ = (dr w) ∧
    Gd (isB t88 false) (fun K => Stp pg (sBin .neq 3 (.tmp 95) (.const (.int .i64 0)) t95 (.int .i64 0)) (dr w) K) (dr w) fun t96 w_ => w_ = (dr w) ∧
    Stp pg (sPick t88 (.bool true) t96) (dr w) fun t97 w_ => w_ = (dr w) ∧
    Cnd t97
      (R (.bool false) (dr w))
      (Stp pg (sBin .sub 3 (.tmp 98) (.const (.int .i64 1)) t8 (.int .i64 1)) (dr w) fun t99 w =>
      kn c_1 t4 n_6 t99 s_9 (.int .i64 1) w))
    (kn c_1 t4 n_6 t8 s_9 t66 w)
theorem law07_FseParts_p4_ok (kn : K6) (R : K1) (hn : ∀ g w, kn (g 1) (g 4) (g 6) (g 8) (g 9) (g 10) w → Q .normal g w) (hr : HR rs_law07_FseParts R Q) (h : law07_FseParts_p4 kn R (g 1) (g 4) (g 6) (g 8) (g 9) w) : den pg ann_law07_FseParts (takeS 2 (bI (takeS 1 (dropS 1 (bI (bI (dropS 1 (takeS 1 (dropS 1 (dropS 1 (dropS 7 code_law07_FseParts))))))))))) Q g w :=
  den_exQ (l := []) (by kernel_rfl) h hn hr trivial

def law07_FseParts_p5 (kn : K5) (R : K1) (c_1 t4 n_6 t8 s_9 : Value) (w : World) : Prop :=
  law07_FseParts_p4 (fun c_1 t4 n_6 t8 s_9 want_10 w => law07_FseParts_p3 kn R c_1 t4 n_6 t8 s_9 want_10 w) R c_1 t4 n_6 t8 s_9 w
theorem law07_FseParts_p5_ok (kn : K5) (R : K1) (hn : ∀ g w, kn (g 1) (g 4) (g 6) (g 8) (g 9) w → Q .normal g w) (hr : HR rs_law07_FseParts R Q) (h : law07_FseParts_p5 kn R (g 1) (g 4) (g 6) (g 8) (g 9) w) : den pg ann_law07_FseParts (bI (takeS 1 (dropS 1 (bI (bI (dropS 1 (takeS 1 (dropS 1 (dropS 1 (dropS 7 code_law07_FseParts)))))))))) Q g w :=
  den_seqs 2 _ g w (by kernel_rfl) (law07_FseParts_p4_ok (thenE (fun g w => den pg ann_law07_FseParts (dropS 2 (bI (takeS 1 (dropS 1 (bI (bI (dropS 1 (takeS 1 (dropS 1 (dropS 1 (dropS 7 code_law07_FseParts))))))))))) Q g w) Q) g w (fun c_1 t4 n_6 t8 s_9 want_10 w => law07_FseParts_p3 kn R c_1 t4 n_6 t8 s_9 want_10 w) R (fun g w h => thenE_n (K := fun g w => den pg ann_law07_FseParts (dropS 2 (bI (takeS 1 (dropS 1 (bI (bI (dropS 1 (takeS 1 (dropS 1 (dropS 1 (dropS 7 code_law07_FseParts))))))))))) Q g w) (law07_FseParts_p3_ok Q g w kn R hn hr h)) hr h)

def law07_FseParts_p6 (kn : K5) (R : K1) (c_1 t4 n_6 t8 s_9 : Value) (w : World) : Prop :=
  law07_FseParts_p5 kn R c_1 t4 n_6 t8 s_9 w
theorem law07_FseParts_p6_ok (kn : K5) (R : K1) (hn : ∀ g w, kn (g 1) (g 4) (g 6) (g 8) (g 9) w → Q .normal g w) (hr : HR rs_law07_FseParts R Q) (h : law07_FseParts_p6 kn R (g 1) (g 4) (g 6) (g 8) (g 9) w) : den pg ann_law07_FseParts (takeS 1 (dropS 1 (bI (bI (dropS 1 (takeS 1 (dropS 1 (dropS 1 (dropS 7 code_law07_FseParts))))))))) Q g w :=
  den_blk 3 _ g w (by kernel_rfl) (law07_FseParts_p5_ok (blk 3 Q) g w kn R hn hr h)

def law07_FseParts_p7 (kn : K5) (R : K1) (c_1 t4 n_6 t8 s_9 : Value) (w : World) : Prop :=
  law07_FseParts_p6 (fun c_1 t4 n_6 t8 s_9 w => law07_FseParts_p2 kn c_1 t4 n_6 t8 s_9 w) R c_1 t4 n_6 t8 s_9 w
theorem law07_FseParts_p7_ok (kn : K5) (R : K1) (hn : ∀ g w, kn (g 1) (g 4) (g 6) (g 8) (g 9) w → Q .normal g w) (hr : HR rs_law07_FseParts R Q) (h : law07_FseParts_p7 kn R (g 1) (g 4) (g 6) (g 8) (g 9) w) : den pg ann_law07_FseParts (dropS 1 (bI (bI (dropS 1 (takeS 1 (dropS 1 (dropS 1 (dropS 7 code_law07_FseParts)))))))) Q g w :=
  den_seqs 1 _ g w (by kernel_rfl) (law07_FseParts_p6_ok (thenE (fun g w => den pg ann_law07_FseParts (dropS 1 (dropS 1 (bI (bI (dropS 1 (takeS 1 (dropS 1 (dropS 1 (dropS 7 code_law07_FseParts))))))))) Q g w) Q) g w (fun c_1 t4 n_6 t8 s_9 w => law07_FseParts_p2 kn c_1 t4 n_6 t8 s_9 w) R (fun g w h => thenE_n (K := fun g w => den pg ann_law07_FseParts (dropS 1 (dropS 1 (bI (bI (dropS 1 (takeS 1 (dropS 1 (dropS 1 (dropS 7 code_law07_FseParts))))))))) Q g w) (law07_FseParts_p2_ok Q g w kn hn h)) hr h)

def law07_FseParts_p8 (kn : K5) (k2 : K0) (c_1 t4 n_6 t8 s_9 : Value) (w : World) : Prop :=
  Stp pg (sFAddr 24 c_1 1) w fun t56 w =>
  Stp pg (sLoad 22 t56) w fun t57 w =>
  Stp pg (sBi .len #[22] 3 [t57]) w fun t58 w =>
  Stp pg (sBin .lss 3 (.tmp 55) (.tmp 58) s_9 t58) w fun t59 w =>
  Cnd t59
    (kn c_1 t4 n_6 t8 s_9 w)
    (k2 w)
theorem law07_FseParts_p8_ok (kn : K5) (k2 : K0) (hn : ∀ g w, kn (g 1) (g 4) (g 6) (g 8) (g 9) w → Q .normal g w) (h2 : ∀ g w, k2 w → Q (.exit 2) g w) (h : law07_FseParts_p8 kn k2 (g 1) (g 4) (g 6) (g 8) (g 9) w) : den pg ann_law07_FseParts (takeS 1 (bI (bI (dropS 1 (takeS 1 (dropS 1 (dropS 1 (dropS 7 code_law07_FseParts)))))))) Q g w :=
  den_exQ (kr := no) (l := [(2, fun g w => k2 w)]) (by kernel_rfl) h hn noE ⟨h2, trivial⟩

def law07_FseParts_p9 (kn : K5) (k2 : K0) (R : K1) (c_1 t4 n_6 t8 s_9 : Value) (w : World) : Prop :=
  law07_FseParts_p8 (fun c_1 t4 n_6 t8 s_9 w => law07_FseParts_p7 kn R c_1 t4 n_6 t8 s_9 w) k2 c_1 t4 n_6 t8 s_9 w
theorem law07_FseParts_p9_ok (kn : K5) (k2 : K0) (R : K1) (hn : ∀ g w, kn (g 1) (g 4) (g 6) (g 8) (g 9) w → Q .normal g w) (h2 : ∀ g w, k2 w → Q (.exit 2) g w) (hr : HR rs_law07_FseParts R Q) (h : law07_FseParts_p9 kn k2 R (g 1) (g 4) (g 6) (g 8) (g 9) w) : den pg ann_law07_FseParts (bI (bI (dropS 1 (takeS 1 (dropS 1 (dropS 1 (dropS 7 code_law07_FseParts))))))) Q g w :=
  den_seqs 1 _ g w (by kernel_rfl) (law07_FseParts_p8_ok (thenE (fun g w => den pg ann_law07_FseParts (dropS 1 (bI (bI (dropS 1 (takeS 1 (dropS 1 (dropS 1 (dropS 7 code_law07_FseParts)))))))) Q g w) Q) g w (fun c_1 t4 n_6 t8 s_9 w => law07_FseParts_p7 kn R c_1 t4 n_6 t8 s_9 w) k2 (fun g w h => thenE_n (K := fun g w => den pg ann_law07_FseParts (dropS 1 (bI (bI (dropS 1 (takeS 1 (dropS 1 (dropS 1 (dropS 7 code_law07_FseParts)))))))) Q g w) (law07_FseParts_p7_ok Q g w kn R hn hr h)) h2 h)

def law07_FseParts_p10 (k2 : K0) (R : K1) (c_1 t4 n_6 t8 s_9 : Value) (w : World) : Prop :=
  LoopD (fun (X : (Value × Value) → K0) (t : Value × Value) (w : World) => law07_FseParts_p9 (fun _ _ _ t8 s_9 w => X (t8, s_9) w) k2 R c_1 t4 n_6 t.1 t.2 w) (t8, s_9) w
theorem law07_FseParts_p10_ok (k2 : K0) (R : K1) (h2 : ∀ g w, k2 w → Q (.exit 2) g w) (hr : HR rs_law07_FseParts R Q) (h : law07_FseParts_p10 k2 R (g 1) (g 4) (g 6) (g 8) (g 9) w) : den pg ann_law07_FseParts (bI (dropS 1 (takeS 1 (dropS 1 (dropS 1 (dropS 7 code_law07_FseParts)))))) Q g w := by
  refine den_loops (T := Value × Value) (fun g : Env => (g 8, g 9)) (fun X t w => law07_FseParts_p9 (fun _ _ _ t8 s_9 w => X (t8, s_9) w) k2 R (g 1) (g 4) (g 6) t.1 t.2 w) _ (by kernel_rfl) h (fun X g1 w1 ha h1 => ?_)
  rw [← agree_at (s := 1) ha (by kernel_rfl)] at h1
  rw [← agree_at (s := 4) ha (by kernel_rfl)] at h1
  rw [← agree_at (s := 6) ha (by kernel_rfl)] at h1
  exact (law07_FseParts_p9_ok (thenE (fun g2 w2 => X ((fun g : Env => (g 8, g 9)) g2) w2) Q) g1 w1 (fun _ _ _ t8 s_9 w => X (t8, s_9) w) k2 R (fun _ _ h => h) h2 hr h1)

def law07_FseParts_p11 (kn : K0) (R : K1) (c_1 t4 n_6 t8 s_9 : Value) (w : World) : Prop :=
  law07_FseParts_p10 kn R c_1 t4 n_6 t8 s_9 w
theorem law07_FseParts_p11_ok (kn : K0) (R : K1) (hn : ∀ g w, kn w → Q .normal g w) (hr : HR rs_law07_FseParts R Q) (h : law07_FseParts_p11 kn R (g 1) (g 4) (g 6) (g 8) (g 9) w) : den pg ann_law07_FseParts (dropS 1 (takeS 1 (dropS 1 (dropS 1 (dropS 7 code_law07_FseParts))))) Q g w :=
  den_blk 2 _ g w (by kernel_rfl) (law07_FseParts_p10_ok (blk 2 Q) g w kn R hn hr h)

def law07_FseParts_p12 (kn : K5) (c_1 t4 n_6 t8 : Value) (w : World) : Prop :=
  kn c_1 t4 n_6 t8 (.int .i64 0) w
theorem law07_FseParts_p12_ok (kn : K5) (hn : ∀ g w, kn (g 1) (g 4) (g 6) (g 8) (g 9) w → Q .normal g w) (h : law07_FseParts_p12 kn (g 1) (g 4) (g 6) (g 8) w) : den pg ann_law07_FseParts (takeS 1 (takeS 1 (dropS 1 (dropS 1 (dropS 7 code_law07_FseParts))))) Q g w :=
  den_exQ (kr := no) (l := []) (by kernel_rfl) h hn noE trivial

def law07_FseParts_p13 (kn : K0) (R : K1) (c_1 t4 n_6 t8 : Value) (w : World) : Prop :=
  law07_FseParts_p12 (fun c_1 t4 n_6 t8 s_9 w => law07_FseParts_p11 kn R c_1 t4 n_6 t8 s_9 w) c_1 t4 n_6 t8 w
theorem law07_FseParts_p13_ok (kn : K0) (R : K1) (hn : ∀ g w, kn w → Q .normal g w) (hr : HR rs_law07_FseParts R Q) (h : law07_FseParts_p13 kn R (g 1) (g 4) (g 6) (g 8) w) : den pg ann_law07_FseParts (takeS 1 (dropS 1 (dropS 1 (dropS 7 code_law07_FseParts)))) Q g w :=
  den_seqs 1 _ g w (by kernel_rfl) (law07_FseParts_p12_ok (thenE (fun g w => den pg ann_law07_FseParts (dropS 1 (takeS 1 (dropS 1 (dropS 1 (dropS 7 code_law07_FseParts))))) Q g w) Q) g w (fun c_1 t4 n_6 t8 s_9 w => law07_FseParts_p11 kn R c_1 t4 n_6 t8 s_9 w) (fun g w h => thenE_n (K := fun g w => den pg ann_law07_FseParts (dropS 1 (takeS 1 (dropS 1 (dropS 1 (dropS 7 code_law07_FseParts))))) Q g w) (law07_FseParts_p11_ok Q g w kn R hn hr h)) h)

def law07_FseParts_p14 (R : K1) (c_1 t4 n_6 t8 : Value) (w : World) : Prop :=
  law07_FseParts_p13 (fun  w => law07_FseParts_p1 R w) R c_1 t4 n_6 t8 w
theorem law07_FseParts_p14_ok (R : K1) (hr : HR rs_law07_FseParts R Q) (h : law07_FseParts_p14 R (g 1) (g 4) (g 6) (g 8) w) : den pg ann_law07_FseParts (dropS 1 (dropS 1 (dropS 7 code_law07_FseParts))) Q g w :=
  den_seqs 1 _ g w (by kernel_rfl) (law07_FseParts_p13_ok (thenE (fun g w => den pg ann_law07_FseParts (dropS 1 (dropS 1 (dropS 1 (dropS 7 code_law07_FseParts)))) Q g w) Q) g w (fun  w => law07_FseParts_p1 R w) R (fun g w h => thenE_n (K := fun g w => den pg ann_law07_FseParts (dropS 1 (dropS 1 (dropS 1 (dropS 7 code_law07_FseParts)))) Q g w) (law07_FseParts_p1_ok Q g w R hr h)) hr h)

def law07_FseParts_p15 (kn : K4) (c_1 t4 n_6 : Value) (w : World) : Prop :=
  Stp pg (sFAddr 28 t4 1) w fun t51 w =>
  Stp pg (sLoad 26 t51) w fun t52 w =>
  Stp pg (sBi .len #[26] 3 [t52]) w fun t53 w =>
  Stp pg (sBin .sub 3 (.tmp 53) (.const (.int .i64 1)) t53 (.int .i64 1)) w fun t54 w =>
  kn c_1 t4 n_6 t54 w
theorem law07_FseParts_p15_ok (kn : K4) (hn : ∀ g w, kn (g 1) (g 4) (g 6) (g 8) w → Q .normal g w) (h : law07_FseParts_p15 kn (g 1) (g 4) (g 6) w) : den pg ann_law07_FseParts (takeS 1 (dropS 1 (dropS 7 code_law07_FseParts))) Q g w :=
  den_exQ (kr := no) (l := []) (by kernel_rfl) h hn noE trivial

def law07_FseParts_p16 (R : K1) (c_1 t4 n_6 : Value) (w : World) : Prop :=
  law07_FseParts_p15 (fun c_1 t4 n_6 t8 w => law07_FseParts_p14 R c_1 t4 n_6 t8 w) c_1 t4 n_6 w
theorem law07_FseParts_p16_ok (R : K1) (hr : HR rs_law07_FseParts R Q) (h : law07_FseParts_p16 R (g 1) (g 4) (g 6) w) : den pg ann_law07_FseParts (dropS 1 (dropS 7 code_law07_FseParts)) Q g w :=
  den_seqs 1 _ g w (by kernel_rfl) (law07_FseParts_p15_ok (thenE (fun g w => den pg ann_law07_FseParts (dropS 1 (dropS 1 (dropS 7 code_law07_FseParts))) Q g w) Q) g w (fun c_1 t4 n_6 t8 w => law07_FseParts_p14 R c_1 t4 n_6 t8 w) (fun g w h => thenE_n (K := fun g w => den pg ann_law07_FseParts (dropS 1 (dropS 1 (dropS 7 code_law07_FseParts))) Q g w) (law07_FseParts_p14_ok Q g w R hr h)) h)

def law07_FseParts_p17 (kn : K4) (k0 : K3) (c_1 t4 n_6 i_7 : Value) (w : World) : Prop :=
  Stp pg (sFAddr 28 t4 1) w fun t35 w =>
  Stp pg (sLoad 26 t35) w fun t36 w =>
  Stp pg (sBi .len #[26] 3 [t36]) w fun t37 w =>
  Stp pg (sBin .lss 3 (.tmp 34) (.tmp 37) i_7 t37) w fun t38 w =>
  Cnd t38
    (Stp pg (sFAddr 28 t4 1) w fun t41 w =>
    Stp pg (sLoad 26 t41) w fun t42 w =>
    Stp pg (sIAddr 26 t42 i_7) w fun t44 w =>
    Stp pg (sFAddr 43 t44 0) w fun t45 w =>
    Stp pg (sLoad 5 t45) w fun t46 w =>
    Stp pg (sIAddr 41 n_6 t46) w fun t47 w =>
    Stp pg (sLoad 3 t47) w fun t48 w =>
    Stp pg (sBin .add 3 (.tmp 48) (.const (.int .i64 1)) t48 (.int .i64 1)) w fun t49 w =>
    Stp pg (sIAddr 41 n_6 t46) w fun t50 w =>
    Stp pg (sStore 3 t50 t49) w fun _u w =>
    Stp pg (sBin .add 3 (.tmp 39) (.const (.int .i64 1)) i_7 (.int .i64 1)) w fun t40 w =>
    kn c_1 t4 n_6 t40 w)
    (k0 c_1 t4 n_6 w)
theorem law07_FseParts_p17_ok (kn : K4) (k0 : K3) (hn : ∀ g w, kn (g 1) (g 4) (g 6) (g 7) w → Q .normal g w) (h0 : ∀ g w, k0 (g 1) (g 4) (g 6) w → Q (.exit 0) g w) (h : law07_FseParts_p17 kn k0 (g 1) (g 4) (g 6) (g 7) w) : den pg ann_law07_FseParts (bI (bI (dropS 1 (takeS 1 (dropS 7 code_law07_FseParts))))) Q g w :=
  den_exQ (kr := no) (l := [(0, fun g w => k0 (g 1) (g 4) (g 6) w)]) (by kernel_rfl) h hn noE ⟨h0, trivial⟩

def law07_FseParts_p18 (k0 : K3) (c_1 t4 n_6 i_7 : Value) (w : World) : Prop :=
  LoopD (fun (X : Value → K0) (t : Value) (w : World) => law07_FseParts_p17 (fun _ _ _ i_7 w => X i_7 w) k0 c_1 t4 n_6 t w) i_7 w
theorem law07_FseParts_p18_ok (k0 : K3) (h0 : ∀ g w, k0 (g 1) (g 4) (g 6) w → Q (.exit 0) g w) (h : law07_FseParts_p18 k0 (g 1) (g 4) (g 6) (g 7) w) : den pg ann_law07_FseParts (bI (dropS 1 (takeS 1 (dropS 7 code_law07_FseParts)))) Q g w := by
  refine den_loops (T := Value) (fun g : Env => g 7) (fun X t w => law07_FseParts_p17 (fun _ _ _ i_7 w => X i_7 w) k0 (g 1) (g 4) (g 6) t w) _ (by kernel_rfl) h (fun X g1 w1 ha h1 => ?_)
  rw [← agree_at (s := 1) ha (by kernel_rfl)] at h1
  rw [← agree_at (s := 4) ha (by kernel_rfl)] at h1
  rw [← agree_at (s := 6) ha (by kernel_rfl)] at h1
  exact (law07_FseParts_p17_ok (thenE (fun g2 w2 => X ((fun g : Env => g 7) g2) w2) Q) g1 w1 (fun _ _ _ i_7 w => X i_7 w) k0 (fun _ _ h => h) h0 h1)

def law07_FseParts_p19 (kn : K3) (c_1 t4 n_6 i_7 : Value) (w : World) : Prop :=
  law07_FseParts_p18 kn c_1 t4 n_6 i_7 w
theorem law07_FseParts_p19_ok (kn : K3) (hn : ∀ g w, kn (g 1) (g 4) (g 6) w → Q .normal g w) (h : law07_FseParts_p19 kn (g 1) (g 4) (g 6) (g 7) w) : den pg ann_law07_FseParts (dropS 1 (takeS 1 (dropS 7 code_law07_FseParts))) Q g w :=
  den_blk 0 _ g w (by kernel_rfl) (law07_FseParts_p18_ok (blk 0 Q) g w kn hn h)

def law07_FseParts_p20 (kn : K4) (c_1 t4 n_6 : Value) (w : World) : Prop :=
  kn c_1 t4 n_6 (.int .i64 0) w
theorem law07_FseParts_p20_ok (kn : K4) (hn : ∀ g w, kn (g 1) (g 4) (g 6) (g 7) w → Q .normal g w) (h : law07_FseParts_p20 kn (g 1) (g 4) (g 6) w) : den pg ann_law07_FseParts (takeS 1 (takeS 1 (dropS 7 code_law07_FseParts))) Q g w :=
  den_exQ (kr := no) (l := []) (by kernel_rfl) h hn noE trivial

def law07_FseParts_p21 (kn : K3) (c_1 t4 n_6 : Value) (w : World) : Prop :=
  law07_FseParts_p20 (fun c_1 t4 n_6 i_7 w => law07_FseParts_p19 kn c_1 t4 n_6 i_7 w) c_1 t4 n_6 w
theorem law07_FseParts_p21_ok (kn : K3) (hn : ∀ g w, kn (g 1) (g 4) (g 6) w → Q .normal g w) (h : law07_FseParts_p21 kn (g 1) (g 4) (g 6) w) : den pg ann_law07_FseParts (takeS 1 (dropS 7 code_law07_FseParts)) Q g w :=
  den_seqs 1 _ g w (by kernel_rfl) (law07_FseParts_p20_ok (thenE (fun g w => den pg ann_law07_FseParts (dropS 1 (takeS 1 (dropS 7 code_law07_FseParts))) Q g w) Q) g w (fun c_1 t4 n_6 i_7 w => law07_FseParts_p19 kn c_1 t4 n_6 i_7 w) (fun g w h => thenE_n (K := fun g w => den pg ann_law07_FseParts (dropS 1 (takeS 1 (dropS 7 code_law07_FseParts))) Q g w) (law07_FseParts_p19_ok Q g w kn hn h)) h)

def law07_FseParts_p22 (R : K1) (c_1 t4 n_6 : Value) (w : World) : Prop :=
  law07_FseParts_p21 (fun c_1 t4 n_6 w => law07_FseParts_p16 R c_1 t4 n_6 w) c_1 t4 n_6 w
theorem law07_FseParts_p22_ok (R : K1) (hr : HR rs_law07_FseParts R Q) (h : law07_FseParts_p22 R (g 1) (g 4) (g 6) w) : den pg ann_law07_FseParts (dropS 7 code_law07_FseParts) Q g w :=
  den_seqs 1 _ g w (by kernel_rfl) (law07_FseParts_p21_ok (thenE (fun g w => den pg ann_law07_FseParts (dropS 1 (dropS 7 code_law07_FseParts)) Q g w) Q) g w (fun c_1 t4 n_6 w => law07_FseParts_p16 R c_1 t4 n_6 w) (fun g w h => thenE_n (K := fun g w => den pg ann_law07_FseParts (dropS 1 (dropS 7 code_law07_FseParts)) Q g w) (law07_FseParts_p16_ok Q g w R hr h)) h)

def law07_FseParts_p23 (kn : K3) (R : K1) (c_0 : Value) (w : World) : Prop :=
  Stp pg (sBox 24 c_0) w fun c_1 w =>
  Does pg F_law07_awake #[] w fun t11 w =>
  Stp pg (sUn .not t11) w fun t13 w =>
  Cnd t13
    (R (.bool false) w)
    (Stp pg (sFAddr 24 c_1 1) w fun t14 w =>
    Stp pg (sLoad 22 t14) w fun t15 w =>
    Stp pg (sBi .len #[22] 3 [t15]) w fun t16 w =>
    Stp pg (sBin .gtr 3 (.tmp 16) (.const (.int .i64 300)) t16 (.int .i64 300)) w fun t17 w =>
    Gd (isB t17 false) (fun K => Stp pg (sFAddr 24 c_1 0) w K) w fun t19 w =>
    Gd (isB t17 false) (fun K => Stp pg (sLoad 3 t19) w K) w fun t20 w =>
    Gd (isB t17 false) (fun K => Stp pg (sBin .gtr 3 (.tmp 20) (.const (.int .i64 10)) t20 (.int .i64 10)) w K) w fun t21 w =>
    Stp pg (sPick t17 (.bool true) t21) w fun t22 w =>
    Cnd t22
      (R (.bool true) w)
      (Stp pg (sLoad 24 c_1) w fun t24 w =>
      Does pg F_fse_Build #[t24] w fun t25 w =>
      Stp pg (sExtr t25 0) w fun t26 w =>
      Stp pg (sExtr t25 1) w fun t27 w =>
      Stp pg (sAlloc 28) w fun t4 w =>
      Stp pg (sStore 28 t4 t26) w fun _u w =>
      Stp pg (sBin .neq 29 (.tmp 28) (.const (.int .i64 0)) t27 (.int .i64 0)) w fun t29 w =>
      Cnd t29
        (Stp pg (sFAddr 28 t4 1) w fun t30 w =>
        Stp pg (sLoad 26 t30) w fun t31 w =>
        Stp pg (sBi .len #[26] 3 [t31]) w fun t32 w =>
        Stp pg (sBin .eql 3 (.tmp 32) (.const (.int .i64 0)) t32 (.int .i64 0)) w fun t33 w =>
        R t33 w)
        (Stp pg (sAlloc 41) w fun n_6 w =>
        kn c_1 t4 n_6 w)))
theorem law07_FseParts_p23_ok (kn : K3) (R : K1) (hn : ∀ g w, kn (g 1) (g 4) (g 6) w → Q .normal g w) (hr : HR rs_law07_FseParts R Q) (h : law07_FseParts_p23 kn R (g 0) w) : den pg ann_law07_FseParts (takeS 7 code_law07_FseParts) Q g w :=
  den_exQ (l := []) (by kernel_rfl) h hn hr trivial

def law07_FseParts_p24 (R : K1) (c_0 : Value) (w : World) : Prop :=
  law07_FseParts_p23 (fun c_1 t4 n_6 w => law07_FseParts_p22 R c_1 t4 n_6 w) R c_0 w
theorem law07_FseParts_p24_ok (R : K1) (hr : HR rs_law07_FseParts R Q) (h : law07_FseParts_p24 R (g 0) w) : den pg ann_law07_FseParts code_law07_FseParts Q g w :=
  den_seqs 7 _ g w (by kernel_rfl) (law07_FseParts_p23_ok (thenE (fun g w => den pg ann_law07_FseParts (dropS 7 code_law07_FseParts) Q g w) Q) g w (fun c_1 t4 n_6 w => law07_FseParts_p22 R c_1 t4 n_6 w) R (fun g w h => thenE_n (K := fun g w => den pg ann_law07_FseParts (dropS 7 code_law07_FseParts) Q g w) (law07_FseParts_p22_ok Q g w R hr h)) hr h)

def law07_FseParts (a0 : Value) (w : World) (R : K1) : Prop :=
  law07_FseParts_p24 R a0 w
theorem law07_FseParts_does {a0 : Value} {w : World} {R : K1} (h : law07_FseParts a0 w R) : Does pg F_law07_FseParts #[a0] w R := by
  refine does_of_den (ann := ann_law07_FseParts) (fn := Try.f4) (c := code_law07_FseParts) (args := [a0]) (rs := rs_law07_FseParts) (N := 105) TryM.mixed (by kernel_rfl) Try.func4 (by kernel_rfl) (by kernel_rfl) (by kernel_rfl) (of_decide_eq_true (by kernel_rfl)) (by kernel_rfl) ?_
  exact (law07_FseParts_p24_ok (retQ pg rs_law07_FseParts R) (envOf [a0]) w R (fun _ _ h => h) h)
-- PIECES law07_FseParts/0 law07_FseParts_p1 law07_FseParts_p10 law07_FseParts_p11 law07_FseParts_p12 law07_FseParts_p13 law07_FseParts_p14 law07_FseParts_p15 law07_FseParts_p16 law07_FseParts_p18 law07_FseParts_p19 law07_FseParts_p20 law07_FseParts_p21 law07_FseParts_p22 law07_FseParts_p23 law07_FseParts_p24
-- PIECES law07_FseParts/1 law07_FseParts_p2 law07_FseParts_p3 law07_FseParts_p4 law07_FseParts_p5 law07_FseParts_p6 law07_FseParts_p7 law07_FseParts_p8 law07_FseParts_p9
-- PIECES law07_FseParts/2 law07_FseParts_p17

/- lighterman/lightermanlaw07.FseBefore -/
def ann_law07_FseBefore : FA := ⟨F_law07_FseBefore, fun i => .leaf ([], []) []⟩
def rs_law07_FseBefore : List ResultVar := [.tmp 6]
noncomputable def code_law07_FseBefore : Code := bodyOf Try.f5
def law07_FseBefore_p1 (R : K1) (symbol_2 t8 s_10 i_11 x_12 n_13 f_14 g_18 k_19 h_20 t21 first_22 : Value) (w : World) : Prop :=
  Stp pg (sBin .neq 29 (.tmp 125) (.const (.int .i64 1)) g_18 (.int .i64 1)) w fun t126 w =>
  Gd (isB t126 false) (fun K => K h_20 w) w fun t128 w =>
  Gd (isB t126 false) (fun K => Stp pg (sBin .eql 29 (.tmp 128) (.const (.int .i64 0)) t128 (.int .i64 0)) w K) w fun t129 w =>
  Gd (isB t126 false) (fun K => K first_22 w) w fun t130 w =>
  Gd (isB t126 false) (fun K => Stp pg (sBin .geq 3 (.tmp 130) (.const (.int .i64 0)) t130 (.int .i64 0)) w K) w fun t131 w =>
  Gd (isB t126 false) (fun K => Stp pg (sBin .neq 4 (.tmp 129) (.tmp 131) t129 t131) w K) w fun t132 w =>
  Stp pg (sPick t126 (.bool true) t132) w fun t133 w =>
  Gd (isB t133 false) (fun K => K h_20 w) w fun t135 w =>
  Gd (isB t133 false) (fun K => Stp pg (sBin .eql 29 (.tmp 135) (.const (.int .i64 0)) t135 (.int .i64 0)) w K) w fun t136 w =>
  Gd (isB t133 false) (fun K => K t136 w) w fun t137 w =>
  Gd (isB t137 true) (fun K => K k_19 w) w fun t138 w =>
  Gd (isB t137 true) (fun K => K first_22 w) w fun t139 w =>
  Gd (isB t137 true) (fun K => Stp pg (sBin .neq 3 (.tmp 138) (.tmp 139) t138 t139) w K) w fun t140 w =>
  Gd (isB t133 false) (fun K => Stp pg (sPick t137 t140 (.bool false)) w K) w fun t141 w =>
  Stp pg (sPick t133 (.bool true) t141) w fun t142 w =>
  Cnd t142
    (R (.bool false) w)
    (Stp pg (sBin .lss 3 (.tmp 143) (.const (.int .i64 0)) first_22 (.int .i64 0)) w fun t144 w =>
    Cnd t144
      (Stp pg (sBin .eql 29 (.tmp 145) (.const (.int .i64 21)) f_14 (.int .i64 21)) w fun t146 w =>
      Gd (isB t146 true) (fun K => K h_20 w) w fun t148 w =>
      Gd (isB t146 true) (fun K => Stp pg (sBin .eql 29 (.tmp 148) (.const (.int .i64 21)) t148 (.int .i64 21)) w K) w fun t149 w =>
      Stp pg (sPick t146 t149 (.bool false)) w fun t150 w =>
      Gd (isB t150 true) (fun K => K t21 w) w fun t152 w =>
      Gd (isB t150 true) (fun K => Stp pg (sBin .eql 3 (.tmp 152) (.const (.int .i64 0)) t152 (.int .i64 0)) w K) w fun t153 w =>
      Stp pg (sPick t150 t153 (.bool false)) w fun t154 w =>
      R t154 w)
      (Stp pg (sBin .neq 29 (.tmp 155) (.const (.int .i64 0)) f_14 (.int .i64 0)) w fun t156 w =>
      Gd (isB t156 false) (fun K => K t21 w) w fun t158 w =>
      Gd (isB t156 false) (fun K => Stp pg (sBin .neq 3 (.tmp 158) (.const (.int .i64 1)) t158 (.int .i64 1)) w K) w fun t159 w =>
      Stp pg (sPick t156 (.bool true) t159) w fun t160 w =>
      Gd (isB t160 false) (fun K => K i_11 w) w fun t162 w =>
      Gd (isB t160 false) (fun K => Stp pg (sBin .lss 3 (.tmp 162) (.const (.int .i64 0)) t162 (.int .i64 0)) w K) w fun t163 w =>
      Stp pg (sPick t160 (.bool true) t163) w fun t164 w =>
      Gd (isB t164 false) (fun K => K i_11 w) w fun t166 w =>
      Gd (isB t164 false) (fun K => Stp pg (sFAddr 28 t8 1) w K) w fun t167 w =>
      Gd (isB t164 false) (fun K => Stp pg (sLoad 26 t167) w K) w fun t168 w =>
      Gd (isB t164 false) (fun K => Stp pg (sBi .len #[26] 3 [t168]) w K) w fun t169 w =>
      Gd (isB t164 false) (fun K => Stp pg (sBin .geq 3 (.tmp 166) (.tmp 169) t166 t169) w K) w fun t170 w =>
      Stp pg (sPick t164 (.bool true) t170) w fun t171 w =>
      Cnd t171
        (R (.bool false) w)
        (Stp pg (sFAddr 28 t8 1) w fun t172 w =>
        Stp pg (sLoad 26 t172) w fun t173 w =>
        Stp pg (sIAddr 26 t173 i_11) w fun t175 w =>
        Stp pg (sLoad 43 t175) w fun t176 w =>
        Stp pg (sAlloc 43) w fun y_25 w =>
        Stp pg (sStore 43 y_25 t176) w fun _u w =>
        Stp pg (sFAddr 43 y_25 0) w fun t177 w =>
        Stp pg (sLoad 5 t177) w fun t178 w =>
        Stp pg (sBin .eql 5 (.tmp 178) (.tmp 179) t178 symbol_2) w fun t180 w =>
        Gd (isB t180 true) (fun K => Stp pg (sFAddr 43 y_25 1) w K) w fun t182 w =>
        Gd (isB t180 true) (fun K => Stp pg (sLoad 3 t182) w K) w fun t183 w =>
        Gd (isB t180 true) (fun K => K n_13 w) w fun t184 w =>
        Gd (isB t180 true) (fun K => Stp pg (sBin .eql 3 (.tmp 183) (.tmp 184) t183 t184) w K) w fun t185 w =>
        Stp pg (sPick t180 t185 (.bool false)) w fun t186 w =>
        Gd (isB t186 true) (fun K => Stp pg (sFAddr 43 y_25 2) w K) w fun t188 w =>
        Gd (isB t186 true) (fun K => Stp pg (sLoad 3 t188) w K) w fun t189 w =>
        Gd (isB t186 true) (fun K => K x_12 w) w fun t190 w =>
        Gd (isB t186 true) (fun K => Stp pg (sCvt 45 3 t190) w K) w fun t191 w =>
        Gd (isB t186 true) (fun K => Stp pg (sBin .add 3 (.tmp 189) (.tmp 191) t189 t191) w K) w fun t192 w =>
        Gd (isB t186 true) (fun K => K s_10 w) w fun t193 w =>
        Gd (isB t186 true) (fun K => Stp pg (sBin .eql 3 (.tmp 192) (.tmp 193) t192 t193) w K) w fun t194 w =>
        Stp pg (sPick t186 t194 (.bool false)) w fun t195 w =>
        Gd (isB t195 true) (fun K => K x_12 w) w fun t197 w =>
        Gd (isB t195 true) (fun K => K n_13 w) w fun t198 w =>
        Gd (isB t195 true) (fun K => Stp pg (sCvt 3 50 t198) w K) w fun t199 w =>
        Gd (isB t195 true) (fun K => Stp pg (sBin .shl 45 (.const (.int .u64 1)) (.tmp 199) (.int .u64 1) t199) w K) w fun t200 w =>
        Gd (isB t195 true) (fun K => Stp pg (sBin .lss 45 (.tmp 197) (.tmp 200) t197 t200) w K) w fun t201 w =>
        Stp pg (sPick t195 t201 (.bool false)) w fun t202 w =>
        R t202 w)))
theorem law07_FseBefore_p1_ok (R : K1) (hr : HR rs_law07_FseBefore R Q) (h : law07_FseBefore_p1 R (g 2) (g 8) (g 10) (g 11) (g 12) (g 13) (g 14) (g 18) (g 19) (g 20) (g 21) (g 22) w) : den pg ann_law07_FseBefore (dropS 1 (dropS 12 code_law07_FseBefore)) Q g w :=
  den_exQ (kn := no) (l := []) (by kernel_rfl) h noE hr trivial

def law07_FseBefore_p2 (kn : K13) (symbol_2 t8 s_10 i_11 x_12 n_13 f_14 g_18 k_19 h_20 t21 first_22 j_23 : Value) (w : World) : Prop :=
  Stp pg (sBin .add 3 (.tmp 86) (.const (.int .i64 1)) j_23 (.int .i64 1)) w fun t87 w =>
  kn symbol_2 t8 s_10 i_11 x_12 n_13 f_14 g_18 k_19 h_20 t21 first_22 t87 w
theorem law07_FseBefore_p2_ok (kn : K13) (hn : ∀ g w, kn (g 2) (g 8) (g 10) (g 11) (g 12) (g 13) (g 14) (g 18) (g 19) (g 20) (g 21) (g 22) (g 23) w → Q .normal g w) (h : law07_FseBefore_p2 kn (g 2) (g 8) (g 10) (g 11) (g 12) (g 13) (g 14) (g 18) (g 19) (g 20) (g 21) (g 22) (g 23) w) : den pg ann_law07_FseBefore (dropS 1 (dropS 1 (bI (bI (dropS 1 (takeS 1 (dropS 12 code_law07_FseBefore))))))) Q g w :=
  den_exQ (kr := no) (l := []) (by kernel_rfl) h hn noE trivial

def law07_FseBefore_p3 (kn : K13) (symbol_2 t8 s_10 i_11 x_12 n_13 f_14 g_18 k_19 h_20 t21 first_22 j_23 y_24 : Value) (w : World) : Prop :=
  Stp pg (sFAddr 43 y_24 0) w fun t102 w =>
  Stp pg (sLoad 5 t102) w fun t103 w =>
  Stp pg (sBin .eql 5 (.tmp 103) (.tmp 104) t103 symbol_2) w fun t105 w =>
  Gd (isB t105 true) (fun K => K s_10 w) w fun t107 w =>
  Gd (isB t105 true) (fun K => Stp pg (sFAddr 43 y_24 2) w K) w fun t108 w =>
  Gd (isB t105 true) (fun K => Stp pg (sLoad 3 t108) w K) w fun t109 w =>
  Gd (isB t105 true) (fun K => Stp pg (sBin .geq 3 (.tmp 107) (.tmp 109) t107 t109) w K) w fun t110 w =>
  Stp pg (sPick t105 t110 (.bool false)) w fun t111 w =>
  Gd (isB t111 true) (fun K => K s_10 w) w fun t113 w =>
  Gd (isB t111 true) (fun K => Stp pg (sFAddr 43 y_24 2) w K) w fun t114 w =>
  Gd (isB t111 true) (fun K => Stp pg (sLoad 3 t114) w K) w fun t115 w =>
  Gd (isB t111 true) (fun K => Stp pg (sFAddr 43 y_24 1) w K) w fun t116 w =>
  Gd (isB t111 true) (fun K => Stp pg (sLoad 3 t116) w K) w fun t117 w =>
  Gd (isB t111 true) (fun K => Stp pg (sCvt 3 50 t117) w K) w fun t118 w =>
  Gd (isB t111 true) (fun K => Stp pg (sBin .shl 3 (.const (.int .i64 1)) (.tmp 118) (.int .i64 1) t118) w K) w fun t119 w =>
  Gd (isB t111 true) (fun K => Stp pg (sBin .add 3 (.tmp 115) (.tmp 119) t115 t119) w K) w fun t120 w =>
  Gd (isB t111 true) (fun K => Stp pg (sBin .lss 3 (.tmp 113) (.tmp 120) t113 t120) w K) w fun t121 w =>
  Stp pg (sPick t111 t121 (.bool false)) w fun t122 w =>
  Cnd t122
    (Stp pg (sBin .add 3 (.tmp 123) (.const (.int .i64 1)) t21 (.int .i64 1)) w fun t124 w =>
    kn symbol_2 t8 s_10 i_11 x_12 n_13 f_14 g_18 k_19 h_20 t124 first_22 j_23 w)
    (kn symbol_2 t8 s_10 i_11 x_12 n_13 f_14 g_18 k_19 h_20 t21 first_22 j_23 w)
theorem law07_FseBefore_p3_ok (kn : K13) (hn : ∀ g w, kn (g 2) (g 8) (g 10) (g 11) (g 12) (g 13) (g 14) (g 18) (g 19) (g 20) (g 21) (g 22) (g 23) w → Q .normal g w) (h : law07_FseBefore_p3 kn (g 2) (g 8) (g 10) (g 11) (g 12) (g 13) (g 14) (g 18) (g 19) (g 20) (g 21) (g 22) (g 23) (g 24) w) : den pg ann_law07_FseBefore (dropS 2 (bI (takeS 1 (dropS 1 (bI (bI (dropS 1 (takeS 1 (dropS 12 code_law07_FseBefore))))))))) Q g w :=
  den_exQ (kr := no) (l := []) (by kernel_rfl) h hn noE trivial

def law07_FseBefore_p4 (kn : K14) (symbol_2 t8 s_10 i_11 x_12 n_13 f_14 g_18 k_19 h_20 t21 first_22 j_23 : Value) (w : World) : Prop :=
  Stp pg (sFAddr 28 t8 1) w fun t88 w =>
  Stp pg (sLoad 26 t88) w fun t89 w =>
  Stp pg (sIAddr 26 t89 j_23) w fun t91 w =>
  Stp pg (sLoad 43 t91) w fun t92 w =>
  Stp pg (sAlloc 43) w fun y_24 w =>
  Stp pg (sStore 43 y_24 t92) w fun _u w =>
  Stp pg (sFAddr 43 y_24 0) w fun t93 w =>
  Stp pg (sLoad 5 t93) w fun t94 w =>
  Stp pg (sBin .eql 5 (.tmp 94) (.tmp 95) t94 symbol_2) w fun t96 w =>
  Gd (isB t96 true) (fun K => K first_22 w) w fun t98 w =>
  Gd (isB t96 true) (fun K => Stp pg (sBin .lss 3 (.tmp 98) (.const (.int .i64 0)) t98 (.int .i64 0)) w K) w fun t99 w =>
  Stp pg (sPick t96 t99 (.bool false)) w fun t100 w =>
  Cnd t100
    (kn symbol_2 t8 s_10 i_11 x_12 n_13 f_14 g_18 k_19 h_20 t21 j_23 j_23 y_24 w)
    (kn symbol_2 t8 s_10 i_11 x_12 n_13 f_14 g_18 k_19 h_20 t21 first_22 j_23 y_24 w)
theorem law07_FseBefore_p4_ok (kn : K14) (hn : ∀ g w, kn (g 2) (g 8) (g 10) (g 11) (g 12) (g 13) (g 14) (g 18) (g 19) (g 20) (g 21) (g 22) (g 23) (g 24) w → Q .normal g w) (h : law07_FseBefore_p4 kn (g 2) (g 8) (g 10) (g 11) (g 12) (g 13) (g 14) (g 18) (g 19) (g 20) (g 21) (g 22) (g 23) w) : den pg ann_law07_FseBefore (takeS 2 (bI (takeS 1 (dropS 1 (bI (bI (dropS 1 (takeS 1 (dropS 12 code_law07_FseBefore))))))))) Q g w :=
  den_exQ (kr := no) (l := []) (by kernel_rfl) h hn noE trivial

def law07_FseBefore_p5 (kn : K13) (symbol_2 t8 s_10 i_11 x_12 n_13 f_14 g_18 k_19 h_20 t21 first_22 j_23 : Value) (w : World) : Prop :=
  law07_FseBefore_p4 (fun symbol_2 t8 s_10 i_11 x_12 n_13 f_14 g_18 k_19 h_20 t21 first_22 j_23 y_24 w => law07_FseBefore_p3 kn symbol_2 t8 s_10 i_11 x_12 n_13 f_14 g_18 k_19 h_20 t21 first_22 j_23 y_24 w) symbol_2 t8 s_10 i_11 x_12 n_13 f_14 g_18 k_19 h_20 t21 first_22 j_23 w
theorem law07_FseBefore_p5_ok (kn : K13) (hn : ∀ g w, kn (g 2) (g 8) (g 10) (g 11) (g 12) (g 13) (g 14) (g 18) (g 19) (g 20) (g 21) (g 22) (g 23) w → Q .normal g w) (h : law07_FseBefore_p5 kn (g 2) (g 8) (g 10) (g 11) (g 12) (g 13) (g 14) (g 18) (g 19) (g 20) (g 21) (g 22) (g 23) w) : den pg ann_law07_FseBefore (bI (takeS 1 (dropS 1 (bI (bI (dropS 1 (takeS 1 (dropS 12 code_law07_FseBefore)))))))) Q g w :=
  den_seqs 2 _ g w (by kernel_rfl) (law07_FseBefore_p4_ok (thenE (fun g w => den pg ann_law07_FseBefore (dropS 2 (bI (takeS 1 (dropS 1 (bI (bI (dropS 1 (takeS 1 (dropS 12 code_law07_FseBefore))))))))) Q g w) Q) g w (fun symbol_2 t8 s_10 i_11 x_12 n_13 f_14 g_18 k_19 h_20 t21 first_22 j_23 y_24 w => law07_FseBefore_p3 kn symbol_2 t8 s_10 i_11 x_12 n_13 f_14 g_18 k_19 h_20 t21 first_22 j_23 y_24 w) (fun g w h => thenE_n (K := fun g w => den pg ann_law07_FseBefore (dropS 2 (bI (takeS 1 (dropS 1 (bI (bI (dropS 1 (takeS 1 (dropS 12 code_law07_FseBefore))))))))) Q g w) (law07_FseBefore_p3_ok Q g w kn hn h)) h)

def law07_FseBefore_p6 (kn : K13) (symbol_2 t8 s_10 i_11 x_12 n_13 f_14 g_18 k_19 h_20 t21 first_22 j_23 : Value) (w : World) : Prop :=
  law07_FseBefore_p5 kn symbol_2 t8 s_10 i_11 x_12 n_13 f_14 g_18 k_19 h_20 t21 first_22 j_23 w
theorem law07_FseBefore_p6_ok (kn : K13) (hn : ∀ g w, kn (g 2) (g 8) (g 10) (g 11) (g 12) (g 13) (g 14) (g 18) (g 19) (g 20) (g 21) (g 22) (g 23) w → Q .normal g w) (h : law07_FseBefore_p6 kn (g 2) (g 8) (g 10) (g 11) (g 12) (g 13) (g 14) (g 18) (g 19) (g 20) (g 21) (g 22) (g 23) w) : den pg ann_law07_FseBefore (takeS 1 (dropS 1 (bI (bI (dropS 1 (takeS 1 (dropS 12 code_law07_FseBefore))))))) Q g w :=
  den_blk 1 _ g w (by kernel_rfl) (law07_FseBefore_p5_ok (blk 1 Q) g w kn hn h)

def law07_FseBefore_p7 (kn : K13) (symbol_2 t8 s_10 i_11 x_12 n_13 f_14 g_18 k_19 h_20 t21 first_22 j_23 : Value) (w : World) : Prop :=
  law07_FseBefore_p6 (fun symbol_2 t8 s_10 i_11 x_12 n_13 f_14 g_18 k_19 h_20 t21 first_22 j_23 w => law07_FseBefore_p2 kn symbol_2 t8 s_10 i_11 x_12 n_13 f_14 g_18 k_19 h_20 t21 first_22 j_23 w) symbol_2 t8 s_10 i_11 x_12 n_13 f_14 g_18 k_19 h_20 t21 first_22 j_23 w
theorem law07_FseBefore_p7_ok (kn : K13) (hn : ∀ g w, kn (g 2) (g 8) (g 10) (g 11) (g 12) (g 13) (g 14) (g 18) (g 19) (g 20) (g 21) (g 22) (g 23) w → Q .normal g w) (h : law07_FseBefore_p7 kn (g 2) (g 8) (g 10) (g 11) (g 12) (g 13) (g 14) (g 18) (g 19) (g 20) (g 21) (g 22) (g 23) w) : den pg ann_law07_FseBefore (dropS 1 (bI (bI (dropS 1 (takeS 1 (dropS 12 code_law07_FseBefore)))))) Q g w :=
  den_seqs 1 _ g w (by kernel_rfl) (law07_FseBefore_p6_ok (thenE (fun g w => den pg ann_law07_FseBefore (dropS 1 (dropS 1 (bI (bI (dropS 1 (takeS 1 (dropS 12 code_law07_FseBefore))))))) Q g w) Q) g w (fun symbol_2 t8 s_10 i_11 x_12 n_13 f_14 g_18 k_19 h_20 t21 first_22 j_23 w => law07_FseBefore_p2 kn symbol_2 t8 s_10 i_11 x_12 n_13 f_14 g_18 k_19 h_20 t21 first_22 j_23 w) (fun g w h => thenE_n (K := fun g w => den pg ann_law07_FseBefore (dropS 1 (dropS 1 (bI (bI (dropS 1 (takeS 1 (dropS 12 code_law07_FseBefore))))))) Q g w) (law07_FseBefore_p2_ok Q g w kn hn h)) h)

def law07_FseBefore_p8 (kn : K13) (k0 : K12) (symbol_2 t8 s_10 i_11 x_12 n_13 f_14 g_18 k_19 h_20 t21 first_22 j_23 : Value) (w : World) : Prop :=
  Stp pg (sFAddr 28 t8 1) w fun t82 w =>
  Stp pg (sLoad 26 t82) w fun t83 w =>
  Stp pg (sBi .len #[26] 3 [t83]) w fun t84 w =>
  Stp pg (sBin .lss 3 (.tmp 81) (.tmp 84) j_23 t84) w fun t85 w =>
  Cnd t85
    (kn symbol_2 t8 s_10 i_11 x_12 n_13 f_14 g_18 k_19 h_20 t21 first_22 j_23 w)
    (k0 symbol_2 t8 s_10 i_11 x_12 n_13 f_14 g_18 k_19 h_20 t21 first_22 w)
theorem law07_FseBefore_p8_ok (kn : K13) (k0 : K12) (hn : ∀ g w, kn (g 2) (g 8) (g 10) (g 11) (g 12) (g 13) (g 14) (g 18) (g 19) (g 20) (g 21) (g 22) (g 23) w → Q .normal g w) (h0 : ∀ g w, k0 (g 2) (g 8) (g 10) (g 11) (g 12) (g 13) (g 14) (g 18) (g 19) (g 20) (g 21) (g 22) w → Q (.exit 0) g w) (h : law07_FseBefore_p8 kn k0 (g 2) (g 8) (g 10) (g 11) (g 12) (g 13) (g 14) (g 18) (g 19) (g 20) (g 21) (g 22) (g 23) w) : den pg ann_law07_FseBefore (takeS 1 (bI (bI (dropS 1 (takeS 1 (dropS 12 code_law07_FseBefore)))))) Q g w :=
  den_exQ (kr := no) (l := [(0, fun g w => k0 (g 2) (g 8) (g 10) (g 11) (g 12) (g 13) (g 14) (g 18) (g 19) (g 20) (g 21) (g 22) w)]) (by kernel_rfl) h hn noE ⟨h0, trivial⟩

def law07_FseBefore_p9 (kn : K13) (k0 : K12) (symbol_2 t8 s_10 i_11 x_12 n_13 f_14 g_18 k_19 h_20 t21 first_22 j_23 : Value) (w : World) : Prop :=
  law07_FseBefore_p8 (fun symbol_2 t8 s_10 i_11 x_12 n_13 f_14 g_18 k_19 h_20 t21 first_22 j_23 w => law07_FseBefore_p7 kn symbol_2 t8 s_10 i_11 x_12 n_13 f_14 g_18 k_19 h_20 t21 first_22 j_23 w) k0 symbol_2 t8 s_10 i_11 x_12 n_13 f_14 g_18 k_19 h_20 t21 first_22 j_23 w
theorem law07_FseBefore_p9_ok (kn : K13) (k0 : K12) (hn : ∀ g w, kn (g 2) (g 8) (g 10) (g 11) (g 12) (g 13) (g 14) (g 18) (g 19) (g 20) (g 21) (g 22) (g 23) w → Q .normal g w) (h0 : ∀ g w, k0 (g 2) (g 8) (g 10) (g 11) (g 12) (g 13) (g 14) (g 18) (g 19) (g 20) (g 21) (g 22) w → Q (.exit 0) g w) (h : law07_FseBefore_p9 kn k0 (g 2) (g 8) (g 10) (g 11) (g 12) (g 13) (g 14) (g 18) (g 19) (g 20) (g 21) (g 22) (g 23) w) : den pg ann_law07_FseBefore (bI (bI (dropS 1 (takeS 1 (dropS 12 code_law07_FseBefore))))) Q g w :=
  den_seqs 1 _ g w (by kernel_rfl) (law07_FseBefore_p8_ok (thenE (fun g w => den pg ann_law07_FseBefore (dropS 1 (bI (bI (dropS 1 (takeS 1 (dropS 12 code_law07_FseBefore)))))) Q g w) Q) g w (fun symbol_2 t8 s_10 i_11 x_12 n_13 f_14 g_18 k_19 h_20 t21 first_22 j_23 w => law07_FseBefore_p7 kn symbol_2 t8 s_10 i_11 x_12 n_13 f_14 g_18 k_19 h_20 t21 first_22 j_23 w) k0 (fun g w h => thenE_n (K := fun g w => den pg ann_law07_FseBefore (dropS 1 (bI (bI (dropS 1 (takeS 1 (dropS 12 code_law07_FseBefore)))))) Q g w) (law07_FseBefore_p7_ok Q g w kn hn h)) h0 h)

def law07_FseBefore_p10 (k0 : K12) (symbol_2 t8 s_10 i_11 x_12 n_13 f_14 g_18 k_19 h_20 t21 first_22 j_23 : Value) (w : World) : Prop :=
  LoopD (fun (X : (Value × Value × Value) → K0) (t : Value × Value × Value) (w : World) => law07_FseBefore_p9 (fun _ _ _ _ _ _ _ _ _ _ t21 first_22 j_23 w => X (t21, first_22, j_23) w) k0 symbol_2 t8 s_10 i_11 x_12 n_13 f_14 g_18 k_19 h_20 t.1 t.2.1 t.2.2 w) (t21, first_22, j_23) w
theorem law07_FseBefore_p10_ok (k0 : K12) (h0 : ∀ g w, k0 (g 2) (g 8) (g 10) (g 11) (g 12) (g 13) (g 14) (g 18) (g 19) (g 20) (g 21) (g 22) w → Q (.exit 0) g w) (h : law07_FseBefore_p10 k0 (g 2) (g 8) (g 10) (g 11) (g 12) (g 13) (g 14) (g 18) (g 19) (g 20) (g 21) (g 22) (g 23) w) : den pg ann_law07_FseBefore (bI (dropS 1 (takeS 1 (dropS 12 code_law07_FseBefore)))) Q g w := by
  refine den_loops (T := Value × Value × Value) (fun g : Env => (g 21, g 22, g 23)) (fun X t w => law07_FseBefore_p9 (fun _ _ _ _ _ _ _ _ _ _ t21 first_22 j_23 w => X (t21, first_22, j_23) w) k0 (g 2) (g 8) (g 10) (g 11) (g 12) (g 13) (g 14) (g 18) (g 19) (g 20) t.1 t.2.1 t.2.2 w) _ (by kernel_rfl) h (fun X g1 w1 ha h1 => ?_)
  rw [← agree_at (s := 2) ha (by kernel_rfl)] at h1
  rw [← agree_at (s := 8) ha (by kernel_rfl)] at h1
  rw [← agree_at (s := 10) ha (by kernel_rfl)] at h1
  rw [← agree_at (s := 11) ha (by kernel_rfl)] at h1
  rw [← agree_at (s := 12) ha (by kernel_rfl)] at h1
  rw [← agree_at (s := 13) ha (by kernel_rfl)] at h1
  rw [← agree_at (s := 14) ha (by kernel_rfl)] at h1
  rw [← agree_at (s := 18) ha (by kernel_rfl)] at h1
  rw [← agree_at (s := 19) ha (by kernel_rfl)] at h1
  rw [← agree_at (s := 20) ha (by kernel_rfl)] at h1
  exact (law07_FseBefore_p9_ok (thenE (fun g2 w2 => X ((fun g : Env => (g 21, g 22, g 23)) g2) w2) Q) g1 w1 (fun _ _ _ _ _ _ _ _ _ _ t21 first_22 j_23 w => X (t21, first_22, j_23) w) k0 (fun _ _ h => h) h0 h1)

def law07_FseBefore_p11 (kn : K12) (symbol_2 t8 s_10 i_11 x_12 n_13 f_14 g_18 k_19 h_20 t21 first_22 j_23 : Value) (w : World) : Prop :=
  law07_FseBefore_p10 kn symbol_2 t8 s_10 i_11 x_12 n_13 f_14 g_18 k_19 h_20 t21 first_22 j_23 w
theorem law07_FseBefore_p11_ok (kn : K12) (hn : ∀ g w, kn (g 2) (g 8) (g 10) (g 11) (g 12) (g 13) (g 14) (g 18) (g 19) (g 20) (g 21) (g 22) w → Q .normal g w) (h : law07_FseBefore_p11 kn (g 2) (g 8) (g 10) (g 11) (g 12) (g 13) (g 14) (g 18) (g 19) (g 20) (g 21) (g 22) (g 23) w) : den pg ann_law07_FseBefore (dropS 1 (takeS 1 (dropS 12 code_law07_FseBefore))) Q g w :=
  den_blk 0 _ g w (by kernel_rfl) (law07_FseBefore_p10_ok (blk 0 Q) g w kn hn h)

def law07_FseBefore_p12 (kn : K13) (symbol_2 t8 s_10 i_11 x_12 n_13 f_14 g_18 k_19 h_20 t21 first_22 : Value) (w : World) : Prop :=
  kn symbol_2 t8 s_10 i_11 x_12 n_13 f_14 g_18 k_19 h_20 t21 first_22 (.int .i64 0) w
theorem law07_FseBefore_p12_ok (kn : K13) (hn : ∀ g w, kn (g 2) (g 8) (g 10) (g 11) (g 12) (g 13) (g 14) (g 18) (g 19) (g 20) (g 21) (g 22) (g 23) w → Q .normal g w) (h : law07_FseBefore_p12 kn (g 2) (g 8) (g 10) (g 11) (g 12) (g 13) (g 14) (g 18) (g 19) (g 20) (g 21) (g 22) w) : den pg ann_law07_FseBefore (takeS 1 (takeS 1 (dropS 12 code_law07_FseBefore))) Q g w :=
  den_exQ (kr := no) (l := []) (by kernel_rfl) h hn noE trivial

def law07_FseBefore_p13 (kn : K12) (symbol_2 t8 s_10 i_11 x_12 n_13 f_14 g_18 k_19 h_20 t21 first_22 : Value) (w : World) : Prop :=
  law07_FseBefore_p12 (fun symbol_2 t8 s_10 i_11 x_12 n_13 f_14 g_18 k_19 h_20 t21 first_22 j_23 w => law07_FseBefore_p11 kn symbol_2 t8 s_10 i_11 x_12 n_13 f_14 g_18 k_19 h_20 t21 first_22 j_23 w) symbol_2 t8 s_10 i_11 x_12 n_13 f_14 g_18 k_19 h_20 t21 first_22 w
theorem law07_FseBefore_p13_ok (kn : K12) (hn : ∀ g w, kn (g 2) (g 8) (g 10) (g 11) (g 12) (g 13) (g 14) (g 18) (g 19) (g 20) (g 21) (g 22) w → Q .normal g w) (h : law07_FseBefore_p13 kn (g 2) (g 8) (g 10) (g 11) (g 12) (g 13) (g 14) (g 18) (g 19) (g 20) (g 21) (g 22) w) : den pg ann_law07_FseBefore (takeS 1 (dropS 12 code_law07_FseBefore)) Q g w :=
  den_seqs 1 _ g w (by kernel_rfl) (law07_FseBefore_p12_ok (thenE (fun g w => den pg ann_law07_FseBefore (dropS 1 (takeS 1 (dropS 12 code_law07_FseBefore))) Q g w) Q) g w (fun symbol_2 t8 s_10 i_11 x_12 n_13 f_14 g_18 k_19 h_20 t21 first_22 j_23 w => law07_FseBefore_p11 kn symbol_2 t8 s_10 i_11 x_12 n_13 f_14 g_18 k_19 h_20 t21 first_22 j_23 w) (fun g w h => thenE_n (K := fun g w => den pg ann_law07_FseBefore (dropS 1 (takeS 1 (dropS 12 code_law07_FseBefore))) Q g w) (law07_FseBefore_p11_ok Q g w kn hn h)) h)

def law07_FseBefore_p14 (R : K1) (symbol_2 t8 s_10 i_11 x_12 n_13 f_14 g_18 k_19 h_20 t21 first_22 : Value) (w : World) : Prop :=
  law07_FseBefore_p13 (fun symbol_2 t8 s_10 i_11 x_12 n_13 f_14 g_18 k_19 h_20 t21 first_22 w => law07_FseBefore_p1 R symbol_2 t8 s_10 i_11 x_12 n_13 f_14 g_18 k_19 h_20 t21 first_22 w) symbol_2 t8 s_10 i_11 x_12 n_13 f_14 g_18 k_19 h_20 t21 first_22 w
theorem law07_FseBefore_p14_ok (R : K1) (hr : HR rs_law07_FseBefore R Q) (h : law07_FseBefore_p14 R (g 2) (g 8) (g 10) (g 11) (g 12) (g 13) (g 14) (g 18) (g 19) (g 20) (g 21) (g 22) w) : den pg ann_law07_FseBefore (dropS 12 code_law07_FseBefore) Q g w :=
  den_seqs 1 _ g w (by kernel_rfl) (law07_FseBefore_p13_ok (thenE (fun g w => den pg ann_law07_FseBefore (dropS 1 (dropS 12 code_law07_FseBefore)) Q g w) Q) g w (fun symbol_2 t8 s_10 i_11 x_12 n_13 f_14 g_18 k_19 h_20 t21 first_22 w => law07_FseBefore_p1 R symbol_2 t8 s_10 i_11 x_12 n_13 f_14 g_18 k_19 h_20 t21 first_22 w) (fun g w h => thenE_n (K := fun g w => den pg ann_law07_FseBefore (dropS 1 (dropS 12 code_law07_FseBefore)) Q g w) (law07_FseBefore_p1_ok Q g w R hr h)) h)

def law07_FseBefore_p15 (kn : K12) (R : K1) (c_0 state_1 symbol_2 : Value) (w : World) : Prop :=
  Stp pg (sBox 24 c_0) w fun c_3 w =>
  Does pg F_law07_awake #[] w fun t26 w =>
  Stp pg (sUn .not t26) w fun t28 w =>
  Cnd t28
    (R (.bool false) w)
    (Stp pg (sFAddr 24 c_3 1) w fun t29 w =>
    Stp pg (sLoad 22 t29) w fun t30 w =>
    Stp pg (sBi .len #[22] 3 [t30]) w fun t31 w =>
    Stp pg (sBin .gtr 3 (.tmp 31) (.const (.int .i64 300)) t31 (.int .i64 300)) w fun t32 w =>
    Gd (isB t32 false) (fun K => Stp pg (sFAddr 24 c_3 0) w K) w fun t34 w =>
    Gd (isB t32 false) (fun K => Stp pg (sLoad 3 t34) w K) w fun t35 w =>
    Gd (isB t32 false) (fun K => Stp pg (sBin .gtr 3 (.tmp 35) (.const (.int .i64 10)) t35 (.int .i64 10)) w K) w fun t36 w =>
    Stp pg (sPick t32 (.bool true) t36) w fun t37 w =>
    Cnd t37
      (R (.bool true) w)
      (Stp pg (sLoad 24 c_3) w fun t39 w =>
      Does pg F_fse_Build #[t39] w fun t40 w =>
      Stp pg (sExtr t40 0) w fun t41 w =>
      Stp pg (sExtr t40 1) w fun t42 w =>
      Stp pg (sAlloc 28) w fun t8 w =>
      Stp pg (sStore 28 t8 t41) w fun _u w =>
      Stp pg (sBin .neq 29 (.tmp 43) (.const (.int .i64 0)) t42 (.int .i64 0)) w fun t44 w =>
      Cnd t44
        (Stp pg (sFAddr 28 t8 1) w fun t45 w =>
        Stp pg (sLoad 26 t45) w fun t46 w =>
        Stp pg (sBi .len #[26] 3 [t46]) w fun t47 w =>
        Stp pg (sBin .eql 3 (.tmp 47) (.const (.int .i64 0)) t47 (.int .i64 0)) w fun t48 w =>
        R t48 w)
        (Stp pg (sCvt 44 3 state_1) w fun t50 w =>
        Stp pg (sFAddr 28 t8 1) w fun t51 w =>
        Stp pg (sLoad 26 t51) w fun t52 w =>
        Stp pg (sBi .len #[26] 3 [t52]) w fun t53 w =>
        Stp pg (sBin .rem 3 (.tmp 50) (.tmp 53) t50 t53) w fun t54 w =>
        Stp pg (sLoad 28 t8) w fun t56 w =>
        Does pg F_fse_Before #[t56, t54, symbol_2] w fun t59 w =>
        Stp pg (sExtr t59 0) w fun t60 w =>
        Stp pg (sExtr t59 1) w fun t61 w =>
        Stp pg (sExtr t59 2) w fun t62 w =>
        Stp pg (sExtr t59 3) w fun t63 w =>
        Stp pg (sLoad 28 t8) w fun t65 w =>
        Stp pg (sFAddr 28 t8 1) w fun t66 w =>
        Stp pg (sLoad 26 t66) w fun t67 w =>
        Stp pg (sBi .len #[26] 3 [t67]) w fun t68 w =>
        Does pg F_fse_Before #[t65, t68, symbol_2] w fun t70 w =>
        Stp pg (sExtr t70 0) w fun t71 w =>
        Stp pg (sExtr t70 1) w fun t72 w =>
        Stp pg (sExtr t70 2) w fun t73 w =>
        Stp pg (sExtr t70 3) w fun t74 w =>
        Stp pg (sLoad 28 t8) w fun t76 w =>
        Does pg F_fse_First #[t76, symbol_2] w fun t78 w =>
        Stp pg (sExtr t78 0) w fun t79 w =>
        Stp pg (sExtr t78 1) w fun t80 w =>
        kn symbol_2 t8 t54 t60 t61 t62 t63 t74 t79 t80 (.int .i64 0) (.int .i64 (-1)) w)))
theorem law07_FseBefore_p15_ok (kn : K12) (R : K1) (hn : ∀ g w, kn (g 2) (g 8) (g 10) (g 11) (g 12) (g 13) (g 14) (g 18) (g 19) (g 20) (g 21) (g 22) w → Q .normal g w) (hr : HR rs_law07_FseBefore R Q) (h : law07_FseBefore_p15 kn R (g 0) (g 1) (g 2) w) : den pg ann_law07_FseBefore (takeS 12 code_law07_FseBefore) Q g w :=
  den_exQ (l := []) (by kernel_rfl) h hn hr trivial

def law07_FseBefore_p16 (R : K1) (c_0 state_1 symbol_2 : Value) (w : World) : Prop :=
  law07_FseBefore_p15 (fun symbol_2 t8 s_10 i_11 x_12 n_13 f_14 g_18 k_19 h_20 t21 first_22 w => law07_FseBefore_p14 R symbol_2 t8 s_10 i_11 x_12 n_13 f_14 g_18 k_19 h_20 t21 first_22 w) R c_0 state_1 symbol_2 w
theorem law07_FseBefore_p16_ok (R : K1) (hr : HR rs_law07_FseBefore R Q) (h : law07_FseBefore_p16 R (g 0) (g 1) (g 2) w) : den pg ann_law07_FseBefore code_law07_FseBefore Q g w :=
  den_seqs 12 _ g w (by kernel_rfl) (law07_FseBefore_p15_ok (thenE (fun g w => den pg ann_law07_FseBefore (dropS 12 code_law07_FseBefore) Q g w) Q) g w (fun symbol_2 t8 s_10 i_11 x_12 n_13 f_14 g_18 k_19 h_20 t21 first_22 w => law07_FseBefore_p14 R symbol_2 t8 s_10 i_11 x_12 n_13 f_14 g_18 k_19 h_20 t21 first_22 w) R (fun g w h => thenE_n (K := fun g w => den pg ann_law07_FseBefore (dropS 12 code_law07_FseBefore) Q g w) (law07_FseBefore_p14_ok Q g w R hr h)) hr h)

def law07_FseBefore (a0 a1 a2 : Value) (w : World) (R : K1) : Prop :=
  law07_FseBefore_p16 R a0 a1 a2 w
theorem law07_FseBefore_does {a0 a1 a2 : Value} {w : World} {R : K1} (h : law07_FseBefore a0 a1 a2 w R) : Does pg F_law07_FseBefore #[a0, a1, a2] w R := by
  refine does_of_den (ann := ann_law07_FseBefore) (fn := Try.f5) (c := code_law07_FseBefore) (args := [a0, a1, a2]) (rs := rs_law07_FseBefore) (N := 203) TryM.mixed (by kernel_rfl) Try.func5 (by kernel_rfl) (by kernel_rfl) (by kernel_rfl) (of_decide_eq_true (by kernel_rfl)) (by kernel_rfl) ?_
  exact (law07_FseBefore_p16_ok (retQ pg rs_law07_FseBefore R) (envOf [a0, a1, a2]) w R (fun _ _ h => h) h)
-- PIECES law07_FseBefore/0 law07_FseBefore_p1 law07_FseBefore_p10 law07_FseBefore_p11 law07_FseBefore_p12 law07_FseBefore_p13 law07_FseBefore_p14 law07_FseBefore_p15 law07_FseBefore_p16
-- PIECES law07_FseBefore/1 law07_FseBefore_p2 law07_FseBefore_p3 law07_FseBefore_p4 law07_FseBefore_p5 law07_FseBefore_p6 law07_FseBefore_p7 law07_FseBefore_p8 law07_FseBefore_p9

/- lighterman/lightermanlaw07.awake -/
def ann_law07_awake : FA := ⟨F_law07_awake, fun i => .leaf ([], []) []⟩
def rs_law07_awake : List ResultVar := [.tmp 0]
noncomputable def code_law07_awake : Code := bodyOf Try.f13
def law07_awake_p1 (R : K1)  (w : World) : Prop :=
  Does pg F_fse_One #[(.int .u8 7)] w fun t8 w =>
  Stp pg (sAlloc 28) w fun o_1 w =>
  Stp pg (sStore 28 o_1 t8) w fun _u w =>
  Stp pg (sBuildSlice 22 2 [(0, (.int .i64 16)), (1, (.int .i64 16))]) w fun t10 w =>
  Stp pg (sBuild 24 [(0, (.int .i64 5)), (1, t10)]) w fun t11 w =>
  Does pg F_fse_Build #[t11] w fun t12 w =>
  Stp pg (sExtr t12 0) w fun t13 w =>
  Stp pg (sExtr t12 1) w fun t14 w =>
  Stp pg (sAlloc 28) w fun t2 w =>
  Stp pg (sStore 28 t2 t13) w fun _u w =>
  Stp pg (sBuild 24 []) w fun t16 w =>
  Does pg F_fse_Build #[t16] w fun t17 w =>
  Stp pg (sExtr t17 0) w fun t18 w =>
  Stp pg (sExtr t17 1) w fun t19 w =>
  Stp pg (sAlloc 28) w fun t4 w =>
  Stp pg (sStore 28 t4 t18) w fun _u w =>
  Stp pg (sLoad 28 t2) w fun t21 w =>
  Does pg F_fse_First #[t21, (.int .u8 1)] w fun t22 w =>
  Stp pg (sExtr t22 0) w fun t23 w =>
  Stp pg (sExtr t22 1) w fun t24 w =>
  Stp pg (sFAddr 28 o_1 1) w fun t25 w =>
  Stp pg (sLoad 26 t25) w fun t26 w =>
  Stp pg (sBi .len #[26] 3 [t26]) w fun t27 w =>
  Stp pg (sBin .eql 3 (.tmp 27) (.const (.int .i64 1)) t27 (.int .i64 1)) w fun t28 w =>
  Gd (isB t28 true) (fun K => Stp pg (sFAddr 28 o_1 1) w K) w fun t30 w =>
  Gd (isB t28 true) (fun K => Stp pg (sLoad 26 t30) w K) w fun t31 w =>
  Gd (isB t28 true) (fun K => Stp pg (sIAddr 26 t31 (.int .i64 0)) w K) w fun t32 w =>
  Gd (isB t28 true) (fun K => Stp pg (sFAddr 43 t32 0) w K) w fun t33 w =>
  Gd (isB t28 true) (fun K => Stp pg (sLoad 5 t33) w K) w fun t34 w =>
  Gd (isB t28 true) (fun K => Stp pg (sBin .eql 5 (.tmp 34) (.const (.int .u8 7)) t34 (.int .u8 7)) w K) w fun t35 w =>
  Stp pg (sPick t28 t35 (.bool false)) w fun t36 w =>
  Gd (isB t36 true) (fun K => K t14 w) w fun t38 w =>
  Gd (isB t36 true) (fun K => Stp pg (sBin .eql 29 (.tmp 38) (.const (.int .i64 0)) t38 (.int .i64 0)) w K) w fun t39 w =>
  Stp pg (sPick t36 t39 (.bool false)) w fun t40 w =>
  Gd (isB t40 true) (fun K => Stp pg (sFAddr 28 t2 1) w K) w fun t42 w =>
  Gd (isB t40 true) (fun K => Stp pg (sLoad 26 t42) w K) w fun t43 w =>
  Gd (isB t40 true) (fun K => Stp pg (sBi .len #[26] 3 [t43]) w K) w fun t44 w =>
  Gd (isB t40 true) (fun K => Stp pg (sBin .eql 3 (.tmp 44) (.const (.int .i64 32)) t44 (.int .i64 32)) w K) w fun t45 w =>
  Stp pg (sPick t40 t45 (.bool false)) w fun t46 w =>
  Gd (isB t46 true) (fun K => Stp pg (sFAddr 28 t2 0) w K) w fun t48 w =>
  Gd (isB t46 true) (fun K => Stp pg (sLoad 3 t48) w K) w fun t49 w =>
  Gd (isB t46 true) (fun K => Stp pg (sBin .eql 3 (.tmp 49) (.const (.int .i64 5)) t49 (.int .i64 5)) w K) w fun t50 w =>
  Stp pg (sPick t46 t50 (.bool false)) w fun t51 w =>
  Gd (isB t51 true) (fun K => K t19 w) w fun t53 w =>
  Gd (isB t51 true) (fun K => Stp pg (sBin .eql 29 (.tmp 53) (.const (.int .i64 1)) t53 (.int .i64 1)) w K) w fun t54 w =>
  Stp pg (sPick t51 t54 (.bool false)) w fun t55 w =>
  Gd (isB t55 true) (fun K => K t24 w) w fun t57 w =>
  Gd (isB t55 true) (fun K => Stp pg (sBin .eql 29 (.tmp 57) (.const (.int .i64 0)) t57 (.int .i64 0)) w K) w fun t58 w =>
  Stp pg (sPick t55 t58 (.bool false)) w fun t59 w =>
  Gd (isB t59 true) (fun K => K t23 w) w fun t61 w =>
  Gd (isB t59 true) (fun K => Stp pg (sBin .geq 3 (.tmp 61) (.const (.int .i64 0)) t61 (.int .i64 0)) w K) w fun t62 w =>
  Stp pg (sPick t59 t62 (.bool false)) w fun t63 w =>
  Gd (isB t63 true) (fun K => K t23 w) w fun t65 w =>
  Gd (isB t63 true) (fun K => Stp pg (sBin .lss 3 (.tmp 65) (.const (.int .i64 32)) t65 (.int .i64 32)) w K) w fun t66 w =>
  Stp pg (sPick t63 t66 (.bool false)) w fun t67 w =>
  Gd (isB t67 true) (fun K => Stp pg (sFAddr 28 t2 1) w K) w fun t69 w =>
  Gd (isB t67 true) (fun K => Stp pg (sLoad 26 t69) w K) w fun t70 w =>
  Gd (isB t67 true) (fun K => K t23 w) w fun t71 w =>
  Gd (isB t67 true) (fun K => Stp pg (sIAddr 26 t70 t71) w K) w fun t72 w =>
  Gd (isB t67 true) (fun K => Stp pg (sFAddr 43 t72 0) w K) w fun t73 w =>
  Gd (isB t67 true) (fun K => Stp pg (sLoad 5 t73) w K) w fun t74 w =>
  Gd (isB t67 true) (fun K => Stp pg (sBin .eql 5 (.tmp 74) (.const (.int .u8 1)) t74 (.int .u8 1)) w K) w fun t75 w =>
  Stp pg (sPick t67 t75 (.bool false)) w fun t76 w =>
  R t76 w
theorem law07_awake_p1_ok (R : K1) (hr : HR rs_law07_awake R Q) (h : law07_awake_p1 R w) : den pg ann_law07_awake code_law07_awake Q g w :=
  den_exQ (kn := no) (l := []) (by kernel_rfl) h noE hr trivial

def law07_awake (w : World) (R : K1) : Prop :=
  law07_awake_p1 R w
theorem law07_awake_does {w : World} {R : K1} (h : law07_awake w R) : Does pg F_law07_awake #[] w R := by
  refine does_of_den (ann := ann_law07_awake) (fn := Try.f13) (c := code_law07_awake) (args := []) (rs := rs_law07_awake) (N := 77) TryM.mixed (by kernel_rfl) Try.func13 (by kernel_rfl) (by kernel_rfl) (by kernel_rfl) (of_decide_eq_true (by kernel_rfl)) (by kernel_rfl) ?_
  exact (law07_awake_p1_ok (retQ pg rs_law07_awake R) (envOf []) w R (fun _ _ h => h) h)
-- PIECES law07_awake/0 law07_awake_p1

/- lighterman/fse.Build -/
def ann_fse_Build : FA := ⟨F_fse_Build, fun i => match Nat.beq i 3 with | true => .split 3 5 (.perm [0, 1, 2, 3, 4, 5, 6] [(3, 5)] ([3, 5, 6], [(0, 3), (0, 5), (1, 3), (1, 5), (4, 5)]) [(false, []), (false, []), (false, []), (true, [1, 2]), (false, []), (true, [0, 3, 4]), (true, [])]) (.perm [0, 1, 2, 5, 3, 4, 6] [(5, 3)] ([3, 4, 6], [(0, 3), (0, 4), (1, 3), (1, 4), (2, 3)]) [(false, []), (false, []), (false, []), (true, [0, 1, 2]), (true, [2, 3]), (false, []), (true, [])]) | false => match Nat.beq i 16 with | true => .leaf ([5, 10], [(1, 5), (2, 5)]) [(false, []), (false, []), (false, []), (false, []), (false, []), (true, [2, 3]), (false, []), (false, []), (false, []), (false, []), (true, [])] | false => match Nat.beq i 17 with | true => .leaf ([13], []) [(false, []), (false, []), (false, []), (false, []), (false, []), (false, []), (false, []), (false, []), (false, []), (false, []), (false, []), (false, []), (false, []), (true, [])] | false => .leaf ([], []) []⟩
def rs_fse_Build : List ResultVar := [.cell 2 28, .tmp 3]
noncomputable def code_fse_Build : Code := bodyOf Try.f14
def fse_Build_p1 (R : K1) (t2 t4 : Value) (w : World) : Prop :=
  Stp pg (sLoad 28 t4) w fun t90 w =>
  Stp pg (sStore 28 t2 t90) w fun _u w =>
  LdR pg 28 t2 w fun r0 => R (.tuple #[r0, (.int .i64 0)]) w
theorem fse_Build_p1_ok (R : K1) (hr : HR rs_fse_Build R Q) (h : fse_Build_p1 R (g 2) (g 4) w) : den pg ann_fse_Build (dropS 1 (dropS 1 (dropS 1 (dropS 3 code_fse_Build)))) Q g w :=
  den_exQ (kn := no) (l := []) (by kernel_rfl) h noE hr trivial

def fse_Build_p2 (kn : K6) (c_1 t2 t4 next_5 t42 t43 : Value) (w : World) : Prop :=
  Stp pg (sBin .add 3 (.tmp 43) (.const (.int .i64 1)) t43 (.int .i64 1)) w fun t89 w =>
  kn c_1 t2 t4 next_5 t42 t89 w
theorem fse_Build_p2_ok (kn : K6) (hn : ∀ g w, kn (g 1) (g 2) (g 4) (g 5) (g 42) (g 43) w → Q .normal g w) (h : fse_Build_p2 kn (g 1) (g 2) (g 4) (g 5) (g 42) (g 43) w) : den pg ann_fse_Build (dropS 1 (dropS 2 (bI (bI (dropS 1 (takeS 1 (dropS 1 (dropS 1 (dropS 3 code_fse_Build))))))))) Q g w :=
  den_exQ (kr := no) (l := []) (by kernel_rfl) h hn noE trivial

def fse_Build_p3 (kn : K6) (c_1 t2 t4 next_5 x_9 k_10 t42 t43 : Value) (w : World) : Prop :=
  (dr w) = (dr w) ∧
  (dr w) = (dr w) ∧
  (dr w) = (dr w) ∧
  Stp pg (sNil x_9) (dr w) fun t79 w_ => w_ = (dr w) ∧
  Stp pg (sFAddr 43 t79 1) (dr w) fun t80 w_ => w_ = (dr w) ∧
  Stp pg (sLoad 3 t80) (dr w) fun t81 w_ => w_ = (dr w) ∧
  Stp pg (sBin .shl 3 (.tmp 77) (.tmp 81) k_10 t81) (dr w) fun t82 w_ => w_ = (dr w) ∧
  Stp pg (sFAddr 28 t4 1) (dr w) fun t83 w_ => w_ = (dr w) ∧
  Stp pg (sLoad 26 t83) (dr w) fun t84 w_ => w_ = (dr w) ∧
  Stp pg (sBi .len #[26] 3 [t84]) (dr w) fun t85 w_ => w_ = (dr w) ∧
  Stp pg (sBin .sub 3 (.tmp 82) (.tmp 85) t82 t85) (dr w) fun t86 w_ => w_ = (dr w) ∧
  Stp pg (sNil x_9) (dr w) fun t87 w_ => w_ = (dr w) ∧
  Stp pg (sFAddr 43 t87 2) (dr w) fun t88 w_ => w_ = (dr w) ∧
  Stp pg (sStore 3 t88 t86) (dr w) fun _u13 w17_13 =>
  kn c_1 t2 t4 next_5 t42 t43 w17_13
theorem fse_Build_p3_ok (kn : K6) (hn : ∀ g w, kn (g 1) (g 2) (g 4) (g 5) (g 42) (g 43) w → Q .normal g w) (h : fse_Build_p3 kn (g 1) (g 2) (g 4) (g 5) (g 9) (g 10) (g 42) (g 43) w) : den pg ann_fse_Build (dropS 1 (dropS 4 (bI (takeS 1 (dropS 2 (bI (bI (dropS 1 (takeS 1 (dropS 1 (dropS 1 (dropS 3 code_fse_Build)))))))))))) Q g w :=
  den_exQ (kr := no) (l := []) (by kernel_rfl) h hn noE trivial

def fse_Build_p4 (kn : K8) (c_1 t2 t4 next_5 x_9 k_10 t42 t43 : Value) (w : World) : Prop :=
  (dr w) = (dr w) ∧
  Stp pg (sFAddr 24 c_1 0) (dr w) fun t67 w_ => w_ = (dr w) ∧
  Stp pg (sLoad 3 t67) (dr w) fun t68 w_ => w_ = (dr w) ∧
  (dr w) = (dr w) ∧
  Stp pg (sCvt 3 50 k_10) (dr w) fun t70 w_ => w_ = (dr w) ∧
  Does pg F_math_bits_Len #[t70] (dr w) fun t71 w16_5 =>
  (Same pg (sLoad 3 t67) t68 w16_5 ∧ Same pg (sFAddr 24 c_1 0) t67 w16_5 ∧ True) ∧
  Stp pg (sBin .sub 3 (.tmp 68) (.tmp 71) t68 t71) w16_5 fun t72 w_ => w_ = w16_5 ∧
  Stp pg (sBin .add 3 (.tmp 72) (.const (.int .i64 1)) t72 (.int .i64 1)) w16_5 fun t73 w_ => w_ = w16_5 ∧
  Stp pg (sNil x_9) w16_5 fun t74 w_ => w_ = w16_5 ∧
  Stp pg (sFAddr 43 t74 1) w16_5 fun t75 w_ => w_ = w16_5 ∧
  Stp pg (sStore 3 t75 t73) w16_5 fun _u10 w16_10 =>
  kn c_1 t2 t4 next_5 x_9 k_10 t42 t43 w16_10
theorem fse_Build_p4_ok (kn : K8) (hn : ∀ g w, kn (g 1) (g 2) (g 4) (g 5) (g 9) (g 10) (g 42) (g 43) w → Q .normal g w) (h : fse_Build_p4 kn (g 1) (g 2) (g 4) (g 5) (g 9) (g 10) (g 42) (g 43) w) : den pg ann_fse_Build (takeS 1 (dropS 4 (bI (takeS 1 (dropS 2 (bI (bI (dropS 1 (takeS 1 (dropS 1 (dropS 1 (dropS 3 code_fse_Build)))))))))))) Q g w :=
  den_exQ (kr := no) (l := []) (by kernel_rfl) h hn noE trivial

def fse_Build_p5 (kn : K6) (c_1 t2 t4 next_5 x_9 k_10 t42 t43 : Value) (w : World) : Prop :=
  fse_Build_p4 (fun c_1 t2 t4 next_5 x_9 k_10 t42 t43 w => fse_Build_p3 kn c_1 t2 t4 next_5 x_9 k_10 t42 t43 w) c_1 t2 t4 next_5 x_9 k_10 t42 t43 w
theorem fse_Build_p5_ok (kn : K6) (hn : ∀ g w, kn (g 1) (g 2) (g 4) (g 5) (g 42) (g 43) w → Q .normal g w) (h : fse_Build_p5 kn (g 1) (g 2) (g 4) (g 5) (g 9) (g 10) (g 42) (g 43) w) : den pg ann_fse_Build (dropS 4 (bI (takeS 1 (dropS 2 (bI (bI (dropS 1 (takeS 1 (dropS 1 (dropS 1 (dropS 3 code_fse_Build))))))))))) Q g w :=
  den_seqs 1 _ g w (by kernel_rfl) (fse_Build_p4_ok (thenE (fun g w => den pg ann_fse_Build (dropS 1 (dropS 4 (bI (takeS 1 (dropS 2 (bI (bI (dropS 1 (takeS 1 (dropS 1 (dropS 1 (dropS 3 code_fse_Build)))))))))))) Q g w) Q) g w (fun c_1 t2 t4 next_5 x_9 k_10 t42 t43 w => fse_Build_p3 kn c_1 t2 t4 next_5 x_9 k_10 t42 t43 w) (fun g w h => thenE_n (K := fun g w => den pg ann_fse_Build (dropS 1 (dropS 4 (bI (takeS 1 (dropS 2 (bI (bI (dropS 1 (takeS 1 (dropS 1 (dropS 1 (dropS 3 code_fse_Build)))))))))))) Q g w) (fse_Build_p3_ok Q g w kn hn h)) h)

def fse_Build_p6 (kn : K8) (c_1 t2 t4 next_5 t42 t43 : Value) (w : World) : Prop :=
  Stp pg (sFAddr 28 t4 1) w fun t46 w =>
  Stp pg (sLoad 26 t46) w fun t47 w =>
  Stp pg (sIAddr 26 t47 t43) w fun t49 w =>
  Stp pg (sNil t49) w fun t52 w =>
  Stp pg (sFAddr 43 t52 0) w fun t53 w =>
  Stp pg (sLoad 5 t53) w fun t54 w =>
  Stp pg (sIAddr 22 next_5 t54) w fun t55 w =>
  Stp pg (sLoad 3 t55) w fun t56 w =>
  Stp pg (sNil t49) w fun t59 w =>
  Stp pg (sFAddr 43 t59 0) w fun t60 w =>
  Stp pg (sLoad 5 t60) w fun t61 w =>
  Stp pg (sIAddr 22 next_5 t61) w fun t62 w =>
  Stp pg (sLoad 3 t62) w fun t63 w =>
  Stp pg (sBin .add 3 (.tmp 63) (.const (.int .i64 1)) t63 (.int .i64 1)) w fun t64 w =>
  Stp pg (sIAddr 22 next_5 t61) w fun t65 w =>
  Stp pg (sStore 3 t65 t64) w fun _u w =>
  kn c_1 t2 t4 next_5 t49 t56 t42 t43 w
theorem fse_Build_p6_ok (kn : K8) (hn : ∀ g w, kn (g 1) (g 2) (g 4) (g 5) (g 9) (g 10) (g 42) (g 43) w → Q .normal g w) (h : fse_Build_p6 kn (g 1) (g 2) (g 4) (g 5) (g 42) (g 43) w) : den pg ann_fse_Build (takeS 4 (bI (takeS 1 (dropS 2 (bI (bI (dropS 1 (takeS 1 (dropS 1 (dropS 1 (dropS 3 code_fse_Build))))))))))) Q g w :=
  den_exQ (kr := no) (l := []) (by kernel_rfl) h hn noE trivial

def fse_Build_p7 (kn : K6) (c_1 t2 t4 next_5 t42 t43 : Value) (w : World) : Prop :=
  fse_Build_p6 (fun c_1 t2 t4 next_5 x_9 k_10 t42 t43 w => fse_Build_p5 kn c_1 t2 t4 next_5 x_9 k_10 t42 t43 w) c_1 t2 t4 next_5 t42 t43 w
theorem fse_Build_p7_ok (kn : K6) (hn : ∀ g w, kn (g 1) (g 2) (g 4) (g 5) (g 42) (g 43) w → Q .normal g w) (h : fse_Build_p7 kn (g 1) (g 2) (g 4) (g 5) (g 42) (g 43) w) : den pg ann_fse_Build (bI (takeS 1 (dropS 2 (bI (bI (dropS 1 (takeS 1 (dropS 1 (dropS 1 (dropS 3 code_fse_Build)))))))))) Q g w :=
  den_seqs 4 _ g w (by kernel_rfl) (fse_Build_p6_ok (thenE (fun g w => den pg ann_fse_Build (dropS 4 (bI (takeS 1 (dropS 2 (bI (bI (dropS 1 (takeS 1 (dropS 1 (dropS 1 (dropS 3 code_fse_Build))))))))))) Q g w) Q) g w (fun c_1 t2 t4 next_5 x_9 k_10 t42 t43 w => fse_Build_p5 kn c_1 t2 t4 next_5 x_9 k_10 t42 t43 w) (fun g w h => thenE_n (K := fun g w => den pg ann_fse_Build (dropS 4 (bI (takeS 1 (dropS 2 (bI (bI (dropS 1 (takeS 1 (dropS 1 (dropS 1 (dropS 3 code_fse_Build))))))))))) Q g w) (fse_Build_p5_ok Q g w kn hn h)) h)

def fse_Build_p8 (kn : K6) (c_1 t2 t4 next_5 t42 t43 : Value) (w : World) : Prop :=
  fse_Build_p7 kn c_1 t2 t4 next_5 t42 t43 w
theorem fse_Build_p8_ok (kn : K6) (hn : ∀ g w, kn (g 1) (g 2) (g 4) (g 5) (g 42) (g 43) w → Q .normal g w) (h : fse_Build_p8 kn (g 1) (g 2) (g 4) (g 5) (g 42) (g 43) w) : den pg ann_fse_Build (takeS 1 (dropS 2 (bI (bI (dropS 1 (takeS 1 (dropS 1 (dropS 1 (dropS 3 code_fse_Build))))))))) Q g w :=
  den_blk 3 _ g w (by kernel_rfl) (fse_Build_p7_ok (blk 3 Q) g w kn hn h)

def fse_Build_p9 (kn : K6) (c_1 t2 t4 next_5 t42 t43 : Value) (w : World) : Prop :=
  fse_Build_p8 (fun c_1 t2 t4 next_5 t42 t43 w => fse_Build_p2 kn c_1 t2 t4 next_5 t42 t43 w) c_1 t2 t4 next_5 t42 t43 w
theorem fse_Build_p9_ok (kn : K6) (hn : ∀ g w, kn (g 1) (g 2) (g 4) (g 5) (g 42) (g 43) w → Q .normal g w) (h : fse_Build_p9 kn (g 1) (g 2) (g 4) (g 5) (g 42) (g 43) w) : den pg ann_fse_Build (dropS 2 (bI (bI (dropS 1 (takeS 1 (dropS 1 (dropS 1 (dropS 3 code_fse_Build)))))))) Q g w :=
  den_seqs 1 _ g w (by kernel_rfl) (fse_Build_p8_ok (thenE (fun g w => den pg ann_fse_Build (dropS 1 (dropS 2 (bI (bI (dropS 1 (takeS 1 (dropS 1 (dropS 1 (dropS 3 code_fse_Build))))))))) Q g w) Q) g w (fun c_1 t2 t4 next_5 t42 t43 w => fse_Build_p2 kn c_1 t2 t4 next_5 t42 t43 w) (fun g w h => thenE_n (K := fun g w => den pg ann_fse_Build (dropS 1 (dropS 2 (bI (bI (dropS 1 (takeS 1 (dropS 1 (dropS 1 (dropS 3 code_fse_Build))))))))) Q g w) (fse_Build_p2_ok Q g w kn hn h)) h)

def fse_Build_p10 (kn : K6) (k2 : K2) (c_1 t2 t4 next_5 t42 t43 : Value) (w : World) : Prop :=
  Stp pg (sBin .lss 3 (.tmp 43) (.tmp 42) t43 t42) w fun t44 w =>
  Cnd t44
    (kn c_1 t2 t4 next_5 t42 t43 w)
    (k2 t2 t4 w)
theorem fse_Build_p10_ok (kn : K6) (k2 : K2) (hn : ∀ g w, kn (g 1) (g 2) (g 4) (g 5) (g 42) (g 43) w → Q .normal g w) (h2 : ∀ g w, k2 (g 2) (g 4) w → Q (.exit 2) g w) (h : fse_Build_p10 kn k2 (g 1) (g 2) (g 4) (g 5) (g 42) (g 43) w) : den pg ann_fse_Build (takeS 2 (bI (bI (dropS 1 (takeS 1 (dropS 1 (dropS 1 (dropS 3 code_fse_Build)))))))) Q g w :=
  den_exQ (kr := no) (l := [(2, fun g w => k2 (g 2) (g 4) w)]) (by kernel_rfl) h hn noE ⟨h2, trivial⟩

def fse_Build_p11 (kn : K6) (k2 : K2) (c_1 t2 t4 next_5 t42 t43 : Value) (w : World) : Prop :=
  fse_Build_p10 (fun c_1 t2 t4 next_5 t42 t43 w => fse_Build_p9 kn c_1 t2 t4 next_5 t42 t43 w) k2 c_1 t2 t4 next_5 t42 t43 w
theorem fse_Build_p11_ok (kn : K6) (k2 : K2) (hn : ∀ g w, kn (g 1) (g 2) (g 4) (g 5) (g 42) (g 43) w → Q .normal g w) (h2 : ∀ g w, k2 (g 2) (g 4) w → Q (.exit 2) g w) (h : fse_Build_p11 kn k2 (g 1) (g 2) (g 4) (g 5) (g 42) (g 43) w) : den pg ann_fse_Build (bI (bI (dropS 1 (takeS 1 (dropS 1 (dropS 1 (dropS 3 code_fse_Build))))))) Q g w :=
  den_seqs 2 _ g w (by kernel_rfl) (fse_Build_p10_ok (thenE (fun g w => den pg ann_fse_Build (dropS 2 (bI (bI (dropS 1 (takeS 1 (dropS 1 (dropS 1 (dropS 3 code_fse_Build)))))))) Q g w) Q) g w (fun c_1 t2 t4 next_5 t42 t43 w => fse_Build_p9 kn c_1 t2 t4 next_5 t42 t43 w) k2 (fun g w h => thenE_n (K := fun g w => den pg ann_fse_Build (dropS 2 (bI (bI (dropS 1 (takeS 1 (dropS 1 (dropS 1 (dropS 3 code_fse_Build)))))))) Q g w) (fse_Build_p9_ok Q g w kn hn h)) h2 h)

def fse_Build_p12 (k2 : K2) (c_1 t2 t4 next_5 t42 t43 : Value) (w : World) : Prop :=
  LoopD (fun (X : Value → K0) (t : Value) (w : World) => fse_Build_p11 (fun _ _ _ _ _ t43 w => X t43 w) k2 c_1 t2 t4 next_5 t42 t w) t43 w
theorem fse_Build_p12_ok (k2 : K2) (h2 : ∀ g w, k2 (g 2) (g 4) w → Q (.exit 2) g w) (h : fse_Build_p12 k2 (g 1) (g 2) (g 4) (g 5) (g 42) (g 43) w) : den pg ann_fse_Build (bI (dropS 1 (takeS 1 (dropS 1 (dropS 1 (dropS 3 code_fse_Build)))))) Q g w := by
  refine den_loops (T := Value) (fun g : Env => g 43) (fun X t w => fse_Build_p11 (fun _ _ _ _ _ t43 w => X t43 w) k2 (g 1) (g 2) (g 4) (g 5) (g 42) t w) _ (by kernel_rfl) h (fun X g1 w1 ha h1 => ?_)
  rw [← agree_at (s := 1) ha (by kernel_rfl)] at h1
  rw [← agree_at (s := 2) ha (by kernel_rfl)] at h1
  rw [← agree_at (s := 4) ha (by kernel_rfl)] at h1
  rw [← agree_at (s := 5) ha (by kernel_rfl)] at h1
  rw [← agree_at (s := 42) ha (by kernel_rfl)] at h1
  exact (fse_Build_p11_ok (thenE (fun g2 w2 => X ((fun g : Env => g 43) g2) w2) Q) g1 w1 (fun _ _ _ _ _ t43 w => X t43 w) k2 (fun _ _ h => h) h2 h1)

def fse_Build_p13 (kn : K2) (c_1 t2 t4 next_5 t42 t43 : Value) (w : World) : Prop :=
  fse_Build_p12 kn c_1 t2 t4 next_5 t42 t43 w
theorem fse_Build_p13_ok (kn : K2) (hn : ∀ g w, kn (g 2) (g 4) w → Q .normal g w) (h : fse_Build_p13 kn (g 1) (g 2) (g 4) (g 5) (g 42) (g 43) w) : den pg ann_fse_Build (dropS 1 (takeS 1 (dropS 1 (dropS 1 (dropS 3 code_fse_Build))))) Q g w :=
  den_blk 2 _ g w (by kernel_rfl) (fse_Build_p12_ok (blk 2 Q) g w kn hn h)

def fse_Build_p14 (kn : K6) (c_1 t2 t4 next_5 : Value) (w : World) : Prop :=
  Stp pg (sFAddr 28 t4 1) w fun t40 w =>
  Stp pg (sLoad 26 t40) w fun t41 w =>
  Stp pg (sBi .len #[26] 3 [t41]) w fun t42 w =>
  kn c_1 t2 t4 next_5 t42 (.int .i64 0) w
theorem fse_Build_p14_ok (kn : K6) (hn : ∀ g w, kn (g 1) (g 2) (g 4) (g 5) (g 42) (g 43) w → Q .normal g w) (h : fse_Build_p14 kn (g 1) (g 2) (g 4) (g 5) w) : den pg ann_fse_Build (takeS 1 (takeS 1 (dropS 1 (dropS 1 (dropS 3 code_fse_Build))))) Q g w :=
  den_exQ (kr := no) (l := []) (by kernel_rfl) h hn noE trivial

def fse_Build_p15 (kn : K2) (c_1 t2 t4 next_5 : Value) (w : World) : Prop :=
  fse_Build_p14 (fun c_1 t2 t4 next_5 t42 t43 w => fse_Build_p13 kn c_1 t2 t4 next_5 t42 t43 w) c_1 t2 t4 next_5 w
theorem fse_Build_p15_ok (kn : K2) (hn : ∀ g w, kn (g 2) (g 4) w → Q .normal g w) (h : fse_Build_p15 kn (g 1) (g 2) (g 4) (g 5) w) : den pg ann_fse_Build (takeS 1 (dropS 1 (dropS 1 (dropS 3 code_fse_Build)))) Q g w :=
  den_seqs 1 _ g w (by kernel_rfl) (fse_Build_p14_ok (thenE (fun g w => den pg ann_fse_Build (dropS 1 (takeS 1 (dropS 1 (dropS 1 (dropS 3 code_fse_Build))))) Q g w) Q) g w (fun c_1 t2 t4 next_5 t42 t43 w => fse_Build_p13 kn c_1 t2 t4 next_5 t42 t43 w) (fun g w h => thenE_n (K := fun g w => den pg ann_fse_Build (dropS 1 (takeS 1 (dropS 1 (dropS 1 (dropS 3 code_fse_Build))))) Q g w) (fse_Build_p13_ok Q g w kn hn h)) h)

def fse_Build_p16 (R : K1) (c_1 t2 t4 next_5 : Value) (w : World) : Prop :=
  fse_Build_p15 (fun t2 t4 w => fse_Build_p1 R t2 t4 w) c_1 t2 t4 next_5 w
theorem fse_Build_p16_ok (R : K1) (hr : HR rs_fse_Build R Q) (h : fse_Build_p16 R (g 1) (g 2) (g 4) (g 5) w) : den pg ann_fse_Build (dropS 1 (dropS 1 (dropS 3 code_fse_Build))) Q g w :=
  den_seqs 1 _ g w (by kernel_rfl) (fse_Build_p15_ok (thenE (fun g w => den pg ann_fse_Build (dropS 1 (dropS 1 (dropS 1 (dropS 3 code_fse_Build)))) Q g w) Q) g w (fun t2 t4 w => fse_Build_p1 R t2 t4 w) (fun g w h => thenE_n (K := fun g w => den pg ann_fse_Build (dropS 1 (dropS 1 (dropS 1 (dropS 3 code_fse_Build)))) Q g w) (fse_Build_p1_ok Q g w R hr h)) h)

def fse_Build_p17 (kn : K7) (k0 : K4) (c_1 t2 t4 next_5 t25 t26 t27 : Value) (w : World) : Prop :=
  Stp pg (sBin .lss 3 (.tmp 27) (.tmp 26) t27 t26) w fun t28 w =>
  Cnd t28
    (Stp pg (sIAddr 22 t25 t27) w fun t30 w =>
    Stp pg (sLoad 3 t30) w fun t31 w =>
    Stp pg (sUn .neg t31) w fun t36 w =>
    Stp pg (sBi .max #[3, 3] 3 [t31, t36]) w fun t37 w =>
    Stp pg (sIAddr 22 next_5 t27) w fun t38 w =>
    Stp pg (sStore 3 t38 t37) w fun _u w =>
    Stp pg (sBin .add 3 (.tmp 27) (.const (.int .i64 1)) t27 (.int .i64 1)) w fun t39 w =>
    kn c_1 t2 t4 next_5 t25 t26 t39 w)
    (k0 c_1 t2 t4 next_5 w)
theorem fse_Build_p17_ok (kn : K7) (k0 : K4) (hn : ∀ g w, kn (g 1) (g 2) (g 4) (g 5) (g 25) (g 26) (g 27) w → Q .normal g w) (h0 : ∀ g w, k0 (g 1) (g 2) (g 4) (g 5) w → Q (.exit 0) g w) (h : fse_Build_p17 kn k0 (g 1) (g 2) (g 4) (g 5) (g 25) (g 26) (g 27) w) : den pg ann_fse_Build (bI (bI (dropS 1 (takeS 1 (dropS 1 (dropS 3 code_fse_Build)))))) Q g w :=
  den_exQ (kr := no) (l := [(0, fun g w => k0 (g 1) (g 2) (g 4) (g 5) w)]) (by kernel_rfl) h hn noE ⟨h0, trivial⟩

def fse_Build_p18 (k0 : K4) (c_1 t2 t4 next_5 t25 t26 t27 : Value) (w : World) : Prop :=
  LoopD (fun (X : Value → K0) (t : Value) (w : World) => fse_Build_p17 (fun _ _ _ _ _ _ t27 w => X t27 w) k0 c_1 t2 t4 next_5 t25 t26 t w) t27 w
theorem fse_Build_p18_ok (k0 : K4) (h0 : ∀ g w, k0 (g 1) (g 2) (g 4) (g 5) w → Q (.exit 0) g w) (h : fse_Build_p18 k0 (g 1) (g 2) (g 4) (g 5) (g 25) (g 26) (g 27) w) : den pg ann_fse_Build (bI (dropS 1 (takeS 1 (dropS 1 (dropS 3 code_fse_Build))))) Q g w := by
  refine den_loops (T := Value) (fun g : Env => g 27) (fun X t w => fse_Build_p17 (fun _ _ _ _ _ _ t27 w => X t27 w) k0 (g 1) (g 2) (g 4) (g 5) (g 25) (g 26) t w) _ (by kernel_rfl) h (fun X g1 w1 ha h1 => ?_)
  rw [← agree_at (s := 1) ha (by kernel_rfl)] at h1
  rw [← agree_at (s := 2) ha (by kernel_rfl)] at h1
  rw [← agree_at (s := 4) ha (by kernel_rfl)] at h1
  rw [← agree_at (s := 5) ha (by kernel_rfl)] at h1
  rw [← agree_at (s := 25) ha (by kernel_rfl)] at h1
  rw [← agree_at (s := 26) ha (by kernel_rfl)] at h1
  exact (fse_Build_p17_ok (thenE (fun g2 w2 => X ((fun g : Env => g 27) g2) w2) Q) g1 w1 (fun _ _ _ _ _ _ t27 w => X t27 w) k0 (fun _ _ h => h) h0 h1)

def fse_Build_p19 (kn : K4) (c_1 t2 t4 next_5 t25 t26 t27 : Value) (w : World) : Prop :=
  fse_Build_p18 kn c_1 t2 t4 next_5 t25 t26 t27 w
theorem fse_Build_p19_ok (kn : K4) (hn : ∀ g w, kn (g 1) (g 2) (g 4) (g 5) w → Q .normal g w) (h : fse_Build_p19 kn (g 1) (g 2) (g 4) (g 5) (g 25) (g 26) (g 27) w) : den pg ann_fse_Build (dropS 1 (takeS 1 (dropS 1 (dropS 3 code_fse_Build)))) Q g w :=
  den_blk 0 _ g w (by kernel_rfl) (fse_Build_p18_ok (blk 0 Q) g w kn hn h)

def fse_Build_p20 (kn : K7) (c_1 t2 t4 next_5 : Value) (w : World) : Prop :=
  Stp pg (sFAddr 24 c_1 1) w fun t24 w =>
  Stp pg (sLoad 22 t24) w fun t25 w =>
  Stp pg (sBi .len #[22] 3 [t25]) w fun t26 w =>
  kn c_1 t2 t4 next_5 t25 t26 (.int .i64 0) w
theorem fse_Build_p20_ok (kn : K7) (hn : ∀ g w, kn (g 1) (g 2) (g 4) (g 5) (g 25) (g 26) (g 27) w → Q .normal g w) (h : fse_Build_p20 kn (g 1) (g 2) (g 4) (g 5) w) : den pg ann_fse_Build (takeS 1 (takeS 1 (dropS 1 (dropS 3 code_fse_Build)))) Q g w :=
  den_exQ (kr := no) (l := []) (by kernel_rfl) h hn noE trivial

def fse_Build_p21 (kn : K4) (c_1 t2 t4 next_5 : Value) (w : World) : Prop :=
  fse_Build_p20 (fun c_1 t2 t4 next_5 t25 t26 t27 w => fse_Build_p19 kn c_1 t2 t4 next_5 t25 t26 t27 w) c_1 t2 t4 next_5 w
theorem fse_Build_p21_ok (kn : K4) (hn : ∀ g w, kn (g 1) (g 2) (g 4) (g 5) w → Q .normal g w) (h : fse_Build_p21 kn (g 1) (g 2) (g 4) (g 5) w) : den pg ann_fse_Build (takeS 1 (dropS 1 (dropS 3 code_fse_Build))) Q g w :=
  den_seqs 1 _ g w (by kernel_rfl) (fse_Build_p20_ok (thenE (fun g w => den pg ann_fse_Build (dropS 1 (takeS 1 (dropS 1 (dropS 3 code_fse_Build)))) Q g w) Q) g w (fun c_1 t2 t4 next_5 t25 t26 t27 w => fse_Build_p19 kn c_1 t2 t4 next_5 t25 t26 t27 w) (fun g w h => thenE_n (K := fun g w => den pg ann_fse_Build (dropS 1 (takeS 1 (dropS 1 (dropS 3 code_fse_Build)))) Q g w) (fse_Build_p19_ok Q g w kn hn h)) h)

def fse_Build_p22 (R : K1) (c_1 t2 t4 next_5 : Value) (w : World) : Prop :=
  fse_Build_p21 (fun c_1 t2 t4 next_5 w => fse_Build_p16 R c_1 t2 t4 next_5 w) c_1 t2 t4 next_5 w
theorem fse_Build_p22_ok (R : K1) (hr : HR rs_fse_Build R Q) (h : fse_Build_p22 R (g 1) (g 2) (g 4) (g 5) w) : den pg ann_fse_Build (dropS 1 (dropS 3 code_fse_Build)) Q g w :=
  den_seqs 1 _ g w (by kernel_rfl) (fse_Build_p21_ok (thenE (fun g w => den pg ann_fse_Build (dropS 1 (dropS 1 (dropS 3 code_fse_Build))) Q g w) Q) g w (fun c_1 t2 t4 next_5 w => fse_Build_p16 R c_1 t2 t4 next_5 w) (fun g w h => thenE_n (K := fun g w => den pg ann_fse_Build (dropS 1 (dropS 1 (dropS 3 code_fse_Build))) Q g w) (fse_Build_p16_ok Q g w R hr h)) h)

def fse_Build_p23 (kn : K4) (c_1 t2 t4 : Value) (w : World) : Prop :=
  Stp pg (sFAddr 24 c_1 1) w fun t20 w =>
  Stp pg (sLoad 22 t20) w fun t21 w =>
  Stp pg (sBi .len #[22] 3 [t21]) w fun t22 w =>
  Stp pg (sMkSlice 22 t22 t22) w fun t23 w =>
  kn c_1 t2 t4 t23 w
theorem fse_Build_p23_ok (kn : K4) (hn : ∀ g w, kn (g 1) (g 2) (g 4) (g 5) w → Q .normal g w) (h : fse_Build_p23 kn (g 1) (g 2) (g 4) w) : den pg ann_fse_Build (takeS 1 (dropS 3 code_fse_Build)) Q g w :=
  den_exQ (kr := no) (l := []) (by kernel_rfl) h hn noE trivial

def fse_Build_p24 (R : K1) (c_1 t2 t4 : Value) (w : World) : Prop :=
  fse_Build_p23 (fun c_1 t2 t4 next_5 w => fse_Build_p22 R c_1 t2 t4 next_5 w) c_1 t2 t4 w
theorem fse_Build_p24_ok (R : K1) (hr : HR rs_fse_Build R Q) (h : fse_Build_p24 R (g 1) (g 2) (g 4) w) : den pg ann_fse_Build (dropS 3 code_fse_Build) Q g w :=
  den_seqs 1 _ g w (by kernel_rfl) (fse_Build_p23_ok (thenE (fun g w => den pg ann_fse_Build (dropS 1 (dropS 3 code_fse_Build)) Q g w) Q) g w (fun c_1 t2 t4 next_5 w => fse_Build_p22 R c_1 t2 t4 next_5 w) (fun g w h => thenE_n (K := fun g w => den pg ann_fse_Build (dropS 1 (dropS 3 code_fse_Build)) Q g w) (fse_Build_p22_ok Q g w R hr h)) h)

def fse_Build_p25 (kn : K3) (R : K1) (c_0 : Value) (w : World) : Prop :=
  Stp pg (sBox 24 c_0) w fun c_1 w =>
  Stp pg (sAlloc 28) w fun t2 w =>
  Stp pg (sLoad 24 c_1) w fun t11 w =>
  Does pg F_normal_Check #[t11, (.int .i64 15)] w fun t12 w =>
  Stp pg (sBin .neq 29 (.tmp 12) (.const (.int .i64 0)) t12 (.int .i64 0)) w fun t13 w =>
  Cnd t13
    (Stp pg (sBuild 28 []) w fun t14 w =>
    Stp pg (sStore 28 t2 t14) w fun _u w =>
    LdR pg 28 t2 w fun r0 => R (.tuple #[r0, (.int .i64 1)]) w)
    (Ord (ordB F_fse_Build 3 (opsIn 3 code_fse_Build) 3 5 w)
      (Stp pg (sFAddr 24 c_1 0) (dr w) fun t15 w_ => w_ = (dr w) ∧
      Stp pg (sLoad 3 t15) (dr w) fun t16 w_ => w_ = (dr w) ∧
      Stp pg (sLoad 24 c_1) (dr w) fun t17 w_ => w_ = (dr w) ∧
      Does pg F_fse_spread #[t17] (dr w) fun t18 w3_3 =>
      (Same pg (sLoad 3 t15) t16 w3_3 ∧ Same pg (sFAddr 24 c_1 0) t15 w3_3 ∧ True) ∧
      Stp pg (sBuild 28 [(0, t16), (1, t18)]) w3_3 fun t19 w_ => w_ = w3_3 ∧
      Stp pg (sAlloc 28) w3_3 fun t4 w3_5 =>
      (Same pg (sBuild 28 [(0, t16), (1, t18)]) t19 w3_5 ∧ Same pg (sLoad 3 t15) t16 w3_5 ∧ Same pg (sFAddr 24 c_1 0) t15 w3_5 ∧ True) ∧
      Stp pg (sStore 28 t4 t19) w3_5 fun _u6 w3_6 =>
      kn c_1 t2 t4 w3_6)
      (Stp pg (sFAddr 24 c_1 0) (dr w) fun t15 w_ => w_ = (dr w) ∧
      Stp pg (sLoad 3 t15) (dr w) fun t16 w_ => w_ = (dr w) ∧
      Stp pg (sLoad 24 c_1) (dr w) fun t17 w_ => w_ = (dr w) ∧
      Stp pg (sAlloc 28) (dr w) fun t4 w3_3 =>
      (Same pg (sLoad 24 c_1) t17 w3_3 ∧ Same pg (sLoad 3 t15) t16 w3_3 ∧ Same pg (sFAddr 24 c_1 0) t15 w3_3 ∧ True) ∧
      Does pg F_fse_spread #[t17] w3_3 fun t18 w3_4 =>
      (Same pg (sLoad 3 t15) t16 w3_4 ∧ Same pg (sFAddr 24 c_1 0) t15 w3_4 ∧ True) ∧
      Stp pg (sBuild 28 [(0, t16), (1, t18)]) w3_4 fun t19 w_ => w_ = w3_4 ∧
      Stp pg (sStore 28 t4 t19) w3_4 fun _u6 w3_6 =>
      kn c_1 t2 t4 w3_6))
theorem fse_Build_p25_ok (kn : K3) (R : K1) (hn : ∀ g w, kn (g 1) (g 2) (g 4) w → Q .normal g w) (hr : HR rs_fse_Build R Q) (h : fse_Build_p25 kn R (g 0) w) : den pg ann_fse_Build (takeS 3 code_fse_Build) Q g w :=
  den_exQ (l := []) (by kernel_rfl) h hn hr trivial

def fse_Build_p26 (R : K1) (c_0 : Value) (w : World) : Prop :=
  fse_Build_p25 (fun c_1 t2 t4 w => fse_Build_p24 R c_1 t2 t4 w) R c_0 w
theorem fse_Build_p26_ok (R : K1) (hr : HR rs_fse_Build R Q) (h : fse_Build_p26 R (g 0) w) : den pg ann_fse_Build code_fse_Build Q g w :=
  den_seqs 3 _ g w (by kernel_rfl) (fse_Build_p25_ok (thenE (fun g w => den pg ann_fse_Build (dropS 3 code_fse_Build) Q g w) Q) g w (fun c_1 t2 t4 w => fse_Build_p24 R c_1 t2 t4 w) R (fun g w h => thenE_n (K := fun g w => den pg ann_fse_Build (dropS 3 code_fse_Build) Q g w) (fse_Build_p24_ok Q g w R hr h)) hr h)

def fse_Build (a0 : Value) (w : World) (R : K1) : Prop :=
  fse_Build_p26 R a0 w
theorem fse_Build_does {a0 : Value} {w : World} {R : K1} (h : fse_Build a0 w R) : Does pg F_fse_Build #[a0] w R := by
  refine does_of_den (ann := ann_fse_Build) (fn := Try.f14) (c := code_fse_Build) (args := [a0]) (rs := rs_fse_Build) (N := 91) TryM.mixed (by kernel_rfl) Try.func14 (by kernel_rfl) (by kernel_rfl) (by kernel_rfl) (of_decide_eq_true (by kernel_rfl)) (by kernel_rfl) ?_
  exact (fse_Build_p26_ok (retQ pg rs_fse_Build R) (envOf [a0]) w R (fun _ _ h => h) h)
-- PIECES fse_Build/0 fse_Build_p1 fse_Build_p12 fse_Build_p13 fse_Build_p14 fse_Build_p15 fse_Build_p16 fse_Build_p18 fse_Build_p19 fse_Build_p20 fse_Build_p21 fse_Build_p22 fse_Build_p23 fse_Build_p24 fse_Build_p25 fse_Build_p26
-- PIECES fse_Build/1 fse_Build_p2 fse_Build_p3 fse_Build_p4 fse_Build_p5 fse_Build_p6 fse_Build_p7 fse_Build_p8 fse_Build_p9 fse_Build_p10 fse_Build_p11
-- PIECES fse_Build/2 fse_Build_p17

/- lighterman/lightermanref07.Build -/
def ann_ref07_Build : FA := ⟨F_ref07_Build, fun i => match Nat.beq i 46 with | true => .leaf ([5, 11], [(0, 5), (1, 5)]) [(false, []), (false, []), (false, []), (false, []), (false, []), (true, [3, 4]), (false, []), (false, []), (false, []), (false, []), (false, []), (true, [])] | false => .leaf ([], []) []⟩
def rs_ref07_Build : List ResultVar := [.cell 2 34, .tmp 3]
noncomputable def code_ref07_Build : Code := bodyOf Try.f15
def ref07_Build_p1 (R : K1) (t2 t6 : Value) (w : World) : Prop :=
  Stp pg (sLoad 34 t6) w fun t184 w =>
  Stp pg (sStore 34 t2 t184) w fun _u w =>
  LdR pg 34 t2 w fun r0 => R (.tuple #[r0, (.int .i64 0)]) w
theorem ref07_Build_p1_ok (R : K1) (hr : HR rs_ref07_Build R Q) (h : ref07_Build_p1 R (g 2) (g 6) w) : den pg ann_ref07_Build (dropS 1 (dropS 1 (dropS 1 (dropS 1 (dropS 1 (dropS 1 (dropS 1 (dropS 5 code_ref07_Build)))))))) Q g w :=
  den_exQ (kn := no) (l := []) (by kernel_rfl) h noE hr trivial

def ref07_Build_p2 (kn : K6) (c_1 t2 n_5 t6 seen_14 i_15 : Value) (w : World) : Prop :=
  Stp pg (sBin .add 3 (.tmp 120) (.const (.int .i64 1)) i_15 (.int .i64 1)) w fun t121 w =>
  kn c_1 t2 n_5 t6 seen_14 t121 w
theorem ref07_Build_p2_ok (kn : K6) (hn : ∀ g w, kn (g 1) (g 2) (g 5) (g 6) (g 14) (g 15) w → Q .normal g w) (h : ref07_Build_p2 kn (g 1) (g 2) (g 5) (g 6) (g 14) (g 15) w) : den pg ann_ref07_Build (dropS 1 (dropS 1 (bI (bI (dropS 1 (takeS 1 (dropS 1 (dropS 1 (dropS 1 (dropS 1 (dropS 1 (dropS 1 (dropS 5 code_ref07_Build))))))))))))) Q g w :=
  den_exQ (kr := no) (l := []) (by kernel_rfl) h hn noE trivial

def ref07_Build_p3 (kn : K6) (c_1 t2 n_5 t6 seen_14 i_15 k_18 bits_19 : Value) (w : World) : Prop :=
  Stp pg (sFAddr 34 t6 1) w fun t167 w =>
  Stp pg (sLoad 32 t167) w fun t168 w =>
  Stp pg (sIAddr 32 t168 i_15) w fun t171 w =>
  Stp pg (sFAddr 101 t171 1) w fun t172 w =>
  Stp pg (sStore 3 t172 bits_19) w fun _u w =>
  Stp pg (sFAddr 34 t6 1) (dr w) fun t173 w_ => w_ = (dr w) ∧
  Stp pg (sLoad 32 t173) (dr w) fun t174 w_ => w_ = (dr w) ∧
  (dr w) = (dr w) ∧
  (dr w) = (dr w) ∧
  (dr w) = (dr w) ∧
  Does pg F_ref06_Power #[bits_19] (dr w) fun t178 w46_5 =>
  (Same pg (sLoad 32 t173) t174 w46_5 ∧ Same pg (sFAddr 34 t6 1) t173 w46_5 ∧ True) ∧
  Stp pg (sBin .mul 3 (.tmp 176) (.tmp 178) k_18 t178) w46_5 fun t179 w_ => w_ = w46_5 ∧
  w46_5 = w46_5 ∧
  Stp pg (sBin .sub 3 (.tmp 179) (.tmp 180) t179 n_5) w46_5 fun t181 w_ => w_ = w46_5 ∧
  Stp pg (sIAddr 32 t174 i_15) w46_5 fun t182 w_ => w_ = w46_5 ∧
  Stp pg (sFAddr 101 t182 2) w46_5 fun t183 w_ => w_ = w46_5 ∧
  Stp pg (sStore 3 t183 t181) w46_5 fun _u11 w46_11 =>
  kn c_1 t2 n_5 t6 seen_14 i_15 w46_11
theorem ref07_Build_p3_ok (kn : K6) (hn : ∀ g w, kn (g 1) (g 2) (g 5) (g 6) (g 14) (g 15) w → Q .normal g w) (h : ref07_Build_p3 kn (g 1) (g 2) (g 5) (g 6) (g 14) (g 15) (g 18) (g 19) w) : den pg ann_ref07_Build (dropS 1 (dropS 3 (dropS 2 (dropS 2 (bI (takeS 1 (dropS 1 (bI (bI (dropS 1 (takeS 1 (dropS 1 (dropS 1 (dropS 1 (dropS 1 (dropS 1 (dropS 1 (dropS 5 code_ref07_Build)))))))))))))))))) Q g w :=
  den_exQ (kr := no) (l := []) (by kernel_rfl) h hn noE trivial

def ref07_Build_p4 (kn : K8) (k12 : K8) (c_1 t2 n_5 t6 seen_14 i_15 k_18 bits_19 : Value) (w : World) : Prop :=
  Stp pg (sFAddr 37 c_1 0) w fun t157 w =>
  Stp pg (sLoad 3 t157) w fun t158 w =>
  Stp pg (sBin .sub 3 (.tmp 158) (.tmp 159) t158 bits_19) w fun t160 w =>
  Stp pg (sBin .add 3 (.tmp 160) (.const (.int .i64 1)) t160 (.int .i64 1)) w fun t161 w =>
  Does pg F_ref06_Power #[t161] w fun t162 w =>
  Stp pg (sBin .leq 3 (.tmp 162) (.tmp 163) t162 k_18) w fun t164 w =>
  Cnd t164
    (Stp pg (sBin .sub 3 (.tmp 165) (.const (.int .i64 1)) bits_19 (.int .i64 1)) w fun t166 w =>
    kn c_1 t2 n_5 t6 seen_14 i_15 k_18 t166 w)
    (k12 c_1 t2 n_5 t6 seen_14 i_15 k_18 bits_19 w)
theorem ref07_Build_p4_ok (kn : K8) (k12 : K8) (hn : ∀ g w, kn (g 1) (g 2) (g 5) (g 6) (g 14) (g 15) (g 18) (g 19) w → Q .normal g w) (h12 : ∀ g w, k12 (g 1) (g 2) (g 5) (g 6) (g 14) (g 15) (g 18) (g 19) w → Q (.exit 12) g w) (h : ref07_Build_p4 kn k12 (g 1) (g 2) (g 5) (g 6) (g 14) (g 15) (g 18) (g 19) w) : den pg ann_ref07_Build (bI (bI (takeS 1 (dropS 3 (dropS 2 (dropS 2 (bI (takeS 1 (dropS 1 (bI (bI (dropS 1 (takeS 1 (dropS 1 (dropS 1 (dropS 1 (dropS 1 (dropS 1 (dropS 1 (dropS 5 code_ref07_Build)))))))))))))))))))) Q g w :=
  den_exQ (kr := no) (l := [(12, fun g w => k12 (g 1) (g 2) (g 5) (g 6) (g 14) (g 15) (g 18) (g 19) w)]) (by kernel_rfl) h hn noE ⟨h12, trivial⟩

def ref07_Build_p5 (k12 : K8) (c_1 t2 n_5 t6 seen_14 i_15 k_18 bits_19 : Value) (w : World) : Prop :=
  LoopD (fun (X : Value → K0) (t : Value) (w : World) => ref07_Build_p4 (fun _ _ _ _ _ _ _ bits_19 w => X bits_19 w) k12 c_1 t2 n_5 t6 seen_14 i_15 k_18 t w) bits_19 w
theorem ref07_Build_p5_ok (k12 : K8) (h12 : ∀ g w, k12 (g 1) (g 2) (g 5) (g 6) (g 14) (g 15) (g 18) (g 19) w → Q (.exit 12) g w) (h : ref07_Build_p5 k12 (g 1) (g 2) (g 5) (g 6) (g 14) (g 15) (g 18) (g 19) w) : den pg ann_ref07_Build (bI (takeS 1 (dropS 3 (dropS 2 (dropS 2 (bI (takeS 1 (dropS 1 (bI (bI (dropS 1 (takeS 1 (dropS 1 (dropS 1 (dropS 1 (dropS 1 (dropS 1 (dropS 1 (dropS 5 code_ref07_Build))))))))))))))))))) Q g w := by
  refine den_loops (T := Value) (fun g : Env => g 19) (fun X t w => ref07_Build_p4 (fun _ _ _ _ _ _ _ bits_19 w => X bits_19 w) k12 (g 1) (g 2) (g 5) (g 6) (g 14) (g 15) (g 18) t w) _ (by kernel_rfl) h (fun X g1 w1 ha h1 => ?_)
  rw [← agree_at (s := 1) ha (by kernel_rfl)] at h1
  rw [← agree_at (s := 2) ha (by kernel_rfl)] at h1
  rw [← agree_at (s := 5) ha (by kernel_rfl)] at h1
  rw [← agree_at (s := 6) ha (by kernel_rfl)] at h1
  rw [← agree_at (s := 14) ha (by kernel_rfl)] at h1
  rw [← agree_at (s := 15) ha (by kernel_rfl)] at h1
  rw [← agree_at (s := 18) ha (by kernel_rfl)] at h1
  exact (ref07_Build_p4_ok (thenE (fun g2 w2 => X ((fun g : Env => g 19) g2) w2) Q) g1 w1 (fun _ _ _ _ _ _ _ bits_19 w => X bits_19 w) k12 (fun _ _ h => h) h12 h1)

def ref07_Build_p6 (kn : K8) (c_1 t2 n_5 t6 seen_14 i_15 k_18 bits_19 : Value) (w : World) : Prop :=
  ref07_Build_p5 kn c_1 t2 n_5 t6 seen_14 i_15 k_18 bits_19 w
theorem ref07_Build_p6_ok (kn : K8) (hn : ∀ g w, kn (g 1) (g 2) (g 5) (g 6) (g 14) (g 15) (g 18) (g 19) w → Q .normal g w) (h : ref07_Build_p6 kn (g 1) (g 2) (g 5) (g 6) (g 14) (g 15) (g 18) (g 19) w) : den pg ann_ref07_Build (takeS 1 (dropS 3 (dropS 2 (dropS 2 (bI (takeS 1 (dropS 1 (bI (bI (dropS 1 (takeS 1 (dropS 1 (dropS 1 (dropS 1 (dropS 1 (dropS 1 (dropS 1 (dropS 5 code_ref07_Build)))))))))))))))))) Q g w :=
  den_blk 12 _ g w (by kernel_rfl) (ref07_Build_p5_ok (blk 12 Q) g w kn hn h)

def ref07_Build_p7 (kn : K6) (c_1 t2 n_5 t6 seen_14 i_15 k_18 bits_19 : Value) (w : World) : Prop :=
  ref07_Build_p6 (fun c_1 t2 n_5 t6 seen_14 i_15 k_18 bits_19 w => ref07_Build_p3 kn c_1 t2 n_5 t6 seen_14 i_15 k_18 bits_19 w) c_1 t2 n_5 t6 seen_14 i_15 k_18 bits_19 w
theorem ref07_Build_p7_ok (kn : K6) (hn : ∀ g w, kn (g 1) (g 2) (g 5) (g 6) (g 14) (g 15) w → Q .normal g w) (h : ref07_Build_p7 kn (g 1) (g 2) (g 5) (g 6) (g 14) (g 15) (g 18) (g 19) w) : den pg ann_ref07_Build (dropS 3 (dropS 2 (dropS 2 (bI (takeS 1 (dropS 1 (bI (bI (dropS 1 (takeS 1 (dropS 1 (dropS 1 (dropS 1 (dropS 1 (dropS 1 (dropS 1 (dropS 5 code_ref07_Build))))))))))))))))) Q g w :=
  den_seqs 1 _ g w (by kernel_rfl) (ref07_Build_p6_ok (thenE (fun g w => den pg ann_ref07_Build (dropS 1 (dropS 3 (dropS 2 (dropS 2 (bI (takeS 1 (dropS 1 (bI (bI (dropS 1 (takeS 1 (dropS 1 (dropS 1 (dropS 1 (dropS 1 (dropS 1 (dropS 1 (dropS 5 code_ref07_Build)))))))))))))))))) Q g w) Q) g w (fun c_1 t2 n_5 t6 seen_14 i_15 k_18 bits_19 w => ref07_Build_p3 kn c_1 t2 n_5 t6 seen_14 i_15 k_18 bits_19 w) (fun g w h => thenE_n (K := fun g w => den pg ann_ref07_Build (dropS 1 (dropS 3 (dropS 2 (dropS 2 (bI (takeS 1 (dropS 1 (bI (bI (dropS 1 (takeS 1 (dropS 1 (dropS 1 (dropS 1 (dropS 1 (dropS 1 (dropS 1 (dropS 5 code_ref07_Build)))))))))))))))))) Q g w) (ref07_Build_p3_ok Q g w kn hn h)) h)

def ref07_Build_p8 (kn : K8) (c_1 t2 n_5 t6 seen_14 i_15 s_16 p_17 : Value) (w : World) : Prop :=
  Stp pg (sIAddr 41 seen_14 s_16) w fun t146 w =>
  Stp pg (sLoad 3 t146) w fun t147 w =>
  Stp pg (sBin .add 3 (.tmp 147) (.tmp 148) t147 p_17) w fun t149 w =>
  Stp pg (sIAddr 41 seen_14 s_16) w fun t151 w =>
  Stp pg (sLoad 3 t151) w fun t152 w =>
  Stp pg (sBin .add 3 (.tmp 152) (.const (.int .i64 1)) t152 (.int .i64 1)) w fun t153 w =>
  Stp pg (sIAddr 41 seen_14 s_16) w fun t154 w =>
  Stp pg (sStore 3 t154 t153) w fun _u w =>
  Stp pg (sFAddr 37 c_1 0) w fun t155 w =>
  Stp pg (sLoad 3 t155) w fun t156 w =>
  kn c_1 t2 n_5 t6 seen_14 i_15 t149 t156 w
theorem ref07_Build_p8_ok (kn : K8) (hn : ∀ g w, kn (g 1) (g 2) (g 5) (g 6) (g 14) (g 15) (g 18) (g 19) w → Q .normal g w) (h : ref07_Build_p8 kn (g 1) (g 2) (g 5) (g 6) (g 14) (g 15) (g 16) (g 17) w) : den pg ann_ref07_Build (takeS 3 (dropS 2 (dropS 2 (bI (takeS 1 (dropS 1 (bI (bI (dropS 1 (takeS 1 (dropS 1 (dropS 1 (dropS 1 (dropS 1 (dropS 1 (dropS 1 (dropS 5 code_ref07_Build))))))))))))))))) Q g w :=
  den_exQ (kr := no) (l := []) (by kernel_rfl) h hn noE trivial

def ref07_Build_p9 (kn : K6) (c_1 t2 n_5 t6 seen_14 i_15 s_16 p_17 : Value) (w : World) : Prop :=
  ref07_Build_p8 (fun c_1 t2 n_5 t6 seen_14 i_15 k_18 bits_19 w => ref07_Build_p7 kn c_1 t2 n_5 t6 seen_14 i_15 k_18 bits_19 w) c_1 t2 n_5 t6 seen_14 i_15 s_16 p_17 w
theorem ref07_Build_p9_ok (kn : K6) (hn : ∀ g w, kn (g 1) (g 2) (g 5) (g 6) (g 14) (g 15) w → Q .normal g w) (h : ref07_Build_p9 kn (g 1) (g 2) (g 5) (g 6) (g 14) (g 15) (g 16) (g 17) w) : den pg ann_ref07_Build (dropS 2 (dropS 2 (bI (takeS 1 (dropS 1 (bI (bI (dropS 1 (takeS 1 (dropS 1 (dropS 1 (dropS 1 (dropS 1 (dropS 1 (dropS 1 (dropS 5 code_ref07_Build)))))))))))))))) Q g w :=
  den_seqs 3 _ g w (by kernel_rfl) (ref07_Build_p8_ok (thenE (fun g w => den pg ann_ref07_Build (dropS 3 (dropS 2 (dropS 2 (bI (takeS 1 (dropS 1 (bI (bI (dropS 1 (takeS 1 (dropS 1 (dropS 1 (dropS 1 (dropS 1 (dropS 1 (dropS 1 (dropS 5 code_ref07_Build))))))))))))))))) Q g w) Q) g w (fun c_1 t2 n_5 t6 seen_14 i_15 k_18 bits_19 w => ref07_Build_p7 kn c_1 t2 n_5 t6 seen_14 i_15 k_18 bits_19 w) (fun g w h => thenE_n (K := fun g w => den pg ann_ref07_Build (dropS 3 (dropS 2 (dropS 2 (bI (takeS 1 (dropS 1 (bI (bI (dropS 1 (takeS 1 (dropS 1 (dropS 1 (dropS 1 (dropS 1 (dropS 1 (dropS 1 (dropS 5 code_ref07_Build))))))))))))))))) Q g w) (ref07_Build_p7_ok Q g w kn hn h)) h)

def ref07_Build_p10 (kn : K8) (c_1 t2 n_5 t6 seen_14 i_15 s_16 : Value) (w : World) : Prop :=
  Stp pg (sFAddr 37 c_1 1) w fun t138 w =>
  Stp pg (sLoad 22 t138) w fun t139 w =>
  Stp pg (sIAddr 22 t139 s_16) w fun t141 w =>
  Stp pg (sLoad 3 t141) w fun t142 w =>
  Stp pg (sBin .lss 3 (.tmp 143) (.const (.int .i64 0)) t142 (.int .i64 0)) w fun t144 w =>
  Cnd t144
    (kn c_1 t2 n_5 t6 seen_14 i_15 s_16 (.int .i64 1) w)
    (kn c_1 t2 n_5 t6 seen_14 i_15 s_16 t142 w)
theorem ref07_Build_p10_ok (kn : K8) (hn : ∀ g w, kn (g 1) (g 2) (g 5) (g 6) (g 14) (g 15) (g 16) (g 17) w → Q .normal g w) (h : ref07_Build_p10 kn (g 1) (g 2) (g 5) (g 6) (g 14) (g 15) (g 16) w) : den pg ann_ref07_Build (takeS 2 (dropS 2 (bI (takeS 1 (dropS 1 (bI (bI (dropS 1 (takeS 1 (dropS 1 (dropS 1 (dropS 1 (dropS 1 (dropS 1 (dropS 1 (dropS 5 code_ref07_Build)))))))))))))))) Q g w :=
  den_exQ (kr := no) (l := []) (by kernel_rfl) h hn noE trivial

def ref07_Build_p11 (kn : K6) (c_1 t2 n_5 t6 seen_14 i_15 s_16 : Value) (w : World) : Prop :=
  ref07_Build_p10 (fun c_1 t2 n_5 t6 seen_14 i_15 s_16 p_17 w => ref07_Build_p9 kn c_1 t2 n_5 t6 seen_14 i_15 s_16 p_17 w) c_1 t2 n_5 t6 seen_14 i_15 s_16 w
theorem ref07_Build_p11_ok (kn : K6) (hn : ∀ g w, kn (g 1) (g 2) (g 5) (g 6) (g 14) (g 15) w → Q .normal g w) (h : ref07_Build_p11 kn (g 1) (g 2) (g 5) (g 6) (g 14) (g 15) (g 16) w) : den pg ann_ref07_Build (dropS 2 (bI (takeS 1 (dropS 1 (bI (bI (dropS 1 (takeS 1 (dropS 1 (dropS 1 (dropS 1 (dropS 1 (dropS 1 (dropS 1 (dropS 5 code_ref07_Build))))))))))))))) Q g w :=
  den_seqs 2 _ g w (by kernel_rfl) (ref07_Build_p10_ok (thenE (fun g w => den pg ann_ref07_Build (dropS 2 (dropS 2 (bI (takeS 1 (dropS 1 (bI (bI (dropS 1 (takeS 1 (dropS 1 (dropS 1 (dropS 1 (dropS 1 (dropS 1 (dropS 1 (dropS 5 code_ref07_Build)))))))))))))))) Q g w) Q) g w (fun c_1 t2 n_5 t6 seen_14 i_15 s_16 p_17 w => ref07_Build_p9 kn c_1 t2 n_5 t6 seen_14 i_15 s_16 p_17 w) (fun g w h => thenE_n (K := fun g w => den pg ann_ref07_Build (dropS 2 (dropS 2 (bI (takeS 1 (dropS 1 (bI (bI (dropS 1 (takeS 1 (dropS 1 (dropS 1 (dropS 1 (dropS 1 (dropS 1 (dropS 1 (dropS 5 code_ref07_Build)))))))))))))))) Q g w) (ref07_Build_p9_ok Q g w kn hn h)) h)

def ref07_Build_p12 (kn : K7) (R : K1) (c_1 t2 n_5 t6 seen_14 i_15 : Value) (w : World) : Prop :=
  Stp pg (sFAddr 34 t6 1) w fun t122 w =>
  Stp pg (sLoad 32 t122) w fun t123 w =>
  Stp pg (sIAddr 32 t123 i_15) w fun t125 w =>
  Stp pg (sFAddr 101 t125 0) w fun t126 w =>
  Stp pg (sLoad 3 t126) w fun t127 w =>
  Stp pg (sBin .lss 3 (.tmp 128) (.const (.int .i64 0)) t127 (.int .i64 0)) w fun t129 w =>
  Gd (isB t129 false) (fun K => K t127 w) w fun t131 w =>
  Gd (isB t129 false) (fun K => Stp pg (sFAddr 37 c_1 1) w K) w fun t132 w =>
  Gd (isB t129 false) (fun K => Stp pg (sLoad 22 t132) w K) w fun t133 w =>
  Gd (isB t129 false) (fun K => Stp pg (sBi .len #[22] 3 [t133]) w K) w fun t134 w =>
  Gd (isB t129 false) (fun K => Stp pg (sBin .geq 3 (.tmp 131) (.tmp 134) t131 t134) w K) w fun t135 w =>
  Stp pg (sPick t129 (.bool true) t135) w fun t136 w =>
  Cnd t136
    (Stp pg (sBuild 34 []) w fun t137 w =>
    Stp pg (sStore 34 t2 t137) w fun _u w =>
    LdR pg 34 t2 w fun r0 => R (.tuple #[r0, (.int .i64 1)]) w)
    (kn c_1 t2 n_5 t6 seen_14 i_15 t127 w)
theorem ref07_Build_p12_ok (kn : K7) (R : K1) (hn : ∀ g w, kn (g 1) (g 2) (g 5) (g 6) (g 14) (g 15) (g 16) w → Q .normal g w) (hr : HR rs_ref07_Build R Q) (h : ref07_Build_p12 kn R (g 1) (g 2) (g 5) (g 6) (g 14) (g 15) w) : den pg ann_ref07_Build (takeS 2 (bI (takeS 1 (dropS 1 (bI (bI (dropS 1 (takeS 1 (dropS 1 (dropS 1 (dropS 1 (dropS 1 (dropS 1 (dropS 1 (dropS 5 code_ref07_Build))))))))))))))) Q g w :=
  den_exQ (l := []) (by kernel_rfl) h hn hr trivial

def ref07_Build_p13 (kn : K6) (R : K1) (c_1 t2 n_5 t6 seen_14 i_15 : Value) (w : World) : Prop :=
  ref07_Build_p12 (fun c_1 t2 n_5 t6 seen_14 i_15 s_16 w => ref07_Build_p11 kn c_1 t2 n_5 t6 seen_14 i_15 s_16 w) R c_1 t2 n_5 t6 seen_14 i_15 w
theorem ref07_Build_p13_ok (kn : K6) (R : K1) (hn : ∀ g w, kn (g 1) (g 2) (g 5) (g 6) (g 14) (g 15) w → Q .normal g w) (hr : HR rs_ref07_Build R Q) (h : ref07_Build_p13 kn R (g 1) (g 2) (g 5) (g 6) (g 14) (g 15) w) : den pg ann_ref07_Build (bI (takeS 1 (dropS 1 (bI (bI (dropS 1 (takeS 1 (dropS 1 (dropS 1 (dropS 1 (dropS 1 (dropS 1 (dropS 1 (dropS 5 code_ref07_Build)))))))))))))) Q g w :=
  den_seqs 2 _ g w (by kernel_rfl) (ref07_Build_p12_ok (thenE (fun g w => den pg ann_ref07_Build (dropS 2 (bI (takeS 1 (dropS 1 (bI (bI (dropS 1 (takeS 1 (dropS 1 (dropS 1 (dropS 1 (dropS 1 (dropS 1 (dropS 1 (dropS 5 code_ref07_Build))))))))))))))) Q g w) Q) g w (fun c_1 t2 n_5 t6 seen_14 i_15 s_16 w => ref07_Build_p11 kn c_1 t2 n_5 t6 seen_14 i_15 s_16 w) R (fun g w h => thenE_n (K := fun g w => den pg ann_ref07_Build (dropS 2 (bI (takeS 1 (dropS 1 (bI (bI (dropS 1 (takeS 1 (dropS 1 (dropS 1 (dropS 1 (dropS 1 (dropS 1 (dropS 1 (dropS 5 code_ref07_Build))))))))))))))) Q g w) (ref07_Build_p11_ok Q g w kn hn h)) hr h)

def ref07_Build_p14 (kn : K6) (R : K1) (c_1 t2 n_5 t6 seen_14 i_15 : Value) (w : World) : Prop :=
  ref07_Build_p13 kn R c_1 t2 n_5 t6 seen_14 i_15 w
theorem ref07_Build_p14_ok (kn : K6) (R : K1) (hn : ∀ g w, kn (g 1) (g 2) (g 5) (g 6) (g 14) (g 15) w → Q .normal g w) (hr : HR rs_ref07_Build R Q) (h : ref07_Build_p14 kn R (g 1) (g 2) (g 5) (g 6) (g 14) (g 15) w) : den pg ann_ref07_Build (takeS 1 (dropS 1 (bI (bI (dropS 1 (takeS 1 (dropS 1 (dropS 1 (dropS 1 (dropS 1 (dropS 1 (dropS 1 (dropS 5 code_ref07_Build))))))))))))) Q g w :=
  den_blk 11 _ g w (by kernel_rfl) (ref07_Build_p13_ok (blk 11 Q) g w kn R hn hr h)

def ref07_Build_p15 (kn : K6) (R : K1) (c_1 t2 n_5 t6 seen_14 i_15 : Value) (w : World) : Prop :=
  ref07_Build_p14 (fun c_1 t2 n_5 t6 seen_14 i_15 w => ref07_Build_p2 kn c_1 t2 n_5 t6 seen_14 i_15 w) R c_1 t2 n_5 t6 seen_14 i_15 w
theorem ref07_Build_p15_ok (kn : K6) (R : K1) (hn : ∀ g w, kn (g 1) (g 2) (g 5) (g 6) (g 14) (g 15) w → Q .normal g w) (hr : HR rs_ref07_Build R Q) (h : ref07_Build_p15 kn R (g 1) (g 2) (g 5) (g 6) (g 14) (g 15) w) : den pg ann_ref07_Build (dropS 1 (bI (bI (dropS 1 (takeS 1 (dropS 1 (dropS 1 (dropS 1 (dropS 1 (dropS 1 (dropS 1 (dropS 5 code_ref07_Build)))))))))))) Q g w :=
  den_seqs 1 _ g w (by kernel_rfl) (ref07_Build_p14_ok (thenE (fun g w => den pg ann_ref07_Build (dropS 1 (dropS 1 (bI (bI (dropS 1 (takeS 1 (dropS 1 (dropS 1 (dropS 1 (dropS 1 (dropS 1 (dropS 1 (dropS 5 code_ref07_Build))))))))))))) Q g w) Q) g w (fun c_1 t2 n_5 t6 seen_14 i_15 w => ref07_Build_p2 kn c_1 t2 n_5 t6 seen_14 i_15 w) R (fun g w h => thenE_n (K := fun g w => den pg ann_ref07_Build (dropS 1 (dropS 1 (bI (bI (dropS 1 (takeS 1 (dropS 1 (dropS 1 (dropS 1 (dropS 1 (dropS 1 (dropS 1 (dropS 5 code_ref07_Build))))))))))))) Q g w) (ref07_Build_p2_ok Q g w kn hn h)) hr h)

def ref07_Build_p16 (kn : K6) (k10 : K2) (c_1 t2 n_5 t6 seen_14 i_15 : Value) (w : World) : Prop :=
  Stp pg (sBin .lss 3 (.tmp 117) (.tmp 118) i_15 n_5) w fun t119 w =>
  Cnd t119
    (kn c_1 t2 n_5 t6 seen_14 i_15 w)
    (k10 t2 t6 w)
theorem ref07_Build_p16_ok (kn : K6) (k10 : K2) (hn : ∀ g w, kn (g 1) (g 2) (g 5) (g 6) (g 14) (g 15) w → Q .normal g w) (h10 : ∀ g w, k10 (g 2) (g 6) w → Q (.exit 10) g w) (h : ref07_Build_p16 kn k10 (g 1) (g 2) (g 5) (g 6) (g 14) (g 15) w) : den pg ann_ref07_Build (takeS 1 (bI (bI (dropS 1 (takeS 1 (dropS 1 (dropS 1 (dropS 1 (dropS 1 (dropS 1 (dropS 1 (dropS 5 code_ref07_Build)))))))))))) Q g w :=
  den_exQ (kr := no) (l := [(10, fun g w => k10 (g 2) (g 6) w)]) (by kernel_rfl) h hn noE ⟨h10, trivial⟩

def ref07_Build_p17 (kn : K6) (k10 : K2) (R : K1) (c_1 t2 n_5 t6 seen_14 i_15 : Value) (w : World) : Prop :=
  ref07_Build_p16 (fun c_1 t2 n_5 t6 seen_14 i_15 w => ref07_Build_p15 kn R c_1 t2 n_5 t6 seen_14 i_15 w) k10 c_1 t2 n_5 t6 seen_14 i_15 w
theorem ref07_Build_p17_ok (kn : K6) (k10 : K2) (R : K1) (hn : ∀ g w, kn (g 1) (g 2) (g 5) (g 6) (g 14) (g 15) w → Q .normal g w) (h10 : ∀ g w, k10 (g 2) (g 6) w → Q (.exit 10) g w) (hr : HR rs_ref07_Build R Q) (h : ref07_Build_p17 kn k10 R (g 1) (g 2) (g 5) (g 6) (g 14) (g 15) w) : den pg ann_ref07_Build (bI (bI (dropS 1 (takeS 1 (dropS 1 (dropS 1 (dropS 1 (dropS 1 (dropS 1 (dropS 1 (dropS 5 code_ref07_Build))))))))))) Q g w :=
  den_seqs 1 _ g w (by kernel_rfl) (ref07_Build_p16_ok (thenE (fun g w => den pg ann_ref07_Build (dropS 1 (bI (bI (dropS 1 (takeS 1 (dropS 1 (dropS 1 (dropS 1 (dropS 1 (dropS 1 (dropS 1 (dropS 5 code_ref07_Build)))))))))))) Q g w) Q) g w (fun c_1 t2 n_5 t6 seen_14 i_15 w => ref07_Build_p15 kn R c_1 t2 n_5 t6 seen_14 i_15 w) k10 (fun g w h => thenE_n (K := fun g w => den pg ann_ref07_Build (dropS 1 (bI (bI (dropS 1 (takeS 1 (dropS 1 (dropS 1 (dropS 1 (dropS 1 (dropS 1 (dropS 1 (dropS 5 code_ref07_Build)))))))))))) Q g w) (ref07_Build_p15_ok Q g w kn R hn hr h)) h10 h)

def ref07_Build_p18 (k10 : K2) (R : K1) (c_1 t2 n_5 t6 seen_14 i_15 : Value) (w : World) : Prop :=
  LoopD (fun (X : Value → K0) (t : Value) (w : World) => ref07_Build_p17 (fun _ _ _ _ _ i_15 w => X i_15 w) k10 R c_1 t2 n_5 t6 seen_14 t w) i_15 w
theorem ref07_Build_p18_ok (k10 : K2) (R : K1) (h10 : ∀ g w, k10 (g 2) (g 6) w → Q (.exit 10) g w) (hr : HR rs_ref07_Build R Q) (h : ref07_Build_p18 k10 R (g 1) (g 2) (g 5) (g 6) (g 14) (g 15) w) : den pg ann_ref07_Build (bI (dropS 1 (takeS 1 (dropS 1 (dropS 1 (dropS 1 (dropS 1 (dropS 1 (dropS 1 (dropS 5 code_ref07_Build)))))))))) Q g w := by
  refine den_loops (T := Value) (fun g : Env => g 15) (fun X t w => ref07_Build_p17 (fun _ _ _ _ _ i_15 w => X i_15 w) k10 R (g 1) (g 2) (g 5) (g 6) (g 14) t w) _ (by kernel_rfl) h (fun X g1 w1 ha h1 => ?_)
  rw [← agree_at (s := 1) ha (by kernel_rfl)] at h1
  rw [← agree_at (s := 2) ha (by kernel_rfl)] at h1
  rw [← agree_at (s := 5) ha (by kernel_rfl)] at h1
  rw [← agree_at (s := 6) ha (by kernel_rfl)] at h1
  rw [← agree_at (s := 14) ha (by kernel_rfl)] at h1
  exact (ref07_Build_p17_ok (thenE (fun g2 w2 => X ((fun g : Env => g 15) g2) w2) Q) g1 w1 (fun _ _ _ _ _ i_15 w => X i_15 w) k10 R (fun _ _ h => h) h10 hr h1)

def ref07_Build_p19 (kn : K2) (R : K1) (c_1 t2 n_5 t6 seen_14 i_15 : Value) (w : World) : Prop :=
  ref07_Build_p18 kn R c_1 t2 n_5 t6 seen_14 i_15 w
theorem ref07_Build_p19_ok (kn : K2) (R : K1) (hn : ∀ g w, kn (g 2) (g 6) w → Q .normal g w) (hr : HR rs_ref07_Build R Q) (h : ref07_Build_p19 kn R (g 1) (g 2) (g 5) (g 6) (g 14) (g 15) w) : den pg ann_ref07_Build (dropS 1 (takeS 1 (dropS 1 (dropS 1 (dropS 1 (dropS 1 (dropS 1 (dropS 1 (dropS 5 code_ref07_Build))))))))) Q g w :=
  den_blk 10 _ g w (by kernel_rfl) (ref07_Build_p18_ok (blk 10 Q) g w kn R hn hr h)

def ref07_Build_p20 (kn : K6) (c_1 t2 n_5 t6 seen_14 : Value) (w : World) : Prop :=
  kn c_1 t2 n_5 t6 seen_14 (.int .i64 0) w
theorem ref07_Build_p20_ok (kn : K6) (hn : ∀ g w, kn (g 1) (g 2) (g 5) (g 6) (g 14) (g 15) w → Q .normal g w) (h : ref07_Build_p20 kn (g 1) (g 2) (g 5) (g 6) (g 14) w) : den pg ann_ref07_Build (takeS 1 (takeS 1 (dropS 1 (dropS 1 (dropS 1 (dropS 1 (dropS 1 (dropS 1 (dropS 5 code_ref07_Build))))))))) Q g w :=
  den_exQ (kr := no) (l := []) (by kernel_rfl) h hn noE trivial

def ref07_Build_p21 (kn : K2) (R : K1) (c_1 t2 n_5 t6 seen_14 : Value) (w : World) : Prop :=
  ref07_Build_p20 (fun c_1 t2 n_5 t6 seen_14 i_15 w => ref07_Build_p19 kn R c_1 t2 n_5 t6 seen_14 i_15 w) c_1 t2 n_5 t6 seen_14 w
theorem ref07_Build_p21_ok (kn : K2) (R : K1) (hn : ∀ g w, kn (g 2) (g 6) w → Q .normal g w) (hr : HR rs_ref07_Build R Q) (h : ref07_Build_p21 kn R (g 1) (g 2) (g 5) (g 6) (g 14) w) : den pg ann_ref07_Build (takeS 1 (dropS 1 (dropS 1 (dropS 1 (dropS 1 (dropS 1 (dropS 1 (dropS 5 code_ref07_Build)))))))) Q g w :=
  den_seqs 1 _ g w (by kernel_rfl) (ref07_Build_p20_ok (thenE (fun g w => den pg ann_ref07_Build (dropS 1 (takeS 1 (dropS 1 (dropS 1 (dropS 1 (dropS 1 (dropS 1 (dropS 1 (dropS 5 code_ref07_Build))))))))) Q g w) Q) g w (fun c_1 t2 n_5 t6 seen_14 i_15 w => ref07_Build_p19 kn R c_1 t2 n_5 t6 seen_14 i_15 w) (fun g w h => thenE_n (K := fun g w => den pg ann_ref07_Build (dropS 1 (takeS 1 (dropS 1 (dropS 1 (dropS 1 (dropS 1 (dropS 1 (dropS 1 (dropS 5 code_ref07_Build))))))))) Q g w) (ref07_Build_p19_ok Q g w kn R hn hr h)) h)

def ref07_Build_p22 (R : K1) (c_1 t2 n_5 t6 seen_14 : Value) (w : World) : Prop :=
  ref07_Build_p21 (fun t2 t6 w => ref07_Build_p1 R t2 t6 w) R c_1 t2 n_5 t6 seen_14 w
theorem ref07_Build_p22_ok (R : K1) (hr : HR rs_ref07_Build R Q) (h : ref07_Build_p22 R (g 1) (g 2) (g 5) (g 6) (g 14) w) : den pg ann_ref07_Build (dropS 1 (dropS 1 (dropS 1 (dropS 1 (dropS 1 (dropS 1 (dropS 5 code_ref07_Build))))))) Q g w :=
  den_seqs 1 _ g w (by kernel_rfl) (ref07_Build_p21_ok (thenE (fun g w => den pg ann_ref07_Build (dropS 1 (dropS 1 (dropS 1 (dropS 1 (dropS 1 (dropS 1 (dropS 1 (dropS 5 code_ref07_Build)))))))) Q g w) Q) g w (fun t2 t6 w => ref07_Build_p1 R t2 t6 w) R (fun g w h => thenE_n (K := fun g w => den pg ann_ref07_Build (dropS 1 (dropS 1 (dropS 1 (dropS 1 (dropS 1 (dropS 1 (dropS 1 (dropS 5 code_ref07_Build)))))))) Q g w) (ref07_Build_p1_ok Q g w R hr h)) hr h)

def ref07_Build_p23 (kn : K5) (c_1 t2 n_5 t6 : Value) (w : World) : Prop :=
  Stp pg (sAlloc 41) w fun seen_14 w =>
  kn c_1 t2 n_5 t6 seen_14 w
theorem ref07_Build_p23_ok (kn : K5) (hn : ∀ g w, kn (g 1) (g 2) (g 5) (g 6) (g 14) w → Q .normal g w) (h : ref07_Build_p23 kn (g 1) (g 2) (g 5) (g 6) w) : den pg ann_ref07_Build (takeS 1 (dropS 1 (dropS 1 (dropS 1 (dropS 1 (dropS 1 (dropS 5 code_ref07_Build))))))) Q g w :=
  den_exQ (kr := no) (l := []) (by kernel_rfl) h hn noE trivial

def ref07_Build_p24 (R : K1) (c_1 t2 n_5 t6 : Value) (w : World) : Prop :=
  ref07_Build_p23 (fun c_1 t2 n_5 t6 seen_14 w => ref07_Build_p22 R c_1 t2 n_5 t6 seen_14 w) c_1 t2 n_5 t6 w
theorem ref07_Build_p24_ok (R : K1) (hr : HR rs_ref07_Build R Q) (h : ref07_Build_p24 R (g 1) (g 2) (g 5) (g 6) w) : den pg ann_ref07_Build (dropS 1 (dropS 1 (dropS 1 (dropS 1 (dropS 1 (dropS 5 code_ref07_Build)))))) Q g w :=
  den_seqs 1 _ g w (by kernel_rfl) (ref07_Build_p23_ok (thenE (fun g w => den pg ann_ref07_Build (dropS 1 (dropS 1 (dropS 1 (dropS 1 (dropS 1 (dropS 1 (dropS 5 code_ref07_Build))))))) Q g w) Q) g w (fun c_1 t2 n_5 t6 seen_14 w => ref07_Build_p22 R c_1 t2 n_5 t6 seen_14 w) (fun g w h => thenE_n (K := fun g w => den pg ann_ref07_Build (dropS 1 (dropS 1 (dropS 1 (dropS 1 (dropS 1 (dropS 1 (dropS 5 code_ref07_Build))))))) Q g w) (ref07_Build_p22_ok Q g w R hr h)) h)

def ref07_Build_p25 (kn : K7) (c_1 t2 n_5 t6 t8 at_10 s_11 : Value) (w : World) : Prop :=
  Stp pg (sBin .add 3 (.tmp 70) (.const (.int .i64 1)) s_11 (.int .i64 1)) w fun t71 w =>
  kn c_1 t2 n_5 t6 t8 at_10 t71 w
theorem ref07_Build_p25_ok (kn : K7) (hn : ∀ g w, kn (g 1) (g 2) (g 5) (g 6) (g 8) (g 10) (g 11) w → Q .normal g w) (h : ref07_Build_p25 kn (g 1) (g 2) (g 5) (g 6) (g 8) (g 10) (g 11) w) : den pg ann_ref07_Build (dropS 1 (dropS 1 (bI (bI (dropS 1 (takeS 1 (dropS 1 (dropS 1 (dropS 1 (dropS 1 (dropS 5 code_ref07_Build))))))))))) Q g w :=
  den_exQ (kr := no) (l := []) (by kernel_rfl) h hn noE trivial

def ref07_Build_p26 (kn : K8) (c_1 t2 n_5 t6 t8 at_10 s_11 k_12 : Value) (w : World) : Prop :=
  Stp pg (sBin .add 3 (.tmp 79) (.const (.int .i64 1)) k_12 (.int .i64 1)) w fun t80 w =>
  kn c_1 t2 n_5 t6 t8 at_10 s_11 t80 w
theorem ref07_Build_p26_ok (kn : K8) (hn : ∀ g w, kn (g 1) (g 2) (g 5) (g 6) (g 8) (g 10) (g 11) (g 12) w → Q .normal g w) (h : ref07_Build_p26 kn (g 1) (g 2) (g 5) (g 6) (g 8) (g 10) (g 11) (g 12) w) : den pg ann_ref07_Build (dropS 1 (dropS 1 (bI (bI (dropS 1 (bI (takeS 1 (dropS 1 (bI (bI (dropS 1 (takeS 1 (dropS 1 (dropS 1 (dropS 1 (dropS 1 (dropS 5 code_ref07_Build))))))))))))))))) Q g w :=
  den_exQ (kr := no) (l := []) (by kernel_rfl) h hn noE trivial

def ref07_Build_p27 (kn : K9) (k8 : K8) (c_1 t2 n_5 t6 t8 at_10 s_11 k_12 j_13 : Value) (w : World) : Prop :=
  Stp pg (sBin .lss 3 (.tmp 97) (.tmp 98) j_13 n_5) w fun t99 w =>
  Gd (isB t99 true) (fun K => K at_10 w) w fun t101 w =>
  Gd (isB t99 true) (fun K => K t8 w) w fun t102 w =>
  Gd (isB t99 true) (fun K => Stp pg (sBin .gtr 3 (.tmp 101) (.tmp 102) t101 t102) w K) w fun t103 w =>
  Stp pg (sPick t99 t103 (.bool false)) w fun t104 w =>
  Cnd t104
    (Stp pg (sBin .quo 3 (.tmp 108) (.const (.int .i64 2)) n_5 (.int .i64 2)) w fun t109 w =>
    Stp pg (sBin .add 3 (.tmp 107) (.tmp 109) at_10 t109) w fun t110 w =>
    Stp pg (sBin .quo 3 (.tmp 111) (.const (.int .i64 8)) n_5 (.int .i64 8)) w fun t112 w =>
    Stp pg (sBin .add 3 (.tmp 110) (.tmp 112) t110 t112) w fun t113 w =>
    Stp pg (sBin .add 3 (.tmp 113) (.const (.int .i64 3)) t113 (.int .i64 3)) w fun t114 w =>
    Stp pg (sBin .rem 3 (.tmp 114) (.tmp 115) t114 n_5) w fun t116 w =>
    Stp pg (sBin .add 3 (.tmp 105) (.const (.int .i64 1)) j_13 (.int .i64 1)) w fun t106 w =>
    kn c_1 t2 n_5 t6 t8 t116 s_11 k_12 t106 w)
    (k8 c_1 t2 n_5 t6 t8 at_10 s_11 k_12 w)
theorem ref07_Build_p27_ok (kn : K9) (k8 : K8) (hn : ∀ g w, kn (g 1) (g 2) (g 5) (g 6) (g 8) (g 10) (g 11) (g 12) (g 13) w → Q .normal g w) (h8 : ∀ g w, k8 (g 1) (g 2) (g 5) (g 6) (g 8) (g 10) (g 11) (g 12) w → Q (.exit 8) g w) (h : ref07_Build_p27 kn k8 (g 1) (g 2) (g 5) (g 6) (g 8) (g 10) (g 11) (g 12) (g 13) w) : den pg ann_ref07_Build (bI (bI (dropS 3 (bI (takeS 1 (dropS 1 (bI (bI (dropS 1 (bI (takeS 1 (dropS 1 (bI (bI (dropS 1 (takeS 1 (dropS 1 (dropS 1 (dropS 1 (dropS 1 (dropS 5 code_ref07_Build))))))))))))))))))))) Q g w :=
  den_exQ (kr := no) (l := [(8, fun g w => k8 (g 1) (g 2) (g 5) (g 6) (g 8) (g 10) (g 11) (g 12) w)]) (by kernel_rfl) h hn noE ⟨h8, trivial⟩

def ref07_Build_p28 (k8 : K8) (c_1 t2 n_5 t6 t8 at_10 s_11 k_12 j_13 : Value) (w : World) : Prop :=
  LoopD (fun (X : (Value × Value) → K0) (t : Value × Value) (w : World) => ref07_Build_p27 (fun _ _ _ _ _ at_10 _ _ j_13 w => X (at_10, j_13) w) k8 c_1 t2 n_5 t6 t8 t.1 s_11 k_12 t.2 w) (at_10, j_13) w
theorem ref07_Build_p28_ok (k8 : K8) (h8 : ∀ g w, k8 (g 1) (g 2) (g 5) (g 6) (g 8) (g 10) (g 11) (g 12) w → Q (.exit 8) g w) (h : ref07_Build_p28 k8 (g 1) (g 2) (g 5) (g 6) (g 8) (g 10) (g 11) (g 12) (g 13) w) : den pg ann_ref07_Build (bI (dropS 3 (bI (takeS 1 (dropS 1 (bI (bI (dropS 1 (bI (takeS 1 (dropS 1 (bI (bI (dropS 1 (takeS 1 (dropS 1 (dropS 1 (dropS 1 (dropS 1 (dropS 5 code_ref07_Build)))))))))))))))))))) Q g w := by
  refine den_loops (T := Value × Value) (fun g : Env => (g 10, g 13)) (fun X t w => ref07_Build_p27 (fun _ _ _ _ _ at_10 _ _ j_13 w => X (at_10, j_13) w) k8 (g 1) (g 2) (g 5) (g 6) (g 8) t.1 (g 11) (g 12) t.2 w) _ (by kernel_rfl) h (fun X g1 w1 ha h1 => ?_)
  rw [← agree_at (s := 1) ha (by kernel_rfl)] at h1
  rw [← agree_at (s := 2) ha (by kernel_rfl)] at h1
  rw [← agree_at (s := 5) ha (by kernel_rfl)] at h1
  rw [← agree_at (s := 6) ha (by kernel_rfl)] at h1
  rw [← agree_at (s := 8) ha (by kernel_rfl)] at h1
  rw [← agree_at (s := 11) ha (by kernel_rfl)] at h1
  rw [← agree_at (s := 12) ha (by kernel_rfl)] at h1
  exact (ref07_Build_p27_ok (thenE (fun g2 w2 => X ((fun g : Env => (g 10, g 13)) g2) w2) Q) g1 w1 (fun _ _ _ _ _ at_10 _ _ j_13 w => X (at_10, j_13) w) k8 (fun _ _ h => h) h8 h1)

def ref07_Build_p29 (kn : K8) (c_1 t2 n_5 t6 t8 at_10 s_11 k_12 j_13 : Value) (w : World) : Prop :=
  ref07_Build_p28 kn c_1 t2 n_5 t6 t8 at_10 s_11 k_12 j_13 w
theorem ref07_Build_p29_ok (kn : K8) (hn : ∀ g w, kn (g 1) (g 2) (g 5) (g 6) (g 8) (g 10) (g 11) (g 12) w → Q .normal g w) (h : ref07_Build_p29 kn (g 1) (g 2) (g 5) (g 6) (g 8) (g 10) (g 11) (g 12) (g 13) w) : den pg ann_ref07_Build (dropS 3 (bI (takeS 1 (dropS 1 (bI (bI (dropS 1 (bI (takeS 1 (dropS 1 (bI (bI (dropS 1 (takeS 1 (dropS 1 (dropS 1 (dropS 1 (dropS 1 (dropS 5 code_ref07_Build))))))))))))))))))) Q g w :=
  den_blk 8 _ g w (by kernel_rfl) (ref07_Build_p28_ok (blk 8 Q) g w kn hn h)

def ref07_Build_p30 (kn : K9) (c_1 t2 n_5 t6 t8 at_10 s_11 k_12 : Value) (w : World) : Prop :=
  Stp pg (sFAddr 34 t6 1) w fun t81 w =>
  Stp pg (sLoad 32 t81) w fun t82 w =>
  Stp pg (sIAddr 32 t82 at_10) w fun t85 w =>
  Stp pg (sFAddr 101 t85 0) w fun t86 w =>
  Stp pg (sStore 3 t86 s_11) w fun _u w =>
  Stp pg (sBin .quo 3 (.tmp 88) (.const (.int .i64 2)) n_5 (.int .i64 2)) w fun t89 w =>
  Stp pg (sBin .add 3 (.tmp 87) (.tmp 89) at_10 t89) w fun t90 w =>
  Stp pg (sBin .quo 3 (.tmp 91) (.const (.int .i64 8)) n_5 (.int .i64 8)) w fun t92 w =>
  Stp pg (sBin .add 3 (.tmp 90) (.tmp 92) t90 t92) w fun t93 w =>
  Stp pg (sBin .add 3 (.tmp 93) (.const (.int .i64 3)) t93 (.int .i64 3)) w fun t94 w =>
  Stp pg (sBin .rem 3 (.tmp 94) (.tmp 95) t94 n_5) w fun t96 w =>
  kn c_1 t2 n_5 t6 t8 t96 s_11 k_12 (.int .i64 0) w
theorem ref07_Build_p30_ok (kn : K9) (hn : ∀ g w, kn (g 1) (g 2) (g 5) (g 6) (g 8) (g 10) (g 11) (g 12) (g 13) w → Q .normal g w) (h : ref07_Build_p30 kn (g 1) (g 2) (g 5) (g 6) (g 8) (g 10) (g 11) (g 12) w) : den pg ann_ref07_Build (takeS 3 (bI (takeS 1 (dropS 1 (bI (bI (dropS 1 (bI (takeS 1 (dropS 1 (bI (bI (dropS 1 (takeS 1 (dropS 1 (dropS 1 (dropS 1 (dropS 1 (dropS 5 code_ref07_Build))))))))))))))))))) Q g w :=
  den_exQ (kr := no) (l := []) (by kernel_rfl) h hn noE trivial

def ref07_Build_p31 (kn : K8) (c_1 t2 n_5 t6 t8 at_10 s_11 k_12 : Value) (w : World) : Prop :=
  ref07_Build_p30 (fun c_1 t2 n_5 t6 t8 at_10 s_11 k_12 j_13 w => ref07_Build_p29 kn c_1 t2 n_5 t6 t8 at_10 s_11 k_12 j_13 w) c_1 t2 n_5 t6 t8 at_10 s_11 k_12 w
theorem ref07_Build_p31_ok (kn : K8) (hn : ∀ g w, kn (g 1) (g 2) (g 5) (g 6) (g 8) (g 10) (g 11) (g 12) w → Q .normal g w) (h : ref07_Build_p31 kn (g 1) (g 2) (g 5) (g 6) (g 8) (g 10) (g 11) (g 12) w) : den pg ann_ref07_Build (bI (takeS 1 (dropS 1 (bI (bI (dropS 1 (bI (takeS 1 (dropS 1 (bI (bI (dropS 1 (takeS 1 (dropS 1 (dropS 1 (dropS 1 (dropS 1 (dropS 5 code_ref07_Build)))))))))))))))))) Q g w :=
  den_seqs 3 _ g w (by kernel_rfl) (ref07_Build_p30_ok (thenE (fun g w => den pg ann_ref07_Build (dropS 3 (bI (takeS 1 (dropS 1 (bI (bI (dropS 1 (bI (takeS 1 (dropS 1 (bI (bI (dropS 1 (takeS 1 (dropS 1 (dropS 1 (dropS 1 (dropS 1 (dropS 5 code_ref07_Build))))))))))))))))))) Q g w) Q) g w (fun c_1 t2 n_5 t6 t8 at_10 s_11 k_12 j_13 w => ref07_Build_p29 kn c_1 t2 n_5 t6 t8 at_10 s_11 k_12 j_13 w) (fun g w h => thenE_n (K := fun g w => den pg ann_ref07_Build (dropS 3 (bI (takeS 1 (dropS 1 (bI (bI (dropS 1 (bI (takeS 1 (dropS 1 (bI (bI (dropS 1 (takeS 1 (dropS 1 (dropS 1 (dropS 1 (dropS 1 (dropS 5 code_ref07_Build))))))))))))))))))) Q g w) (ref07_Build_p29_ok Q g w kn hn h)) h)

def ref07_Build_p32 (kn : K8) (c_1 t2 n_5 t6 t8 at_10 s_11 k_12 : Value) (w : World) : Prop :=
  ref07_Build_p31 kn c_1 t2 n_5 t6 t8 at_10 s_11 k_12 w
theorem ref07_Build_p32_ok (kn : K8) (hn : ∀ g w, kn (g 1) (g 2) (g 5) (g 6) (g 8) (g 10) (g 11) (g 12) w → Q .normal g w) (h : ref07_Build_p32 kn (g 1) (g 2) (g 5) (g 6) (g 8) (g 10) (g 11) (g 12) w) : den pg ann_ref07_Build (takeS 1 (dropS 1 (bI (bI (dropS 1 (bI (takeS 1 (dropS 1 (bI (bI (dropS 1 (takeS 1 (dropS 1 (dropS 1 (dropS 1 (dropS 1 (dropS 5 code_ref07_Build))))))))))))))))) Q g w :=
  den_blk 7 _ g w (by kernel_rfl) (ref07_Build_p31_ok (blk 7 Q) g w kn hn h)

def ref07_Build_p33 (kn : K8) (c_1 t2 n_5 t6 t8 at_10 s_11 k_12 : Value) (w : World) : Prop :=
  ref07_Build_p32 (fun c_1 t2 n_5 t6 t8 at_10 s_11 k_12 w => ref07_Build_p26 kn c_1 t2 n_5 t6 t8 at_10 s_11 k_12 w) c_1 t2 n_5 t6 t8 at_10 s_11 k_12 w
theorem ref07_Build_p33_ok (kn : K8) (hn : ∀ g w, kn (g 1) (g 2) (g 5) (g 6) (g 8) (g 10) (g 11) (g 12) w → Q .normal g w) (h : ref07_Build_p33 kn (g 1) (g 2) (g 5) (g 6) (g 8) (g 10) (g 11) (g 12) w) : den pg ann_ref07_Build (dropS 1 (bI (bI (dropS 1 (bI (takeS 1 (dropS 1 (bI (bI (dropS 1 (takeS 1 (dropS 1 (dropS 1 (dropS 1 (dropS 1 (dropS 5 code_ref07_Build)))))))))))))))) Q g w :=
  den_seqs 1 _ g w (by kernel_rfl) (ref07_Build_p32_ok (thenE (fun g w => den pg ann_ref07_Build (dropS 1 (dropS 1 (bI (bI (dropS 1 (bI (takeS 1 (dropS 1 (bI (bI (dropS 1 (takeS 1 (dropS 1 (dropS 1 (dropS 1 (dropS 1 (dropS 5 code_ref07_Build))))))))))))))))) Q g w) Q) g w (fun c_1 t2 n_5 t6 t8 at_10 s_11 k_12 w => ref07_Build_p26 kn c_1 t2 n_5 t6 t8 at_10 s_11 k_12 w) (fun g w h => thenE_n (K := fun g w => den pg ann_ref07_Build (dropS 1 (dropS 1 (bI (bI (dropS 1 (bI (takeS 1 (dropS 1 (bI (bI (dropS 1 (takeS 1 (dropS 1 (dropS 1 (dropS 1 (dropS 1 (dropS 5 code_ref07_Build))))))))))))))))) Q g w) (ref07_Build_p26_ok Q g w kn hn h)) h)

def ref07_Build_p34 (kn : K8) (k6 : K7) (c_1 t2 n_5 t6 t8 at_10 s_11 k_12 : Value) (w : World) : Prop :=
  Stp pg (sFAddr 37 c_1 1) w fun t73 w =>
  Stp pg (sLoad 22 t73) w fun t74 w =>
  Stp pg (sIAddr 22 t74 s_11) w fun t76 w =>
  Stp pg (sLoad 3 t76) w fun t77 w =>
  Stp pg (sBin .lss 3 (.tmp 72) (.tmp 77) k_12 t77) w fun t78 w =>
  Cnd t78
    (kn c_1 t2 n_5 t6 t8 at_10 s_11 k_12 w)
    (k6 c_1 t2 n_5 t6 t8 at_10 s_11 w)
theorem ref07_Build_p34_ok (kn : K8) (k6 : K7) (hn : ∀ g w, kn (g 1) (g 2) (g 5) (g 6) (g 8) (g 10) (g 11) (g 12) w → Q .normal g w) (h6 : ∀ g w, k6 (g 1) (g 2) (g 5) (g 6) (g 8) (g 10) (g 11) w → Q (.exit 6) g w) (h : ref07_Build_p34 kn k6 (g 1) (g 2) (g 5) (g 6) (g 8) (g 10) (g 11) (g 12) w) : den pg ann_ref07_Build (takeS 1 (bI (bI (dropS 1 (bI (takeS 1 (dropS 1 (bI (bI (dropS 1 (takeS 1 (dropS 1 (dropS 1 (dropS 1 (dropS 1 (dropS 5 code_ref07_Build)))))))))))))))) Q g w :=
  den_exQ (kr := no) (l := [(6, fun g w => k6 (g 1) (g 2) (g 5) (g 6) (g 8) (g 10) (g 11) w)]) (by kernel_rfl) h hn noE ⟨h6, trivial⟩

def ref07_Build_p35 (kn : K8) (k6 : K7) (c_1 t2 n_5 t6 t8 at_10 s_11 k_12 : Value) (w : World) : Prop :=
  ref07_Build_p34 (fun c_1 t2 n_5 t6 t8 at_10 s_11 k_12 w => ref07_Build_p33 kn c_1 t2 n_5 t6 t8 at_10 s_11 k_12 w) k6 c_1 t2 n_5 t6 t8 at_10 s_11 k_12 w
theorem ref07_Build_p35_ok (kn : K8) (k6 : K7) (hn : ∀ g w, kn (g 1) (g 2) (g 5) (g 6) (g 8) (g 10) (g 11) (g 12) w → Q .normal g w) (h6 : ∀ g w, k6 (g 1) (g 2) (g 5) (g 6) (g 8) (g 10) (g 11) w → Q (.exit 6) g w) (h : ref07_Build_p35 kn k6 (g 1) (g 2) (g 5) (g 6) (g 8) (g 10) (g 11) (g 12) w) : den pg ann_ref07_Build (bI (bI (dropS 1 (bI (takeS 1 (dropS 1 (bI (bI (dropS 1 (takeS 1 (dropS 1 (dropS 1 (dropS 1 (dropS 1 (dropS 5 code_ref07_Build))))))))))))))) Q g w :=
  den_seqs 1 _ g w (by kernel_rfl) (ref07_Build_p34_ok (thenE (fun g w => den pg ann_ref07_Build (dropS 1 (bI (bI (dropS 1 (bI (takeS 1 (dropS 1 (bI (bI (dropS 1 (takeS 1 (dropS 1 (dropS 1 (dropS 1 (dropS 1 (dropS 5 code_ref07_Build)))))))))))))))) Q g w) Q) g w (fun c_1 t2 n_5 t6 t8 at_10 s_11 k_12 w => ref07_Build_p33 kn c_1 t2 n_5 t6 t8 at_10 s_11 k_12 w) k6 (fun g w h => thenE_n (K := fun g w => den pg ann_ref07_Build (dropS 1 (bI (bI (dropS 1 (bI (takeS 1 (dropS 1 (bI (bI (dropS 1 (takeS 1 (dropS 1 (dropS 1 (dropS 1 (dropS 1 (dropS 5 code_ref07_Build)))))))))))))))) Q g w) (ref07_Build_p33_ok Q g w kn hn h)) h6 h)

def ref07_Build_p36 (k6 : K7) (c_1 t2 n_5 t6 t8 at_10 s_11 k_12 : Value) (w : World) : Prop :=
  LoopD (fun (X : (Value × Value) → K0) (t : Value × Value) (w : World) => ref07_Build_p35 (fun _ _ _ _ _ at_10 _ k_12 w => X (at_10, k_12) w) k6 c_1 t2 n_5 t6 t8 t.1 s_11 t.2 w) (at_10, k_12) w
theorem ref07_Build_p36_ok (k6 : K7) (h6 : ∀ g w, k6 (g 1) (g 2) (g 5) (g 6) (g 8) (g 10) (g 11) w → Q (.exit 6) g w) (h : ref07_Build_p36 k6 (g 1) (g 2) (g 5) (g 6) (g 8) (g 10) (g 11) (g 12) w) : den pg ann_ref07_Build (bI (dropS 1 (bI (takeS 1 (dropS 1 (bI (bI (dropS 1 (takeS 1 (dropS 1 (dropS 1 (dropS 1 (dropS 1 (dropS 5 code_ref07_Build)))))))))))))) Q g w := by
  refine den_loops (T := Value × Value) (fun g : Env => (g 10, g 12)) (fun X t w => ref07_Build_p35 (fun _ _ _ _ _ at_10 _ k_12 w => X (at_10, k_12) w) k6 (g 1) (g 2) (g 5) (g 6) (g 8) t.1 (g 11) t.2 w) _ (by kernel_rfl) h (fun X g1 w1 ha h1 => ?_)
  rw [← agree_at (s := 1) ha (by kernel_rfl)] at h1
  rw [← agree_at (s := 2) ha (by kernel_rfl)] at h1
  rw [← agree_at (s := 5) ha (by kernel_rfl)] at h1
  rw [← agree_at (s := 6) ha (by kernel_rfl)] at h1
  rw [← agree_at (s := 8) ha (by kernel_rfl)] at h1
  rw [← agree_at (s := 11) ha (by kernel_rfl)] at h1
  exact (ref07_Build_p35_ok (thenE (fun g2 w2 => X ((fun g : Env => (g 10, g 12)) g2) w2) Q) g1 w1 (fun _ _ _ _ _ at_10 _ k_12 w => X (at_10, k_12) w) k6 (fun _ _ h => h) h6 h1)

def ref07_Build_p37 (kn : K7) (c_1 t2 n_5 t6 t8 at_10 s_11 k_12 : Value) (w : World) : Prop :=
  ref07_Build_p36 kn c_1 t2 n_5 t6 t8 at_10 s_11 k_12 w
theorem ref07_Build_p37_ok (kn : K7) (hn : ∀ g w, kn (g 1) (g 2) (g 5) (g 6) (g 8) (g 10) (g 11) w → Q .normal g w) (h : ref07_Build_p37 kn (g 1) (g 2) (g 5) (g 6) (g 8) (g 10) (g 11) (g 12) w) : den pg ann_ref07_Build (dropS 1 (bI (takeS 1 (dropS 1 (bI (bI (dropS 1 (takeS 1 (dropS 1 (dropS 1 (dropS 1 (dropS 1 (dropS 5 code_ref07_Build))))))))))))) Q g w :=
  den_blk 6 _ g w (by kernel_rfl) (ref07_Build_p36_ok (blk 6 Q) g w kn hn h)

def ref07_Build_p38 (kn : K8) (c_1 t2 n_5 t6 t8 at_10 s_11 : Value) (w : World) : Prop :=
  kn c_1 t2 n_5 t6 t8 at_10 s_11 (.int .i64 0) w
theorem ref07_Build_p38_ok (kn : K8) (hn : ∀ g w, kn (g 1) (g 2) (g 5) (g 6) (g 8) (g 10) (g 11) (g 12) w → Q .normal g w) (h : ref07_Build_p38 kn (g 1) (g 2) (g 5) (g 6) (g 8) (g 10) (g 11) w) : den pg ann_ref07_Build (takeS 1 (bI (takeS 1 (dropS 1 (bI (bI (dropS 1 (takeS 1 (dropS 1 (dropS 1 (dropS 1 (dropS 1 (dropS 5 code_ref07_Build))))))))))))) Q g w :=
  den_exQ (kr := no) (l := []) (by kernel_rfl) h hn noE trivial

def ref07_Build_p39 (kn : K7) (c_1 t2 n_5 t6 t8 at_10 s_11 : Value) (w : World) : Prop :=
  ref07_Build_p38 (fun c_1 t2 n_5 t6 t8 at_10 s_11 k_12 w => ref07_Build_p37 kn c_1 t2 n_5 t6 t8 at_10 s_11 k_12 w) c_1 t2 n_5 t6 t8 at_10 s_11 w
theorem ref07_Build_p39_ok (kn : K7) (hn : ∀ g w, kn (g 1) (g 2) (g 5) (g 6) (g 8) (g 10) (g 11) w → Q .normal g w) (h : ref07_Build_p39 kn (g 1) (g 2) (g 5) (g 6) (g 8) (g 10) (g 11) w) : den pg ann_ref07_Build (bI (takeS 1 (dropS 1 (bI (bI (dropS 1 (takeS 1 (dropS 1 (dropS 1 (dropS 1 (dropS 1 (dropS 5 code_ref07_Build)))))))))))) Q g w :=
  den_seqs 1 _ g w (by kernel_rfl) (ref07_Build_p38_ok (thenE (fun g w => den pg ann_ref07_Build (dropS 1 (bI (takeS 1 (dropS 1 (bI (bI (dropS 1 (takeS 1 (dropS 1 (dropS 1 (dropS 1 (dropS 1 (dropS 5 code_ref07_Build))))))))))))) Q g w) Q) g w (fun c_1 t2 n_5 t6 t8 at_10 s_11 k_12 w => ref07_Build_p37 kn c_1 t2 n_5 t6 t8 at_10 s_11 k_12 w) (fun g w h => thenE_n (K := fun g w => den pg ann_ref07_Build (dropS 1 (bI (takeS 1 (dropS 1 (bI (bI (dropS 1 (takeS 1 (dropS 1 (dropS 1 (dropS 1 (dropS 1 (dropS 5 code_ref07_Build))))))))))))) Q g w) (ref07_Build_p37_ok Q g w kn hn h)) h)

def ref07_Build_p40 (kn : K7) (c_1 t2 n_5 t6 t8 at_10 s_11 : Value) (w : World) : Prop :=
  ref07_Build_p39 kn c_1 t2 n_5 t6 t8 at_10 s_11 w
theorem ref07_Build_p40_ok (kn : K7) (hn : ∀ g w, kn (g 1) (g 2) (g 5) (g 6) (g 8) (g 10) (g 11) w → Q .normal g w) (h : ref07_Build_p40 kn (g 1) (g 2) (g 5) (g 6) (g 8) (g 10) (g 11) w) : den pg ann_ref07_Build (takeS 1 (dropS 1 (bI (bI (dropS 1 (takeS 1 (dropS 1 (dropS 1 (dropS 1 (dropS 1 (dropS 5 code_ref07_Build))))))))))) Q g w :=
  den_blk 5 _ g w (by kernel_rfl) (ref07_Build_p39_ok (blk 5 Q) g w kn hn h)

def ref07_Build_p41 (kn : K7) (c_1 t2 n_5 t6 t8 at_10 s_11 : Value) (w : World) : Prop :=
  ref07_Build_p40 (fun c_1 t2 n_5 t6 t8 at_10 s_11 w => ref07_Build_p25 kn c_1 t2 n_5 t6 t8 at_10 s_11 w) c_1 t2 n_5 t6 t8 at_10 s_11 w
theorem ref07_Build_p41_ok (kn : K7) (hn : ∀ g w, kn (g 1) (g 2) (g 5) (g 6) (g 8) (g 10) (g 11) w → Q .normal g w) (h : ref07_Build_p41 kn (g 1) (g 2) (g 5) (g 6) (g 8) (g 10) (g 11) w) : den pg ann_ref07_Build (dropS 1 (bI (bI (dropS 1 (takeS 1 (dropS 1 (dropS 1 (dropS 1 (dropS 1 (dropS 5 code_ref07_Build)))))))))) Q g w :=
  den_seqs 1 _ g w (by kernel_rfl) (ref07_Build_p40_ok (thenE (fun g w => den pg ann_ref07_Build (dropS 1 (dropS 1 (bI (bI (dropS 1 (takeS 1 (dropS 1 (dropS 1 (dropS 1 (dropS 1 (dropS 5 code_ref07_Build))))))))))) Q g w) Q) g w (fun c_1 t2 n_5 t6 t8 at_10 s_11 w => ref07_Build_p25 kn c_1 t2 n_5 t6 t8 at_10 s_11 w) (fun g w h => thenE_n (K := fun g w => den pg ann_ref07_Build (dropS 1 (dropS 1 (bI (bI (dropS 1 (takeS 1 (dropS 1 (dropS 1 (dropS 1 (dropS 1 (dropS 5 code_ref07_Build))))))))))) Q g w) (ref07_Build_p25_ok Q g w kn hn h)) h)

def ref07_Build_p42 (kn : K7) (k4 : K4) (c_1 t2 n_5 t6 t8 at_10 s_11 : Value) (w : World) : Prop :=
  Stp pg (sFAddr 37 c_1 1) w fun t66 w =>
  Stp pg (sLoad 22 t66) w fun t67 w =>
  Stp pg (sBi .len #[22] 3 [t67]) w fun t68 w =>
  Stp pg (sBin .lss 3 (.tmp 65) (.tmp 68) s_11 t68) w fun t69 w =>
  Cnd t69
    (kn c_1 t2 n_5 t6 t8 at_10 s_11 w)
    (k4 c_1 t2 n_5 t6 w)
theorem ref07_Build_p42_ok (kn : K7) (k4 : K4) (hn : ∀ g w, kn (g 1) (g 2) (g 5) (g 6) (g 8) (g 10) (g 11) w → Q .normal g w) (h4 : ∀ g w, k4 (g 1) (g 2) (g 5) (g 6) w → Q (.exit 4) g w) (h : ref07_Build_p42 kn k4 (g 1) (g 2) (g 5) (g 6) (g 8) (g 10) (g 11) w) : den pg ann_ref07_Build (takeS 1 (bI (bI (dropS 1 (takeS 1 (dropS 1 (dropS 1 (dropS 1 (dropS 1 (dropS 5 code_ref07_Build)))))))))) Q g w :=
  den_exQ (kr := no) (l := [(4, fun g w => k4 (g 1) (g 2) (g 5) (g 6) w)]) (by kernel_rfl) h hn noE ⟨h4, trivial⟩

def ref07_Build_p43 (kn : K7) (k4 : K4) (c_1 t2 n_5 t6 t8 at_10 s_11 : Value) (w : World) : Prop :=
  ref07_Build_p42 (fun c_1 t2 n_5 t6 t8 at_10 s_11 w => ref07_Build_p41 kn c_1 t2 n_5 t6 t8 at_10 s_11 w) k4 c_1 t2 n_5 t6 t8 at_10 s_11 w
theorem ref07_Build_p43_ok (kn : K7) (k4 : K4) (hn : ∀ g w, kn (g 1) (g 2) (g 5) (g 6) (g 8) (g 10) (g 11) w → Q .normal g w) (h4 : ∀ g w, k4 (g 1) (g 2) (g 5) (g 6) w → Q (.exit 4) g w) (h : ref07_Build_p43 kn k4 (g 1) (g 2) (g 5) (g 6) (g 8) (g 10) (g 11) w) : den pg ann_ref07_Build (bI (bI (dropS 1 (takeS 1 (dropS 1 (dropS 1 (dropS 1 (dropS 1 (dropS 5 code_ref07_Build))))))))) Q g w :=
  den_seqs 1 _ g w (by kernel_rfl) (ref07_Build_p42_ok (thenE (fun g w => den pg ann_ref07_Build (dropS 1 (bI (bI (dropS 1 (takeS 1 (dropS 1 (dropS 1 (dropS 1 (dropS 1 (dropS 5 code_ref07_Build)))))))))) Q g w) Q) g w (fun c_1 t2 n_5 t6 t8 at_10 s_11 w => ref07_Build_p41 kn c_1 t2 n_5 t6 t8 at_10 s_11 w) k4 (fun g w h => thenE_n (K := fun g w => den pg ann_ref07_Build (dropS 1 (bI (bI (dropS 1 (takeS 1 (dropS 1 (dropS 1 (dropS 1 (dropS 1 (dropS 5 code_ref07_Build)))))))))) Q g w) (ref07_Build_p41_ok Q g w kn hn h)) h4 h)

def ref07_Build_p44 (k4 : K4) (c_1 t2 n_5 t6 t8 at_10 s_11 : Value) (w : World) : Prop :=
  LoopD (fun (X : (Value × Value) → K0) (t : Value × Value) (w : World) => ref07_Build_p43 (fun _ _ _ _ _ at_10 s_11 w => X (at_10, s_11) w) k4 c_1 t2 n_5 t6 t8 t.1 t.2 w) (at_10, s_11) w
theorem ref07_Build_p44_ok (k4 : K4) (h4 : ∀ g w, k4 (g 1) (g 2) (g 5) (g 6) w → Q (.exit 4) g w) (h : ref07_Build_p44 k4 (g 1) (g 2) (g 5) (g 6) (g 8) (g 10) (g 11) w) : den pg ann_ref07_Build (bI (dropS 1 (takeS 1 (dropS 1 (dropS 1 (dropS 1 (dropS 1 (dropS 5 code_ref07_Build)))))))) Q g w := by
  refine den_loops (T := Value × Value) (fun g : Env => (g 10, g 11)) (fun X t w => ref07_Build_p43 (fun _ _ _ _ _ at_10 s_11 w => X (at_10, s_11) w) k4 (g 1) (g 2) (g 5) (g 6) (g 8) t.1 t.2 w) _ (by kernel_rfl) h (fun X g1 w1 ha h1 => ?_)
  rw [← agree_at (s := 1) ha (by kernel_rfl)] at h1
  rw [← agree_at (s := 2) ha (by kernel_rfl)] at h1
  rw [← agree_at (s := 5) ha (by kernel_rfl)] at h1
  rw [← agree_at (s := 6) ha (by kernel_rfl)] at h1
  rw [← agree_at (s := 8) ha (by kernel_rfl)] at h1
  exact (ref07_Build_p43_ok (thenE (fun g2 w2 => X ((fun g : Env => (g 10, g 11)) g2) w2) Q) g1 w1 (fun _ _ _ _ _ at_10 s_11 w => X (at_10, s_11) w) k4 (fun _ _ h => h) h4 h1)

def ref07_Build_p45 (kn : K4) (c_1 t2 n_5 t6 t8 at_10 s_11 : Value) (w : World) : Prop :=
  ref07_Build_p44 kn c_1 t2 n_5 t6 t8 at_10 s_11 w
theorem ref07_Build_p45_ok (kn : K4) (hn : ∀ g w, kn (g 1) (g 2) (g 5) (g 6) w → Q .normal g w) (h : ref07_Build_p45 kn (g 1) (g 2) (g 5) (g 6) (g 8) (g 10) (g 11) w) : den pg ann_ref07_Build (dropS 1 (takeS 1 (dropS 1 (dropS 1 (dropS 1 (dropS 1 (dropS 5 code_ref07_Build))))))) Q g w :=
  den_blk 4 _ g w (by kernel_rfl) (ref07_Build_p44_ok (blk 4 Q) g w kn hn h)

def ref07_Build_p46 (kn : K7) (c_1 t2 n_5 t6 t8 at_10 : Value) (w : World) : Prop :=
  kn c_1 t2 n_5 t6 t8 at_10 (.int .i64 0) w
theorem ref07_Build_p46_ok (kn : K7) (hn : ∀ g w, kn (g 1) (g 2) (g 5) (g 6) (g 8) (g 10) (g 11) w → Q .normal g w) (h : ref07_Build_p46 kn (g 1) (g 2) (g 5) (g 6) (g 8) (g 10) w) : den pg ann_ref07_Build (takeS 1 (takeS 1 (dropS 1 (dropS 1 (dropS 1 (dropS 1 (dropS 5 code_ref07_Build))))))) Q g w :=
  den_exQ (kr := no) (l := []) (by kernel_rfl) h hn noE trivial

def ref07_Build_p47 (kn : K4) (c_1 t2 n_5 t6 t8 at_10 : Value) (w : World) : Prop :=
  ref07_Build_p46 (fun c_1 t2 n_5 t6 t8 at_10 s_11 w => ref07_Build_p45 kn c_1 t2 n_5 t6 t8 at_10 s_11 w) c_1 t2 n_5 t6 t8 at_10 w
theorem ref07_Build_p47_ok (kn : K4) (hn : ∀ g w, kn (g 1) (g 2) (g 5) (g 6) w → Q .normal g w) (h : ref07_Build_p47 kn (g 1) (g 2) (g 5) (g 6) (g 8) (g 10) w) : den pg ann_ref07_Build (takeS 1 (dropS 1 (dropS 1 (dropS 1 (dropS 1 (dropS 5 code_ref07_Build)))))) Q g w :=
  den_seqs 1 _ g w (by kernel_rfl) (ref07_Build_p46_ok (thenE (fun g w => den pg ann_ref07_Build (dropS 1 (takeS 1 (dropS 1 (dropS 1 (dropS 1 (dropS 1 (dropS 5 code_ref07_Build))))))) Q g w) Q) g w (fun c_1 t2 n_5 t6 t8 at_10 s_11 w => ref07_Build_p45 kn c_1 t2 n_5 t6 t8 at_10 s_11 w) (fun g w h => thenE_n (K := fun g w => den pg ann_ref07_Build (dropS 1 (takeS 1 (dropS 1 (dropS 1 (dropS 1 (dropS 1 (dropS 5 code_ref07_Build))))))) Q g w) (ref07_Build_p45_ok Q g w kn hn h)) h)

def ref07_Build_p48 (R : K1) (c_1 t2 n_5 t6 t8 at_10 : Value) (w : World) : Prop :=
  ref07_Build_p47 (fun c_1 t2 n_5 t6 w => ref07_Build_p24 R c_1 t2 n_5 t6 w) c_1 t2 n_5 t6 t8 at_10 w
theorem ref07_Build_p48_ok (R : K1) (hr : HR rs_ref07_Build R Q) (h : ref07_Build_p48 R (g 1) (g 2) (g 5) (g 6) (g 8) (g 10) w) : den pg ann_ref07_Build (dropS 1 (dropS 1 (dropS 1 (dropS 1 (dropS 5 code_ref07_Build))))) Q g w :=
  den_seqs 1 _ g w (by kernel_rfl) (ref07_Build_p47_ok (thenE (fun g w => den pg ann_ref07_Build (dropS 1 (dropS 1 (dropS 1 (dropS 1 (dropS 1 (dropS 5 code_ref07_Build)))))) Q g w) Q) g w (fun c_1 t2 n_5 t6 w => ref07_Build_p24 R c_1 t2 n_5 t6 w) (fun g w h => thenE_n (K := fun g w => den pg ann_ref07_Build (dropS 1 (dropS 1 (dropS 1 (dropS 1 (dropS 1 (dropS 5 code_ref07_Build)))))) Q g w) (ref07_Build_p24_ok Q g w R hr h)) h)

def ref07_Build_p49 (kn : K6) (c_1 t2 n_5 t6 t8 : Value) (w : World) : Prop :=
  kn c_1 t2 n_5 t6 t8 (.int .i64 0) w
theorem ref07_Build_p49_ok (kn : K6) (hn : ∀ g w, kn (g 1) (g 2) (g 5) (g 6) (g 8) (g 10) w → Q .normal g w) (h : ref07_Build_p49 kn (g 1) (g 2) (g 5) (g 6) (g 8) w) : den pg ann_ref07_Build (takeS 1 (dropS 1 (dropS 1 (dropS 1 (dropS 5 code_ref07_Build))))) Q g w :=
  den_exQ (kr := no) (l := []) (by kernel_rfl) h hn noE trivial

def ref07_Build_p50 (R : K1) (c_1 t2 n_5 t6 t8 : Value) (w : World) : Prop :=
  ref07_Build_p49 (fun c_1 t2 n_5 t6 t8 at_10 w => ref07_Build_p48 R c_1 t2 n_5 t6 t8 at_10 w) c_1 t2 n_5 t6 t8 w
theorem ref07_Build_p50_ok (R : K1) (hr : HR rs_ref07_Build R Q) (h : ref07_Build_p50 R (g 1) (g 2) (g 5) (g 6) (g 8) w) : den pg ann_ref07_Build (dropS 1 (dropS 1 (dropS 1 (dropS 5 code_ref07_Build)))) Q g w :=
  den_seqs 1 _ g w (by kernel_rfl) (ref07_Build_p49_ok (thenE (fun g w => den pg ann_ref07_Build (dropS 1 (dropS 1 (dropS 1 (dropS 1 (dropS 5 code_ref07_Build))))) Q g w) Q) g w (fun c_1 t2 n_5 t6 t8 at_10 w => ref07_Build_p48 R c_1 t2 n_5 t6 t8 at_10 w) (fun g w h => thenE_n (K := fun g w => den pg ann_ref07_Build (dropS 1 (dropS 1 (dropS 1 (dropS 1 (dropS 5 code_ref07_Build))))) Q g w) (ref07_Build_p48_ok Q g w R hr h)) h)

def ref07_Build_p51 (kn : K6) (c_1 t2 n_5 t6 t8 s_9 : Value) (w : World) : Prop :=
  Stp pg (sBin .add 3 (.tmp 49) (.const (.int .i64 1)) s_9 (.int .i64 1)) w fun t50 w =>
  kn c_1 t2 n_5 t6 t8 t50 w
theorem ref07_Build_p51_ok (kn : K6) (hn : ∀ g w, kn (g 1) (g 2) (g 5) (g 6) (g 8) (g 9) w → Q .normal g w) (h : ref07_Build_p51 kn (g 1) (g 2) (g 5) (g 6) (g 8) (g 9) w) : den pg ann_ref07_Build (dropS 2 (bI (bI (dropS 1 (takeS 1 (dropS 1 (dropS 1 (dropS 5 code_ref07_Build)))))))) Q g w :=
  den_exQ (kr := no) (l := []) (by kernel_rfl) h hn noE trivial

def ref07_Build_p52 (kn : K6) (k2 : K5) (c_1 t2 n_5 t6 t8 s_9 : Value) (w : World) : Prop :=
  Stp pg (sFAddr 37 c_1 1) w fun t45 w =>
  Stp pg (sLoad 22 t45) w fun t46 w =>
  Stp pg (sBi .len #[22] 3 [t46]) w fun t47 w =>
  Stp pg (sBin .lss 3 (.tmp 44) (.tmp 47) s_9 t47) w fun t48 w =>
  Cnd t48
    (Stp pg (sFAddr 37 c_1 1) w fun t51 w =>
    Stp pg (sLoad 22 t51) w fun t52 w =>
    Stp pg (sIAddr 22 t52 s_9) w fun t54 w =>
    Stp pg (sLoad 3 t54) w fun t55 w =>
    Stp pg (sBin .lss 3 (.tmp 55) (.const (.int .i64 0)) t55 (.int .i64 0)) w fun t56 w =>
    Cnd t56
      (Stp pg (sFAddr 34 t6 1) w fun t57 w =>
      Stp pg (sLoad 32 t57) w fun t58 w =>
      Stp pg (sIAddr 32 t58 t8) w fun t61 w =>
      Stp pg (sFAddr 101 t61 0) w fun t62 w =>
      Stp pg (sStore 3 t62 s_9) w fun _u w =>
      Stp pg (sBin .sub 3 (.tmp 63) (.const (.int .i64 1)) t8 (.int .i64 1)) w fun t64 w =>
      kn c_1 t2 n_5 t6 t64 s_9 w)
      (kn c_1 t2 n_5 t6 t8 s_9 w))
    (k2 c_1 t2 n_5 t6 t8 w)
theorem ref07_Build_p52_ok (kn : K6) (k2 : K5) (hn : ∀ g w, kn (g 1) (g 2) (g 5) (g 6) (g 8) (g 9) w → Q .normal g w) (h2 : ∀ g w, k2 (g 1) (g 2) (g 5) (g 6) (g 8) w → Q (.exit 2) g w) (h : ref07_Build_p52 kn k2 (g 1) (g 2) (g 5) (g 6) (g 8) (g 9) w) : den pg ann_ref07_Build (takeS 2 (bI (bI (dropS 1 (takeS 1 (dropS 1 (dropS 1 (dropS 5 code_ref07_Build)))))))) Q g w :=
  den_exQ (kr := no) (l := [(2, fun g w => k2 (g 1) (g 2) (g 5) (g 6) (g 8) w)]) (by kernel_rfl) h hn noE ⟨h2, trivial⟩

def ref07_Build_p53 (kn : K6) (k2 : K5) (c_1 t2 n_5 t6 t8 s_9 : Value) (w : World) : Prop :=
  ref07_Build_p52 (fun c_1 t2 n_5 t6 t8 s_9 w => ref07_Build_p51 kn c_1 t2 n_5 t6 t8 s_9 w) k2 c_1 t2 n_5 t6 t8 s_9 w
theorem ref07_Build_p53_ok (kn : K6) (k2 : K5) (hn : ∀ g w, kn (g 1) (g 2) (g 5) (g 6) (g 8) (g 9) w → Q .normal g w) (h2 : ∀ g w, k2 (g 1) (g 2) (g 5) (g 6) (g 8) w → Q (.exit 2) g w) (h : ref07_Build_p53 kn k2 (g 1) (g 2) (g 5) (g 6) (g 8) (g 9) w) : den pg ann_ref07_Build (bI (bI (dropS 1 (takeS 1 (dropS 1 (dropS 1 (dropS 5 code_ref07_Build))))))) Q g w :=
  den_seqs 2 _ g w (by kernel_rfl) (ref07_Build_p52_ok (thenE (fun g w => den pg ann_ref07_Build (dropS 2 (bI (bI (dropS 1 (takeS 1 (dropS 1 (dropS 1 (dropS 5 code_ref07_Build)))))))) Q g w) Q) g w (fun c_1 t2 n_5 t6 t8 s_9 w => ref07_Build_p51 kn c_1 t2 n_5 t6 t8 s_9 w) k2 (fun g w h => thenE_n (K := fun g w => den pg ann_ref07_Build (dropS 2 (bI (bI (dropS 1 (takeS 1 (dropS 1 (dropS 1 (dropS 5 code_ref07_Build)))))))) Q g w) (ref07_Build_p51_ok Q g w kn hn h)) h2 h)

def ref07_Build_p54 (k2 : K5) (c_1 t2 n_5 t6 t8 s_9 : Value) (w : World) : Prop :=
  LoopD (fun (X : (Value × Value) → K0) (t : Value × Value) (w : World) => ref07_Build_p53 (fun _ _ _ _ t8 s_9 w => X (t8, s_9) w) k2 c_1 t2 n_5 t6 t.1 t.2 w) (t8, s_9) w
theorem ref07_Build_p54_ok (k2 : K5) (h2 : ∀ g w, k2 (g 1) (g 2) (g 5) (g 6) (g 8) w → Q (.exit 2) g w) (h : ref07_Build_p54 k2 (g 1) (g 2) (g 5) (g 6) (g 8) (g 9) w) : den pg ann_ref07_Build (bI (dropS 1 (takeS 1 (dropS 1 (dropS 1 (dropS 5 code_ref07_Build)))))) Q g w := by
  refine den_loops (T := Value × Value) (fun g : Env => (g 8, g 9)) (fun X t w => ref07_Build_p53 (fun _ _ _ _ t8 s_9 w => X (t8, s_9) w) k2 (g 1) (g 2) (g 5) (g 6) t.1 t.2 w) _ (by kernel_rfl) h (fun X g1 w1 ha h1 => ?_)
  rw [← agree_at (s := 1) ha (by kernel_rfl)] at h1
  rw [← agree_at (s := 2) ha (by kernel_rfl)] at h1
  rw [← agree_at (s := 5) ha (by kernel_rfl)] at h1
  rw [← agree_at (s := 6) ha (by kernel_rfl)] at h1
  exact (ref07_Build_p53_ok (thenE (fun g2 w2 => X ((fun g : Env => (g 8, g 9)) g2) w2) Q) g1 w1 (fun _ _ _ _ t8 s_9 w => X (t8, s_9) w) k2 (fun _ _ h => h) h2 h1)

def ref07_Build_p55 (kn : K5) (c_1 t2 n_5 t6 t8 s_9 : Value) (w : World) : Prop :=
  ref07_Build_p54 kn c_1 t2 n_5 t6 t8 s_9 w
theorem ref07_Build_p55_ok (kn : K5) (hn : ∀ g w, kn (g 1) (g 2) (g 5) (g 6) (g 8) w → Q .normal g w) (h : ref07_Build_p55 kn (g 1) (g 2) (g 5) (g 6) (g 8) (g 9) w) : den pg ann_ref07_Build (dropS 1 (takeS 1 (dropS 1 (dropS 1 (dropS 5 code_ref07_Build))))) Q g w :=
  den_blk 2 _ g w (by kernel_rfl) (ref07_Build_p54_ok (blk 2 Q) g w kn hn h)

def ref07_Build_p56 (kn : K6) (c_1 t2 n_5 t6 t8 : Value) (w : World) : Prop :=
  kn c_1 t2 n_5 t6 t8 (.int .i64 0) w
theorem ref07_Build_p56_ok (kn : K6) (hn : ∀ g w, kn (g 1) (g 2) (g 5) (g 6) (g 8) (g 9) w → Q .normal g w) (h : ref07_Build_p56 kn (g 1) (g 2) (g 5) (g 6) (g 8) w) : den pg ann_ref07_Build (takeS 1 (takeS 1 (dropS 1 (dropS 1 (dropS 5 code_ref07_Build))))) Q g w :=
  den_exQ (kr := no) (l := []) (by kernel_rfl) h hn noE trivial

def ref07_Build_p57 (kn : K5) (c_1 t2 n_5 t6 t8 : Value) (w : World) : Prop :=
  ref07_Build_p56 (fun c_1 t2 n_5 t6 t8 s_9 w => ref07_Build_p55 kn c_1 t2 n_5 t6 t8 s_9 w) c_1 t2 n_5 t6 t8 w
theorem ref07_Build_p57_ok (kn : K5) (hn : ∀ g w, kn (g 1) (g 2) (g 5) (g 6) (g 8) w → Q .normal g w) (h : ref07_Build_p57 kn (g 1) (g 2) (g 5) (g 6) (g 8) w) : den pg ann_ref07_Build (takeS 1 (dropS 1 (dropS 1 (dropS 5 code_ref07_Build)))) Q g w :=
  den_seqs 1 _ g w (by kernel_rfl) (ref07_Build_p56_ok (thenE (fun g w => den pg ann_ref07_Build (dropS 1 (takeS 1 (dropS 1 (dropS 1 (dropS 5 code_ref07_Build))))) Q g w) Q) g w (fun c_1 t2 n_5 t6 t8 s_9 w => ref07_Build_p55 kn c_1 t2 n_5 t6 t8 s_9 w) (fun g w h => thenE_n (K := fun g w => den pg ann_ref07_Build (dropS 1 (takeS 1 (dropS 1 (dropS 1 (dropS 5 code_ref07_Build))))) Q g w) (ref07_Build_p55_ok Q g w kn hn h)) h)

def ref07_Build_p58 (R : K1) (c_1 t2 n_5 t6 t8 : Value) (w : World) : Prop :=
  ref07_Build_p57 (fun c_1 t2 n_5 t6 t8 w => ref07_Build_p50 R c_1 t2 n_5 t6 t8 w) c_1 t2 n_5 t6 t8 w
theorem ref07_Build_p58_ok (R : K1) (hr : HR rs_ref07_Build R Q) (h : ref07_Build_p58 R (g 1) (g 2) (g 5) (g 6) (g 8) w) : den pg ann_ref07_Build (dropS 1 (dropS 1 (dropS 5 code_ref07_Build))) Q g w :=
  den_seqs 1 _ g w (by kernel_rfl) (ref07_Build_p57_ok (thenE (fun g w => den pg ann_ref07_Build (dropS 1 (dropS 1 (dropS 1 (dropS 5 code_ref07_Build)))) Q g w) Q) g w (fun c_1 t2 n_5 t6 t8 w => ref07_Build_p50 R c_1 t2 n_5 t6 t8 w) (fun g w h => thenE_n (K := fun g w => den pg ann_ref07_Build (dropS 1 (dropS 1 (dropS 1 (dropS 5 code_ref07_Build)))) Q g w) (ref07_Build_p50_ok Q g w R hr h)) h)

def ref07_Build_p59 (kn : K5) (c_1 t2 n_5 t6 : Value) (w : World) : Prop :=
  Stp pg (sBin .sub 3 (.tmp 42) (.const (.int .i64 1)) n_5 (.int .i64 1)) w fun t43 w =>
  kn c_1 t2 n_5 t6 t43 w
theorem ref07_Build_p59_ok (kn : K5) (hn : ∀ g w, kn (g 1) (g 2) (g 5) (g 6) (g 8) w → Q .normal g w) (h : ref07_Build_p59 kn (g 1) (g 2) (g 5) (g 6) w) : den pg ann_ref07_Build (takeS 1 (dropS 1 (dropS 5 code_ref07_Build))) Q g w :=
  den_exQ (kr := no) (l := []) (by kernel_rfl) h hn noE trivial

def ref07_Build_p60 (R : K1) (c_1 t2 n_5 t6 : Value) (w : World) : Prop :=
  ref07_Build_p59 (fun c_1 t2 n_5 t6 t8 w => ref07_Build_p58 R c_1 t2 n_5 t6 t8 w) c_1 t2 n_5 t6 w
theorem ref07_Build_p60_ok (R : K1) (hr : HR rs_ref07_Build R Q) (h : ref07_Build_p60 R (g 1) (g 2) (g 5) (g 6) w) : den pg ann_ref07_Build (dropS 1 (dropS 5 code_ref07_Build)) Q g w :=
  den_seqs 1 _ g w (by kernel_rfl) (ref07_Build_p59_ok (thenE (fun g w => den pg ann_ref07_Build (dropS 1 (dropS 1 (dropS 5 code_ref07_Build))) Q g w) Q) g w (fun c_1 t2 n_5 t6 t8 w => ref07_Build_p58 R c_1 t2 n_5 t6 t8 w) (fun g w h => thenE_n (K := fun g w => den pg ann_ref07_Build (dropS 1 (dropS 1 (dropS 5 code_ref07_Build))) Q g w) (ref07_Build_p58_ok Q g w R hr h)) h)

def ref07_Build_p61 (kn : K5) (k0 : K4) (c_1 t2 n_5 t6 i_7 : Value) (w : World) : Prop :=
  Stp pg (sBin .lss 3 (.tmp 31) (.tmp 32) i_7 n_5) w fun t33 w =>
  Cnd t33
    (Stp pg (sFAddr 34 t6 1) w fun t36 w =>
    Stp pg (sLoad 32 t36) w fun t37 w =>
    Stp pg (sBuild 101 [(0, (.int .i64 (-1)))]) w fun t38 w =>
    Stp pg (sBuildSlice 32 1 [(0, t38)]) w fun t39 w =>
    Stp pg (sBi .append #[32, 32] 32 [t37, t39]) w fun t40 w =>
    Stp pg (sFAddr 34 t6 1) w fun t41 w =>
    Stp pg (sStore 32 t41 t40) w fun _u w =>
    Stp pg (sBin .add 3 (.tmp 34) (.const (.int .i64 1)) i_7 (.int .i64 1)) w fun t35 w =>
    kn c_1 t2 n_5 t6 t35 w)
    (k0 c_1 t2 n_5 t6 w)
theorem ref07_Build_p61_ok (kn : K5) (k0 : K4) (hn : ∀ g w, kn (g 1) (g 2) (g 5) (g 6) (g 7) w → Q .normal g w) (h0 : ∀ g w, k0 (g 1) (g 2) (g 5) (g 6) w → Q (.exit 0) g w) (h : ref07_Build_p61 kn k0 (g 1) (g 2) (g 5) (g 6) (g 7) w) : den pg ann_ref07_Build (bI (bI (dropS 1 (takeS 1 (dropS 5 code_ref07_Build))))) Q g w :=
  den_exQ (kr := no) (l := [(0, fun g w => k0 (g 1) (g 2) (g 5) (g 6) w)]) (by kernel_rfl) h hn noE ⟨h0, trivial⟩

def ref07_Build_p62 (k0 : K4) (c_1 t2 n_5 t6 i_7 : Value) (w : World) : Prop :=
  LoopD (fun (X : Value → K0) (t : Value) (w : World) => ref07_Build_p61 (fun _ _ _ _ i_7 w => X i_7 w) k0 c_1 t2 n_5 t6 t w) i_7 w
theorem ref07_Build_p62_ok (k0 : K4) (h0 : ∀ g w, k0 (g 1) (g 2) (g 5) (g 6) w → Q (.exit 0) g w) (h : ref07_Build_p62 k0 (g 1) (g 2) (g 5) (g 6) (g 7) w) : den pg ann_ref07_Build (bI (dropS 1 (takeS 1 (dropS 5 code_ref07_Build)))) Q g w := by
  refine den_loops (T := Value) (fun g : Env => g 7) (fun X t w => ref07_Build_p61 (fun _ _ _ _ i_7 w => X i_7 w) k0 (g 1) (g 2) (g 5) (g 6) t w) _ (by kernel_rfl) h (fun X g1 w1 ha h1 => ?_)
  rw [← agree_at (s := 1) ha (by kernel_rfl)] at h1
  rw [← agree_at (s := 2) ha (by kernel_rfl)] at h1
  rw [← agree_at (s := 5) ha (by kernel_rfl)] at h1
  rw [← agree_at (s := 6) ha (by kernel_rfl)] at h1
  exact (ref07_Build_p61_ok (thenE (fun g2 w2 => X ((fun g : Env => g 7) g2) w2) Q) g1 w1 (fun _ _ _ _ i_7 w => X i_7 w) k0 (fun _ _ h => h) h0 h1)

def ref07_Build_p63 (kn : K4) (c_1 t2 n_5 t6 i_7 : Value) (w : World) : Prop :=
  ref07_Build_p62 kn c_1 t2 n_5 t6 i_7 w
theorem ref07_Build_p63_ok (kn : K4) (hn : ∀ g w, kn (g 1) (g 2) (g 5) (g 6) w → Q .normal g w) (h : ref07_Build_p63 kn (g 1) (g 2) (g 5) (g 6) (g 7) w) : den pg ann_ref07_Build (dropS 1 (takeS 1 (dropS 5 code_ref07_Build))) Q g w :=
  den_blk 0 _ g w (by kernel_rfl) (ref07_Build_p62_ok (blk 0 Q) g w kn hn h)

def ref07_Build_p64 (kn : K5) (c_1 t2 n_5 t6 : Value) (w : World) : Prop :=
  kn c_1 t2 n_5 t6 (.int .i64 0) w
theorem ref07_Build_p64_ok (kn : K5) (hn : ∀ g w, kn (g 1) (g 2) (g 5) (g 6) (g 7) w → Q .normal g w) (h : ref07_Build_p64 kn (g 1) (g 2) (g 5) (g 6) w) : den pg ann_ref07_Build (takeS 1 (takeS 1 (dropS 5 code_ref07_Build))) Q g w :=
  den_exQ (kr := no) (l := []) (by kernel_rfl) h hn noE trivial

def ref07_Build_p65 (kn : K4) (c_1 t2 n_5 t6 : Value) (w : World) : Prop :=
  ref07_Build_p64 (fun c_1 t2 n_5 t6 i_7 w => ref07_Build_p63 kn c_1 t2 n_5 t6 i_7 w) c_1 t2 n_5 t6 w
theorem ref07_Build_p65_ok (kn : K4) (hn : ∀ g w, kn (g 1) (g 2) (g 5) (g 6) w → Q .normal g w) (h : ref07_Build_p65 kn (g 1) (g 2) (g 5) (g 6) w) : den pg ann_ref07_Build (takeS 1 (dropS 5 code_ref07_Build)) Q g w :=
  den_seqs 1 _ g w (by kernel_rfl) (ref07_Build_p64_ok (thenE (fun g w => den pg ann_ref07_Build (dropS 1 (takeS 1 (dropS 5 code_ref07_Build))) Q g w) Q) g w (fun c_1 t2 n_5 t6 i_7 w => ref07_Build_p63 kn c_1 t2 n_5 t6 i_7 w) (fun g w h => thenE_n (K := fun g w => den pg ann_ref07_Build (dropS 1 (takeS 1 (dropS 5 code_ref07_Build))) Q g w) (ref07_Build_p63_ok Q g w kn hn h)) h)

def ref07_Build_p66 (R : K1) (c_1 t2 n_5 t6 : Value) (w : World) : Prop :=
  ref07_Build_p65 (fun c_1 t2 n_5 t6 w => ref07_Build_p60 R c_1 t2 n_5 t6 w) c_1 t2 n_5 t6 w
theorem ref07_Build_p66_ok (R : K1) (hr : HR rs_ref07_Build R Q) (h : ref07_Build_p66 R (g 1) (g 2) (g 5) (g 6) w) : den pg ann_ref07_Build (dropS 5 code_ref07_Build) Q g w :=
  den_seqs 1 _ g w (by kernel_rfl) (ref07_Build_p65_ok (thenE (fun g w => den pg ann_ref07_Build (dropS 1 (dropS 5 code_ref07_Build)) Q g w) Q) g w (fun c_1 t2 n_5 t6 w => ref07_Build_p60 R c_1 t2 n_5 t6 w) (fun g w h => thenE_n (K := fun g w => den pg ann_ref07_Build (dropS 1 (dropS 5 code_ref07_Build)) Q g w) (ref07_Build_p60_ok Q g w R hr h)) h)

def ref07_Build_p67 (kn : K4) (R : K1) (c_0 : Value) (w : World) : Prop :=
  Stp pg (sBox 37 c_0) w fun c_1 w =>
  Stp pg (sAlloc 34) w fun t2 w =>
  Stp pg (sLoad 37 c_1) w fun t20 w =>
  Does pg F_ref06_Check #[t20, (.int .i64 15)] w fun t21 w =>
  Stp pg (sBin .neq 29 (.tmp 22) (.const (.int .i64 0)) t21 (.int .i64 0)) w fun t23 w =>
  Cnd t23
    (Stp pg (sBuild 34 []) w fun t24 w =>
    Stp pg (sStore 34 t2 t24) w fun _u w =>
    LdR pg 34 t2 w fun r0 => R (.tuple #[r0, (.int .i64 1)]) w)
    (Stp pg (sFAddr 37 c_1 0) w fun t25 w =>
    Stp pg (sLoad 3 t25) w fun t26 w =>
    Does pg F_ref06_Power #[t26] w fun t27 w =>
    Stp pg (sFAddr 37 c_1 0) w fun t28 w =>
    Stp pg (sLoad 3 t28) w fun t29 w =>
    Stp pg (sBuild 34 [(0, t29)]) w fun t30 w =>
    Stp pg (sAlloc 34) w fun t6 w =>
    Stp pg (sStore 34 t6 t30) w fun _u w =>
    kn c_1 t2 t27 t6 w)
theorem ref07_Build_p67_ok (kn : K4) (R : K1) (hn : ∀ g w, kn (g 1) (g 2) (g 5) (g 6) w → Q .normal g w) (hr : HR rs_ref07_Build R Q) (h : ref07_Build_p67 kn R (g 0) w) : den pg ann_ref07_Build (takeS 5 code_ref07_Build) Q g w :=
  den_exQ (l := []) (by kernel_rfl) h hn hr trivial

def ref07_Build_p68 (R : K1) (c_0 : Value) (w : World) : Prop :=
  ref07_Build_p67 (fun c_1 t2 n_5 t6 w => ref07_Build_p66 R c_1 t2 n_5 t6 w) R c_0 w
theorem ref07_Build_p68_ok (R : K1) (hr : HR rs_ref07_Build R Q) (h : ref07_Build_p68 R (g 0) w) : den pg ann_ref07_Build code_ref07_Build Q g w :=
  den_seqs 5 _ g w (by kernel_rfl) (ref07_Build_p67_ok (thenE (fun g w => den pg ann_ref07_Build (dropS 5 code_ref07_Build) Q g w) Q) g w (fun c_1 t2 n_5 t6 w => ref07_Build_p66 R c_1 t2 n_5 t6 w) R (fun g w h => thenE_n (K := fun g w => den pg ann_ref07_Build (dropS 5 code_ref07_Build) Q g w) (ref07_Build_p66_ok Q g w R hr h)) hr h)

def ref07_Build (a0 : Value) (w : World) (R : K1) : Prop :=
  ref07_Build_p68 R a0 w
theorem ref07_Build_does {a0 : Value} {w : World} {R : K1} (h : ref07_Build a0 w R) : Does pg F_ref07_Build #[a0] w R := by
  refine does_of_den (ann := ann_ref07_Build) (fn := Try.f15) (c := code_ref07_Build) (args := [a0]) (rs := rs_ref07_Build) (N := 185) TryM.mixed (by kernel_rfl) Try.func15 (by kernel_rfl) (by kernel_rfl) (by kernel_rfl) (of_decide_eq_true (by kernel_rfl)) (by kernel_rfl) ?_
  exact (ref07_Build_p68_ok (retQ pg rs_ref07_Build R) (envOf [a0]) w R (fun _ _ h => h) h)
-- PIECES ref07_Build/0 ref07_Build_p1 ref07_Build_p18 ref07_Build_p19 ref07_Build_p20 ref07_Build_p21 ref07_Build_p22 ref07_Build_p23 ref07_Build_p24 ref07_Build_p44 ref07_Build_p45 ref07_Build_p46 ref07_Build_p47 ref07_Build_p48 ref07_Build_p49 ref07_Build_p50 ref07_Build_p54 ref07_Build_p55 ref07_Build_p56 ref07_Build_p57 ref07_Build_p58 ref07_Build_p59 ref07_Build_p60 ref07_Build_p62 ref07_Build_p63 ref07_Build_p64 ref07_Build_p65 ref07_Build_p66 ref07_Build_p67 ref07_Build_p68
-- PIECES ref07_Build/1 ref07_Build_p2 ref07_Build_p3 ref07_Build_p5 ref07_Build_p6 ref07_Build_p7 ref07_Build_p8 ref07_Build_p9 ref07_Build_p10 ref07_Build_p11 ref07_Build_p12 ref07_Build_p13 ref07_Build_p14 ref07_Build_p15 ref07_Build_p16 ref07_Build_p17
-- PIECES ref07_Build/2 ref07_Build_p4
-- PIECES ref07_Build/3 ref07_Build_p25 ref07_Build_p36 ref07_Build_p37 ref07_Build_p38 ref07_Build_p39 ref07_Build_p40 ref07_Build_p41 ref07_Build_p42 ref07_Build_p43
-- PIECES ref07_Build/4 ref07_Build_p26 ref07_Build_p28 ref07_Build_p29 ref07_Build_p30 ref07_Build_p31 ref07_Build_p32 ref07_Build_p33 ref07_Build_p34 ref07_Build_p35
-- PIECES ref07_Build/5 ref07_Build_p27
-- PIECES ref07_Build/6 ref07_Build_p51 ref07_Build_p52 ref07_Build_p53
-- PIECES ref07_Build/7 ref07_Build_p61

/- lighterman/lightermanlaw07.modelOf -/
def ann_law07_modelOf : FA := ⟨F_law07_modelOf, fun i => .leaf ([], []) []⟩
def rs_law07_modelOf : List ResultVar := [.cell 2 37]
noncomputable def code_law07_modelOf : Code := bodyOf Try.f16
def law07_modelOf_p1 (R : K1) (c_0 : Value) (w : World) : Prop :=
  Stp pg (sBox 24 c_0) w fun c_1 w =>
  Stp pg (sAlloc 37) w fun t2 w =>
  Stp pg (sFAddr 24 c_1 0) w fun t3 w =>
  Stp pg (sLoad 3 t3) w fun t4 w =>
  Stp pg (sFAddr 24 c_1 1) w fun t5 w =>
  Stp pg (sLoad 22 t5) w fun t6 w =>
  Stp pg (sBuild 37 [(0, t4), (1, t6)]) w fun t7 w =>
  Stp pg (sStore 37 t2 t7) w fun _u w =>
  LdR pg 37 t2 w fun r0 => R r0 w
theorem law07_modelOf_p1_ok (R : K1) (hr : HR rs_law07_modelOf R Q) (h : law07_modelOf_p1 R (g 0) w) : den pg ann_law07_modelOf code_law07_modelOf Q g w :=
  den_exQ (kn := no) (l := []) (by kernel_rfl) h noE hr trivial

def law07_modelOf (a0 : Value) (w : World) (R : K1) : Prop :=
  law07_modelOf_p1 R a0 w
theorem law07_modelOf_does {a0 : Value} {w : World} {R : K1} (h : law07_modelOf a0 w R) : Does pg F_law07_modelOf #[a0] w R := by
  refine does_of_den (ann := ann_law07_modelOf) (fn := Try.f16) (c := code_law07_modelOf) (args := [a0]) (rs := rs_law07_modelOf) (N := 8) TryM.mixed (by kernel_rfl) Try.func16 (by kernel_rfl) (by kernel_rfl) (by kernel_rfl) (of_decide_eq_true (by kernel_rfl)) (by kernel_rfl) ?_
  exact (law07_modelOf_p1_ok (retQ pg rs_law07_modelOf R) (envOf [a0]) w R (fun _ _ h => h) h)
-- PIECES law07_modelOf/0 law07_modelOf_p1

/- lighterman/lightermanlaw07.sameTable -/
def ann_law07_sameTable : FA := ⟨F_law07_sameTable, fun i => match Nat.beq i 7 with | true => .leaf ([], []) [(false, []), (false, []), (false, []), (false, []), (false, []), (false, []), (false, []), (false, []), (false, []), (false, []), (false, []), (false, []), (false, []), (false, []), (false, []), (false, []), (false, []), (false, []), (false, []), (false, []), (false, []), (false, []), (false, []), (false, []), (false, []), (false, []), (false, []), (false, []), (false, []), (false, []), (false, []), (false, [])] | false => .leaf ([], []) []⟩
def rs_law07_sameTable : List ResultVar := [.tmp 4]
noncomputable def code_law07_sameTable : Code := bodyOf Try.f17
def law07_sameTable_p1 (R : K1)  (w : World) : Prop :=
  R (.bool true) w
theorem law07_sameTable_p1_ok (R : K1) (hr : HR rs_law07_sameTable R Q) (h : law07_sameTable_p1 R w) : den pg ann_law07_sameTable (dropS 1 (dropS 2 code_law07_sameTable)) Q g w :=
  den_exQ (kn := no) (l := []) (by kernel_rfl) h noE hr trivial

def law07_sameTable_p2 (kn : K3) (k0 : K0) (R : K1) (t2 w_3 i_5 : Value) (w : World) : Prop :=
  Stp pg (sFAddr 34 w_3 1) w fun t22 w =>
  Stp pg (sLoad 32 t22) w fun t23 w =>
  Stp pg (sBi .len #[32] 3 [t23]) w fun t24 w =>
  Stp pg (sBin .lss 3 (.tmp 21) (.tmp 24) i_5 t24) w fun t25 w =>
  Cnd t25
    (Stp pg (sFAddr 28 t2 1) w fun t28 w =>
    Stp pg (sLoad 26 t28) w fun t29 w =>
    Stp pg (sIAddr 26 t29 i_5) w fun t31 w =>
    Stp pg (sLoad 43 t31) w fun t32 w =>
    Stp pg (sAlloc 43) w fun x_6 w =>
    Stp pg (sStore 43 x_6 t32) w fun _u w =>
    Stp pg (sFAddr 43 x_6 0) (dr w) fun t33 w_ => w_ = (dr w) ∧
    Stp pg (sLoad 5 t33) (dr w) fun t34 w_ => w_ = (dr w) ∧
    Stp pg (sCvt 5 3 t34) (dr w) fun t35 w_ => w_ = (dr w) ∧
    Stp pg (sFAddr 34 w_3 1) (dr w) fun t36 w_ => w_ = (dr w) ∧
    Stp pg (sLoad 32 t36) (dr w) fun t37 w_ => w_ = (dr w) ∧
    (dr w) = (dr w) ∧
    Stp pg (sIAddr 32 t37 i_5) (dr w) fun t39 w_ => w_ = (dr w) ∧
    Stp pg (sFAddr 101 t39 0) (dr w) fun t40 w_ => w_ = (dr w) ∧
    Stp pg (sLoad 3 t40) (dr w) fun t41 w_ => w_ = (dr w) ∧
    Stp pg (sBin .neq 3 (.tmp 35) (.tmp 41) t35 t41) (dr w) fun t42 w_ => w_ = (dr w) ∧
    (dr w) = (dr w) ∧
    Gd (isB t42 false) (fun K => Stp pg (sFAddr 43 x_6 1) (dr w) K) (dr w) fun t44 w_ => w_ = (dr w) ∧
    Gd (isB t42 false) (fun K => Stp pg (sLoad 3 t44) (dr w) K) (dr w) fun t45 w_ => w_ = (dr w) ∧
    Gd (isB t42 false) (fun K => Stp pg (sFAddr 34 w_3 1) (dr w) K) (dr w) fun t46 w_ => w_ = (dr w) ∧
    Gd (isB t42 false) (fun K => Stp pg (sLoad 32 t46) (dr w) K) (dr w) fun t47 w_ => w_ = (dr w) ∧
    Gd (isB t42 false) (fun K => K i_5 (dr w)) (dr w) fun t48 w_ => w_ = (dr w) ∧
    Gd (isB t42 false) (fun K => Stp pg (sIAddr 32 t47 t48) (dr w) K) (dr w) fun t49 w_ => w_ = (dr w) ∧
    Gd (isB t42 false) (fun K => Stp pg (sFAddr 101 t49 1) (dr w) K) (dr w) fun t50 w_ => w_ = (dr w) ∧
    Gd (isB t42 false) (fun K => Stp pg (sLoad 3 t50) (dr w) K) (dr w) fun t51 w_ => w_ = (dr w) ∧
    Gd (isB t42 false) (fun K => Stp pg (sBin .neq 3 (.tmp 45) (.tmp 51) t45 t51) (dr w) K) (dr w) fun t52 w_ => w_ = (dr w) ∧
    Stp pg (sPick t42 (.bool true) t52) (dr w) fun t53 w_ => w_ = (dr w) ∧
    (dr w) = (dr w) ∧
    Gd (isB t53 false) (fun K => Stp pg (sFAddr 43 x_6 2) (dr w) K) (dr w) fun t55 w_ => w_ = (dr w) ∧
    Gd (isB t53 false) (fun K => Stp pg (sLoad 3 t55) (dr w) K) (dr w) fun t56 w_ => w_ = (dr w) ∧
    Gd (isB t53 false) (fun K => Stp pg (sFAddr 34 w_3 1) (dr w) K) (dr w) fun t57 w_ => w_ = (dr w) ∧
    Gd (isB t53 false) (fun K => Stp pg (sLoad 32 t57) (dr w) K) (dr w) fun t58 w_ => w_ = (dr w) ∧
    Gd (isB t53 false) (fun K => K i_5 (dr w)) (dr w) fun t59 w_ => w_ = (dr w) ∧
    Gd (isB t53 false) (fun K => Stp pg (sIAddr 32 t58 t59) (dr w) K) (dr w) fun t60 w_ => w_ = (dr w) ∧
    Gd (isB t53 false) (fun K => Stp pg (sFAddr 101 t60 2) (dr w) K) (dr w) fun t61 w_ => w_ = (dr w) ∧
    Gd (isB t53 false) (fun K => Stp pg (sLoad 3 t61) (dr w) K) (dr w) fun t62 w_ => w_ = (dr w) ∧
    Gd (isB t53 false) (fun K => Stp pg (sBin .neq 3 (.tmp 56) (.tmp 62) t56 t62) (dr w) K) (dr w) fun t63 w_ => w_ = (dr w) ∧
    Stp pg (sPick t53 (.bool true) t63) (dr w) fun t64 w_ => w_ = (dr w) ∧
    Cnd t64
      (R (.bool false) (dr w))
      (Stp pg (sBin .add 3 (.tmp 26) (.const (.int .i64 1)) i_5 (.int .i64 1)) (dr w) fun t27 w =>
      kn t2 w_3 t27 w))
    (k0 w)
theorem law07_sameTable_p2_ok (kn : K3) (k0 : K0) (R : K1) (hn : ∀ g w, kn (g 2) (g 3) (g 5) w → Q .normal g w) (h0 : ∀ g w, k0 w → Q (.exit 0) g w) (hr : HR rs_law07_sameTable R Q) (h : law07_sameTable_p2 kn k0 R (g 2) (g 3) (g 5) w) : den pg ann_law07_sameTable (bI (bI (dropS 1 (takeS 1 (dropS 2 code_law07_sameTable))))) Q g w :=
  den_exQ (l := [(0, fun g w => k0 w)]) (by kernel_rfl) h hn hr ⟨h0, trivial⟩

def law07_sameTable_p3 (k0 : K0) (R : K1) (t2 w_3 i_5 : Value) (w : World) : Prop :=
  LoopD (fun (X : Value → K0) (t : Value) (w : World) => law07_sameTable_p2 (fun _ _ i_5 w => X i_5 w) k0 R t2 w_3 t w) i_5 w
theorem law07_sameTable_p3_ok (k0 : K0) (R : K1) (h0 : ∀ g w, k0 w → Q (.exit 0) g w) (hr : HR rs_law07_sameTable R Q) (h : law07_sameTable_p3 k0 R (g 2) (g 3) (g 5) w) : den pg ann_law07_sameTable (bI (dropS 1 (takeS 1 (dropS 2 code_law07_sameTable)))) Q g w := by
  refine den_loops (T := Value) (fun g : Env => g 5) (fun X t w => law07_sameTable_p2 (fun _ _ i_5 w => X i_5 w) k0 R (g 2) (g 3) t w) _ (by kernel_rfl) h (fun X g1 w1 ha h1 => ?_)
  rw [← agree_at (s := 2) ha (by kernel_rfl)] at h1
  rw [← agree_at (s := 3) ha (by kernel_rfl)] at h1
  exact (law07_sameTable_p2_ok (thenE (fun g2 w2 => X ((fun g : Env => g 5) g2) w2) Q) g1 w1 (fun _ _ i_5 w => X i_5 w) k0 R (fun _ _ h => h) h0 hr h1)

def law07_sameTable_p4 (kn : K0) (R : K1) (t2 w_3 i_5 : Value) (w : World) : Prop :=
  law07_sameTable_p3 kn R t2 w_3 i_5 w
theorem law07_sameTable_p4_ok (kn : K0) (R : K1) (hn : ∀ g w, kn w → Q .normal g w) (hr : HR rs_law07_sameTable R Q) (h : law07_sameTable_p4 kn R (g 2) (g 3) (g 5) w) : den pg ann_law07_sameTable (dropS 1 (takeS 1 (dropS 2 code_law07_sameTable))) Q g w :=
  den_blk 0 _ g w (by kernel_rfl) (law07_sameTable_p3_ok (blk 0 Q) g w kn R hn hr h)

def law07_sameTable_p5 (kn : K3) (t2 w_3 : Value) (w : World) : Prop :=
  kn t2 w_3 (.int .i64 0) w
theorem law07_sameTable_p5_ok (kn : K3) (hn : ∀ g w, kn (g 2) (g 3) (g 5) w → Q .normal g w) (h : law07_sameTable_p5 kn (g 2) (g 3) w) : den pg ann_law07_sameTable (takeS 1 (takeS 1 (dropS 2 code_law07_sameTable))) Q g w :=
  den_exQ (kr := no) (l := []) (by kernel_rfl) h hn noE trivial

def law07_sameTable_p6 (kn : K0) (R : K1) (t2 w_3 : Value) (w : World) : Prop :=
  law07_sameTable_p5 (fun t2 w_3 i_5 w => law07_sameTable_p4 kn R t2 w_3 i_5 w) t2 w_3 w
theorem law07_sameTable_p6_ok (kn : K0) (R : K1) (hn : ∀ g w, kn w → Q .normal g w) (hr : HR rs_law07_sameTable R Q) (h : law07_sameTable_p6 kn R (g 2) (g 3) w) : den pg ann_law07_sameTable (takeS 1 (dropS 2 code_law07_sameTable)) Q g w :=
  den_seqs 1 _ g w (by kernel_rfl) (law07_sameTable_p5_ok (thenE (fun g w => den pg ann_law07_sameTable (dropS 1 (takeS 1 (dropS 2 code_law07_sameTable))) Q g w) Q) g w (fun t2 w_3 i_5 w => law07_sameTable_p4 kn R t2 w_3 i_5 w) (fun g w h => thenE_n (K := fun g w => den pg ann_law07_sameTable (dropS 1 (takeS 1 (dropS 2 code_law07_sameTable))) Q g w) (law07_sameTable_p4_ok Q g w kn R hn hr h)) h)

def law07_sameTable_p7 (R : K1) (t2 w_3 : Value) (w : World) : Prop :=
  law07_sameTable_p6 (fun  w => law07_sameTable_p1 R w) R t2 w_3 w
theorem law07_sameTable_p7_ok (R : K1) (hr : HR rs_law07_sameTable R Q) (h : law07_sameTable_p7 R (g 2) (g 3) w) : den pg ann_law07_sameTable (dropS 2 code_law07_sameTable) Q g w :=
  den_seqs 1 _ g w (by kernel_rfl) (law07_sameTable_p6_ok (thenE (fun g w => den pg ann_law07_sameTable (dropS 1 (dropS 2 code_law07_sameTable)) Q g w) Q) g w (fun  w => law07_sameTable_p1 R w) R (fun g w h => thenE_n (K := fun g w => den pg ann_law07_sameTable (dropS 1 (dropS 2 code_law07_sameTable)) Q g w) (law07_sameTable_p1_ok Q g w R hr h)) hr h)

def law07_sameTable_p8 (kn : K2) (R : K1) (t0 w_1 : Value) (w : World) : Prop :=
  Stp pg (sBox 28 t0) w fun t2 w =>
  Stp pg (sBox 34 w_1) w fun w_3 w =>
  Stp pg (sFAddr 28 t2 0) w fun t7 w =>
  Stp pg (sLoad 3 t7) w fun t8 w =>
  Stp pg (sFAddr 34 w_3 0) w fun t9 w =>
  Stp pg (sLoad 3 t9) w fun t10 w =>
  Stp pg (sBin .neq 3 (.tmp 8) (.tmp 10) t8 t10) w fun t11 w =>
  Gd (isB t11 false) (fun K => Stp pg (sFAddr 28 t2 1) w K) w fun t13 w =>
  Gd (isB t11 false) (fun K => Stp pg (sLoad 26 t13) w K) w fun t14 w =>
  Gd (isB t11 false) (fun K => Stp pg (sBi .len #[26] 3 [t14]) w K) w fun t15 w =>
  Gd (isB t11 false) (fun K => Stp pg (sFAddr 34 w_3 1) w K) w fun t16 w =>
  Gd (isB t11 false) (fun K => Stp pg (sLoad 32 t16) w K) w fun t17 w =>
  Gd (isB t11 false) (fun K => Stp pg (sBi .len #[32] 3 [t17]) w K) w fun t18 w =>
  Gd (isB t11 false) (fun K => Stp pg (sBin .neq 3 (.tmp 15) (.tmp 18) t15 t18) w K) w fun t19 w =>
  Stp pg (sPick t11 (.bool true) t19) w fun t20 w =>
  Cnd t20
    (R (.bool false) w)
    (kn t2 w_3 w)
theorem law07_sameTable_p8_ok (kn : K2) (R : K1) (hn : ∀ g w, kn (g 2) (g 3) w → Q .normal g w) (hr : HR rs_law07_sameTable R Q) (h : law07_sameTable_p8 kn R (g 0) (g 1) w) : den pg ann_law07_sameTable (takeS 2 code_law07_sameTable) Q g w :=
  den_exQ (l := []) (by kernel_rfl) h hn hr trivial

def law07_sameTable_p9 (R : K1) (t0 w_1 : Value) (w : World) : Prop :=
  law07_sameTable_p8 (fun t2 w_3 w => law07_sameTable_p7 R t2 w_3 w) R t0 w_1 w
theorem law07_sameTable_p9_ok (R : K1) (hr : HR rs_law07_sameTable R Q) (h : law07_sameTable_p9 R (g 0) (g 1) w) : den pg ann_law07_sameTable code_law07_sameTable Q g w :=
  den_seqs 2 _ g w (by kernel_rfl) (law07_sameTable_p8_ok (thenE (fun g w => den pg ann_law07_sameTable (dropS 2 code_law07_sameTable) Q g w) Q) g w (fun t2 w_3 w => law07_sameTable_p7 R t2 w_3 w) R (fun g w h => thenE_n (K := fun g w => den pg ann_law07_sameTable (dropS 2 code_law07_sameTable) Q g w) (law07_sameTable_p7_ok Q g w R hr h)) hr h)

def law07_sameTable (a0 a1 : Value) (w : World) (R : K1) : Prop :=
  law07_sameTable_p9 R a0 a1 w
theorem law07_sameTable_does {a0 a1 : Value} {w : World} {R : K1} (h : law07_sameTable a0 a1 w R) : Does pg F_law07_sameTable #[a0, a1] w R := by
  refine does_of_den (ann := ann_law07_sameTable) (fn := Try.f17) (c := code_law07_sameTable) (args := [a0, a1]) (rs := rs_law07_sameTable) (N := 65) TryM.mixed (by kernel_rfl) Try.func17 (by kernel_rfl) (by kernel_rfl) (by kernel_rfl) (of_decide_eq_true (by kernel_rfl)) (by kernel_rfl) ?_
  exact (law07_sameTable_p9_ok (retQ pg rs_law07_sameTable R) (envOf [a0, a1]) w R (fun _ _ h => h) h)
-- PIECES law07_sameTable/0 law07_sameTable_p1 law07_sameTable_p3 law07_sameTable_p4 law07_sameTable_p5 law07_sameTable_p6 law07_sameTable_p7 law07_sameTable_p8 law07_sameTable_p9
-- PIECES law07_sameTable/1 law07_sameTable_p2

/- lighterman/fse.Before -/
def ann_fse_Before : FA := ⟨F_fse_Before, fun i => match Nat.beq i 8 with | true => .leaf ([], []) [(false, []), (false, []), (false, []), (false, []), (false, []), (false, []), (false, []), (false, []), (false, [])] | false => .leaf ([], []) []⟩
def rs_fse_Before : List ResultVar := [.tmp 6, .tmp 7, .tmp 8, .tmp 9]
noncomputable def code_fse_Before : Code := bodyOf Try.f18
def fse_Before_p1 (R : K1)  (w : World) : Prop :=
  R (.tuple #[(.int .i64 0), (.int .u64 0), (.int .i64 0), (.int .i64 21)]) w
theorem fse_Before_p1_ok (R : K1) (hr : HR rs_fse_Before R Q) (h : fse_Before_p1 R w) : den pg ann_fse_Before (dropS 1 (dropS 2 code_fse_Before)) Q g w :=
  den_exQ (kn := no) (l := []) (by kernel_rfl) h noE hr trivial

def fse_Before_p2 (kn : K5) (k0 : K0) (R : K1) (state_1 symbol_2 t23 t24 t25 : Value) (w : World) : Prop :=
  Stp pg (sBin .lss 3 (.tmp 25) (.tmp 24) t25 t24) w fun t26 w =>
  Cnd t26
    (Stp pg (sIAddr 26 t23 t25) w fun t28 w =>
    Stp pg (sLoad 43 t28) w fun t29 w =>
    Stp pg (sAlloc 43) w fun x_11 w =>
    Stp pg (sStore 43 x_11 t29) w fun _u w =>
    Stp pg (sFAddr 43 x_11 2) w fun t31 w =>
    Stp pg (sLoad 3 t31) w fun t32 w =>
    Stp pg (sBin .sub 3 (.tmp 30) (.tmp 32) state_1 t32) w fun t33 w =>
    Stp pg (sFAddr 43 x_11 0) w fun t34 w =>
    Stp pg (sLoad 5 t34) w fun t35 w =>
    Stp pg (sBin .eql 5 (.tmp 35) (.tmp 36) t35 symbol_2) w fun t37 w =>
    Gd (isB t37 true) (fun K => K t33 w) w fun t39 w =>
    Gd (isB t37 true) (fun K => Stp pg (sBin .geq 3 (.tmp 39) (.const (.int .i64 0)) t39 (.int .i64 0)) w K) w fun t40 w =>
    Stp pg (sPick t37 t40 (.bool false)) w fun t41 w =>
    Gd (isB t41 true) (fun K => K t33 w) w fun t43 w =>
    Gd (isB t41 true) (fun K => Stp pg (sFAddr 43 x_11 1) w K) w fun t44 w =>
    Gd (isB t41 true) (fun K => Stp pg (sLoad 3 t44) w K) w fun t45 w =>
    Gd (isB t41 true) (fun K => Stp pg (sBin .shl 3 (.const (.int .i64 1)) (.tmp 45) (.int .i64 1) t45) w K) w fun t46 w =>
    Gd (isB t41 true) (fun K => Stp pg (sBin .lss 3 (.tmp 43) (.tmp 46) t43 t46) w K) w fun t47 w =>
    Stp pg (sPick t41 t47 (.bool false)) w fun t48 w =>
    Cnd t48
      ((dr w) = (dr w) ∧
      (dr w) = (dr w) ∧
      Stp pg (sCvt 3 45 t33) (dr w) fun t51 w_ => w_ = (dr w) ∧
      Stp pg (sFAddr 43 x_11 1) (dr w) fun t52 w_ => w_ = (dr w) ∧
      Stp pg (sLoad 3 t52) (dr w) fun t53 w_ => w_ = (dr w) ∧
      (dr w) = (dr w) ∧
      (dr w) = (dr w) ∧
      (dr w) = (dr w) ∧
      (dr w) = (dr w) ∧
      R (.tuple #[t25, t51, t53, (.int .i64 0)]) (dr w))
      (Stp pg (sBin .add 3 (.tmp 25) (.const (.int .i64 1)) t25 (.int .i64 1)) w fun t54 w =>
      kn state_1 symbol_2 t23 t24 t54 w))
    (k0 w)
theorem fse_Before_p2_ok (kn : K5) (k0 : K0) (R : K1) (hn : ∀ g w, kn (g 1) (g 2) (g 23) (g 24) (g 25) w → Q .normal g w) (h0 : ∀ g w, k0 w → Q (.exit 0) g w) (hr : HR rs_fse_Before R Q) (h : fse_Before_p2 kn k0 R (g 1) (g 2) (g 23) (g 24) (g 25) w) : den pg ann_fse_Before (bI (bI (dropS 1 (takeS 1 (dropS 2 code_fse_Before))))) Q g w :=
  den_exQ (l := [(0, fun g w => k0 w)]) (by kernel_rfl) h hn hr ⟨h0, trivial⟩

def fse_Before_p3 (k0 : K0) (R : K1) (state_1 symbol_2 t23 t24 t25 : Value) (w : World) : Prop :=
  LoopD (fun (X : Value → K0) (t : Value) (w : World) => fse_Before_p2 (fun _ _ _ _ t25 w => X t25 w) k0 R state_1 symbol_2 t23 t24 t w) t25 w
theorem fse_Before_p3_ok (k0 : K0) (R : K1) (h0 : ∀ g w, k0 w → Q (.exit 0) g w) (hr : HR rs_fse_Before R Q) (h : fse_Before_p3 k0 R (g 1) (g 2) (g 23) (g 24) (g 25) w) : den pg ann_fse_Before (bI (dropS 1 (takeS 1 (dropS 2 code_fse_Before)))) Q g w := by
  refine den_loops (T := Value) (fun g : Env => g 25) (fun X t w => fse_Before_p2 (fun _ _ _ _ t25 w => X t25 w) k0 R (g 1) (g 2) (g 23) (g 24) t w) _ (by kernel_rfl) h (fun X g1 w1 ha h1 => ?_)
  rw [← agree_at (s := 1) ha (by kernel_rfl)] at h1
  rw [← agree_at (s := 2) ha (by kernel_rfl)] at h1
  rw [← agree_at (s := 23) ha (by kernel_rfl)] at h1
  rw [← agree_at (s := 24) ha (by kernel_rfl)] at h1
  exact (fse_Before_p2_ok (thenE (fun g2 w2 => X ((fun g : Env => g 25) g2) w2) Q) g1 w1 (fun _ _ _ _ t25 w => X t25 w) k0 R (fun _ _ h => h) h0 hr h1)

def fse_Before_p4 (kn : K0) (R : K1) (state_1 symbol_2 t23 t24 t25 : Value) (w : World) : Prop :=
  fse_Before_p3 kn R state_1 symbol_2 t23 t24 t25 w
theorem fse_Before_p4_ok (kn : K0) (R : K1) (hn : ∀ g w, kn w → Q .normal g w) (hr : HR rs_fse_Before R Q) (h : fse_Before_p4 kn R (g 1) (g 2) (g 23) (g 24) (g 25) w) : den pg ann_fse_Before (dropS 1 (takeS 1 (dropS 2 code_fse_Before))) Q g w :=
  den_blk 0 _ g w (by kernel_rfl) (fse_Before_p3_ok (blk 0 Q) g w kn R hn hr h)

def fse_Before_p5 (kn : K5) (state_1 symbol_2 t3 : Value) (w : World) : Prop :=
  Stp pg (sFAddr 28 t3 1) w fun t22 w =>
  Stp pg (sLoad 26 t22) w fun t23 w =>
  Stp pg (sBi .len #[26] 3 [t23]) w fun t24 w =>
  kn state_1 symbol_2 t23 t24 (.int .i64 0) w
theorem fse_Before_p5_ok (kn : K5) (hn : ∀ g w, kn (g 1) (g 2) (g 23) (g 24) (g 25) w → Q .normal g w) (h : fse_Before_p5 kn (g 1) (g 2) (g 3) w) : den pg ann_fse_Before (takeS 1 (takeS 1 (dropS 2 code_fse_Before))) Q g w :=
  den_exQ (kr := no) (l := []) (by kernel_rfl) h hn noE trivial

def fse_Before_p6 (kn : K0) (R : K1) (state_1 symbol_2 t3 : Value) (w : World) : Prop :=
  fse_Before_p5 (fun state_1 symbol_2 t23 t24 t25 w => fse_Before_p4 kn R state_1 symbol_2 t23 t24 t25 w) state_1 symbol_2 t3 w
theorem fse_Before_p6_ok (kn : K0) (R : K1) (hn : ∀ g w, kn w → Q .normal g w) (hr : HR rs_fse_Before R Q) (h : fse_Before_p6 kn R (g 1) (g 2) (g 3) w) : den pg ann_fse_Before (takeS 1 (dropS 2 code_fse_Before)) Q g w :=
  den_seqs 1 _ g w (by kernel_rfl) (fse_Before_p5_ok (thenE (fun g w => den pg ann_fse_Before (dropS 1 (takeS 1 (dropS 2 code_fse_Before))) Q g w) Q) g w (fun state_1 symbol_2 t23 t24 t25 w => fse_Before_p4 kn R state_1 symbol_2 t23 t24 t25 w) (fun g w h => thenE_n (K := fun g w => den pg ann_fse_Before (dropS 1 (takeS 1 (dropS 2 code_fse_Before))) Q g w) (fse_Before_p4_ok Q g w kn R hn hr h)) h)

def fse_Before_p7 (R : K1) (state_1 symbol_2 t3 : Value) (w : World) : Prop :=
  fse_Before_p6 (fun  w => fse_Before_p1 R w) R state_1 symbol_2 t3 w
theorem fse_Before_p7_ok (R : K1) (hr : HR rs_fse_Before R Q) (h : fse_Before_p7 R (g 1) (g 2) (g 3) w) : den pg ann_fse_Before (dropS 2 code_fse_Before) Q g w :=
  den_seqs 1 _ g w (by kernel_rfl) (fse_Before_p6_ok (thenE (fun g w => den pg ann_fse_Before (dropS 1 (dropS 2 code_fse_Before)) Q g w) Q) g w (fun  w => fse_Before_p1 R w) R (fun g w h => thenE_n (K := fun g w => den pg ann_fse_Before (dropS 1 (dropS 2 code_fse_Before)) Q g w) (fse_Before_p1_ok Q g w R hr h)) hr h)

def fse_Before_p8 (kn : K3) (R : K1) (t0 state_1 symbol_2 : Value) (w : World) : Prop :=
  Stp pg (sBox 28 t0) w fun t3 w =>
  Stp pg (sBin .lss 3 (.tmp 13) (.const (.int .i64 0)) state_1 (.int .i64 0)) w fun t14 w =>
  Gd (isB t14 false) (fun K => K state_1 w) w fun t16 w =>
  Gd (isB t14 false) (fun K => Stp pg (sFAddr 28 t3 1) w K) w fun t17 w =>
  Gd (isB t14 false) (fun K => Stp pg (sLoad 26 t17) w K) w fun t18 w =>
  Gd (isB t14 false) (fun K => Stp pg (sBi .len #[26] 3 [t18]) w K) w fun t19 w =>
  Gd (isB t14 false) (fun K => Stp pg (sBin .geq 3 (.tmp 16) (.tmp 19) t16 t19) w K) w fun t20 w =>
  Stp pg (sPick t14 (.bool true) t20) w fun t21 w =>
  Cnd t21
    (R (.tuple #[(.int .i64 0), (.int .u64 0), (.int .i64 0), (.int .i64 1)]) w)
    (kn state_1 symbol_2 t3 w)
theorem fse_Before_p8_ok (kn : K3) (R : K1) (hn : ∀ g w, kn (g 1) (g 2) (g 3) w → Q .normal g w) (hr : HR rs_fse_Before R Q) (h : fse_Before_p8 kn R (g 0) (g 1) (g 2) w) : den pg ann_fse_Before (takeS 2 code_fse_Before) Q g w :=
  den_exQ (l := []) (by kernel_rfl) h hn hr trivial

def fse_Before_p9 (R : K1) (t0 state_1 symbol_2 : Value) (w : World) : Prop :=
  fse_Before_p8 (fun state_1 symbol_2 t3 w => fse_Before_p7 R state_1 symbol_2 t3 w) R t0 state_1 symbol_2 w
theorem fse_Before_p9_ok (R : K1) (hr : HR rs_fse_Before R Q) (h : fse_Before_p9 R (g 0) (g 1) (g 2) w) : den pg ann_fse_Before code_fse_Before Q g w :=
  den_seqs 2 _ g w (by kernel_rfl) (fse_Before_p8_ok (thenE (fun g w => den pg ann_fse_Before (dropS 2 code_fse_Before) Q g w) Q) g w (fun state_1 symbol_2 t3 w => fse_Before_p7 R state_1 symbol_2 t3 w) R (fun g w h => thenE_n (K := fun g w => den pg ann_fse_Before (dropS 2 code_fse_Before) Q g w) (fse_Before_p7_ok Q g w R hr h)) hr h)

def fse_Before (a0 a1 a2 : Value) (w : World) (R : K1) : Prop :=
  fse_Before_p9 R a0 a1 a2 w
theorem fse_Before_does {a0 a1 a2 : Value} {w : World} {R : K1} (h : fse_Before a0 a1 a2 w R) : Does pg F_fse_Before #[a0, a1, a2] w R := by
  refine does_of_den (ann := ann_fse_Before) (fn := Try.f18) (c := code_fse_Before) (args := [a0, a1, a2]) (rs := rs_fse_Before) (N := 55) TryM.mixed (by kernel_rfl) Try.func18 (by kernel_rfl) (by kernel_rfl) (by kernel_rfl) (of_decide_eq_true (by kernel_rfl)) (by kernel_rfl) ?_
  exact (fse_Before_p9_ok (retQ pg rs_fse_Before R) (envOf [a0, a1, a2]) w R (fun _ _ h => h) h)
-- PIECES fse_Before/0 fse_Before_p1 fse_Before_p3 fse_Before_p4 fse_Before_p5 fse_Before_p6 fse_Before_p7 fse_Before_p8 fse_Before_p9
-- PIECES fse_Before/1 fse_Before_p2

/- lighterman/fse.First -/
def ann_fse_First : FA := ⟨F_fse_First, fun i => .leaf ([], []) []⟩
def rs_fse_First : List ResultVar := [.tmp 4, .tmp 5]
noncomputable def code_fse_First : Code := bodyOf Try.f19
def fse_First_p1 (R : K1)  (w : World) : Prop :=
  R (.tuple #[(.int .i64 0), (.int .i64 21)]) w
theorem fse_First_p1_ok (R : K1) (hr : HR rs_fse_First R Q) (h : fse_First_p1 R w) : den pg ann_fse_First (dropS 1 (dropS 1 code_fse_First)) Q g w :=
  den_exQ (kn := no) (l := []) (by kernel_rfl) h noE hr trivial

def fse_First_p2 (kn : K4) (k0 : K0) (R : K1) (symbol_1 t9 t10 t11 : Value) (w : World) : Prop :=
  Stp pg (sBin .lss 3 (.tmp 11) (.tmp 10) t11 t10) w fun t12 w =>
  Cnd t12
    (Stp pg (sIAddr 26 t9 t11) w fun t14 w =>
    Stp pg (sLoad 43 t14) w fun t15 w =>
    Stp pg (sAlloc 43) w fun x_7 w =>
    Stp pg (sStore 43 x_7 t15) w fun _u w =>
    Stp pg (sFAddr 43 x_7 0) w fun t16 w =>
    Stp pg (sLoad 5 t16) w fun t17 w =>
    Stp pg (sBin .eql 5 (.tmp 17) (.tmp 18) t17 symbol_1) w fun t19 w =>
    Cnd t19
      (R (.tuple #[t11, (.int .i64 0)]) w)
      (Stp pg (sBin .add 3 (.tmp 11) (.const (.int .i64 1)) t11 (.int .i64 1)) w fun t21 w =>
      kn symbol_1 t9 t10 t21 w))
    (k0 w)
theorem fse_First_p2_ok (kn : K4) (k0 : K0) (R : K1) (hn : ∀ g w, kn (g 1) (g 9) (g 10) (g 11) w → Q .normal g w) (h0 : ∀ g w, k0 w → Q (.exit 0) g w) (hr : HR rs_fse_First R Q) (h : fse_First_p2 kn k0 R (g 1) (g 9) (g 10) (g 11) w) : den pg ann_fse_First (bI (bI (dropS 1 (takeS 1 (dropS 1 code_fse_First))))) Q g w :=
  den_exQ (l := [(0, fun g w => k0 w)]) (by kernel_rfl) h hn hr ⟨h0, trivial⟩

def fse_First_p3 (k0 : K0) (R : K1) (symbol_1 t9 t10 t11 : Value) (w : World) : Prop :=
  LoopD (fun (X : Value → K0) (t : Value) (w : World) => fse_First_p2 (fun _ _ _ t11 w => X t11 w) k0 R symbol_1 t9 t10 t w) t11 w
theorem fse_First_p3_ok (k0 : K0) (R : K1) (h0 : ∀ g w, k0 w → Q (.exit 0) g w) (hr : HR rs_fse_First R Q) (h : fse_First_p3 k0 R (g 1) (g 9) (g 10) (g 11) w) : den pg ann_fse_First (bI (dropS 1 (takeS 1 (dropS 1 code_fse_First)))) Q g w := by
  refine den_loops (T := Value) (fun g : Env => g 11) (fun X t w => fse_First_p2 (fun _ _ _ t11 w => X t11 w) k0 R (g 1) (g 9) (g 10) t w) _ (by kernel_rfl) h (fun X g1 w1 ha h1 => ?_)
  rw [← agree_at (s := 1) ha (by kernel_rfl)] at h1
  rw [← agree_at (s := 9) ha (by kernel_rfl)] at h1
  rw [← agree_at (s := 10) ha (by kernel_rfl)] at h1
  exact (fse_First_p2_ok (thenE (fun g2 w2 => X ((fun g : Env => g 11) g2) w2) Q) g1 w1 (fun _ _ _ t11 w => X t11 w) k0 R (fun _ _ h => h) h0 hr h1)

def fse_First_p4 (kn : K0) (R : K1) (symbol_1 t9 t10 t11 : Value) (w : World) : Prop :=
  fse_First_p3 kn R symbol_1 t9 t10 t11 w
theorem fse_First_p4_ok (kn : K0) (R : K1) (hn : ∀ g w, kn w → Q .normal g w) (hr : HR rs_fse_First R Q) (h : fse_First_p4 kn R (g 1) (g 9) (g 10) (g 11) w) : den pg ann_fse_First (dropS 1 (takeS 1 (dropS 1 code_fse_First))) Q g w :=
  den_blk 0 _ g w (by kernel_rfl) (fse_First_p3_ok (blk 0 Q) g w kn R hn hr h)

def fse_First_p5 (kn : K4) (symbol_1 t2 : Value) (w : World) : Prop :=
  Stp pg (sFAddr 28 t2 1) w fun t8 w =>
  Stp pg (sLoad 26 t8) w fun t9 w =>
  Stp pg (sBi .len #[26] 3 [t9]) w fun t10 w =>
  kn symbol_1 t9 t10 (.int .i64 0) w
theorem fse_First_p5_ok (kn : K4) (hn : ∀ g w, kn (g 1) (g 9) (g 10) (g 11) w → Q .normal g w) (h : fse_First_p5 kn (g 1) (g 2) w) : den pg ann_fse_First (takeS 1 (takeS 1 (dropS 1 code_fse_First))) Q g w :=
  den_exQ (kr := no) (l := []) (by kernel_rfl) h hn noE trivial

def fse_First_p6 (kn : K0) (R : K1) (symbol_1 t2 : Value) (w : World) : Prop :=
  fse_First_p5 (fun symbol_1 t9 t10 t11 w => fse_First_p4 kn R symbol_1 t9 t10 t11 w) symbol_1 t2 w
theorem fse_First_p6_ok (kn : K0) (R : K1) (hn : ∀ g w, kn w → Q .normal g w) (hr : HR rs_fse_First R Q) (h : fse_First_p6 kn R (g 1) (g 2) w) : den pg ann_fse_First (takeS 1 (dropS 1 code_fse_First)) Q g w :=
  den_seqs 1 _ g w (by kernel_rfl) (fse_First_p5_ok (thenE (fun g w => den pg ann_fse_First (dropS 1 (takeS 1 (dropS 1 code_fse_First))) Q g w) Q) g w (fun symbol_1 t9 t10 t11 w => fse_First_p4 kn R symbol_1 t9 t10 t11 w) (fun g w h => thenE_n (K := fun g w => den pg ann_fse_First (dropS 1 (takeS 1 (dropS 1 code_fse_First))) Q g w) (fse_First_p4_ok Q g w kn R hn hr h)) h)

def fse_First_p7 (R : K1) (symbol_1 t2 : Value) (w : World) : Prop :=
  fse_First_p6 (fun  w => fse_First_p1 R w) R symbol_1 t2 w
theorem fse_First_p7_ok (R : K1) (hr : HR rs_fse_First R Q) (h : fse_First_p7 R (g 1) (g 2) w) : den pg ann_fse_First (dropS 1 code_fse_First) Q g w :=
  den_seqs 1 _ g w (by kernel_rfl) (fse_First_p6_ok (thenE (fun g w => den pg ann_fse_First (dropS 1 (dropS 1 code_fse_First)) Q g w) Q) g w (fun  w => fse_First_p1 R w) R (fun g w h => thenE_n (K := fun g w => den pg ann_fse_First (dropS 1 (dropS 1 code_fse_First)) Q g w) (fse_First_p1_ok Q g w R hr h)) hr h)

def fse_First_p8 (kn : K2) (t0 symbol_1 : Value) (w : World) : Prop :=
  Stp pg (sBox 28 t0) w fun t2 w =>
  kn symbol_1 t2 w
theorem fse_First_p8_ok (kn : K2) (hn : ∀ g w, kn (g 1) (g 2) w → Q .normal g w) (h : fse_First_p8 kn (g 0) (g 1) w) : den pg ann_fse_First (takeS 1 code_fse_First) Q g w :=
  den_exQ (kr := no) (l := []) (by kernel_rfl) h hn noE trivial

def fse_First_p9 (R : K1) (t0 symbol_1 : Value) (w : World) : Prop :=
  fse_First_p8 (fun symbol_1 t2 w => fse_First_p7 R symbol_1 t2 w) t0 symbol_1 w
theorem fse_First_p9_ok (R : K1) (hr : HR rs_fse_First R Q) (h : fse_First_p9 R (g 0) (g 1) w) : den pg ann_fse_First code_fse_First Q g w :=
  den_seqs 1 _ g w (by kernel_rfl) (fse_First_p8_ok (thenE (fun g w => den pg ann_fse_First (dropS 1 code_fse_First) Q g w) Q) g w (fun symbol_1 t2 w => fse_First_p7 R symbol_1 t2 w) (fun g w h => thenE_n (K := fun g w => den pg ann_fse_First (dropS 1 code_fse_First) Q g w) (fse_First_p7_ok Q g w R hr h)) h)

def fse_First (a0 a1 : Value) (w : World) (R : K1) : Prop :=
  fse_First_p9 R a0 a1 w
theorem fse_First_does {a0 a1 : Value} {w : World} {R : K1} (h : fse_First a0 a1 w R) : Does pg F_fse_First #[a0, a1] w R := by
  refine does_of_den (ann := ann_fse_First) (fn := Try.f19) (c := code_fse_First) (args := [a0, a1]) (rs := rs_fse_First) (N := 22) TryM.mixed (by kernel_rfl) Try.func19 (by kernel_rfl) (by kernel_rfl) (by kernel_rfl) (of_decide_eq_true (by kernel_rfl)) (by kernel_rfl) ?_
  exact (fse_First_p9_ok (retQ pg rs_fse_First R) (envOf [a0, a1]) w R (fun _ _ h => h) h)
-- PIECES fse_First/0 fse_First_p1 fse_First_p3 fse_First_p4 fse_First_p5 fse_First_p6 fse_First_p7 fse_First_p8 fse_First_p9
-- PIECES fse_First/1 fse_First_p2

/- lighterman/fse.One -/
def ann_fse_One : FA := ⟨F_fse_One, fun i => .leaf ([], []) []⟩
def rs_fse_One : List ResultVar := [.cell 2 28]
noncomputable def code_fse_One : Code := bodyOf Try.f20
def fse_One_p1 (R : K1) (symbol_0 : Value) (w : World) : Prop :=
  Stp pg (sAlloc 28) w fun t2 w =>
  Stp pg (sBuild 43 [(0, symbol_0)]) w fun t4 w =>
  Stp pg (sBuildSlice 26 1 [(0, t4)]) w fun t5 w =>
  Stp pg (sBuild 28 [(1, t5)]) w fun t6 w =>
  Stp pg (sStore 28 t2 t6) w fun _u w =>
  LdR pg 28 t2 w fun r0 => R r0 w
theorem fse_One_p1_ok (R : K1) (hr : HR rs_fse_One R Q) (h : fse_One_p1 R (g 0) w) : den pg ann_fse_One code_fse_One Q g w :=
  den_exQ (kn := no) (l := []) (by kernel_rfl) h noE hr trivial

def fse_One (a0 : Value) (w : World) (R : K1) : Prop :=
  fse_One_p1 R a0 w
theorem fse_One_does {a0 : Value} {w : World} {R : K1} (h : fse_One a0 w R) : Does pg F_fse_One #[a0] w R := by
  refine does_of_den (ann := ann_fse_One) (fn := Try.f20) (c := code_fse_One) (args := [a0]) (rs := rs_fse_One) (N := 7) TryM.mixed (by kernel_rfl) Try.func20 (by kernel_rfl) (by kernel_rfl) (by kernel_rfl) (of_decide_eq_true (by kernel_rfl)) (by kernel_rfl) ?_
  exact (fse_One_p1_ok (retQ pg rs_fse_One R) (envOf [a0]) w R (fun _ _ h => h) h)
-- PIECES fse_One/0 fse_One_p1

/- lighterman/normal.Check -/
def ann_normal_Check : FA := ⟨F_normal_Check, fun i => .leaf ([], []) []⟩
def rs_normal_Check : List ResultVar := [.tmp 4]
noncomputable def code_normal_Check : Code := bodyOf Try.f38
def normal_Check_p1 (R : K1) (c_0 most_1 : Value) (w : World) : Prop :=
  Stp pg (sBox 24 c_0) w fun c_2 w =>
  Stp pg (sLoad 24 c_2) w fun t6 w =>
  Does pg F_normal_may #[t6] w fun t7 w =>
  Stp pg (sUn .not t7) w fun t8 w =>
  Cnd t8
    (R (.int .i64 1) w)
    (Stp pg (sFAddr 24 c_2 0) w fun t10 w =>
    Stp pg (sLoad 3 t10) w fun t11 w =>
    Stp pg (sBin .gtr 3 (.tmp 11) (.tmp 12) t11 most_1) w fun t13 w =>
    Cnd t13
      (R (.int .i64 12) w)
      (R (.int .i64 0) w))
theorem normal_Check_p1_ok (R : K1) (hr : HR rs_normal_Check R Q) (h : normal_Check_p1 R (g 0) (g 1) w) : den pg ann_normal_Check code_normal_Check Q g w :=
  den_exQ (kn := no) (l := []) (by kernel_rfl) h noE hr trivial

def normal_Check (a0 a1 : Value) (w : World) (R : K1) : Prop :=
  normal_Check_p1 R a0 a1 w
theorem normal_Check_does {a0 a1 : Value} {w : World} {R : K1} (h : normal_Check a0 a1 w R) : Does pg F_normal_Check #[a0, a1] w R := by
  refine does_of_den (ann := ann_normal_Check) (fn := Try.f38) (c := code_normal_Check) (args := [a0, a1]) (rs := rs_normal_Check) (N := 14) TryM.mixed (by kernel_rfl) Try.func38 (by kernel_rfl) (by kernel_rfl) (by kernel_rfl) (of_decide_eq_true (by kernel_rfl)) (by kernel_rfl) ?_
  exact (normal_Check_p1_ok (retQ pg rs_normal_Check R) (envOf [a0, a1]) w R (fun _ _ h => h) h)
-- PIECES normal_Check/0 normal_Check_p1

/- lighterman/lightermanref06.Check -/
def ann_ref06_Check : FA := ⟨F_ref06_Check, fun i => .leaf ([], []) []⟩
def rs_ref06_Check : List ResultVar := [.tmp 4]
noncomputable def code_ref06_Check : Code := bodyOf Try.f40
def ref06_Check_p1 (R : K1) (c_0 most_1 : Value) (w : World) : Prop :=
  Stp pg (sBox 37 c_0) w fun c_2 w =>
  Stp pg (sLoad 37 c_2) w fun t6 w =>
  Does pg F_ref06_May #[t6] w fun t7 w =>
  Stp pg (sUn .not t7) w fun t9 w =>
  Cnd t9
    (R (.int .i64 1) w)
    (Stp pg (sFAddr 37 c_2 0) w fun t10 w =>
    Stp pg (sLoad 3 t10) w fun t11 w =>
    Stp pg (sBin .gtr 3 (.tmp 11) (.tmp 12) t11 most_1) w fun t13 w =>
    Cnd t13
      (R (.int .i64 12) w)
      (R (.int .i64 0) w))
theorem ref06_Check_p1_ok (R : K1) (hr : HR rs_ref06_Check R Q) (h : ref06_Check_p1 R (g 0) (g 1) w) : den pg ann_ref06_Check code_ref06_Check Q g w :=
  den_exQ (kn := no) (l := []) (by kernel_rfl) h noE hr trivial

def ref06_Check (a0 a1 : Value) (w : World) (R : K1) : Prop :=
  ref06_Check_p1 R a0 a1 w
theorem ref06_Check_does {a0 a1 : Value} {w : World} {R : K1} (h : ref06_Check a0 a1 w R) : Does pg F_ref06_Check #[a0, a1] w R := by
  refine does_of_den (ann := ann_ref06_Check) (fn := Try.f40) (c := code_ref06_Check) (args := [a0, a1]) (rs := rs_ref06_Check) (N := 14) TryM.mixed (by kernel_rfl) Try.func40 (by kernel_rfl) (by kernel_rfl) (by kernel_rfl) (of_decide_eq_true (by kernel_rfl)) (by kernel_rfl) ?_
  exact (ref06_Check_p1_ok (retQ pg rs_ref06_Check R) (envOf [a0, a1]) w R (fun _ _ h => h) h)
-- PIECES ref06_Check/0 ref06_Check_p1

/- lighterman/lightermanref06.May -/
def ann_ref06_May : FA := ⟨F_ref06_May, fun i => .leaf ([], []) []⟩
def rs_ref06_May : List ResultVar := [.tmp 2]
noncomputable def code_ref06_May : Code := bodyOf Try.f41
def ref06_May_p1 (R : K1) (c_1 sum_3 : Value) (w : World) : Prop :=
  Stp pg (sFAddr 37 c_1 0) w fun t61 w =>
  Stp pg (sLoad 3 t61) w fun t62 w =>
  Does pg F_ref06_Power #[t62] w fun t63 w =>
  Stp pg (sBin .eql 3 (.tmp 60) (.tmp 63) sum_3 t63) w fun t64 w =>
  R t64 w
theorem ref06_May_p1_ok (R : K1) (hr : HR rs_ref06_May R Q) (h : ref06_May_p1 R (g 1) (g 3) w) : den pg ann_ref06_May (dropS 1 (dropS 3 code_ref06_May)) Q g w :=
  den_exQ (kn := no) (l := []) (by kernel_rfl) h noE hr trivial

def ref06_May_p2 (kn : K3) (c_1 sum_3 i_4 : Value) (w : World) : Prop :=
  Stp pg (sBin .add 3 (.tmp 42) (.const (.int .i64 1)) i_4 (.int .i64 1)) w fun t43 w =>
  kn c_1 sum_3 t43 w
theorem ref06_May_p2_ok (kn : K3) (hn : ∀ g w, kn (g 1) (g 3) (g 4) w → Q .normal g w) (h : ref06_May_p2 kn (g 1) (g 3) (g 4) w) : den pg ann_ref06_May (dropS 1 (dropS 1 (bI (bI (dropS 1 (takeS 1 (dropS 3 code_ref06_May))))))) Q g w :=
  den_exQ (kr := no) (l := []) (by kernel_rfl) h hn noE trivial

def ref06_May_p3 (kn : K3) (c_1 sum_3 i_4 p_5 : Value) (w : World) : Prop :=
  Stp pg (sBin .add 3 (.tmp 57) (.tmp 58) sum_3 p_5) w fun t59 w =>
  kn c_1 t59 i_4 w
theorem ref06_May_p3_ok (kn : K3) (hn : ∀ g w, kn (g 1) (g 3) (g 4) w → Q .normal g w) (h : ref06_May_p3 kn (g 1) (g 3) (g 4) (g 5) w) : den pg ann_ref06_May (dropS 3 (bI (takeS 1 (dropS 1 (bI (bI (dropS 1 (takeS 1 (dropS 3 code_ref06_May))))))))) Q g w :=
  den_exQ (kr := no) (l := []) (by kernel_rfl) h hn noE trivial

def ref06_May_p4 (kn : K4) (R : K1) (c_1 sum_3 i_4 : Value) (w : World) : Prop :=
  Stp pg (sFAddr 37 c_1 1) w fun t44 w =>
  Stp pg (sLoad 22 t44) w fun t45 w =>
  Stp pg (sIAddr 22 t45 i_4) w fun t47 w =>
  Stp pg (sLoad 3 t47) w fun t48 w =>
  Stp pg (sBin .lss 3 (.tmp 49) (.const (.int .i64 (-1))) t48 (.int .i64 (-1))) w fun t50 w =>
  Gd (isB t50 false) (fun K => K t48 w) w fun t52 w =>
  Gd (isB t50 false) (fun K => Stp pg (sBin .gtr 3 (.tmp 52) (.const (.int .i64 32768)) t52 (.int .i64 32768)) w K) w fun t53 w =>
  Stp pg (sPick t50 (.bool true) t53) w fun t54 w =>
  Cnd t54
    (R (.bool false) w)
    (Stp pg (sBin .lss 3 (.tmp 55) (.const (.int .i64 0)) t48 (.int .i64 0)) w fun t56 w =>
    Cnd t56
      (kn c_1 sum_3 i_4 (.int .i64 1) w)
      (kn c_1 sum_3 i_4 t48 w))
theorem ref06_May_p4_ok (kn : K4) (R : K1) (hn : ∀ g w, kn (g 1) (g 3) (g 4) (g 5) w → Q .normal g w) (hr : HR rs_ref06_May R Q) (h : ref06_May_p4 kn R (g 1) (g 3) (g 4) w) : den pg ann_ref06_May (takeS 3 (bI (takeS 1 (dropS 1 (bI (bI (dropS 1 (takeS 1 (dropS 3 code_ref06_May))))))))) Q g w :=
  den_exQ (l := []) (by kernel_rfl) h hn hr trivial

def ref06_May_p5 (kn : K3) (R : K1) (c_1 sum_3 i_4 : Value) (w : World) : Prop :=
  ref06_May_p4 (fun c_1 sum_3 i_4 p_5 w => ref06_May_p3 kn c_1 sum_3 i_4 p_5 w) R c_1 sum_3 i_4 w
theorem ref06_May_p5_ok (kn : K3) (R : K1) (hn : ∀ g w, kn (g 1) (g 3) (g 4) w → Q .normal g w) (hr : HR rs_ref06_May R Q) (h : ref06_May_p5 kn R (g 1) (g 3) (g 4) w) : den pg ann_ref06_May (bI (takeS 1 (dropS 1 (bI (bI (dropS 1 (takeS 1 (dropS 3 code_ref06_May)))))))) Q g w :=
  den_seqs 3 _ g w (by kernel_rfl) (ref06_May_p4_ok (thenE (fun g w => den pg ann_ref06_May (dropS 3 (bI (takeS 1 (dropS 1 (bI (bI (dropS 1 (takeS 1 (dropS 3 code_ref06_May))))))))) Q g w) Q) g w (fun c_1 sum_3 i_4 p_5 w => ref06_May_p3 kn c_1 sum_3 i_4 p_5 w) R (fun g w h => thenE_n (K := fun g w => den pg ann_ref06_May (dropS 3 (bI (takeS 1 (dropS 1 (bI (bI (dropS 1 (takeS 1 (dropS 3 code_ref06_May))))))))) Q g w) (ref06_May_p3_ok Q g w kn hn h)) hr h)

def ref06_May_p6 (kn : K3) (R : K1) (c_1 sum_3 i_4 : Value) (w : World) : Prop :=
  ref06_May_p5 kn R c_1 sum_3 i_4 w
theorem ref06_May_p6_ok (kn : K3) (R : K1) (hn : ∀ g w, kn (g 1) (g 3) (g 4) w → Q .normal g w) (hr : HR rs_ref06_May R Q) (h : ref06_May_p6 kn R (g 1) (g 3) (g 4) w) : den pg ann_ref06_May (takeS 1 (dropS 1 (bI (bI (dropS 1 (takeS 1 (dropS 3 code_ref06_May))))))) Q g w :=
  den_blk 1 _ g w (by kernel_rfl) (ref06_May_p5_ok (blk 1 Q) g w kn R hn hr h)

def ref06_May_p7 (kn : K3) (R : K1) (c_1 sum_3 i_4 : Value) (w : World) : Prop :=
  ref06_May_p6 (fun c_1 sum_3 i_4 w => ref06_May_p2 kn c_1 sum_3 i_4 w) R c_1 sum_3 i_4 w
theorem ref06_May_p7_ok (kn : K3) (R : K1) (hn : ∀ g w, kn (g 1) (g 3) (g 4) w → Q .normal g w) (hr : HR rs_ref06_May R Q) (h : ref06_May_p7 kn R (g 1) (g 3) (g 4) w) : den pg ann_ref06_May (dropS 1 (bI (bI (dropS 1 (takeS 1 (dropS 3 code_ref06_May)))))) Q g w :=
  den_seqs 1 _ g w (by kernel_rfl) (ref06_May_p6_ok (thenE (fun g w => den pg ann_ref06_May (dropS 1 (dropS 1 (bI (bI (dropS 1 (takeS 1 (dropS 3 code_ref06_May))))))) Q g w) Q) g w (fun c_1 sum_3 i_4 w => ref06_May_p2 kn c_1 sum_3 i_4 w) R (fun g w h => thenE_n (K := fun g w => den pg ann_ref06_May (dropS 1 (dropS 1 (bI (bI (dropS 1 (takeS 1 (dropS 3 code_ref06_May))))))) Q g w) (ref06_May_p2_ok Q g w kn hn h)) hr h)

def ref06_May_p8 (kn : K3) (k0 : K2) (c_1 sum_3 i_4 : Value) (w : World) : Prop :=
  Stp pg (sFAddr 37 c_1 1) w fun t38 w =>
  Stp pg (sLoad 22 t38) w fun t39 w =>
  Stp pg (sBi .len #[22] 3 [t39]) w fun t40 w =>
  Stp pg (sBin .lss 3 (.tmp 37) (.tmp 40) i_4 t40) w fun t41 w =>
  Cnd t41
    (kn c_1 sum_3 i_4 w)
    (k0 c_1 sum_3 w)
theorem ref06_May_p8_ok (kn : K3) (k0 : K2) (hn : ∀ g w, kn (g 1) (g 3) (g 4) w → Q .normal g w) (h0 : ∀ g w, k0 (g 1) (g 3) w → Q (.exit 0) g w) (h : ref06_May_p8 kn k0 (g 1) (g 3) (g 4) w) : den pg ann_ref06_May (takeS 1 (bI (bI (dropS 1 (takeS 1 (dropS 3 code_ref06_May)))))) Q g w :=
  den_exQ (kr := no) (l := [(0, fun g w => k0 (g 1) (g 3) w)]) (by kernel_rfl) h hn noE ⟨h0, trivial⟩

def ref06_May_p9 (kn : K3) (k0 : K2) (R : K1) (c_1 sum_3 i_4 : Value) (w : World) : Prop :=
  ref06_May_p8 (fun c_1 sum_3 i_4 w => ref06_May_p7 kn R c_1 sum_3 i_4 w) k0 c_1 sum_3 i_4 w
theorem ref06_May_p9_ok (kn : K3) (k0 : K2) (R : K1) (hn : ∀ g w, kn (g 1) (g 3) (g 4) w → Q .normal g w) (h0 : ∀ g w, k0 (g 1) (g 3) w → Q (.exit 0) g w) (hr : HR rs_ref06_May R Q) (h : ref06_May_p9 kn k0 R (g 1) (g 3) (g 4) w) : den pg ann_ref06_May (bI (bI (dropS 1 (takeS 1 (dropS 3 code_ref06_May))))) Q g w :=
  den_seqs 1 _ g w (by kernel_rfl) (ref06_May_p8_ok (thenE (fun g w => den pg ann_ref06_May (dropS 1 (bI (bI (dropS 1 (takeS 1 (dropS 3 code_ref06_May)))))) Q g w) Q) g w (fun c_1 sum_3 i_4 w => ref06_May_p7 kn R c_1 sum_3 i_4 w) k0 (fun g w h => thenE_n (K := fun g w => den pg ann_ref06_May (dropS 1 (bI (bI (dropS 1 (takeS 1 (dropS 3 code_ref06_May)))))) Q g w) (ref06_May_p7_ok Q g w kn R hn hr h)) h0 h)

def ref06_May_p10 (k0 : K2) (R : K1) (c_1 sum_3 i_4 : Value) (w : World) : Prop :=
  LoopD (fun (X : (Value × Value) → K0) (t : Value × Value) (w : World) => ref06_May_p9 (fun _ sum_3 i_4 w => X (sum_3, i_4) w) k0 R c_1 t.1 t.2 w) (sum_3, i_4) w
theorem ref06_May_p10_ok (k0 : K2) (R : K1) (h0 : ∀ g w, k0 (g 1) (g 3) w → Q (.exit 0) g w) (hr : HR rs_ref06_May R Q) (h : ref06_May_p10 k0 R (g 1) (g 3) (g 4) w) : den pg ann_ref06_May (bI (dropS 1 (takeS 1 (dropS 3 code_ref06_May)))) Q g w := by
  refine den_loops (T := Value × Value) (fun g : Env => (g 3, g 4)) (fun X t w => ref06_May_p9 (fun _ sum_3 i_4 w => X (sum_3, i_4) w) k0 R (g 1) t.1 t.2 w) _ (by kernel_rfl) h (fun X g1 w1 ha h1 => ?_)
  rw [← agree_at (s := 1) ha (by kernel_rfl)] at h1
  exact (ref06_May_p9_ok (thenE (fun g2 w2 => X ((fun g : Env => (g 3, g 4)) g2) w2) Q) g1 w1 (fun _ sum_3 i_4 w => X (sum_3, i_4) w) k0 R (fun _ _ h => h) h0 hr h1)

def ref06_May_p11 (kn : K2) (R : K1) (c_1 sum_3 i_4 : Value) (w : World) : Prop :=
  ref06_May_p10 kn R c_1 sum_3 i_4 w
theorem ref06_May_p11_ok (kn : K2) (R : K1) (hn : ∀ g w, kn (g 1) (g 3) w → Q .normal g w) (hr : HR rs_ref06_May R Q) (h : ref06_May_p11 kn R (g 1) (g 3) (g 4) w) : den pg ann_ref06_May (dropS 1 (takeS 1 (dropS 3 code_ref06_May))) Q g w :=
  den_blk 0 _ g w (by kernel_rfl) (ref06_May_p10_ok (blk 0 Q) g w kn R hn hr h)

def ref06_May_p12 (kn : K3) (c_1 sum_3 : Value) (w : World) : Prop :=
  kn c_1 sum_3 (.int .i64 0) w
theorem ref06_May_p12_ok (kn : K3) (hn : ∀ g w, kn (g 1) (g 3) (g 4) w → Q .normal g w) (h : ref06_May_p12 kn (g 1) (g 3) w) : den pg ann_ref06_May (takeS 1 (takeS 1 (dropS 3 code_ref06_May))) Q g w :=
  den_exQ (kr := no) (l := []) (by kernel_rfl) h hn noE trivial

def ref06_May_p13 (kn : K2) (R : K1) (c_1 sum_3 : Value) (w : World) : Prop :=
  ref06_May_p12 (fun c_1 sum_3 i_4 w => ref06_May_p11 kn R c_1 sum_3 i_4 w) c_1 sum_3 w
theorem ref06_May_p13_ok (kn : K2) (R : K1) (hn : ∀ g w, kn (g 1) (g 3) w → Q .normal g w) (hr : HR rs_ref06_May R Q) (h : ref06_May_p13 kn R (g 1) (g 3) w) : den pg ann_ref06_May (takeS 1 (dropS 3 code_ref06_May)) Q g w :=
  den_seqs 1 _ g w (by kernel_rfl) (ref06_May_p12_ok (thenE (fun g w => den pg ann_ref06_May (dropS 1 (takeS 1 (dropS 3 code_ref06_May))) Q g w) Q) g w (fun c_1 sum_3 i_4 w => ref06_May_p11 kn R c_1 sum_3 i_4 w) (fun g w h => thenE_n (K := fun g w => den pg ann_ref06_May (dropS 1 (takeS 1 (dropS 3 code_ref06_May))) Q g w) (ref06_May_p11_ok Q g w kn R hn hr h)) h)

def ref06_May_p14 (R : K1) (c_1 sum_3 : Value) (w : World) : Prop :=
  ref06_May_p13 (fun c_1 sum_3 w => ref06_May_p1 R c_1 sum_3 w) R c_1 sum_3 w
theorem ref06_May_p14_ok (R : K1) (hr : HR rs_ref06_May R Q) (h : ref06_May_p14 R (g 1) (g 3) w) : den pg ann_ref06_May (dropS 3 code_ref06_May) Q g w :=
  den_seqs 1 _ g w (by kernel_rfl) (ref06_May_p13_ok (thenE (fun g w => den pg ann_ref06_May (dropS 1 (dropS 3 code_ref06_May)) Q g w) Q) g w (fun c_1 sum_3 w => ref06_May_p1 R c_1 sum_3 w) R (fun g w h => thenE_n (K := fun g w => den pg ann_ref06_May (dropS 1 (dropS 3 code_ref06_May)) Q g w) (ref06_May_p1_ok Q g w R hr h)) hr h)

def ref06_May_p15 (kn : K2) (R : K1) (c_0 : Value) (w : World) : Prop :=
  Stp pg (sBox 37 c_0) w fun c_1 w =>
  Stp pg (sFAddr 37 c_1 0) w fun t6 w =>
  Stp pg (sLoad 3 t6) w fun t7 w =>
  Stp pg (sBin .lss 3 (.tmp 7) (.const (.int .i64 5)) t7 (.int .i64 5)) w fun t8 w =>
  Gd (isB t8 false) (fun K => Stp pg (sFAddr 37 c_1 0) w K) w fun t10 w =>
  Gd (isB t8 false) (fun K => Stp pg (sLoad 3 t10) w K) w fun t11 w =>
  Gd (isB t8 false) (fun K => Stp pg (sBin .gtr 3 (.tmp 11) (.const (.int .i64 15)) t11 (.int .i64 15)) w K) w fun t12 w =>
  Stp pg (sPick t8 (.bool true) t12) w fun t13 w =>
  Gd (isB t13 false) (fun K => Stp pg (sFAddr 37 c_1 1) w K) w fun t15 w =>
  Gd (isB t13 false) (fun K => Stp pg (sLoad 22 t15) w K) w fun t16 w =>
  Gd (isB t13 false) (fun K => Stp pg (sBi .len #[22] 3 [t16]) w K) w fun t17 w =>
  Gd (isB t13 false) (fun K => Stp pg (sBin .eql 3 (.tmp 17) (.const (.int .i64 0)) t17 (.int .i64 0)) w K) w fun t18 w =>
  Stp pg (sPick t13 (.bool true) t18) w fun t19 w =>
  Gd (isB t19 false) (fun K => Stp pg (sFAddr 37 c_1 1) w K) w fun t21 w =>
  Gd (isB t19 false) (fun K => Stp pg (sLoad 22 t21) w K) w fun t22 w =>
  Gd (isB t19 false) (fun K => Stp pg (sBi .len #[22] 3 [t22]) w K) w fun t23 w =>
  Gd (isB t19 false) (fun K => Stp pg (sBin .gtr 3 (.tmp 23) (.const (.int .i64 256)) t23 (.int .i64 256)) w K) w fun t24 w =>
  Stp pg (sPick t19 (.bool true) t24) w fun t25 w =>
  Gd (isB t25 false) (fun K => Stp pg (sFAddr 37 c_1 1) w K) w fun t27 w =>
  Gd (isB t25 false) (fun K => Stp pg (sLoad 22 t27) w K) w fun t28 w =>
  Gd (isB t25 false) (fun K => Stp pg (sFAddr 37 c_1 1) w K) w fun t29 w =>
  Gd (isB t25 false) (fun K => Stp pg (sLoad 22 t29) w K) w fun t30 w =>
  Gd (isB t25 false) (fun K => Stp pg (sBi .len #[22] 3 [t30]) w K) w fun t31 w =>
  Gd (isB t25 false) (fun K => Stp pg (sBin .sub 3 (.tmp 31) (.const (.int .i64 1)) t31 (.int .i64 1)) w K) w fun t32 w =>
  Gd (isB t25 false) (fun K => Stp pg (sIAddr 22 t28 t32) w K) w fun t33 w =>
  Gd (isB t25 false) (fun K => Stp pg (sLoad 3 t33) w K) w fun t34 w =>
  Gd (isB t25 false) (fun K => Stp pg (sBin .eql 3 (.tmp 34) (.const (.int .i64 0)) t34 (.int .i64 0)) w K) w fun t35 w =>
  Stp pg (sPick t25 (.bool true) t35) w fun t36 w =>
  Cnd t36
    (R (.bool false) w)
    (kn c_1 (.int .i64 0) w)
theorem ref06_May_p15_ok (kn : K2) (R : K1) (hn : ∀ g w, kn (g 1) (g 3) w → Q .normal g w) (hr : HR rs_ref06_May R Q) (h : ref06_May_p15 kn R (g 0) w) : den pg ann_ref06_May (takeS 3 code_ref06_May) Q g w :=
  den_exQ (l := []) (by kernel_rfl) h hn hr trivial

def ref06_May_p16 (R : K1) (c_0 : Value) (w : World) : Prop :=
  ref06_May_p15 (fun c_1 sum_3 w => ref06_May_p14 R c_1 sum_3 w) R c_0 w
theorem ref06_May_p16_ok (R : K1) (hr : HR rs_ref06_May R Q) (h : ref06_May_p16 R (g 0) w) : den pg ann_ref06_May code_ref06_May Q g w :=
  den_seqs 3 _ g w (by kernel_rfl) (ref06_May_p15_ok (thenE (fun g w => den pg ann_ref06_May (dropS 3 code_ref06_May) Q g w) Q) g w (fun c_1 sum_3 w => ref06_May_p14 R c_1 sum_3 w) R (fun g w h => thenE_n (K := fun g w => den pg ann_ref06_May (dropS 3 code_ref06_May) Q g w) (ref06_May_p14_ok Q g w R hr h)) hr h)

def ref06_May (a0 : Value) (w : World) (R : K1) : Prop :=
  ref06_May_p16 R a0 w
theorem ref06_May_does {a0 : Value} {w : World} {R : K1} (h : ref06_May a0 w R) : Does pg F_ref06_May #[a0] w R := by
  refine does_of_den (ann := ann_ref06_May) (fn := Try.f41) (c := code_ref06_May) (args := [a0]) (rs := rs_ref06_May) (N := 65) TryM.mixed (by kernel_rfl) Try.func41 (by kernel_rfl) (by kernel_rfl) (by kernel_rfl) (of_decide_eq_true (by kernel_rfl)) (by kernel_rfl) ?_
  exact (ref06_May_p16_ok (retQ pg rs_ref06_May R) (envOf [a0]) w R (fun _ _ h => h) h)
-- PIECES ref06_May/0 ref06_May_p1 ref06_May_p10 ref06_May_p11 ref06_May_p12 ref06_May_p13 ref06_May_p14 ref06_May_p15 ref06_May_p16
-- PIECES ref06_May/1 ref06_May_p2 ref06_May_p3 ref06_May_p4 ref06_May_p5 ref06_May_p6 ref06_May_p7 ref06_May_p8 ref06_May_p9

end Go.Proofs.Ytcbkdccobhkbpaa

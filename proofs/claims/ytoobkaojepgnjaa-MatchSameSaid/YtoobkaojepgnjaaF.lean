/- The pieces of bodies, written by a program of ours off the loaded code, each with its proof. -/
import Derived.Test.YtoobkaojepgnjaaRows
import Derived.Test.YtoobkaojepgnjaaEnGen
namespace Go.Proofs.Ytoobkaojepgnjaa
open Go Go.En
set_option linter.unusedVariables false
attribute [local irreducible] Go.En.den

noncomputable abbrev pg : Program := Try.prog
theorem TryM.mixed : pg.follows .mixedOrders = true := Try.checked.mixed
abbrev F_law17_MatchPlans : FuncId := 3
abbrev F_law17_MatchSame : FuncId := 4
abbrev F_law17_MatchTwice : FuncId := 5
abbrev F_law17_MatchLevels : FuncId := 6
abbrev F_law17_awake : FuncId := 7
abbrev F_match_Find : FuncId := 8
abbrev F_ref17_Plan : FuncId := 9
abbrev F_match_finder_note : FuncId := 10
abbrev F_match_finder_best : FuncId := 11
abbrev F_match_finder_keyed : FuncId := 12
abbrev F_match_finder_long : FuncId := 13
/- lighterman/lightermanlaw17.MatchPlans -/
def ann_law17_MatchPlans : FA := ⟨F_law17_MatchPlans, fun i => .leaf ([], []) []⟩
def rs_law17_MatchPlans : List ResultVar := [.tmp 8]
noncomputable def code_law17_MatchPlans : Code := bodyOf Try.f3
def law17_MatchPlans_p1 (R : Value → World → Prop) (b_0 from_1 t2 level_3 : Value) (w : World) : Prop :=
  Does pg F_law17_awake #[] w fun t14 w =>
  Stp pg (sUn .not t14) w fun t16 w =>
  Cnd t16
    (R (.bool false) w)
    (Stp pg (sBi .len #[22] 3 [b_0]) w fun t18 w =>
    Stp pg (sBin .gtr 3 (.tmp 18) (.const (.int .i64 2000)) t18 (.int .i64 2000)) w fun t19 w =>
    Cnd t19
      (R (.bool true) w)
      (Stp pg (sCvt 22 9 b_0) w fun t21 w =>
      Does pg F_match_Find #[b_0, from_1, t2, level_3] w fun t27 w =>
      Stp pg (sExtr t27 0) w fun t28 w =>
      Stp pg (sExtr t27 1) w fun t29 w =>
      Stp pg (sExtr t27 2) w fun t30 w =>
      Stp pg (sBin .lss 3 (.tmp 31) (.const (.int .i64 0)) from_1 (.int .i64 0)) w fun t32 w =>
      Gd (isB t32 false) (fun K => K t2 w) w fun t34 w =>
      Gd (isB t32 false) (fun K => K from_1 w) w fun t35 w =>
      Gd (isB t32 false) (fun K => Stp pg (sBin .lss 3 (.tmp 34) (.tmp 35) t34 t35) w K) w fun t36 w =>
      Stp pg (sPick t32 (.bool true) t36) w fun t37 w =>
      Gd (isB t37 false) (fun K => K t2 w) w fun t39 w =>
      Gd (isB t37 false) (fun K => K b_0 w) w fun t40 w =>
      Gd (isB t37 false) (fun K => Stp pg (sBi .len #[22] 3 [t40]) w K) w fun t41 w =>
      Gd (isB t37 false) (fun K => Stp pg (sBin .gtr 3 (.tmp 39) (.tmp 41) t39 t41) w K) w fun t42 w =>
      Stp pg (sPick t37 (.bool true) t42) w fun t43 w =>
      Gd (isB t43 false) (fun K => K level_3 w) w fun t45 w =>
      Gd (isB t43 false) (fun K => Stp pg (sBin .lss 3 (.tmp 45) (.const (.int .i64 0)) t45 (.int .i64 0)) w K) w fun t46 w =>
      Stp pg (sPick t43 (.bool true) t46) w fun t47 w =>
      Gd (isB t47 false) (fun K => K level_3 w) w fun t49 w =>
      Gd (isB t47 false) (fun K => Stp pg (sBin .gtr 3 (.tmp 49) (.const (.int .i64 9)) t49 (.int .i64 9)) w K) w fun t50 w =>
      Stp pg (sPick t47 (.bool true) t50) w fun t51 w =>
      Cnd t51
        (Stp pg (sBin .eql 25 (.tmp 52) (.const (.int .i64 1)) t30 (.int .i64 1)) w fun t53 w =>
        Gd (isB t53 true) (fun K => K t28 w) w fun t55 w =>
        Gd (isB t53 true) (fun K => Stp pg (sBi .len #[24] 3 [t55]) w K) w fun t56 w =>
        Gd (isB t53 true) (fun K => Stp pg (sBin .eql 3 (.tmp 56) (.const (.int .i64 0)) t56 (.int .i64 0)) w K) w fun t57 w =>
        Stp pg (sPick t53 t57 (.bool false)) w fun t58 w =>
        Gd (isB t58 true) (fun K => K t29 w) w fun t60 w =>
        Gd (isB t58 true) (fun K => Stp pg (sBin .eql 3 (.tmp 60) (.const (.int .i64 0)) t60 (.int .i64 0)) w K) w fun t61 w =>
        Stp pg (sPick t58 t61 (.bool false)) w fun t62 w =>
        R t62 w)
        (Stp pg (sBin .eql 25 (.tmp 63) (.const (.int .i64 0)) t30 (.int .i64 0)) w fun t64 w =>
        Gd (isB t64 true) (fun K => K b_0 w) w fun t66 w =>
        Gd (isB t64 true) (fun K => Stp pg (sCvt 22 9 t66) w K) w fun t67 w =>
        Gd (isB t64 true) (fun K => K t21 w) w fun t68 w =>
        Gd (isB t64 true) (fun K => Stp pg (sBin .eql 9 (.tmp 67) (.tmp 68) t67 t68) w K) w fun t69 w =>
        Stp pg (sPick t64 t69 (.bool false)) w fun t70 w =>
        Gd (isB t70 true) (fun K => K t21 w) w fun t72 w =>
        Gd (isB t70 true) (fun K => K from_1 w) w fun t73 w =>
        Gd (isB t70 true) (fun K => K t2 w) w fun t74 w =>
        Gd (isB t70 true) (fun K => K t28 w) w fun t75 w =>
        Gd (isB t70 true) (fun K => K t29 w) w fun t76 w =>
        Gd (isB t70 true) (fun K => Does pg F_ref17_Plan #[t72, t73, t74, t75, t76] w K) w fun t77 w =>
        Stp pg (sPick t70 t77 (.bool false)) w fun t78 w =>
        Gd (isB t78 true) (fun K => K level_3 w) w fun t80 w =>
        Gd (isB t78 true) (fun K => Stp pg (sBin .gtr 3 (.tmp 80) (.const (.int .i64 0)) t80 (.int .i64 0)) w K) w fun t81 w =>
        Gd (isB t78 true) (fun K => K t81 w) w fun t82 w =>
        Gd (isB t82 false) (fun K => K t28 w) w fun t83 w =>
        Gd (isB t82 false) (fun K => Stp pg (sBi .len #[24] 3 [t83]) w K) w fun t84 w =>
        Gd (isB t82 false) (fun K => Stp pg (sBin .eql 3 (.tmp 84) (.const (.int .i64 0)) t84 (.int .i64 0)) w K) w fun t85 w =>
        Gd (isB t78 true) (fun K => Stp pg (sPick t82 (.bool true) t85) w K) w fun t86 w =>
        Stp pg (sPick t78 t86 (.bool false)) w fun t87 w =>
        R t87 w)))
theorem law17_MatchPlans_p1_ok (Q : Exit → Env → World → Prop) (g : Env) (w : World) (R : Value → World → Prop) (hr : ∀ g w, (resVals pg rs_law17_MatchPlans g w fun vs => R (tup vs) w) → Q .ret g w) (h : law17_MatchPlans_p1 R (g 0) (g 1) (g 2) (g 3) w) : den pg ann_law17_MatchPlans code_law17_MatchPlans Q g w := by
  have e : (law17_MatchPlans_p1 R (g 0) (g 1) (g 2) (g 3) w) = den pg ann_law17_MatchPlans code_law17_MatchPlans (exQ (fun _ _ => False) (fun g w => resVals pg rs_law17_MatchPlans g w fun vs => R (tup vs) w) []) g w := by kernel_rfl
  exact den_exQ e h (fun _ _ h => h.elim) hr trivial

def law17_MatchPlans (a0 a1 a2 a3 : Value) (w : World) (R : Value → World → Prop) : Prop :=
  law17_MatchPlans_p1 R a0 a1 a2 a3 w
theorem law17_MatchPlans_does {a0 a1 a2 a3 : Value} {w : World} {R : Value → World → Prop} (h : law17_MatchPlans a0 a1 a2 a3 w R) : Does pg F_law17_MatchPlans #[a0, a1, a2, a3] w R := by
  refine does_of_den (ann := ann_law17_MatchPlans) (fn := Try.f3) (c := code_law17_MatchPlans) (args := [a0, a1, a2, a3]) (rs := rs_law17_MatchPlans) (N := 88) TryM.mixed (by kernel_rfl) Try.func3 (by kernel_rfl) (by kernel_rfl) (by kernel_rfl) (of_decide_eq_true (by kernel_rfl)) (by kernel_rfl) ?_
  exact (law17_MatchPlans_p1_ok (retQ pg rs_law17_MatchPlans R) (envOf [a0, a1, a2, a3]) w R (fun _ _ h => h) h)
-- PIECES law17_MatchPlans/0 law17_MatchPlans_p1

/- lighterman/lightermanlaw17.MatchSame -/
def ann_law17_MatchSame : FA := ⟨F_law17_MatchSame, fun i => .leaf ([], []) []⟩
def rs_law17_MatchSame : List ResultVar := [.tmp 6]
noncomputable def code_law17_MatchSame : Code := bodyOf Try.f4
def law17_MatchSame_p1 (R : Value → World → Prop) (level_2 k_8 b_9 : Value) (w : World) : Prop :=
  Stp pg (sBin .rem 5 (.tmp 34) (.const (.int .u8 9)) level_2 (.int .u8 9)) w fun t35 w =>
  Stp pg (sCvt 5 3 t35) w fun t36 w =>
  Stp pg (sBin .add 3 (.tmp 36) (.const (.int .i64 1)) t36 (.int .i64 1)) w fun t37 w =>
  Does pg F_match_Find #[b_9, (.int .i64 0), k_8, t37] w fun t38 w =>
  Stp pg (sExtr t38 0) w fun t39 w =>
  Stp pg (sExtr t38 1) w fun t40 w =>
  Stp pg (sExtr t38 2) w fun t41 w =>
  Stp pg (sBin .eql 25 (.tmp 42) (.const (.int .i64 0)) t41 (.int .i64 0)) w fun t43 w =>
  Gd (isB t43 true) (fun K => K b_9 w) w fun t45 w =>
  Gd (isB t43 true) (fun K => Stp pg (sCvt 22 9 t45) w K) w fun t46 w =>
  Gd (isB t43 true) (fun K => K k_8 w) w fun t47 w =>
  Gd (isB t43 true) (fun K => K t39 w) w fun t48 w =>
  Gd (isB t43 true) (fun K => K t40 w) w fun t49 w =>
  Gd (isB t43 true) (fun K => Does pg F_ref17_Plan #[t46, (.int .i64 0), t47, t48, t49] w K) w fun t50 w =>
  Stp pg (sPick t43 t50 (.bool false)) w fun t51 w =>
  Gd (isB t51 true) (fun K => K k_8 w) w fun t53 w =>
  Gd (isB t51 true) (fun K => Stp pg (sBin .lss 3 (.tmp 53) (.const (.int .i64 8)) t53 (.int .i64 8)) w K) w fun t54 w =>
  Gd (isB t51 true) (fun K => K t54 w) w fun t55 w =>
  Gd (isB t55 false) (fun K => K t39 w) w fun t56 w =>
  Gd (isB t55 false) (fun K => Stp pg (sBi .len #[24] 3 [t56]) w K) w fun t57 w =>
  Gd (isB t55 false) (fun K => Stp pg (sBin .gtr 3 (.tmp 57) (.const (.int .i64 0)) t57 (.int .i64 0)) w K) w fun t58 w =>
  Gd (isB t51 true) (fun K => Stp pg (sPick t55 (.bool true) t58) w K) w fun t59 w =>
  Stp pg (sPick t51 t59 (.bool false)) w fun t60 w =>
  R t60 w
theorem law17_MatchSame_p1_ok (Q : Exit → Env → World → Prop) (g : Env) (w : World) (R : Value → World → Prop) (hr : ∀ g w, (resVals pg rs_law17_MatchSame g w fun vs => R (tup vs) w) → Q .ret g w) (h : law17_MatchSame_p1 R (g 2) (g 8) (g 9) w) : den pg ann_law17_MatchSame (dropS 1 (dropS 5 code_law17_MatchSame)) Q g w := by
  have e : (law17_MatchSame_p1 R (g 2) (g 8) (g 9) w) = den pg ann_law17_MatchSame (dropS 1 (dropS 5 code_law17_MatchSame)) (exQ (fun _ _ => False) (fun g w => resVals pg rs_law17_MatchSame g w fun vs => R (tup vs) w) []) g w := by kernel_rfl
  exact den_exQ e h (fun _ _ h => h.elim) hr trivial

def law17_MatchSame_p2 (kn : Value → Value → Value → Value → Value → World → Prop) (k0 : Value → Value → Value → World → Prop) (c_0 level_2 k_8 b_9 i_10 : Value) (w : World) : Prop :=
  Stp pg (sBin .lss 3 (.tmp 22) (.tmp 23) i_10 k_8) w fun t24 w =>
  Cnd t24
    (Stp pg (sIAddr 22 b_9 i_10) w fun t30 w =>
    Stp pg (sStore 5 t30 c_0) w fun _u w =>
    Stp pg (sBin .add 3 (.tmp 25) (.const (.int .i64 1)) i_10 (.int .i64 1)) w fun t26 w =>
    kn c_0 level_2 k_8 b_9 t26 w)
    (k0 level_2 k_8 b_9 w)
theorem law17_MatchSame_p2_ok (Q : Exit → Env → World → Prop) (g : Env) (w : World) (kn : Value → Value → Value → Value → Value → World → Prop) (k0 : Value → Value → Value → World → Prop) (hn : ∀ g w, kn (g 0) (g 2) (g 8) (g 9) (g 10) w → Q .normal g w) (h0 : ∀ g w, k0 (g 2) (g 8) (g 9) w → Q (.exit 0) g w) (h : law17_MatchSame_p2 kn k0 (g 0) (g 2) (g 8) (g 9) (g 10) w) : den pg ann_law17_MatchSame (bI (bI (dropS 1 (takeS 1 (dropS 5 code_law17_MatchSame))))) Q g w := by
  have e : (law17_MatchSame_p2 kn k0 (g 0) (g 2) (g 8) (g 9) (g 10) w) = den pg ann_law17_MatchSame (bI (bI (dropS 1 (takeS 1 (dropS 5 code_law17_MatchSame))))) (exQ (fun g w => kn (g 0) (g 2) (g 8) (g 9) (g 10) w) (fun _ _ => False) [(0, fun g w => k0 (g 2) (g 8) (g 9) w)]) g w := by kernel_rfl
  exact den_exQ e h hn (fun _ _ h => h.elim) ⟨h0, trivial⟩

def law17_MatchSame_p3 (k0 : Value → Value → Value → World → Prop) (c_0 level_2 k_8 b_9 i_10 : Value) (w : World) : Prop :=
  LoopD (fun (X : Value → World → Prop) (t : Value) (w : World) => law17_MatchSame_p2 (fun _ _ _ _ i_10 w => X i_10 w) k0 c_0 level_2 k_8 b_9 t w) i_10 w
theorem law17_MatchSame_p3_ok (Q : Exit → Env → World → Prop) (g : Env) (w : World) (k0 : Value → Value → Value → World → Prop) (h0 : ∀ g w, k0 (g 2) (g 8) (g 9) w → Q (.exit 0) g w) (h : law17_MatchSame_p3 k0 (g 0) (g 2) (g 8) (g 9) (g 10) w) : den pg ann_law17_MatchSame (bI (dropS 1 (takeS 1 (dropS 5 code_law17_MatchSame)))) Q g w := by
  refine den_loops (T := Value) (fun g : Env => g 10) (fun X t w => law17_MatchSame_p2 (fun _ _ _ _ i_10 w => X i_10 w) k0 (g 0) (g 2) (g 8) (g 9) t w) (bI (dropS 1 (takeS 1 (dropS 5 code_law17_MatchSame)))) (by kernel_rfl) h (fun X g1 w1 ha h1 => ?_)
  rw [← agree_at (s := 0) ha (by kernel_rfl)] at h1
  rw [← agree_at (s := 2) ha (by kernel_rfl)] at h1
  rw [← agree_at (s := 8) ha (by kernel_rfl)] at h1
  rw [← agree_at (s := 9) ha (by kernel_rfl)] at h1
  exact (law17_MatchSame_p2_ok (thenE (fun g2 w2 => X ((fun g : Env => g 10) g2) w2) Q) g1 w1 (fun _ _ _ _ i_10 w => X i_10 w) k0 (fun _ _ h => h) h0 h1)

def law17_MatchSame_p4 (kn : Value → Value → Value → World → Prop) (c_0 level_2 k_8 b_9 i_10 : Value) (w : World) : Prop :=
  law17_MatchSame_p3 kn c_0 level_2 k_8 b_9 i_10 w
theorem law17_MatchSame_p4_ok (Q : Exit → Env → World → Prop) (g : Env) (w : World) (kn : Value → Value → Value → World → Prop) (hn : ∀ g w, kn (g 2) (g 8) (g 9) w → Q .normal g w) (h : law17_MatchSame_p4 kn (g 0) (g 2) (g 8) (g 9) (g 10) w) : den pg ann_law17_MatchSame (dropS 1 (takeS 1 (dropS 5 code_law17_MatchSame))) Q g w :=
  den_blk 0 (dropS 1 (takeS 1 (dropS 5 code_law17_MatchSame))) g w (by kernel_rfl) (law17_MatchSame_p3_ok (blk 0 Q) g w kn hn h)

def law17_MatchSame_p5 (kn : Value → Value → Value → Value → Value → World → Prop) (c_0 level_2 k_8 b_9 : Value) (w : World) : Prop :=
  kn c_0 level_2 k_8 b_9 (.int .i64 0) w
theorem law17_MatchSame_p5_ok (Q : Exit → Env → World → Prop) (g : Env) (w : World) (kn : Value → Value → Value → Value → Value → World → Prop) (hn : ∀ g w, kn (g 0) (g 2) (g 8) (g 9) (g 10) w → Q .normal g w) (h : law17_MatchSame_p5 kn (g 0) (g 2) (g 8) (g 9) w) : den pg ann_law17_MatchSame (takeS 1 (takeS 1 (dropS 5 code_law17_MatchSame))) Q g w := by
  have e : (law17_MatchSame_p5 kn (g 0) (g 2) (g 8) (g 9) w) = den pg ann_law17_MatchSame (takeS 1 (takeS 1 (dropS 5 code_law17_MatchSame))) (exQ (fun g w => kn (g 0) (g 2) (g 8) (g 9) (g 10) w) (fun _ _ => False) []) g w := by kernel_rfl
  exact den_exQ e h hn (fun _ _ h => h.elim) trivial

def law17_MatchSame_p6 (kn : Value → Value → Value → World → Prop) (c_0 level_2 k_8 b_9 : Value) (w : World) : Prop :=
  law17_MatchSame_p5 (fun c_0 level_2 k_8 b_9 i_10 w => law17_MatchSame_p4 kn c_0 level_2 k_8 b_9 i_10 w) c_0 level_2 k_8 b_9 w
theorem law17_MatchSame_p6_ok (Q : Exit → Env → World → Prop) (g : Env) (w : World) (kn : Value → Value → Value → World → Prop) (hn : ∀ g w, kn (g 2) (g 8) (g 9) w → Q .normal g w) (h : law17_MatchSame_p6 kn (g 0) (g 2) (g 8) (g 9) w) : den pg ann_law17_MatchSame (takeS 1 (dropS 5 code_law17_MatchSame)) Q g w := by
  exact den_seqs 1 (takeS 1 (dropS 5 code_law17_MatchSame)) g w (by kernel_rfl) (law17_MatchSame_p5_ok (thenE (fun g w => den pg ann_law17_MatchSame (dropS 1 (takeS 1 (dropS 5 code_law17_MatchSame))) Q g w) Q) g w (fun c_0 level_2 k_8 b_9 i_10 w => law17_MatchSame_p4 kn c_0 level_2 k_8 b_9 i_10 w) (fun g w h => (law17_MatchSame_p4_ok Q g w kn hn h)) h)

def law17_MatchSame_p7 (R : Value → World → Prop) (c_0 level_2 k_8 b_9 : Value) (w : World) : Prop :=
  law17_MatchSame_p6 (fun level_2 k_8 b_9 w => law17_MatchSame_p1 R level_2 k_8 b_9 w) c_0 level_2 k_8 b_9 w
theorem law17_MatchSame_p7_ok (Q : Exit → Env → World → Prop) (g : Env) (w : World) (R : Value → World → Prop) (hr : ∀ g w, (resVals pg rs_law17_MatchSame g w fun vs => R (tup vs) w) → Q .ret g w) (h : law17_MatchSame_p7 R (g 0) (g 2) (g 8) (g 9) w) : den pg ann_law17_MatchSame (dropS 5 code_law17_MatchSame) Q g w := by
  exact den_seqs 1 (dropS 5 code_law17_MatchSame) g w (by kernel_rfl) (law17_MatchSame_p6_ok (thenE (fun g w => den pg ann_law17_MatchSame (dropS 1 (dropS 5 code_law17_MatchSame)) Q g w) Q) g w (fun level_2 k_8 b_9 w => law17_MatchSame_p1 R level_2 k_8 b_9 w) (fun g w h => (law17_MatchSame_p1_ok Q g w R hr h)) h)

def law17_MatchSame_p8 (kn : Value → Value → Value → Value → World → Prop) (R : Value → World → Prop) (c_0 n_1 level_2 : Value) (w : World) : Prop :=
  Does pg F_law17_awake #[] w fun t14 w =>
  Stp pg (sUn .not t14) w fun t16 w =>
  Cnd t16
    (R (.bool false) w)
    (Stp pg (sBin .rem 30 (.tmp 17) (.const (.int .u16 900)) n_1 (.int .u16 900)) w fun t18 w =>
    Stp pg (sCvt 30 3 t18) w fun t19 w =>
    Stp pg (sMkSlice 22 t19 t19) w fun t21 w =>
    kn c_0 level_2 t19 t21 w)
theorem law17_MatchSame_p8_ok (Q : Exit → Env → World → Prop) (g : Env) (w : World) (kn : Value → Value → Value → Value → World → Prop) (R : Value → World → Prop) (hn : ∀ g w, kn (g 0) (g 2) (g 8) (g 9) w → Q .normal g w) (hr : ∀ g w, (resVals pg rs_law17_MatchSame g w fun vs => R (tup vs) w) → Q .ret g w) (h : law17_MatchSame_p8 kn R (g 0) (g 1) (g 2) w) : den pg ann_law17_MatchSame (takeS 5 code_law17_MatchSame) Q g w := by
  have e : (law17_MatchSame_p8 kn R (g 0) (g 1) (g 2) w) = den pg ann_law17_MatchSame (takeS 5 code_law17_MatchSame) (exQ (fun g w => kn (g 0) (g 2) (g 8) (g 9) w) (fun g w => resVals pg rs_law17_MatchSame g w fun vs => R (tup vs) w) []) g w := by kernel_rfl
  exact den_exQ e h hn hr trivial

def law17_MatchSame_p9 (R : Value → World → Prop) (c_0 n_1 level_2 : Value) (w : World) : Prop :=
  law17_MatchSame_p8 (fun c_0 level_2 k_8 b_9 w => law17_MatchSame_p7 R c_0 level_2 k_8 b_9 w) R c_0 n_1 level_2 w
theorem law17_MatchSame_p9_ok (Q : Exit → Env → World → Prop) (g : Env) (w : World) (R : Value → World → Prop) (hr : ∀ g w, (resVals pg rs_law17_MatchSame g w fun vs => R (tup vs) w) → Q .ret g w) (h : law17_MatchSame_p9 R (g 0) (g 1) (g 2) w) : den pg ann_law17_MatchSame code_law17_MatchSame Q g w := by
  exact den_seqs 5 code_law17_MatchSame g w (by kernel_rfl) (law17_MatchSame_p8_ok (thenE (fun g w => den pg ann_law17_MatchSame (dropS 5 code_law17_MatchSame) Q g w) Q) g w (fun c_0 level_2 k_8 b_9 w => law17_MatchSame_p7 R c_0 level_2 k_8 b_9 w) R (fun g w h => (law17_MatchSame_p7_ok Q g w R hr h)) hr h)

def law17_MatchSame (a0 a1 a2 : Value) (w : World) (R : Value → World → Prop) : Prop :=
  law17_MatchSame_p9 R a0 a1 a2 w
theorem law17_MatchSame_does {a0 a1 a2 : Value} {w : World} {R : Value → World → Prop} (h : law17_MatchSame a0 a1 a2 w R) : Does pg F_law17_MatchSame #[a0, a1, a2] w R := by
  refine does_of_den (ann := ann_law17_MatchSame) (fn := Try.f4) (c := code_law17_MatchSame) (args := [a0, a1, a2]) (rs := rs_law17_MatchSame) (N := 61) TryM.mixed (by kernel_rfl) Try.func4 (by kernel_rfl) (by kernel_rfl) (by kernel_rfl) (of_decide_eq_true (by kernel_rfl)) (by kernel_rfl) ?_
  exact (law17_MatchSame_p9_ok (retQ pg rs_law17_MatchSame R) (envOf [a0, a1, a2]) w R (fun _ _ h => h) h)
-- PIECES law17_MatchSame/0 law17_MatchSame_p1 law17_MatchSame_p3 law17_MatchSame_p4 law17_MatchSame_p5 law17_MatchSame_p6 law17_MatchSame_p7 law17_MatchSame_p8 law17_MatchSame_p9
-- PIECES law17_MatchSame/1 law17_MatchSame_p2

/- lighterman/lightermanlaw17.MatchTwice -/
def ann_law17_MatchTwice : FA := ⟨F_law17_MatchTwice, fun i => .leaf ([], []) []⟩
def rs_law17_MatchTwice : List ResultVar := [.tmp 4]
noncomputable def code_law17_MatchTwice : Code := bodyOf Try.f5
def law17_MatchTwice_p1 (R : Value → World → Prop)  (w : World) : Prop :=
  R (.bool true) w
theorem law17_MatchTwice_p1_ok (Q : Exit → Env → World → Prop) (g : Env) (w : World) (R : Value → World → Prop) (hr : ∀ g w, (resVals pg rs_law17_MatchTwice g w fun vs => R (tup vs) w) → Q .ret g w) (h : law17_MatchTwice_p1 R w) : den pg ann_law17_MatchTwice (dropS 1 (dropS 5 code_law17_MatchTwice)) Q g w := by
  have e : (law17_MatchTwice_p1 R w) = den pg ann_law17_MatchTwice (dropS 1 (dropS 5 code_law17_MatchTwice)) (exQ (fun _ _ => False) (fun g w => resVals pg rs_law17_MatchTwice g w fun vs => R (tup vs) w) []) g w := by kernel_rfl
  exact den_exQ e h (fun _ _ h => h.elim) hr trivial

def law17_MatchTwice_p2 (kn : Value → Value → Value → World → Prop) (k0 : World → Prop) (R : Value → World → Prop) (b_0 all_6 level_7 : Value) (w : World) : Prop :=
  Stp pg (sBin .lss 3 (.tmp 36) (.const (.int .i64 10)) level_7 (.int .i64 10)) w fun t37 w =>
  Cnd t37
    (Stp pg (sCvt 9 22 all_6) w fun t42 w =>
    Stp pg (sBi .len #[9] 3 [all_6]) w fun t44 w =>
    Does pg F_match_Find #[t42, (.int .i64 0), t44, level_7] w fun t46 w =>
    Stp pg (sExtr t46 0) w fun t47 w =>
    Stp pg (sExtr t46 1) w fun t48 w =>
    Stp pg (sExtr t46 2) w fun t49 w =>
    Stp pg (sCvt 9 22 all_6) w fun t52 w =>
    Stp pg (sBi .len #[22] 3 [b_0]) w fun t54 w =>
    Stp pg (sBi .len #[9] 3 [all_6]) w fun t56 w =>
    Does pg F_match_Find #[t52, t54, t56, level_7] w fun t58 w =>
    Stp pg (sExtr t58 0) w fun t59 w =>
    Stp pg (sExtr t58 1) w fun t60 w =>
    Stp pg (sExtr t58 2) w fun t61 w =>
    Stp pg (sBin .neq 25 (.tmp 62) (.const (.int .i64 0)) t49 (.int .i64 0)) w fun t63 w =>
    Gd (isB t63 false) (fun K => K t61 w) w fun t65 w =>
    Gd (isB t63 false) (fun K => Stp pg (sBin .neq 25 (.tmp 65) (.const (.int .i64 0)) t65 (.int .i64 0)) w K) w fun t66 w =>
    Stp pg (sPick t63 (.bool true) t66) w fun t67 w =>
    Gd (isB t67 false) (fun K => K all_6 w) w fun t69 w =>
    Gd (isB t67 false) (fun K => K all_6 w) w fun t70 w =>
    Gd (isB t67 false) (fun K => Stp pg (sBi .len #[9] 3 [t70]) w K) w fun t71 w =>
    Gd (isB t67 false) (fun K => K t47 w) w fun t72 w =>
    Gd (isB t67 false) (fun K => K t48 w) w fun t73 w =>
    Gd (isB t67 false) (fun K => Does pg F_ref17_Plan #[t69, (.int .i64 0), t71, t72, t73] w K) w fun t74 w =>
    Gd (isB t67 false) (fun K => Stp pg (sUn .not t74) w K) w fun t75 w =>
    Stp pg (sPick t67 (.bool true) t75) w fun t76 w =>
    Gd (isB t76 false) (fun K => K all_6 w) w fun t78 w =>
    Gd (isB t76 false) (fun K => K b_0 w) w fun t79 w =>
    Gd (isB t76 false) (fun K => Stp pg (sBi .len #[22] 3 [t79]) w K) w fun t80 w =>
    Gd (isB t76 false) (fun K => K all_6 w) w fun t81 w =>
    Gd (isB t76 false) (fun K => Stp pg (sBi .len #[9] 3 [t81]) w K) w fun t82 w =>
    Gd (isB t76 false) (fun K => K t59 w) w fun t83 w =>
    Gd (isB t76 false) (fun K => K t60 w) w fun t84 w =>
    Gd (isB t76 false) (fun K => Does pg F_ref17_Plan #[t78, t80, t82, t83, t84] w K) w fun t85 w =>
    Gd (isB t76 false) (fun K => Stp pg (sUn .not t85) w K) w fun t86 w =>
    Stp pg (sPick t76 (.bool true) t86) w fun t87 w =>
    Cnd t87
      (R (.bool false) w)
      (Stp pg (sBin .add 3 (.tmp 38) (.const (.int .i64 1)) level_7 (.int .i64 1)) w fun t39 w =>
      kn b_0 all_6 t39 w))
    (k0 w)
theorem law17_MatchTwice_p2_ok (Q : Exit → Env → World → Prop) (g : Env) (w : World) (kn : Value → Value → Value → World → Prop) (k0 : World → Prop) (R : Value → World → Prop) (hn : ∀ g w, kn (g 0) (g 6) (g 7) w → Q .normal g w) (h0 : ∀ g w, k0 w → Q (.exit 0) g w) (hr : ∀ g w, (resVals pg rs_law17_MatchTwice g w fun vs => R (tup vs) w) → Q .ret g w) (h : law17_MatchTwice_p2 kn k0 R (g 0) (g 6) (g 7) w) : den pg ann_law17_MatchTwice (bI (bI (dropS 1 (takeS 1 (dropS 5 code_law17_MatchTwice))))) Q g w := by
  have e : (law17_MatchTwice_p2 kn k0 R (g 0) (g 6) (g 7) w) = den pg ann_law17_MatchTwice (bI (bI (dropS 1 (takeS 1 (dropS 5 code_law17_MatchTwice))))) (exQ (fun g w => kn (g 0) (g 6) (g 7) w) (fun g w => resVals pg rs_law17_MatchTwice g w fun vs => R (tup vs) w) [(0, fun g w => k0 w)]) g w := by kernel_rfl
  exact den_exQ e h hn hr ⟨h0, trivial⟩

def law17_MatchTwice_p3 (k0 : World → Prop) (R : Value → World → Prop) (b_0 all_6 level_7 : Value) (w : World) : Prop :=
  LoopD (fun (X : Value → World → Prop) (t : Value) (w : World) => law17_MatchTwice_p2 (fun _ _ level_7 w => X level_7 w) k0 R b_0 all_6 t w) level_7 w
theorem law17_MatchTwice_p3_ok (Q : Exit → Env → World → Prop) (g : Env) (w : World) (k0 : World → Prop) (R : Value → World → Prop) (h0 : ∀ g w, k0 w → Q (.exit 0) g w) (hr : ∀ g w, (resVals pg rs_law17_MatchTwice g w fun vs => R (tup vs) w) → Q .ret g w) (h : law17_MatchTwice_p3 k0 R (g 0) (g 6) (g 7) w) : den pg ann_law17_MatchTwice (bI (dropS 1 (takeS 1 (dropS 5 code_law17_MatchTwice)))) Q g w := by
  refine den_loops (T := Value) (fun g : Env => g 7) (fun X t w => law17_MatchTwice_p2 (fun _ _ level_7 w => X level_7 w) k0 R (g 0) (g 6) t w) (bI (dropS 1 (takeS 1 (dropS 5 code_law17_MatchTwice)))) (by kernel_rfl) h (fun X g1 w1 ha h1 => ?_)
  rw [← agree_at (s := 0) ha (by kernel_rfl)] at h1
  rw [← agree_at (s := 6) ha (by kernel_rfl)] at h1
  exact (law17_MatchTwice_p2_ok (thenE (fun g2 w2 => X ((fun g : Env => g 7) g2) w2) Q) g1 w1 (fun _ _ level_7 w => X level_7 w) k0 R (fun _ _ h => h) h0 hr h1)

def law17_MatchTwice_p4 (kn : World → Prop) (R : Value → World → Prop) (b_0 all_6 level_7 : Value) (w : World) : Prop :=
  law17_MatchTwice_p3 kn R b_0 all_6 level_7 w
theorem law17_MatchTwice_p4_ok (Q : Exit → Env → World → Prop) (g : Env) (w : World) (kn : World → Prop) (R : Value → World → Prop) (hn : ∀ g w, kn w → Q .normal g w) (hr : ∀ g w, (resVals pg rs_law17_MatchTwice g w fun vs => R (tup vs) w) → Q .ret g w) (h : law17_MatchTwice_p4 kn R (g 0) (g 6) (g 7) w) : den pg ann_law17_MatchTwice (dropS 1 (takeS 1 (dropS 5 code_law17_MatchTwice))) Q g w :=
  den_blk 0 (dropS 1 (takeS 1 (dropS 5 code_law17_MatchTwice))) g w (by kernel_rfl) (law17_MatchTwice_p3_ok (blk 0 Q) g w kn R hn hr h)

def law17_MatchTwice_p5 (kn : Value → Value → Value → World → Prop) (b_0 all_6 : Value) (w : World) : Prop :=
  kn b_0 all_6 (.int .i64 0) w
theorem law17_MatchTwice_p5_ok (Q : Exit → Env → World → Prop) (g : Env) (w : World) (kn : Value → Value → Value → World → Prop) (hn : ∀ g w, kn (g 0) (g 6) (g 7) w → Q .normal g w) (h : law17_MatchTwice_p5 kn (g 0) (g 6) w) : den pg ann_law17_MatchTwice (takeS 1 (takeS 1 (dropS 5 code_law17_MatchTwice))) Q g w := by
  have e : (law17_MatchTwice_p5 kn (g 0) (g 6) w) = den pg ann_law17_MatchTwice (takeS 1 (takeS 1 (dropS 5 code_law17_MatchTwice))) (exQ (fun g w => kn (g 0) (g 6) (g 7) w) (fun _ _ => False) []) g w := by kernel_rfl
  exact den_exQ e h hn (fun _ _ h => h.elim) trivial

def law17_MatchTwice_p6 (kn : World → Prop) (R : Value → World → Prop) (b_0 all_6 : Value) (w : World) : Prop :=
  law17_MatchTwice_p5 (fun b_0 all_6 level_7 w => law17_MatchTwice_p4 kn R b_0 all_6 level_7 w) b_0 all_6 w
theorem law17_MatchTwice_p6_ok (Q : Exit → Env → World → Prop) (g : Env) (w : World) (kn : World → Prop) (R : Value → World → Prop) (hn : ∀ g w, kn w → Q .normal g w) (hr : ∀ g w, (resVals pg rs_law17_MatchTwice g w fun vs => R (tup vs) w) → Q .ret g w) (h : law17_MatchTwice_p6 kn R (g 0) (g 6) w) : den pg ann_law17_MatchTwice (takeS 1 (dropS 5 code_law17_MatchTwice)) Q g w := by
  exact den_seqs 1 (takeS 1 (dropS 5 code_law17_MatchTwice)) g w (by kernel_rfl) (law17_MatchTwice_p5_ok (thenE (fun g w => den pg ann_law17_MatchTwice (dropS 1 (takeS 1 (dropS 5 code_law17_MatchTwice))) Q g w) Q) g w (fun b_0 all_6 level_7 w => law17_MatchTwice_p4 kn R b_0 all_6 level_7 w) (fun g w h => (law17_MatchTwice_p4_ok Q g w kn R hn hr h)) h)

def law17_MatchTwice_p7 (R : Value → World → Prop) (b_0 all_6 : Value) (w : World) : Prop :=
  law17_MatchTwice_p6 (fun  w => law17_MatchTwice_p1 R w) R b_0 all_6 w
theorem law17_MatchTwice_p7_ok (Q : Exit → Env → World → Prop) (g : Env) (w : World) (R : Value → World → Prop) (hr : ∀ g w, (resVals pg rs_law17_MatchTwice g w fun vs => R (tup vs) w) → Q .ret g w) (h : law17_MatchTwice_p7 R (g 0) (g 6) w) : den pg ann_law17_MatchTwice (dropS 5 code_law17_MatchTwice) Q g w := by
  exact den_seqs 1 (dropS 5 code_law17_MatchTwice) g w (by kernel_rfl) (law17_MatchTwice_p6_ok (thenE (fun g w => den pg ann_law17_MatchTwice (dropS 1 (dropS 5 code_law17_MatchTwice)) Q g w) Q) g w (fun  w => law17_MatchTwice_p1 R w) R (fun g w h => (law17_MatchTwice_p1_ok Q g w R hr h)) hr h)

def law17_MatchTwice_p8 (kn : Value → Value → World → Prop) (R : Value → World → Prop) (b_0 more_1 : Value) (w : World) : Prop :=
  Does pg F_law17_awake #[] w fun t14 w =>
  Stp pg (sUn .not t14) w fun t16 w =>
  Cnd t16
    (R (.bool false) w)
    (Stp pg (sBi .len #[22] 3 [b_0]) w fun t18 w =>
    Stp pg (sBin .gtr 3 (.tmp 18) (.const (.int .i64 300)) t18 (.int .i64 300)) w fun t19 w =>
    Gd (isB t19 false) (fun K => K more_1 w) w fun t21 w =>
    Gd (isB t19 false) (fun K => Stp pg (sBi .len #[22] 3 [t21]) w K) w fun t22 w =>
    Gd (isB t19 false) (fun K => Stp pg (sBin .gtr 3 (.tmp 22) (.const (.int .i64 300)) t22 (.int .i64 300)) w K) w fun t23 w =>
    Stp pg (sPick t19 (.bool true) t23) w fun t24 w =>
    Cnd t24
      (R (.bool true) w)
      (Stp pg (sCvt 22 9 b_0) w fun t26 w =>
      Stp pg (sCvt 22 9 more_1) w fun t28 w =>
      Stp pg (sBin .add 9 (.tmp 26) (.tmp 28) t26 t28) w fun t29 w =>
      Stp pg (sCvt 22 9 b_0) w fun t31 w =>
      Stp pg (sBin .add 9 (.tmp 29) (.tmp 31) t29 t31) w fun t32 w =>
      Stp pg (sCvt 22 9 b_0) w fun t34 w =>
      Stp pg (sBin .add 9 (.tmp 32) (.tmp 34) t32 t34) w fun t35 w =>
      kn b_0 t35 w))
theorem law17_MatchTwice_p8_ok (Q : Exit → Env → World → Prop) (g : Env) (w : World) (kn : Value → Value → World → Prop) (R : Value → World → Prop) (hn : ∀ g w, kn (g 0) (g 6) w → Q .normal g w) (hr : ∀ g w, (resVals pg rs_law17_MatchTwice g w fun vs => R (tup vs) w) → Q .ret g w) (h : law17_MatchTwice_p8 kn R (g 0) (g 1) w) : den pg ann_law17_MatchTwice (takeS 5 code_law17_MatchTwice) Q g w := by
  have e : (law17_MatchTwice_p8 kn R (g 0) (g 1) w) = den pg ann_law17_MatchTwice (takeS 5 code_law17_MatchTwice) (exQ (fun g w => kn (g 0) (g 6) w) (fun g w => resVals pg rs_law17_MatchTwice g w fun vs => R (tup vs) w) []) g w := by kernel_rfl
  exact den_exQ e h hn hr trivial

def law17_MatchTwice_p9 (R : Value → World → Prop) (b_0 more_1 : Value) (w : World) : Prop :=
  law17_MatchTwice_p8 (fun b_0 all_6 w => law17_MatchTwice_p7 R b_0 all_6 w) R b_0 more_1 w
theorem law17_MatchTwice_p9_ok (Q : Exit → Env → World → Prop) (g : Env) (w : World) (R : Value → World → Prop) (hr : ∀ g w, (resVals pg rs_law17_MatchTwice g w fun vs => R (tup vs) w) → Q .ret g w) (h : law17_MatchTwice_p9 R (g 0) (g 1) w) : den pg ann_law17_MatchTwice code_law17_MatchTwice Q g w := by
  exact den_seqs 5 code_law17_MatchTwice g w (by kernel_rfl) (law17_MatchTwice_p8_ok (thenE (fun g w => den pg ann_law17_MatchTwice (dropS 5 code_law17_MatchTwice) Q g w) Q) g w (fun b_0 all_6 w => law17_MatchTwice_p7 R b_0 all_6 w) R (fun g w h => (law17_MatchTwice_p7_ok Q g w R hr h)) hr h)

def law17_MatchTwice (a0 a1 : Value) (w : World) (R : Value → World → Prop) : Prop :=
  law17_MatchTwice_p9 R a0 a1 w
theorem law17_MatchTwice_does {a0 a1 : Value} {w : World} {R : Value → World → Prop} (h : law17_MatchTwice a0 a1 w R) : Does pg F_law17_MatchTwice #[a0, a1] w R := by
  refine does_of_den (ann := ann_law17_MatchTwice) (fn := Try.f5) (c := code_law17_MatchTwice) (args := [a0, a1]) (rs := rs_law17_MatchTwice) (N := 88) TryM.mixed (by kernel_rfl) Try.func5 (by kernel_rfl) (by kernel_rfl) (by kernel_rfl) (of_decide_eq_true (by kernel_rfl)) (by kernel_rfl) ?_
  exact (law17_MatchTwice_p9_ok (retQ pg rs_law17_MatchTwice R) (envOf [a0, a1]) w R (fun _ _ h => h) h)
-- PIECES law17_MatchTwice/0 law17_MatchTwice_p1 law17_MatchTwice_p3 law17_MatchTwice_p4 law17_MatchTwice_p5 law17_MatchTwice_p6 law17_MatchTwice_p7 law17_MatchTwice_p8 law17_MatchTwice_p9
-- PIECES law17_MatchTwice/1 law17_MatchTwice_p2

/- lighterman/lightermanlaw17.MatchLevels -/
def ann_law17_MatchLevels : FA := ⟨F_law17_MatchLevels, fun i => .leaf ([], []) []⟩
def rs_law17_MatchLevels : List ResultVar := [.tmp 6]
noncomputable def code_law17_MatchLevels : Code := bodyOf Try.f6
def law17_MatchLevels_p1 (R : Value → World → Prop) (b_0 cut_1 level_2 : Value) (w : World) : Prop :=
  Does pg F_law17_awake #[] w fun t15 w =>
  Stp pg (sUn .not t15) w fun t17 w =>
  Cnd t17
    (R (.bool false) w)
    (Stp pg (sBi .len #[22] 3 [b_0]) w fun t19 w =>
    Stp pg (sBin .gtr 3 (.tmp 19) (.const (.int .i64 600)) t19 (.int .i64 600)) w fun t20 w =>
    Cnd t20
      (R (.bool true) w)
      (Stp pg (sCvt 30 3 cut_1) w fun t22 w =>
      Stp pg (sBi .len #[22] 3 [b_0]) w fun t24 w =>
      Stp pg (sBin .add 3 (.tmp 24) (.const (.int .i64 1)) t24 (.int .i64 1)) w fun t25 w =>
      Stp pg (sBin .rem 3 (.tmp 22) (.tmp 25) t22 t25) w fun t26 w =>
      Stp pg (sBin .rem 5 (.tmp 30) (.const (.int .u8 10)) level_2 (.int .u8 10)) w fun t31 w =>
      Stp pg (sCvt 5 3 t31) w fun t32 w =>
      Does pg F_match_Find #[b_0, (.int .i64 0), t26, t32] w fun t33 w =>
      Stp pg (sExtr t33 0) w fun t34 w =>
      Stp pg (sExtr t33 1) w fun t35 w =>
      Stp pg (sExtr t33 2) w fun t36 w =>
      Stp pg (sBi .len #[22] 3 [b_0]) w fun t41 w =>
      Stp pg (sBin .rem 5 (.tmp 42) (.const (.int .u8 10)) level_2 (.int .u8 10)) w fun t43 w =>
      Stp pg (sCvt 5 3 t43) w fun t44 w =>
      Does pg F_match_Find #[b_0, t26, t41, t44] w fun t45 w =>
      Stp pg (sExtr t45 0) w fun t46 w =>
      Stp pg (sExtr t45 1) w fun t47 w =>
      Stp pg (sExtr t45 2) w fun t48 w =>
      Stp pg (sBin .eql 25 (.tmp 49) (.const (.int .i64 0)) t36 (.int .i64 0)) w fun t50 w =>
      Gd (isB t50 true) (fun K => K t48 w) w fun t52 w =>
      Gd (isB t50 true) (fun K => Stp pg (sBin .eql 25 (.tmp 52) (.const (.int .i64 0)) t52 (.int .i64 0)) w K) w fun t53 w =>
      Stp pg (sPick t50 t53 (.bool false)) w fun t54 w =>
      Gd (isB t54 true) (fun K => K b_0 w) w fun t56 w =>
      Gd (isB t54 true) (fun K => K t26 w) w fun t57 w =>
      Gd (isB t54 true) (fun K => Stp pg (sSlice 22 t56 none (some t57) none) w K) w fun t58 w =>
      Gd (isB t54 true) (fun K => Stp pg (sCvt 22 9 t58) w K) w fun t59 w =>
      Gd (isB t54 true) (fun K => K t26 w) w fun t60 w =>
      Gd (isB t54 true) (fun K => K t34 w) w fun t61 w =>
      Gd (isB t54 true) (fun K => K t35 w) w fun t62 w =>
      Gd (isB t54 true) (fun K => Does pg F_ref17_Plan #[t59, (.int .i64 0), t60, t61, t62] w K) w fun t63 w =>
      Stp pg (sPick t54 t63 (.bool false)) w fun t64 w =>
      Gd (isB t64 true) (fun K => K b_0 w) w fun t66 w =>
      Gd (isB t64 true) (fun K => Stp pg (sCvt 22 9 t66) w K) w fun t67 w =>
      Gd (isB t64 true) (fun K => K t26 w) w fun t68 w =>
      Gd (isB t64 true) (fun K => K b_0 w) w fun t69 w =>
      Gd (isB t64 true) (fun K => Stp pg (sBi .len #[22] 3 [t69]) w K) w fun t70 w =>
      Gd (isB t64 true) (fun K => K t46 w) w fun t71 w =>
      Gd (isB t64 true) (fun K => K t47 w) w fun t72 w =>
      Gd (isB t64 true) (fun K => Does pg F_ref17_Plan #[t67, t68, t70, t71, t72] w K) w fun t73 w =>
      Stp pg (sPick t64 t73 (.bool false)) w fun t74 w =>
      R t74 w))
theorem law17_MatchLevels_p1_ok (Q : Exit → Env → World → Prop) (g : Env) (w : World) (R : Value → World → Prop) (hr : ∀ g w, (resVals pg rs_law17_MatchLevels g w fun vs => R (tup vs) w) → Q .ret g w) (h : law17_MatchLevels_p1 R (g 0) (g 1) (g 2) w) : den pg ann_law17_MatchLevels code_law17_MatchLevels Q g w := by
  have e : (law17_MatchLevels_p1 R (g 0) (g 1) (g 2) w) = den pg ann_law17_MatchLevels code_law17_MatchLevels (exQ (fun _ _ => False) (fun g w => resVals pg rs_law17_MatchLevels g w fun vs => R (tup vs) w) []) g w := by kernel_rfl
  exact den_exQ e h (fun _ _ h => h.elim) hr trivial

def law17_MatchLevels (a0 a1 a2 : Value) (w : World) (R : Value → World → Prop) : Prop :=
  law17_MatchLevels_p1 R a0 a1 a2 w
theorem law17_MatchLevels_does {a0 a1 a2 : Value} {w : World} {R : Value → World → Prop} (h : law17_MatchLevels a0 a1 a2 w R) : Does pg F_law17_MatchLevels #[a0, a1, a2] w R := by
  refine does_of_den (ann := ann_law17_MatchLevels) (fn := Try.f6) (c := code_law17_MatchLevels) (args := [a0, a1, a2]) (rs := rs_law17_MatchLevels) (N := 75) TryM.mixed (by kernel_rfl) Try.func6 (by kernel_rfl) (by kernel_rfl) (by kernel_rfl) (of_decide_eq_true (by kernel_rfl)) (by kernel_rfl) ?_
  exact (law17_MatchLevels_p1_ok (retQ pg rs_law17_MatchLevels R) (envOf [a0, a1, a2]) w R (fun _ _ h => h) h)
-- PIECES law17_MatchLevels/0 law17_MatchLevels_p1

/- lighterman/lightermanlaw17.awake -/
def ann_law17_awake : FA := ⟨F_law17_awake, fun i => .leaf ([], []) []⟩
def rs_law17_awake : List ResultVar := [.tmp 0]
noncomputable def code_law17_awake : Code := bodyOf Try.f7
def law17_awake_p1 (R : Value → World → Prop)  (w : World) : Prop :=
  Stp pg (sMkSlice 22 (.int .i64 9) (.int .i64 9)) w fun t11 w =>
  Does pg F_match_Find #[t11, (.int .i64 0), (.int .i64 9), (.int .i64 0)] w fun t12 w =>
  Stp pg (sExtr t12 0) w fun t13 w =>
  Stp pg (sExtr t12 1) w fun t14 w =>
  Stp pg (sExtr t12 2) w fun t15 w =>
  Stp pg (sBuildSlice 22 16 [(0, (.int .u8 97)), (1, (.int .u8 98)), (2, (.int .u8 99)), (3, (.int .u8 100)), (4, (.int .u8 101)), (5, (.int .u8 102)), (6, (.int .u8 103)), (7, (.int .u8 104)), (8, (.int .u8 97)), (9, (.int .u8 98)), (10, (.int .u8 99)), (11, (.int .u8 100)), (12, (.int .u8 101)), (13, (.int .u8 102)), (14, (.int .u8 103)), (15, (.int .u8 104))]) w fun t17 w =>
  Stp pg (sCvt 22 22 t17) w fun t18 w =>
  Does pg F_match_Find #[t18, (.int .i64 0), (.int .i64 16), (.int .i64 5)] w fun t19 w =>
  Stp pg (sExtr t19 0) w fun t20 w =>
  Stp pg (sExtr t19 1) w fun t21 w =>
  Stp pg (sExtr t19 2) w fun t22 w =>
  Does pg F_match_Find #[(.slice none 0 0), (.int .i64 0), (.int .i64 1), (.int .i64 0)] w fun t24 w =>
  Stp pg (sExtr t24 0) w fun t25 w =>
  Stp pg (sExtr t24 1) w fun t26 w =>
  Stp pg (sExtr t24 2) w fun t27 w =>
  Stp pg (sBi .len #[24] 3 [t13]) w fun t29 w =>
  Stp pg (sBin .eql 3 (.tmp 29) (.const (.int .i64 0)) t29 (.int .i64 0)) w fun t30 w =>
  Gd (isB t30 true) (fun K => K t14 w) w fun t32 w =>
  Gd (isB t30 true) (fun K => Stp pg (sBin .eql 3 (.tmp 32) (.const (.int .i64 9)) t32 (.int .i64 9)) w K) w fun t33 w =>
  Stp pg (sPick t30 t33 (.bool false)) w fun t34 w =>
  Gd (isB t34 true) (fun K => K t15 w) w fun t36 w =>
  Gd (isB t34 true) (fun K => Stp pg (sBin .eql 25 (.tmp 36) (.const (.int .i64 0)) t36 (.int .i64 0)) w K) w fun t37 w =>
  Stp pg (sPick t34 t37 (.bool false)) w fun t38 w =>
  Gd (isB t38 true) (fun K => K t22 w) w fun t40 w =>
  Gd (isB t38 true) (fun K => Stp pg (sBin .eql 25 (.tmp 40) (.const (.int .i64 0)) t40 (.int .i64 0)) w K) w fun t41 w =>
  Stp pg (sPick t38 t41 (.bool false)) w fun t42 w =>
  Gd (isB t42 true) (fun K => K t20 w) w fun t44 w =>
  Gd (isB t42 true) (fun K => K t21 w) w fun t45 w =>
  Gd (isB t42 true) (fun K => Does pg F_ref17_Plan #[(.string ⟨#[97, 98, 99, 100, 101, 102, 103, 104, 97, 98, 99, 100, 101, 102, 103, 104]⟩), (.int .i64 0), (.int .i64 16), t44, t45] w K) w fun t46 w =>
  Stp pg (sPick t42 t46 (.bool false)) w fun t47 w =>
  Gd (isB t47 true) (fun K => K t27 w) w fun t49 w =>
  Gd (isB t47 true) (fun K => Stp pg (sBin .eql 25 (.tmp 49) (.const (.int .i64 1)) t49 (.int .i64 1)) w K) w fun t50 w =>
  Stp pg (sPick t47 t50 (.bool false)) w fun t51 w =>
  R t51 w
theorem law17_awake_p1_ok (Q : Exit → Env → World → Prop) (g : Env) (w : World) (R : Value → World → Prop) (hr : ∀ g w, (resVals pg rs_law17_awake g w fun vs => R (tup vs) w) → Q .ret g w) (h : law17_awake_p1 R w) : den pg ann_law17_awake code_law17_awake Q g w := by
  have e : (law17_awake_p1 R w) = den pg ann_law17_awake code_law17_awake (exQ (fun _ _ => False) (fun g w => resVals pg rs_law17_awake g w fun vs => R (tup vs) w) []) g w := by kernel_rfl
  exact den_exQ e h (fun _ _ h => h.elim) hr trivial

def law17_awake (w : World) (R : Value → World → Prop) : Prop :=
  law17_awake_p1 R w
theorem law17_awake_does {w : World} {R : Value → World → Prop} (h : law17_awake w R) : Does pg F_law17_awake #[] w R := by
  refine does_of_den (ann := ann_law17_awake) (fn := Try.f7) (c := code_law17_awake) (args := []) (rs := rs_law17_awake) (N := 52) TryM.mixed (by kernel_rfl) Try.func7 (by kernel_rfl) (by kernel_rfl) (by kernel_rfl) (of_decide_eq_true (by kernel_rfl)) (by kernel_rfl) ?_
  exact (law17_awake_p1_ok (retQ pg rs_law17_awake R) (envOf []) w R (fun _ _ h => h) h)
-- PIECES law17_awake/0 law17_awake_p1

/- lighterman/match.Find -/
def ann_match_Find : FA := ⟨F_match_Find, fun i => match Nat.beq i 5 with | true => .split 2 4 (.perm [0, 1, 2, 3, 4, 5, 6, 7, 8, 9] [(2, 4)] ([2, 4, 8], [(2, 6), (4, 6)]) [(false, []), (false, []), (true, []), (false, []), (true, []), (false, []), (false, [1, 3]), (false, []), (true, []), (false, [])]) (.perm [0, 1, 3, 4, 2, 5, 6, 7, 8, 9] [(4, 2)] ([3, 4, 8], [(3, 6), (4, 6)]) [(false, []), (false, []), (false, []), (true, []), (true, []), (false, []), (false, [1, 2]), (false, []), (true, []), (false, [])]) | false => .leaf ([], []) []⟩
def rs_match_Find : List ResultVar := [.tmp 8, .tmp 9, .tmp 10]
noncomputable def code_match_Find : Code := bodyOf Try.f8
def match_Find_p1 (R : Value → World → Prop) (t2 out_13 begun_14 : Value) (w : World) : Prop :=
  Stp pg (sBin .sub 3 (.tmp 133) (.tmp 134) t2 begun_14) w fun t135 w =>
  R (.tuple #[out_13, t135, (.int .i64 0)]) w
theorem match_Find_p1_ok (Q : Exit → Env → World → Prop) (g : Env) (w : World) (R : Value → World → Prop) (hr : ∀ g w, (resVals pg rs_match_Find g w fun vs => R (tup vs) w) → Q .ret g w) (h : match_Find_p1 R (g 2) (g 13) (g 14) w) : den pg ann_match_Find (dropS 1 (dropS 2 (dropS 1 (dropS 4 code_match_Find)))) Q g w := by
  have e : (match_Find_p1 R (g 2) (g 13) (g 14) w) = den pg ann_match_Find (dropS 1 (dropS 2 (dropS 1 (dropS 4 code_match_Find)))) (exQ (fun _ _ => False) (fun g w => resVals pg rs_match_Find g w fun vs => R (tup vs) w) []) g w := by kernel_rfl
  exact den_exQ e h (fun _ _ h => h.elim) hr trivial

def match_Find_p2 (kn : Value → Value → Value → Value → Value → Value → World → Prop) (t2 level_3 f_11 out_13 at_15 : Value) (w : World) : Prop :=
  kn t2 level_3 f_11 out_13 at_15 at_15 w
theorem match_Find_p2_ok (Q : Exit → Env → World → Prop) (g : Env) (w : World) (kn : Value → Value → Value → Value → Value → Value → World → Prop) (hn : ∀ g w, kn (g 2) (g 3) (g 11) (g 13) (g 14) (g 15) w → Q .normal g w) (h : match_Find_p2 kn (g 2) (g 3) (g 11) (g 13) (g 15) w) : den pg ann_match_Find (dropS 1 (dropS 1 (dropS 3 (bI (dropS 1 (bI (bI (dropS 1 (takeS 1 (dropS 2 (dropS 1 (dropS 4 code_match_Find)))))))))))) Q g w := by
  have e : (match_Find_p2 kn (g 2) (g 3) (g 11) (g 13) (g 15) w) = den pg ann_match_Find (dropS 1 (dropS 1 (dropS 3 (bI (dropS 1 (bI (bI (dropS 1 (takeS 1 (dropS 2 (dropS 1 (dropS 4 code_match_Find)))))))))))) (exQ (fun g w => kn (g 2) (g 3) (g 11) (g 13) (g 14) (g 15) w) (fun _ _ => False) []) g w := by kernel_rfl
  exact den_exQ e h hn (fun _ _ h => h.elim) trivial

def match_Find_p3 (kn : Value → Value → Value → Value → Value → Value → World → Prop) (k4 : Value → Value → Value → Value → Value → World → Prop) (t2 level_3 f_11 out_13 at_15 end_20 : Value) (w : World) : Prop :=
  Stp pg (sBin .lss 3 (.tmp 123) (.tmp 124) at_15 end_20) w fun t125 w =>
  Cnd t125
    (Does pg F_match_finder_note #[f_11, at_15] w fun t130 w =>
    Stp pg (sBin .add 3 (.tmp 126) (.const (.int .i64 1)) at_15 (.int .i64 1)) w fun t127 w =>
    kn t2 level_3 f_11 out_13 t127 end_20 w)
    (k4 t2 level_3 f_11 out_13 at_15 w)
theorem match_Find_p3_ok (Q : Exit → Env → World → Prop) (g : Env) (w : World) (kn : Value → Value → Value → Value → Value → Value → World → Prop) (k4 : Value → Value → Value → Value → Value → World → Prop) (hn : ∀ g w, kn (g 2) (g 3) (g 11) (g 13) (g 15) (g 20) w → Q .normal g w) (h4 : ∀ g w, k4 (g 2) (g 3) (g 11) (g 13) (g 15) w → Q (.exit 4) g w) (h : match_Find_p3 kn k4 (g 2) (g 3) (g 11) (g 13) (g 15) (g 20) w) : den pg ann_match_Find (bI (bI (dropS 1 (takeS 1 (dropS 1 (dropS 3 (bI (dropS 1 (bI (bI (dropS 1 (takeS 1 (dropS 2 (dropS 1 (dropS 4 code_match_Find))))))))))))))) Q g w := by
  have e : (match_Find_p3 kn k4 (g 2) (g 3) (g 11) (g 13) (g 15) (g 20) w) = den pg ann_match_Find (bI (bI (dropS 1 (takeS 1 (dropS 1 (dropS 3 (bI (dropS 1 (bI (bI (dropS 1 (takeS 1 (dropS 2 (dropS 1 (dropS 4 code_match_Find))))))))))))))) (exQ (fun g w => kn (g 2) (g 3) (g 11) (g 13) (g 15) (g 20) w) (fun _ _ => False) [(4, fun g w => k4 (g 2) (g 3) (g 11) (g 13) (g 15) w)]) g w := by kernel_rfl
  exact den_exQ e h hn (fun _ _ h => h.elim) ⟨h4, trivial⟩

def match_Find_p4 (k4 : Value → Value → Value → Value → Value → World → Prop) (t2 level_3 f_11 out_13 at_15 end_20 : Value) (w : World) : Prop :=
  LoopD (fun (X : Value → World → Prop) (t : Value) (w : World) => match_Find_p3 (fun _ _ _ _ at_15 _ w => X at_15 w) k4 t2 level_3 f_11 out_13 t end_20 w) at_15 w
theorem match_Find_p4_ok (Q : Exit → Env → World → Prop) (g : Env) (w : World) (k4 : Value → Value → Value → Value → Value → World → Prop) (h4 : ∀ g w, k4 (g 2) (g 3) (g 11) (g 13) (g 15) w → Q (.exit 4) g w) (h : match_Find_p4 k4 (g 2) (g 3) (g 11) (g 13) (g 15) (g 20) w) : den pg ann_match_Find (bI (dropS 1 (takeS 1 (dropS 1 (dropS 3 (bI (dropS 1 (bI (bI (dropS 1 (takeS 1 (dropS 2 (dropS 1 (dropS 4 code_match_Find)))))))))))))) Q g w := by
  refine den_loops (T := Value) (fun g : Env => g 15) (fun X t w => match_Find_p3 (fun _ _ _ _ at_15 _ w => X at_15 w) k4 (g 2) (g 3) (g 11) (g 13) t (g 20) w) (bI (dropS 1 (takeS 1 (dropS 1 (dropS 3 (bI (dropS 1 (bI (bI (dropS 1 (takeS 1 (dropS 2 (dropS 1 (dropS 4 code_match_Find)))))))))))))) (by kernel_rfl) h (fun X g1 w1 ha h1 => ?_)
  rw [← agree_at (s := 2) ha (by kernel_rfl)] at h1
  rw [← agree_at (s := 3) ha (by kernel_rfl)] at h1
  rw [← agree_at (s := 11) ha (by kernel_rfl)] at h1
  rw [← agree_at (s := 13) ha (by kernel_rfl)] at h1
  rw [← agree_at (s := 20) ha (by kernel_rfl)] at h1
  exact (match_Find_p3_ok (thenE (fun g2 w2 => X ((fun g : Env => g 15) g2) w2) Q) g1 w1 (fun _ _ _ _ at_15 _ w => X at_15 w) k4 (fun _ _ h => h) h4 h1)

def match_Find_p5 (kn : Value → Value → Value → Value → Value → World → Prop) (t2 level_3 f_11 out_13 at_15 end_20 : Value) (w : World) : Prop :=
  match_Find_p4 kn t2 level_3 f_11 out_13 at_15 end_20 w
theorem match_Find_p5_ok (Q : Exit → Env → World → Prop) (g : Env) (w : World) (kn : Value → Value → Value → Value → Value → World → Prop) (hn : ∀ g w, kn (g 2) (g 3) (g 11) (g 13) (g 15) w → Q .normal g w) (h : match_Find_p5 kn (g 2) (g 3) (g 11) (g 13) (g 15) (g 20) w) : den pg ann_match_Find (dropS 1 (takeS 1 (dropS 1 (dropS 3 (bI (dropS 1 (bI (bI (dropS 1 (takeS 1 (dropS 2 (dropS 1 (dropS 4 code_match_Find))))))))))))) Q g w :=
  den_blk 4 (dropS 1 (takeS 1 (dropS 1 (dropS 3 (bI (dropS 1 (bI (bI (dropS 1 (takeS 1 (dropS 2 (dropS 1 (dropS 4 code_match_Find))))))))))))) g w (by kernel_rfl) (match_Find_p4_ok (blk 4 Q) g w kn hn h)

def match_Find_p6 (kn : Value → Value → Value → Value → Value → Value → World → Prop) (t2 level_3 f_11 out_13 at_15 n_16 : Value) (w : World) : Prop :=
  Stp pg (sBin .add 3 (.tmp 120) (.tmp 121) at_15 n_16) w fun t122 w =>
  kn t2 level_3 f_11 out_13 at_15 t122 w
theorem match_Find_p6_ok (Q : Exit → Env → World → Prop) (g : Env) (w : World) (kn : Value → Value → Value → Value → Value → Value → World → Prop) (hn : ∀ g w, kn (g 2) (g 3) (g 11) (g 13) (g 15) (g 20) w → Q .normal g w) (h : match_Find_p6 kn (g 2) (g 3) (g 11) (g 13) (g 15) (g 16) w) : den pg ann_match_Find (takeS 1 (takeS 1 (dropS 1 (dropS 3 (bI (dropS 1 (bI (bI (dropS 1 (takeS 1 (dropS 2 (dropS 1 (dropS 4 code_match_Find))))))))))))) Q g w := by
  have e : (match_Find_p6 kn (g 2) (g 3) (g 11) (g 13) (g 15) (g 16) w) = den pg ann_match_Find (takeS 1 (takeS 1 (dropS 1 (dropS 3 (bI (dropS 1 (bI (bI (dropS 1 (takeS 1 (dropS 2 (dropS 1 (dropS 4 code_match_Find))))))))))))) (exQ (fun g w => kn (g 2) (g 3) (g 11) (g 13) (g 15) (g 20) w) (fun _ _ => False) []) g w := by kernel_rfl
  exact den_exQ e h hn (fun _ _ h => h.elim) trivial

def match_Find_p7 (kn : Value → Value → Value → Value → Value → World → Prop) (t2 level_3 f_11 out_13 at_15 n_16 : Value) (w : World) : Prop :=
  match_Find_p6 (fun t2 level_3 f_11 out_13 at_15 end_20 w => match_Find_p5 kn t2 level_3 f_11 out_13 at_15 end_20 w) t2 level_3 f_11 out_13 at_15 n_16 w
theorem match_Find_p7_ok (Q : Exit → Env → World → Prop) (g : Env) (w : World) (kn : Value → Value → Value → Value → Value → World → Prop) (hn : ∀ g w, kn (g 2) (g 3) (g 11) (g 13) (g 15) w → Q .normal g w) (h : match_Find_p7 kn (g 2) (g 3) (g 11) (g 13) (g 15) (g 16) w) : den pg ann_match_Find (takeS 1 (dropS 1 (dropS 3 (bI (dropS 1 (bI (bI (dropS 1 (takeS 1 (dropS 2 (dropS 1 (dropS 4 code_match_Find)))))))))))) Q g w := by
  exact den_seqs 1 (takeS 1 (dropS 1 (dropS 3 (bI (dropS 1 (bI (bI (dropS 1 (takeS 1 (dropS 2 (dropS 1 (dropS 4 code_match_Find)))))))))))) g w (by kernel_rfl) (match_Find_p6_ok (thenE (fun g w => den pg ann_match_Find (dropS 1 (takeS 1 (dropS 1 (dropS 3 (bI (dropS 1 (bI (bI (dropS 1 (takeS 1 (dropS 2 (dropS 1 (dropS 4 code_match_Find))))))))))))) Q g w) Q) g w (fun t2 level_3 f_11 out_13 at_15 end_20 w => match_Find_p5 kn t2 level_3 f_11 out_13 at_15 end_20 w) (fun g w h => (match_Find_p5_ok Q g w kn hn h)) h)

def match_Find_p8 (kn : Value → Value → Value → Value → Value → Value → World → Prop) (t2 level_3 f_11 out_13 at_15 n_16 : Value) (w : World) : Prop :=
  match_Find_p7 (fun t2 level_3 f_11 out_13 at_15 w => match_Find_p2 kn t2 level_3 f_11 out_13 at_15 w) t2 level_3 f_11 out_13 at_15 n_16 w
theorem match_Find_p8_ok (Q : Exit → Env → World → Prop) (g : Env) (w : World) (kn : Value → Value → Value → Value → Value → Value → World → Prop) (hn : ∀ g w, kn (g 2) (g 3) (g 11) (g 13) (g 14) (g 15) w → Q .normal g w) (h : match_Find_p8 kn (g 2) (g 3) (g 11) (g 13) (g 15) (g 16) w) : den pg ann_match_Find (dropS 1 (dropS 3 (bI (dropS 1 (bI (bI (dropS 1 (takeS 1 (dropS 2 (dropS 1 (dropS 4 code_match_Find))))))))))) Q g w := by
  exact den_seqs 1 (dropS 1 (dropS 3 (bI (dropS 1 (bI (bI (dropS 1 (takeS 1 (dropS 2 (dropS 1 (dropS 4 code_match_Find))))))))))) g w (by kernel_rfl) (match_Find_p7_ok (thenE (fun g w => den pg ann_match_Find (dropS 1 (dropS 1 (dropS 3 (bI (dropS 1 (bI (bI (dropS 1 (takeS 1 (dropS 2 (dropS 1 (dropS 4 code_match_Find)))))))))))) Q g w) Q) g w (fun t2 level_3 f_11 out_13 at_15 w => match_Find_p2 kn t2 level_3 f_11 out_13 at_15 w) (fun g w h => (match_Find_p2_ok Q g w kn hn h)) h)

def match_Find_p9 (kn : Value → Value → Value → Value → Value → Value → World → Prop) (t2 level_3 f_11 out_13 begun_14 at_15 n_16 off_17 : Value) (w : World) : Prop :=
  Stp pg (sBin .sub 3 (.tmp 109) (.tmp 110) at_15 begun_14) w fun t111 w =>
  Stp pg (sCvt 3 42 t111) w fun t112 w =>
  Stp pg (sCvt 3 42 n_16) w fun t114 w =>
  Stp pg (sCvt 3 42 off_17) w fun t116 w =>
  Stp pg (sBuild 44 [(0, t112), (1, t114), (2, t116)]) w fun t117 w =>
  Stp pg (sBuildSlice 24 1 [(0, t117)]) w fun t118 w =>
  Stp pg (sBi .append #[24, 24] 24 [out_13, t118]) w fun t119 w =>
  kn t2 level_3 f_11 t119 at_15 n_16 w
theorem match_Find_p9_ok (Q : Exit → Env → World → Prop) (g : Env) (w : World) (kn : Value → Value → Value → Value → Value → Value → World → Prop) (hn : ∀ g w, kn (g 2) (g 3) (g 11) (g 13) (g 15) (g 16) w → Q .normal g w) (h : match_Find_p9 kn (g 2) (g 3) (g 11) (g 13) (g 14) (g 15) (g 16) (g 17) w) : den pg ann_match_Find (takeS 1 (dropS 3 (bI (dropS 1 (bI (bI (dropS 1 (takeS 1 (dropS 2 (dropS 1 (dropS 4 code_match_Find))))))))))) Q g w := by
  have e : (match_Find_p9 kn (g 2) (g 3) (g 11) (g 13) (g 14) (g 15) (g 16) (g 17) w) = den pg ann_match_Find (takeS 1 (dropS 3 (bI (dropS 1 (bI (bI (dropS 1 (takeS 1 (dropS 2 (dropS 1 (dropS 4 code_match_Find))))))))))) (exQ (fun g w => kn (g 2) (g 3) (g 11) (g 13) (g 15) (g 16) w) (fun _ _ => False) []) g w := by kernel_rfl
  exact den_exQ e h hn (fun _ _ h => h.elim) trivial

def match_Find_p10 (kn : Value → Value → Value → Value → Value → Value → World → Prop) (t2 level_3 f_11 out_13 begun_14 at_15 n_16 off_17 : Value) (w : World) : Prop :=
  match_Find_p9 (fun t2 level_3 f_11 out_13 at_15 n_16 w => match_Find_p8 kn t2 level_3 f_11 out_13 at_15 n_16 w) t2 level_3 f_11 out_13 begun_14 at_15 n_16 off_17 w
theorem match_Find_p10_ok (Q : Exit → Env → World → Prop) (g : Env) (w : World) (kn : Value → Value → Value → Value → Value → Value → World → Prop) (hn : ∀ g w, kn (g 2) (g 3) (g 11) (g 13) (g 14) (g 15) w → Q .normal g w) (h : match_Find_p10 kn (g 2) (g 3) (g 11) (g 13) (g 14) (g 15) (g 16) (g 17) w) : den pg ann_match_Find (dropS 3 (bI (dropS 1 (bI (bI (dropS 1 (takeS 1 (dropS 2 (dropS 1 (dropS 4 code_match_Find)))))))))) Q g w := by
  exact den_seqs 1 (dropS 3 (bI (dropS 1 (bI (bI (dropS 1 (takeS 1 (dropS 2 (dropS 1 (dropS 4 code_match_Find)))))))))) g w (by kernel_rfl) (match_Find_p9_ok (thenE (fun g w => den pg ann_match_Find (dropS 1 (dropS 3 (bI (dropS 1 (bI (bI (dropS 1 (takeS 1 (dropS 2 (dropS 1 (dropS 4 code_match_Find))))))))))) Q g w) Q) g w (fun t2 level_3 f_11 out_13 at_15 n_16 w => match_Find_p8 kn t2 level_3 f_11 out_13 at_15 n_16 w) (fun g w h => (match_Find_p8_ok Q g w kn hn h)) h)

def match_Find_p11 (kn : Value → Value → Value → Value → Value → Value → Value → Value → World → Prop) (k3 : Value → Value → Value → Value → Value → Value → World → Prop) (t2 level_3 f_11 out_13 begun_14 at_15 : Value) (w : World) : Prop :=
  Does pg F_match_finder_best #[f_11, at_15] w fun t72 w =>
  Stp pg (sExtr t72 0) w fun t73 w =>
  Stp pg (sExtr t72 1) w fun t74 w =>
  Stp pg (sBin .lss 3 (.tmp 75) (.const (.int .i64 4)) t73 (.int .i64 4)) w fun t76 w =>
  Cnd t76
    (Does pg F_match_finder_note #[f_11, at_15] w fun t79 w =>
    Stp pg (sBin .add 3 (.tmp 80) (.const (.int .i64 1)) at_15 (.int .i64 1)) w fun t81 w =>
    k3 t2 level_3 f_11 out_13 begun_14 t81 w)
    (Stp pg (sBin .gtr 3 (.tmp 82) (.const (.int .i64 4)) level_3 (.int .i64 4)) w fun t83 w =>
    Gd (isB t83 true) (fun K => K at_15 w) w fun t85 w =>
    Gd (isB t83 true) (fun K => Stp pg (sBin .add 3 (.tmp 85) (.const (.int .i64 1)) t85 (.int .i64 1)) w K) w fun t86 w =>
    Gd (isB t83 true) (fun K => K t2 w) w fun t87 w =>
    Gd (isB t83 true) (fun K => Stp pg (sBin .lss 3 (.tmp 86) (.tmp 87) t86 t87) w K) w fun t88 w =>
    Stp pg (sPick t83 t88 (.bool false)) w fun t89 w =>
    Cnd t89
      (Does pg F_match_finder_note #[f_11, at_15] w fun t92 w =>
      Stp pg (sBin .add 3 (.tmp 95) (.const (.int .i64 1)) at_15 (.int .i64 1)) w fun t96 w =>
      Does pg F_match_finder_best #[f_11, t96] w fun t97 w =>
      Stp pg (sExtr t97 0) w fun t98 w =>
      Stp pg (sExtr t97 1) w fun t99 w =>
      Stp pg (sBin .add 3 (.tmp 101) (.const (.int .i64 1)) t73 (.int .i64 1)) w fun t102 w =>
      Stp pg (sBin .gtr 3 (.tmp 100) (.tmp 102) t98 t102) w fun t103 w =>
      Cnd t103
        (Stp pg (sBin .add 3 (.tmp 104) (.const (.int .i64 1)) at_15 (.int .i64 1)) w fun t105 w =>
        kn t2 level_3 f_11 out_13 begun_14 t105 t98 t99 w)
        (kn t2 level_3 f_11 out_13 begun_14 at_15 t73 t74 w))
      (kn t2 level_3 f_11 out_13 begun_14 at_15 t73 t74 w))
theorem match_Find_p11_ok (Q : Exit → Env → World → Prop) (g : Env) (w : World) (kn : Value → Value → Value → Value → Value → Value → Value → Value → World → Prop) (k3 : Value → Value → Value → Value → Value → Value → World → Prop) (hn : ∀ g w, kn (g 2) (g 3) (g 11) (g 13) (g 14) (g 15) (g 16) (g 17) w → Q .normal g w) (h3 : ∀ g w, k3 (g 2) (g 3) (g 11) (g 13) (g 14) (g 15) w → Q (.exit 3) g w) (h : match_Find_p11 kn k3 (g 2) (g 3) (g 11) (g 13) (g 14) (g 15) w) : den pg ann_match_Find (takeS 3 (bI (dropS 1 (bI (bI (dropS 1 (takeS 1 (dropS 2 (dropS 1 (dropS 4 code_match_Find)))))))))) Q g w := by
  have e : (match_Find_p11 kn k3 (g 2) (g 3) (g 11) (g 13) (g 14) (g 15) w) = den pg ann_match_Find (takeS 3 (bI (dropS 1 (bI (bI (dropS 1 (takeS 1 (dropS 2 (dropS 1 (dropS 4 code_match_Find)))))))))) (exQ (fun g w => kn (g 2) (g 3) (g 11) (g 13) (g 14) (g 15) (g 16) (g 17) w) (fun _ _ => False) [(3, fun g w => k3 (g 2) (g 3) (g 11) (g 13) (g 14) (g 15) w)]) g w := by kernel_rfl
  exact den_exQ e h hn (fun _ _ h => h.elim) ⟨h3, trivial⟩

def match_Find_p12 (kn : Value → Value → Value → Value → Value → Value → World → Prop) (k3 : Value → Value → Value → Value → Value → Value → World → Prop) (t2 level_3 f_11 out_13 begun_14 at_15 : Value) (w : World) : Prop :=
  match_Find_p11 (fun t2 level_3 f_11 out_13 begun_14 at_15 n_16 off_17 w => match_Find_p10 kn t2 level_3 f_11 out_13 begun_14 at_15 n_16 off_17 w) k3 t2 level_3 f_11 out_13 begun_14 at_15 w
theorem match_Find_p12_ok (Q : Exit → Env → World → Prop) (g : Env) (w : World) (kn : Value → Value → Value → Value → Value → Value → World → Prop) (k3 : Value → Value → Value → Value → Value → Value → World → Prop) (hn : ∀ g w, kn (g 2) (g 3) (g 11) (g 13) (g 14) (g 15) w → Q .normal g w) (h3 : ∀ g w, k3 (g 2) (g 3) (g 11) (g 13) (g 14) (g 15) w → Q (.exit 3) g w) (h : match_Find_p12 kn k3 (g 2) (g 3) (g 11) (g 13) (g 14) (g 15) w) : den pg ann_match_Find (bI (dropS 1 (bI (bI (dropS 1 (takeS 1 (dropS 2 (dropS 1 (dropS 4 code_match_Find))))))))) Q g w := by
  exact den_seqs 3 (bI (dropS 1 (bI (bI (dropS 1 (takeS 1 (dropS 2 (dropS 1 (dropS 4 code_match_Find))))))))) g w (by kernel_rfl) (match_Find_p11_ok (thenE (fun g w => den pg ann_match_Find (dropS 3 (bI (dropS 1 (bI (bI (dropS 1 (takeS 1 (dropS 2 (dropS 1 (dropS 4 code_match_Find)))))))))) Q g w) Q) g w (fun t2 level_3 f_11 out_13 begun_14 at_15 n_16 off_17 w => match_Find_p10 kn t2 level_3 f_11 out_13 begun_14 at_15 n_16 off_17 w) k3 (fun g w h => (match_Find_p10_ok Q g w kn hn h)) h3 h)

def match_Find_p13 (kn : Value → Value → Value → Value → Value → Value → World → Prop) (t2 level_3 f_11 out_13 begun_14 at_15 : Value) (w : World) : Prop :=
  match_Find_p12 kn kn t2 level_3 f_11 out_13 begun_14 at_15 w
theorem match_Find_p13_ok (Q : Exit → Env → World → Prop) (g : Env) (w : World) (kn : Value → Value → Value → Value → Value → Value → World → Prop) (hn : ∀ g w, kn (g 2) (g 3) (g 11) (g 13) (g 14) (g 15) w → Q .normal g w) (h : match_Find_p13 kn (g 2) (g 3) (g 11) (g 13) (g 14) (g 15) w) : den pg ann_match_Find (dropS 1 (bI (bI (dropS 1 (takeS 1 (dropS 2 (dropS 1 (dropS 4 code_match_Find)))))))) Q g w :=
  den_blk 3 (dropS 1 (bI (bI (dropS 1 (takeS 1 (dropS 2 (dropS 1 (dropS 4 code_match_Find)))))))) g w (by kernel_rfl) (match_Find_p12_ok (blk 3 Q) g w kn kn hn hn h)

def match_Find_p14 (kn : Value → Value → Value → Value → Value → Value → World → Prop) (k2 : Value → Value → Value → World → Prop) (t2 level_3 f_11 out_13 begun_14 at_15 : Value) (w : World) : Prop :=
  Stp pg (sBin .lss 3 (.tmp 66) (.tmp 67) at_15 t2) w fun t68 w =>
  Cnd t68
    (kn t2 level_3 f_11 out_13 begun_14 at_15 w)
    (k2 t2 out_13 begun_14 w)
theorem match_Find_p14_ok (Q : Exit → Env → World → Prop) (g : Env) (w : World) (kn : Value → Value → Value → Value → Value → Value → World → Prop) (k2 : Value → Value → Value → World → Prop) (hn : ∀ g w, kn (g 2) (g 3) (g 11) (g 13) (g 14) (g 15) w → Q .normal g w) (h2 : ∀ g w, k2 (g 2) (g 13) (g 14) w → Q (.exit 2) g w) (h : match_Find_p14 kn k2 (g 2) (g 3) (g 11) (g 13) (g 14) (g 15) w) : den pg ann_match_Find (takeS 1 (bI (bI (dropS 1 (takeS 1 (dropS 2 (dropS 1 (dropS 4 code_match_Find)))))))) Q g w := by
  have e : (match_Find_p14 kn k2 (g 2) (g 3) (g 11) (g 13) (g 14) (g 15) w) = den pg ann_match_Find (takeS 1 (bI (bI (dropS 1 (takeS 1 (dropS 2 (dropS 1 (dropS 4 code_match_Find)))))))) (exQ (fun g w => kn (g 2) (g 3) (g 11) (g 13) (g 14) (g 15) w) (fun _ _ => False) [(2, fun g w => k2 (g 2) (g 13) (g 14) w)]) g w := by kernel_rfl
  exact den_exQ e h hn (fun _ _ h => h.elim) ⟨h2, trivial⟩

def match_Find_p15 (kn : Value → Value → Value → Value → Value → Value → World → Prop) (k2 : Value → Value → Value → World → Prop) (t2 level_3 f_11 out_13 begun_14 at_15 : Value) (w : World) : Prop :=
  match_Find_p14 (fun t2 level_3 f_11 out_13 begun_14 at_15 w => match_Find_p13 kn t2 level_3 f_11 out_13 begun_14 at_15 w) k2 t2 level_3 f_11 out_13 begun_14 at_15 w
theorem match_Find_p15_ok (Q : Exit → Env → World → Prop) (g : Env) (w : World) (kn : Value → Value → Value → Value → Value → Value → World → Prop) (k2 : Value → Value → Value → World → Prop) (hn : ∀ g w, kn (g 2) (g 3) (g 11) (g 13) (g 14) (g 15) w → Q .normal g w) (h2 : ∀ g w, k2 (g 2) (g 13) (g 14) w → Q (.exit 2) g w) (h : match_Find_p15 kn k2 (g 2) (g 3) (g 11) (g 13) (g 14) (g 15) w) : den pg ann_match_Find (bI (bI (dropS 1 (takeS 1 (dropS 2 (dropS 1 (dropS 4 code_match_Find))))))) Q g w := by
  exact den_seqs 1 (bI (bI (dropS 1 (takeS 1 (dropS 2 (dropS 1 (dropS 4 code_match_Find))))))) g w (by kernel_rfl) (match_Find_p14_ok (thenE (fun g w => den pg ann_match_Find (dropS 1 (bI (bI (dropS 1 (takeS 1 (dropS 2 (dropS 1 (dropS 4 code_match_Find)))))))) Q g w) Q) g w (fun t2 level_3 f_11 out_13 begun_14 at_15 w => match_Find_p13 kn t2 level_3 f_11 out_13 begun_14 at_15 w) k2 (fun g w h => (match_Find_p13_ok Q g w kn hn h)) h2 h)

def match_Find_p16 (k2 : Value → Value → Value → World → Prop) (t2 level_3 f_11 out_13 begun_14 at_15 : Value) (w : World) : Prop :=
  LoopD (fun (X : (Value × Value × Value) → World → Prop) (t : Value × Value × Value) (w : World) => match_Find_p15 (fun _ _ _ out_13 begun_14 at_15 w => X (out_13, begun_14, at_15) w) k2 t2 level_3 f_11 t.1 t.2.1 t.2.2 w) (out_13, begun_14, at_15) w
theorem match_Find_p16_ok (Q : Exit → Env → World → Prop) (g : Env) (w : World) (k2 : Value → Value → Value → World → Prop) (h2 : ∀ g w, k2 (g 2) (g 13) (g 14) w → Q (.exit 2) g w) (h : match_Find_p16 k2 (g 2) (g 3) (g 11) (g 13) (g 14) (g 15) w) : den pg ann_match_Find (bI (dropS 1 (takeS 1 (dropS 2 (dropS 1 (dropS 4 code_match_Find)))))) Q g w := by
  refine den_loops (T := Value × Value × Value) (fun g : Env => (g 13, g 14, g 15)) (fun X t w => match_Find_p15 (fun _ _ _ out_13 begun_14 at_15 w => X (out_13, begun_14, at_15) w) k2 (g 2) (g 3) (g 11) t.1 t.2.1 t.2.2 w) (bI (dropS 1 (takeS 1 (dropS 2 (dropS 1 (dropS 4 code_match_Find)))))) (by kernel_rfl) h (fun X g1 w1 ha h1 => ?_)
  rw [← agree_at (s := 2) ha (by kernel_rfl)] at h1
  rw [← agree_at (s := 3) ha (by kernel_rfl)] at h1
  rw [← agree_at (s := 11) ha (by kernel_rfl)] at h1
  exact (match_Find_p15_ok (thenE (fun g2 w2 => X ((fun g : Env => (g 13, g 14, g 15)) g2) w2) Q) g1 w1 (fun _ _ _ out_13 begun_14 at_15 w => X (out_13, begun_14, at_15) w) k2 (fun _ _ h => h) h2 h1)

def match_Find_p17 (kn : Value → Value → Value → World → Prop) (t2 level_3 f_11 out_13 begun_14 at_15 : Value) (w : World) : Prop :=
  match_Find_p16 kn t2 level_3 f_11 out_13 begun_14 at_15 w
theorem match_Find_p17_ok (Q : Exit → Env → World → Prop) (g : Env) (w : World) (kn : Value → Value → Value → World → Prop) (hn : ∀ g w, kn (g 2) (g 13) (g 14) w → Q .normal g w) (h : match_Find_p17 kn (g 2) (g 3) (g 11) (g 13) (g 14) (g 15) w) : den pg ann_match_Find (dropS 1 (takeS 1 (dropS 2 (dropS 1 (dropS 4 code_match_Find))))) Q g w :=
  den_blk 2 (dropS 1 (takeS 1 (dropS 2 (dropS 1 (dropS 4 code_match_Find))))) g w (by kernel_rfl) (match_Find_p16_ok (blk 2 Q) g w kn hn h)

def match_Find_p18 (kn : Value → Value → Value → Value → Value → Value → World → Prop) (from_1 t2 level_3 f_11 out_13 begun_14 : Value) (w : World) : Prop :=
  kn t2 level_3 f_11 out_13 begun_14 from_1 w
theorem match_Find_p18_ok (Q : Exit → Env → World → Prop) (g : Env) (w : World) (kn : Value → Value → Value → Value → Value → Value → World → Prop) (hn : ∀ g w, kn (g 2) (g 3) (g 11) (g 13) (g 14) (g 15) w → Q .normal g w) (h : match_Find_p18 kn (g 1) (g 2) (g 3) (g 11) (g 13) (g 14) w) : den pg ann_match_Find (takeS 1 (takeS 1 (dropS 2 (dropS 1 (dropS 4 code_match_Find))))) Q g w := by
  have e : (match_Find_p18 kn (g 1) (g 2) (g 3) (g 11) (g 13) (g 14) w) = den pg ann_match_Find (takeS 1 (takeS 1 (dropS 2 (dropS 1 (dropS 4 code_match_Find))))) (exQ (fun g w => kn (g 2) (g 3) (g 11) (g 13) (g 14) (g 15) w) (fun _ _ => False) []) g w := by kernel_rfl
  exact den_exQ e h hn (fun _ _ h => h.elim) trivial

def match_Find_p19 (kn : Value → Value → Value → World → Prop) (from_1 t2 level_3 f_11 out_13 begun_14 : Value) (w : World) : Prop :=
  match_Find_p18 (fun t2 level_3 f_11 out_13 begun_14 at_15 w => match_Find_p17 kn t2 level_3 f_11 out_13 begun_14 at_15 w) from_1 t2 level_3 f_11 out_13 begun_14 w
theorem match_Find_p19_ok (Q : Exit → Env → World → Prop) (g : Env) (w : World) (kn : Value → Value → Value → World → Prop) (hn : ∀ g w, kn (g 2) (g 13) (g 14) w → Q .normal g w) (h : match_Find_p19 kn (g 1) (g 2) (g 3) (g 11) (g 13) (g 14) w) : den pg ann_match_Find (takeS 1 (dropS 2 (dropS 1 (dropS 4 code_match_Find)))) Q g w := by
  exact den_seqs 1 (takeS 1 (dropS 2 (dropS 1 (dropS 4 code_match_Find)))) g w (by kernel_rfl) (match_Find_p18_ok (thenE (fun g w => den pg ann_match_Find (dropS 1 (takeS 1 (dropS 2 (dropS 1 (dropS 4 code_match_Find))))) Q g w) Q) g w (fun t2 level_3 f_11 out_13 begun_14 at_15 w => match_Find_p17 kn t2 level_3 f_11 out_13 begun_14 at_15 w) (fun g w h => (match_Find_p17_ok Q g w kn hn h)) h)

def match_Find_p20 (R : Value → World → Prop) (from_1 t2 level_3 f_11 out_13 begun_14 : Value) (w : World) : Prop :=
  match_Find_p19 (fun t2 out_13 begun_14 w => match_Find_p1 R t2 out_13 begun_14 w) from_1 t2 level_3 f_11 out_13 begun_14 w
theorem match_Find_p20_ok (Q : Exit → Env → World → Prop) (g : Env) (w : World) (R : Value → World → Prop) (hr : ∀ g w, (resVals pg rs_match_Find g w fun vs => R (tup vs) w) → Q .ret g w) (h : match_Find_p20 R (g 1) (g 2) (g 3) (g 11) (g 13) (g 14) w) : den pg ann_match_Find (dropS 2 (dropS 1 (dropS 4 code_match_Find))) Q g w := by
  exact den_seqs 1 (dropS 2 (dropS 1 (dropS 4 code_match_Find))) g w (by kernel_rfl) (match_Find_p19_ok (thenE (fun g w => den pg ann_match_Find (dropS 1 (dropS 2 (dropS 1 (dropS 4 code_match_Find)))) Q g w) Q) g w (fun t2 out_13 begun_14 w => match_Find_p1 R t2 out_13 begun_14 w) (fun g w h => (match_Find_p1_ok Q g w R hr h)) h)

def match_Find_p21 (kn : Value → Value → Value → Value → Value → Value → World → Prop) (from_1 t2 level_3 f_11 : Value) (w : World) : Prop :=
  kn from_1 t2 level_3 f_11 (.slice none 0 0) from_1 w
theorem match_Find_p21_ok (Q : Exit → Env → World → Prop) (g : Env) (w : World) (kn : Value → Value → Value → Value → Value → Value → World → Prop) (hn : ∀ g w, kn (g 1) (g 2) (g 3) (g 11) (g 13) (g 14) w → Q .normal g w) (h : match_Find_p21 kn (g 1) (g 2) (g 3) (g 11) w) : den pg ann_match_Find (takeS 2 (dropS 1 (dropS 4 code_match_Find))) Q g w := by
  have e : (match_Find_p21 kn (g 1) (g 2) (g 3) (g 11) w) = den pg ann_match_Find (takeS 2 (dropS 1 (dropS 4 code_match_Find))) (exQ (fun g w => kn (g 1) (g 2) (g 3) (g 11) (g 13) (g 14) w) (fun _ _ => False) []) g w := by kernel_rfl
  exact den_exQ e h hn (fun _ _ h => h.elim) trivial

def match_Find_p22 (R : Value → World → Prop) (from_1 t2 level_3 f_11 : Value) (w : World) : Prop :=
  match_Find_p21 (fun from_1 t2 level_3 f_11 out_13 begun_14 w => match_Find_p20 R from_1 t2 level_3 f_11 out_13 begun_14 w) from_1 t2 level_3 f_11 w
theorem match_Find_p22_ok (Q : Exit → Env → World → Prop) (g : Env) (w : World) (R : Value → World → Prop) (hr : ∀ g w, (resVals pg rs_match_Find g w fun vs => R (tup vs) w) → Q .ret g w) (h : match_Find_p22 R (g 1) (g 2) (g 3) (g 11) w) : den pg ann_match_Find (dropS 1 (dropS 4 code_match_Find)) Q g w := by
  exact den_seqs 2 (dropS 1 (dropS 4 code_match_Find)) g w (by kernel_rfl) (match_Find_p21_ok (thenE (fun g w => den pg ann_match_Find (dropS 2 (dropS 1 (dropS 4 code_match_Find))) Q g w) Q) g w (fun from_1 t2 level_3 f_11 out_13 begun_14 w => match_Find_p20 R from_1 t2 level_3 f_11 out_13 begun_14 w) (fun g w h => (match_Find_p20_ok Q g w R hr h)) h)

def match_Find_p23 (kn : Value → Value → Value → Value → Value → Value → World → Prop) (k0 : Value → Value → Value → Value → World → Prop) (from_1 t2 level_3 f_11 t56 t57 : Value) (w : World) : Prop :=
  Stp pg (sBin .lss 3 (.tmp 57) (.tmp 56) t57 t56) w fun t58 w =>
  Cnd t58
    (Does pg F_match_finder_note #[f_11, t57] w fun t62 w =>
    Stp pg (sBin .add 3 (.tmp 57) (.const (.int .i64 1)) t57 (.int .i64 1)) w fun t63 w =>
    kn from_1 t2 level_3 f_11 t56 t63 w)
    (k0 from_1 t2 level_3 f_11 w)
theorem match_Find_p23_ok (Q : Exit → Env → World → Prop) (g : Env) (w : World) (kn : Value → Value → Value → Value → Value → Value → World → Prop) (k0 : Value → Value → Value → Value → World → Prop) (hn : ∀ g w, kn (g 1) (g 2) (g 3) (g 11) (g 56) (g 57) w → Q .normal g w) (h0 : ∀ g w, k0 (g 1) (g 2) (g 3) (g 11) w → Q (.exit 0) g w) (h : match_Find_p23 kn k0 (g 1) (g 2) (g 3) (g 11) (g 56) (g 57) w) : den pg ann_match_Find (bI (bI (dropS 1 (takeS 1 (dropS 4 code_match_Find))))) Q g w := by
  have e : (match_Find_p23 kn k0 (g 1) (g 2) (g 3) (g 11) (g 56) (g 57) w) = den pg ann_match_Find (bI (bI (dropS 1 (takeS 1 (dropS 4 code_match_Find))))) (exQ (fun g w => kn (g 1) (g 2) (g 3) (g 11) (g 56) (g 57) w) (fun _ _ => False) [(0, fun g w => k0 (g 1) (g 2) (g 3) (g 11) w)]) g w := by kernel_rfl
  exact den_exQ e h hn (fun _ _ h => h.elim) ⟨h0, trivial⟩

def match_Find_p24 (k0 : Value → Value → Value → Value → World → Prop) (from_1 t2 level_3 f_11 t56 t57 : Value) (w : World) : Prop :=
  LoopD (fun (X : Value → World → Prop) (t : Value) (w : World) => match_Find_p23 (fun _ _ _ _ _ t57 w => X t57 w) k0 from_1 t2 level_3 f_11 t56 t w) t57 w
theorem match_Find_p24_ok (Q : Exit → Env → World → Prop) (g : Env) (w : World) (k0 : Value → Value → Value → Value → World → Prop) (h0 : ∀ g w, k0 (g 1) (g 2) (g 3) (g 11) w → Q (.exit 0) g w) (h : match_Find_p24 k0 (g 1) (g 2) (g 3) (g 11) (g 56) (g 57) w) : den pg ann_match_Find (bI (dropS 1 (takeS 1 (dropS 4 code_match_Find)))) Q g w := by
  refine den_loops (T := Value) (fun g : Env => g 57) (fun X t w => match_Find_p23 (fun _ _ _ _ _ t57 w => X t57 w) k0 (g 1) (g 2) (g 3) (g 11) (g 56) t w) (bI (dropS 1 (takeS 1 (dropS 4 code_match_Find)))) (by kernel_rfl) h (fun X g1 w1 ha h1 => ?_)
  rw [← agree_at (s := 1) ha (by kernel_rfl)] at h1
  rw [← agree_at (s := 2) ha (by kernel_rfl)] at h1
  rw [← agree_at (s := 3) ha (by kernel_rfl)] at h1
  rw [← agree_at (s := 11) ha (by kernel_rfl)] at h1
  rw [← agree_at (s := 56) ha (by kernel_rfl)] at h1
  exact (match_Find_p23_ok (thenE (fun g2 w2 => X ((fun g : Env => g 57) g2) w2) Q) g1 w1 (fun _ _ _ _ _ t57 w => X t57 w) k0 (fun _ _ h => h) h0 h1)

def match_Find_p25 (kn : Value → Value → Value → Value → World → Prop) (from_1 t2 level_3 f_11 t56 t57 : Value) (w : World) : Prop :=
  match_Find_p24 kn from_1 t2 level_3 f_11 t56 t57 w
theorem match_Find_p25_ok (Q : Exit → Env → World → Prop) (g : Env) (w : World) (kn : Value → Value → Value → Value → World → Prop) (hn : ∀ g w, kn (g 1) (g 2) (g 3) (g 11) w → Q .normal g w) (h : match_Find_p25 kn (g 1) (g 2) (g 3) (g 11) (g 56) (g 57) w) : den pg ann_match_Find (dropS 1 (takeS 1 (dropS 4 code_match_Find))) Q g w :=
  den_blk 0 (dropS 1 (takeS 1 (dropS 4 code_match_Find))) g w (by kernel_rfl) (match_Find_p24_ok (blk 0 Q) g w kn hn h)

def match_Find_p26 (kn : Value → Value → Value → Value → Value → Value → World → Prop) (from_1 t2 level_3 f_11 : Value) (w : World) : Prop :=
  kn from_1 t2 level_3 f_11 from_1 (.int .i64 0) w
theorem match_Find_p26_ok (Q : Exit → Env → World → Prop) (g : Env) (w : World) (kn : Value → Value → Value → Value → Value → Value → World → Prop) (hn : ∀ g w, kn (g 1) (g 2) (g 3) (g 11) (g 56) (g 57) w → Q .normal g w) (h : match_Find_p26 kn (g 1) (g 2) (g 3) (g 11) w) : den pg ann_match_Find (takeS 1 (takeS 1 (dropS 4 code_match_Find))) Q g w := by
  have e : (match_Find_p26 kn (g 1) (g 2) (g 3) (g 11) w) = den pg ann_match_Find (takeS 1 (takeS 1 (dropS 4 code_match_Find))) (exQ (fun g w => kn (g 1) (g 2) (g 3) (g 11) (g 56) (g 57) w) (fun _ _ => False) []) g w := by kernel_rfl
  exact den_exQ e h hn (fun _ _ h => h.elim) trivial

def match_Find_p27 (kn : Value → Value → Value → Value → World → Prop) (from_1 t2 level_3 f_11 : Value) (w : World) : Prop :=
  match_Find_p26 (fun from_1 t2 level_3 f_11 t56 t57 w => match_Find_p25 kn from_1 t2 level_3 f_11 t56 t57 w) from_1 t2 level_3 f_11 w
theorem match_Find_p27_ok (Q : Exit → Env → World → Prop) (g : Env) (w : World) (kn : Value → Value → Value → Value → World → Prop) (hn : ∀ g w, kn (g 1) (g 2) (g 3) (g 11) w → Q .normal g w) (h : match_Find_p27 kn (g 1) (g 2) (g 3) (g 11) w) : den pg ann_match_Find (takeS 1 (dropS 4 code_match_Find)) Q g w := by
  exact den_seqs 1 (takeS 1 (dropS 4 code_match_Find)) g w (by kernel_rfl) (match_Find_p26_ok (thenE (fun g w => den pg ann_match_Find (dropS 1 (takeS 1 (dropS 4 code_match_Find))) Q g w) Q) g w (fun from_1 t2 level_3 f_11 t56 t57 w => match_Find_p25 kn from_1 t2 level_3 f_11 t56 t57 w) (fun g w h => (match_Find_p25_ok Q g w kn hn h)) h)

def match_Find_p28 (R : Value → World → Prop) (from_1 t2 level_3 f_11 : Value) (w : World) : Prop :=
  match_Find_p27 (fun from_1 t2 level_3 f_11 w => match_Find_p22 R from_1 t2 level_3 f_11 w) from_1 t2 level_3 f_11 w
theorem match_Find_p28_ok (Q : Exit → Env → World → Prop) (g : Env) (w : World) (R : Value → World → Prop) (hr : ∀ g w, (resVals pg rs_match_Find g w fun vs => R (tup vs) w) → Q .ret g w) (h : match_Find_p28 R (g 1) (g 2) (g 3) (g 11) w) : den pg ann_match_Find (dropS 4 code_match_Find) Q g w := by
  exact den_seqs 1 (dropS 4 code_match_Find) g w (by kernel_rfl) (match_Find_p27_ok (thenE (fun g w => den pg ann_match_Find (dropS 1 (dropS 4 code_match_Find)) Q g w) Q) g w (fun from_1 t2 level_3 f_11 w => match_Find_p22 R from_1 t2 level_3 f_11 w) (fun g w h => (match_Find_p22_ok Q g w R hr h)) h)

def match_Find_p29 (kn : Value → Value → Value → Value → World → Prop) (R : Value → World → Prop) (b_0 from_1 t2 level_3 : Value) (w : World) : Prop :=
  Stp pg (sBin .lss 3 (.tmp 21) (.const (.int .i64 0)) from_1 (.int .i64 0)) w fun t22 w =>
  Gd (isB t22 false) (fun K => K t2 w) w fun t24 w =>
  Gd (isB t22 false) (fun K => K from_1 w) w fun t25 w =>
  Gd (isB t22 false) (fun K => Stp pg (sBin .lss 3 (.tmp 24) (.tmp 25) t24 t25) w K) w fun t26 w =>
  Stp pg (sPick t22 (.bool true) t26) w fun t27 w =>
  Gd (isB t27 false) (fun K => K t2 w) w fun t29 w =>
  Gd (isB t27 false) (fun K => K b_0 w) w fun t30 w =>
  Gd (isB t27 false) (fun K => Stp pg (sBi .len #[22] 3 [t30]) w K) w fun t31 w =>
  Gd (isB t27 false) (fun K => Stp pg (sBin .gtr 3 (.tmp 29) (.tmp 31) t29 t31) w K) w fun t32 w =>
  Stp pg (sPick t27 (.bool true) t32) w fun t33 w =>
  Gd (isB t33 false) (fun K => K level_3 w) w fun t35 w =>
  Gd (isB t33 false) (fun K => Stp pg (sBin .lss 3 (.tmp 35) (.const (.int .i64 0)) t35 (.int .i64 0)) w K) w fun t36 w =>
  Stp pg (sPick t33 (.bool true) t36) w fun t37 w =>
  Gd (isB t37 false) (fun K => K level_3 w) w fun t39 w =>
  Gd (isB t37 false) (fun K => Stp pg (sBin .gtr 3 (.tmp 39) (.const (.int .i64 9)) t39 (.int .i64 9)) w K) w fun t40 w =>
  Stp pg (sPick t37 (.bool true) t40) w fun t41 w =>
  Cnd t41
    (R (.tuple #[(.slice none 0 0), (.int .i64 0), (.int .i64 1)]) w)
    (Stp pg (sBin .eql 3 (.tmp 42) (.const (.int .i64 0)) level_3 (.int .i64 0)) w fun t43 w =>
    Cnd t43
      (Stp pg (sBin .sub 3 (.tmp 44) (.tmp 45) t2 from_1) w fun t46 w =>
      R (.tuple #[(.slice none 0 0), t46, (.int .i64 0)]) w)
      (Ord (ordB F_match_Find 5 (opsIn 5 code_match_Find) 2 4 w)
        ((dr w) = (dr w) ∧
        (dr w) = (dr w) ∧
        Stp pg (sMkMap 35 none) (dr w) fun t49 w5_2 =>
        w5_2 = w5_2 ∧
        Stp pg (sMkSlice 36 t2 t2) w5_2 fun t51 w5_4 =>
        w5_4 = w5_4 ∧
        Stp pg (sBin .shl 3 (.const (.int .i64 1)) (.tmp 52) (.int .i64 1) level_3) w5_4 fun t53 w_ => w_ = w5_4 ∧
        (Same pg (sBin .shl 3 (.const (.int .i64 1)) (.tmp 52) (.int .i64 1) level_3) t53 w5_2 ∧ Same pg (sBin .shl 3 (.const (.int .i64 1)) (.tmp 52) (.int .i64 1) level_3) t53 (dr w) ∧ True) ∧
        Stp pg (sBuild 38 [(0, b_0), (1, t2), (2, t49), (3, t51), (4, t53)]) w5_4 fun t54 w_ => w_ = w5_4 ∧
        Stp pg (sBox 38 t54) w5_4 fun t55 w5_8 =>
        w5_8 = w5_8 ∧
        kn from_1 t2 level_3 t55 w5_8)
        ((dr w) = (dr w) ∧
        (dr w) = (dr w) ∧
        (dr w) = (dr w) ∧
        Stp pg (sMkSlice 36 t2 t2) (dr w) fun t51 w5_3 =>
        Stp pg (sMkMap 35 none) w5_3 fun t49 w5_4 =>
        w5_4 = w5_4 ∧
        Stp pg (sBin .shl 3 (.const (.int .i64 1)) (.tmp 52) (.int .i64 1) level_3) w5_4 fun t53 w_ => w_ = w5_4 ∧
        (Same pg (sBin .shl 3 (.const (.int .i64 1)) (.tmp 52) (.int .i64 1) level_3) t53 w5_3 ∧ Same pg (sBin .shl 3 (.const (.int .i64 1)) (.tmp 52) (.int .i64 1) level_3) t53 (dr w) ∧ True) ∧
        Stp pg (sBuild 38 [(0, b_0), (1, t2), (2, t49), (3, t51), (4, t53)]) w5_4 fun t54 w_ => w_ = w5_4 ∧
        Stp pg (sBox 38 t54) w5_4 fun t55 w5_8 =>
        w5_8 = w5_8 ∧
        kn from_1 t2 level_3 t55 w5_8)))
theorem match_Find_p29_ok (Q : Exit → Env → World → Prop) (g : Env) (w : World) (kn : Value → Value → Value → Value → World → Prop) (R : Value → World → Prop) (hn : ∀ g w, kn (g 1) (g 2) (g 3) (g 11) w → Q .normal g w) (hr : ∀ g w, (resVals pg rs_match_Find g w fun vs => R (tup vs) w) → Q .ret g w) (h : match_Find_p29 kn R (g 0) (g 1) (g 2) (g 3) w) : den pg ann_match_Find (takeS 4 code_match_Find) Q g w := by
  have e : (match_Find_p29 kn R (g 0) (g 1) (g 2) (g 3) w) = den pg ann_match_Find (takeS 4 code_match_Find) (exQ (fun g w => kn (g 1) (g 2) (g 3) (g 11) w) (fun g w => resVals pg rs_match_Find g w fun vs => R (tup vs) w) []) g w := by kernel_rfl
  exact den_exQ e h hn hr trivial

def match_Find_p30 (R : Value → World → Prop) (b_0 from_1 t2 level_3 : Value) (w : World) : Prop :=
  match_Find_p29 (fun from_1 t2 level_3 f_11 w => match_Find_p28 R from_1 t2 level_3 f_11 w) R b_0 from_1 t2 level_3 w
theorem match_Find_p30_ok (Q : Exit → Env → World → Prop) (g : Env) (w : World) (R : Value → World → Prop) (hr : ∀ g w, (resVals pg rs_match_Find g w fun vs => R (tup vs) w) → Q .ret g w) (h : match_Find_p30 R (g 0) (g 1) (g 2) (g 3) w) : den pg ann_match_Find code_match_Find Q g w := by
  exact den_seqs 4 code_match_Find g w (by kernel_rfl) (match_Find_p29_ok (thenE (fun g w => den pg ann_match_Find (dropS 4 code_match_Find) Q g w) Q) g w (fun from_1 t2 level_3 f_11 w => match_Find_p28 R from_1 t2 level_3 f_11 w) R (fun g w h => (match_Find_p28_ok Q g w R hr h)) hr h)

def match_Find (a0 a1 a2 a3 : Value) (w : World) (R : Value → World → Prop) : Prop :=
  match_Find_p30 R a0 a1 a2 a3 w
theorem match_Find_does {a0 a1 a2 a3 : Value} {w : World} {R : Value → World → Prop} (h : match_Find a0 a1 a2 a3 w R) : Does pg F_match_Find #[a0, a1, a2, a3] w R := by
  refine does_of_den (ann := ann_match_Find) (fn := Try.f8) (c := code_match_Find) (args := [a0, a1, a2, a3]) (rs := rs_match_Find) (N := 136) TryM.mixed (by kernel_rfl) Try.func8 (by kernel_rfl) (by kernel_rfl) (by kernel_rfl) (of_decide_eq_true (by kernel_rfl)) (by kernel_rfl) ?_
  exact (match_Find_p30_ok (retQ pg rs_match_Find R) (envOf [a0, a1, a2, a3]) w R (fun _ _ h => h) h)
-- PIECES match_Find/0 match_Find_p1 match_Find_p16 match_Find_p17 match_Find_p18 match_Find_p19 match_Find_p20 match_Find_p21 match_Find_p22 match_Find_p24 match_Find_p25 match_Find_p26 match_Find_p27 match_Find_p28 match_Find_p29 match_Find_p30
-- PIECES match_Find/1 match_Find_p2 match_Find_p4 match_Find_p5 match_Find_p6 match_Find_p7 match_Find_p8 match_Find_p9 match_Find_p10 match_Find_p11 match_Find_p12 match_Find_p13 match_Find_p14 match_Find_p15
-- PIECES match_Find/2 match_Find_p3
-- PIECES match_Find/3 match_Find_p23

/- lighterman/lightermanref17.Plan -/
def ann_ref17_Plan : FA := ⟨F_ref17_Plan, fun i => match Nat.beq i 14 with | true => .leaf ([], []) [(false, []), (false, []), (false, []), (false, []), (false, []), (false, []), (false, []), (false, []), (false, [])] | false => .leaf ([], []) []⟩
def rs_ref17_Plan : List ResultVar := [.tmp 10]
noncomputable def code_ref17_Plan : Code := bodyOf Try.f9
def ref17_Plan_p1 (R : Value → World → Prop) (t2 behind_4 at_11 : Value) (w : World) : Prop :=
  Stp pg (sBin .sub 3 (.tmp 103) (.tmp 104) t2 at_11) w fun t105 w =>
  Stp pg (sBin .eql 3 (.tmp 102) (.tmp 105) behind_4 t105) w fun t106 w =>
  R t106 w
theorem ref17_Plan_p1_ok (Q : Exit → Env → World → Prop) (g : Env) (w : World) (R : Value → World → Prop) (hr : ∀ g w, (resVals pg rs_ref17_Plan g w fun vs => R (tup vs) w) → Q .ret g w) (h : ref17_Plan_p1 R (g 2) (g 4) (g 11) w) : den pg ann_ref17_Plan (dropS 1 (dropS 2 code_ref17_Plan)) Q g w := by
  have e : (ref17_Plan_p1 R (g 2) (g 4) (g 11) w) = den pg ann_ref17_Plan (dropS 1 (dropS 2 code_ref17_Plan)) (exQ (fun _ _ => False) (fun g w => resVals pg rs_ref17_Plan g w fun vs => R (tup vs) w) []) g w := by kernel_rfl
  exact den_exQ e h (fun _ _ h => h.elim) hr trivial

def ref17_Plan_p2 (kn : Value → Value → Value → Value → Value → Value → World → Prop) (b_0 t2 l_3 behind_4 at_11 i_12 : Value) (w : World) : Prop :=
  Stp pg (sBin .add 3 (.tmp 20) (.const (.int .i64 1)) i_12 (.int .i64 1)) w fun t21 w =>
  kn b_0 t2 l_3 behind_4 at_11 t21 w
theorem ref17_Plan_p2_ok (Q : Exit → Env → World → Prop) (g : Env) (w : World) (kn : Value → Value → Value → Value → Value → Value → World → Prop) (hn : ∀ g w, kn (g 0) (g 2) (g 3) (g 4) (g 11) (g 12) w → Q .normal g w) (h : ref17_Plan_p2 kn (g 0) (g 2) (g 3) (g 4) (g 11) (g 12) w) : den pg ann_ref17_Plan (dropS 1 (dropS 1 (bI (bI (dropS 1 (takeS 1 (dropS 2 code_ref17_Plan))))))) Q g w := by
  have e : (ref17_Plan_p2 kn (g 0) (g 2) (g 3) (g 4) (g 11) (g 12) w) = den pg ann_ref17_Plan (dropS 1 (dropS 1 (bI (bI (dropS 1 (takeS 1 (dropS 2 code_ref17_Plan))))))) (exQ (fun g w => kn (g 0) (g 2) (g 3) (g 4) (g 11) (g 12) w) (fun _ _ => False) []) g w := by kernel_rfl
  exact den_exQ e h hn (fun _ _ h => h.elim) trivial

def ref17_Plan_p3 (kn : Value → Value → Value → Value → Value → Value → Value → Value → World → Prop) (k2 : Value → Value → Value → Value → Value → Value → World → Prop) (R : Value → World → Prop) (b_0 t2 l_3 behind_4 at_11 i_12 off_13 k_14 : Value) (w : World) : Prop :=
  Stp pg (sIAddr 24 l_3 i_12) w fun t84 w =>
  Stp pg (sFAddr 44 t84 1) w fun t85 w =>
  Stp pg (sLoad 42 t85) w fun t86 w =>
  Stp pg (sCvt 42 3 t86) w fun t87 w =>
  Stp pg (sBin .lss 3 (.tmp 81) (.tmp 87) k_14 t87) w fun t88 w =>
  Cnd t88
    ((dr w) = (dr w) ∧
    (dr w) = (dr w) ∧
    Stp pg (sIdx 9 b_0 at_11) (dr w) fun t93 w_ => w_ = (dr w) ∧
    (dr w) = (dr w) ∧
    (dr w) = (dr w) ∧
    (dr w) = (dr w) ∧
    Stp pg (sBin .sub 3 (.tmp 95) (.tmp 96) at_11 off_13) (dr w) fun t97 w_ => w_ = (dr w) ∧
    Stp pg (sIdx 9 b_0 t97) (dr w) fun t98 w_ => w_ = (dr w) ∧
    Stp pg (sBin .neq 5 (.tmp 93) (.tmp 98) t93 t98) (dr w) fun t99 w_ => w_ = (dr w) ∧
    Cnd t99
      (R (.bool false) (dr w))
      (Stp pg (sBin .add 3 (.tmp 100) (.const (.int .i64 1)) at_11 (.int .i64 1)) (dr w) fun t101 w =>
      Stp pg (sBin .add 3 (.tmp 89) (.const (.int .i64 1)) k_14 (.int .i64 1)) w fun t90 w =>
      kn b_0 t2 l_3 behind_4 t101 i_12 off_13 t90 w))
    (k2 b_0 t2 l_3 behind_4 at_11 i_12 w)
theorem ref17_Plan_p3_ok (Q : Exit → Env → World → Prop) (g : Env) (w : World) (kn : Value → Value → Value → Value → Value → Value → Value → Value → World → Prop) (k2 : Value → Value → Value → Value → Value → Value → World → Prop) (R : Value → World → Prop) (hn : ∀ g w, kn (g 0) (g 2) (g 3) (g 4) (g 11) (g 12) (g 13) (g 14) w → Q .normal g w) (h2 : ∀ g w, k2 (g 0) (g 2) (g 3) (g 4) (g 11) (g 12) w → Q (.exit 2) g w) (hr : ∀ g w, (resVals pg rs_ref17_Plan g w fun vs => R (tup vs) w) → Q .ret g w) (h : ref17_Plan_p3 kn k2 R (g 0) (g 2) (g 3) (g 4) (g 11) (g 12) (g 13) (g 14) w) : den pg ann_ref17_Plan (bI (bI (dropS 5 (bI (takeS 1 (dropS 1 (bI (bI (dropS 1 (takeS 1 (dropS 2 code_ref17_Plan))))))))))) Q g w := by
  have e : (ref17_Plan_p3 kn k2 R (g 0) (g 2) (g 3) (g 4) (g 11) (g 12) (g 13) (g 14) w) = den pg ann_ref17_Plan (bI (bI (dropS 5 (bI (takeS 1 (dropS 1 (bI (bI (dropS 1 (takeS 1 (dropS 2 code_ref17_Plan))))))))))) (exQ (fun g w => kn (g 0) (g 2) (g 3) (g 4) (g 11) (g 12) (g 13) (g 14) w) (fun g w => resVals pg rs_ref17_Plan g w fun vs => R (tup vs) w) [(2, fun g w => k2 (g 0) (g 2) (g 3) (g 4) (g 11) (g 12) w)]) g w := by kernel_rfl
  exact den_exQ e h hn hr ⟨h2, trivial⟩

def ref17_Plan_p4 (k2 : Value → Value → Value → Value → Value → Value → World → Prop) (R : Value → World → Prop) (b_0 t2 l_3 behind_4 at_11 i_12 off_13 k_14 : Value) (w : World) : Prop :=
  LoopD (fun (X : (Value × Value) → World → Prop) (t : Value × Value) (w : World) => ref17_Plan_p3 (fun _ _ _ _ at_11 _ _ k_14 w => X (at_11, k_14) w) k2 R b_0 t2 l_3 behind_4 t.1 i_12 off_13 t.2 w) (at_11, k_14) w
theorem ref17_Plan_p4_ok (Q : Exit → Env → World → Prop) (g : Env) (w : World) (k2 : Value → Value → Value → Value → Value → Value → World → Prop) (R : Value → World → Prop) (h2 : ∀ g w, k2 (g 0) (g 2) (g 3) (g 4) (g 11) (g 12) w → Q (.exit 2) g w) (hr : ∀ g w, (resVals pg rs_ref17_Plan g w fun vs => R (tup vs) w) → Q .ret g w) (h : ref17_Plan_p4 k2 R (g 0) (g 2) (g 3) (g 4) (g 11) (g 12) (g 13) (g 14) w) : den pg ann_ref17_Plan (bI (dropS 5 (bI (takeS 1 (dropS 1 (bI (bI (dropS 1 (takeS 1 (dropS 2 code_ref17_Plan)))))))))) Q g w := by
  refine den_loops (T := Value × Value) (fun g : Env => (g 11, g 14)) (fun X t w => ref17_Plan_p3 (fun _ _ _ _ at_11 _ _ k_14 w => X (at_11, k_14) w) k2 R (g 0) (g 2) (g 3) (g 4) t.1 (g 12) (g 13) t.2 w) (bI (dropS 5 (bI (takeS 1 (dropS 1 (bI (bI (dropS 1 (takeS 1 (dropS 2 code_ref17_Plan)))))))))) (by kernel_rfl) h (fun X g1 w1 ha h1 => ?_)
  rw [← agree_at (s := 0) ha (by kernel_rfl)] at h1
  rw [← agree_at (s := 2) ha (by kernel_rfl)] at h1
  rw [← agree_at (s := 3) ha (by kernel_rfl)] at h1
  rw [← agree_at (s := 4) ha (by kernel_rfl)] at h1
  rw [← agree_at (s := 12) ha (by kernel_rfl)] at h1
  rw [← agree_at (s := 13) ha (by kernel_rfl)] at h1
  exact (ref17_Plan_p3_ok (thenE (fun g2 w2 => X ((fun g : Env => (g 11, g 14)) g2) w2) Q) g1 w1 (fun _ _ _ _ at_11 _ _ k_14 w => X (at_11, k_14) w) k2 R (fun _ _ h => h) h2 hr h1)

def ref17_Plan_p5 (kn : Value → Value → Value → Value → Value → Value → World → Prop) (R : Value → World → Prop) (b_0 t2 l_3 behind_4 at_11 i_12 off_13 k_14 : Value) (w : World) : Prop :=
  ref17_Plan_p4 kn R b_0 t2 l_3 behind_4 at_11 i_12 off_13 k_14 w
theorem ref17_Plan_p5_ok (Q : Exit → Env → World → Prop) (g : Env) (w : World) (kn : Value → Value → Value → Value → Value → Value → World → Prop) (R : Value → World → Prop) (hn : ∀ g w, kn (g 0) (g 2) (g 3) (g 4) (g 11) (g 12) w → Q .normal g w) (hr : ∀ g w, (resVals pg rs_ref17_Plan g w fun vs => R (tup vs) w) → Q .ret g w) (h : ref17_Plan_p5 kn R (g 0) (g 2) (g 3) (g 4) (g 11) (g 12) (g 13) (g 14) w) : den pg ann_ref17_Plan (dropS 5 (bI (takeS 1 (dropS 1 (bI (bI (dropS 1 (takeS 1 (dropS 2 code_ref17_Plan))))))))) Q g w :=
  den_blk 2 (dropS 5 (bI (takeS 1 (dropS 1 (bI (bI (dropS 1 (takeS 1 (dropS 2 code_ref17_Plan))))))))) g w (by kernel_rfl) (ref17_Plan_p4_ok (blk 2 Q) g w kn R hn hr h)

def ref17_Plan_p6 (kn : Value → Value → Value → Value → Value → Value → Value → Value → World → Prop) (R : Value → World → Prop) (b_0 t2 l_3 behind_4 at_11 i_12 : Value) (w : World) : Prop :=
  Stp pg (sIAddr 24 l_3 i_12) w fun t24 w =>
  Stp pg (sFAddr 44 t24 0) w fun t25 w =>
  Stp pg (sLoad 42 t25) w fun t26 w =>
  Stp pg (sCvt 42 3 t26) w fun t27 w =>
  Stp pg (sBin .sub 3 (.tmp 28) (.tmp 29) t2 at_11) w fun t30 w =>
  Stp pg (sBin .gtr 3 (.tmp 27) (.tmp 30) t27 t30) w fun t31 w =>
  Gd (isB t31 false) (fun K => K l_3 w) w fun t33 w =>
  Gd (isB t31 false) (fun K => K i_12 w) w fun t34 w =>
  Gd (isB t31 false) (fun K => Stp pg (sIAddr 24 t33 t34) w K) w fun t35 w =>
  Gd (isB t31 false) (fun K => Stp pg (sFAddr 44 t35 1) w K) w fun t36 w =>
  Gd (isB t31 false) (fun K => Stp pg (sLoad 42 t36) w K) w fun t37 w =>
  Gd (isB t31 false) (fun K => Stp pg (sBin .lss 42 (.tmp 37) (.const (.int .u32 3)) t37 (.int .u32 3)) w K) w fun t38 w =>
  Stp pg (sPick t31 (.bool true) t38) w fun t39 w =>
  Gd (isB t39 false) (fun K => K l_3 w) w fun t41 w =>
  Gd (isB t39 false) (fun K => K i_12 w) w fun t42 w =>
  Gd (isB t39 false) (fun K => Stp pg (sIAddr 24 t41 t42) w K) w fun t43 w =>
  Gd (isB t39 false) (fun K => Stp pg (sFAddr 44 t43 1) w K) w fun t44 w =>
  Gd (isB t39 false) (fun K => Stp pg (sLoad 42 t44) w K) w fun t45 w =>
  Gd (isB t39 false) (fun K => Stp pg (sBin .gtr 42 (.tmp 45) (.const (.int .u32 131074)) t45 (.int .u32 131074)) w K) w fun t46 w =>
  Stp pg (sPick t39 (.bool true) t46) w fun t47 w =>
  Cnd t47
    (R (.bool false) w)
    (Stp pg (sIAddr 24 l_3 i_12) w fun t51 w =>
    Stp pg (sFAddr 44 t51 0) w fun t52 w =>
    Stp pg (sLoad 42 t52) w fun t53 w =>
    Stp pg (sCvt 42 3 t53) w fun t54 w =>
    Stp pg (sBin .add 3 (.tmp 48) (.tmp 54) at_11 t54) w fun t55 w =>
    Stp pg (sIAddr 24 l_3 i_12) w fun t58 w =>
    Stp pg (sFAddr 44 t58 2) w fun t59 w =>
    Stp pg (sLoad 42 t59) w fun t60 w =>
    Stp pg (sCvt 42 3 t60) w fun t61 w =>
    Stp pg (sBin .lss 3 (.tmp 62) (.const (.int .i64 1)) t61 (.int .i64 1)) w fun t63 w =>
    Gd (isB t63 false) (fun K => K t61 w) w fun t65 w =>
    Gd (isB t63 false) (fun K => K t55 w) w fun t66 w =>
    Gd (isB t63 false) (fun K => Stp pg (sBin .gtr 3 (.tmp 65) (.tmp 66) t65 t66) w K) w fun t67 w =>
    Stp pg (sPick t63 (.bool true) t67) w fun t68 w =>
    Gd (isB t68 false) (fun K => K l_3 w) w fun t70 w =>
    Gd (isB t68 false) (fun K => K i_12 w) w fun t71 w =>
    Gd (isB t68 false) (fun K => Stp pg (sIAddr 24 t70 t71) w K) w fun t72 w =>
    Gd (isB t68 false) (fun K => Stp pg (sFAddr 44 t72 1) w K) w fun t73 w =>
    Gd (isB t68 false) (fun K => Stp pg (sLoad 42 t73) w K) w fun t74 w =>
    Gd (isB t68 false) (fun K => Stp pg (sCvt 42 3 t74) w K) w fun t75 w =>
    Gd (isB t68 false) (fun K => K t2 w) w fun t76 w =>
    Gd (isB t68 false) (fun K => K t55 w) w fun t77 w =>
    Gd (isB t68 false) (fun K => Stp pg (sBin .sub 3 (.tmp 76) (.tmp 77) t76 t77) w K) w fun t78 w =>
    Gd (isB t68 false) (fun K => Stp pg (sBin .gtr 3 (.tmp 75) (.tmp 78) t75 t78) w K) w fun t79 w =>
    Stp pg (sPick t68 (.bool true) t79) w fun t80 w =>
    Cnd t80
      (R (.bool false) w)
      (kn b_0 t2 l_3 behind_4 t55 i_12 t61 (.int .i64 0) w))
theorem ref17_Plan_p6_ok (Q : Exit → Env → World → Prop) (g : Env) (w : World) (kn : Value → Value → Value → Value → Value → Value → Value → Value → World → Prop) (R : Value → World → Prop) (hn : ∀ g w, kn (g 0) (g 2) (g 3) (g 4) (g 11) (g 12) (g 13) (g 14) w → Q .normal g w) (hr : ∀ g w, (resVals pg rs_ref17_Plan g w fun vs => R (tup vs) w) → Q .ret g w) (h : ref17_Plan_p6 kn R (g 0) (g 2) (g 3) (g 4) (g 11) (g 12) w) : den pg ann_ref17_Plan (takeS 5 (bI (takeS 1 (dropS 1 (bI (bI (dropS 1 (takeS 1 (dropS 2 code_ref17_Plan))))))))) Q g w := by
  have e : (ref17_Plan_p6 kn R (g 0) (g 2) (g 3) (g 4) (g 11) (g 12) w) = den pg ann_ref17_Plan (takeS 5 (bI (takeS 1 (dropS 1 (bI (bI (dropS 1 (takeS 1 (dropS 2 code_ref17_Plan))))))))) (exQ (fun g w => kn (g 0) (g 2) (g 3) (g 4) (g 11) (g 12) (g 13) (g 14) w) (fun g w => resVals pg rs_ref17_Plan g w fun vs => R (tup vs) w) []) g w := by kernel_rfl
  exact den_exQ e h hn hr trivial

def ref17_Plan_p7 (kn : Value → Value → Value → Value → Value → Value → World → Prop) (R : Value → World → Prop) (b_0 t2 l_3 behind_4 at_11 i_12 : Value) (w : World) : Prop :=
  ref17_Plan_p6 (fun b_0 t2 l_3 behind_4 at_11 i_12 off_13 k_14 w => ref17_Plan_p5 kn R b_0 t2 l_3 behind_4 at_11 i_12 off_13 k_14 w) R b_0 t2 l_3 behind_4 at_11 i_12 w
theorem ref17_Plan_p7_ok (Q : Exit → Env → World → Prop) (g : Env) (w : World) (kn : Value → Value → Value → Value → Value → Value → World → Prop) (R : Value → World → Prop) (hn : ∀ g w, kn (g 0) (g 2) (g 3) (g 4) (g 11) (g 12) w → Q .normal g w) (hr : ∀ g w, (resVals pg rs_ref17_Plan g w fun vs => R (tup vs) w) → Q .ret g w) (h : ref17_Plan_p7 kn R (g 0) (g 2) (g 3) (g 4) (g 11) (g 12) w) : den pg ann_ref17_Plan (bI (takeS 1 (dropS 1 (bI (bI (dropS 1 (takeS 1 (dropS 2 code_ref17_Plan)))))))) Q g w := by
  exact den_seqs 5 (bI (takeS 1 (dropS 1 (bI (bI (dropS 1 (takeS 1 (dropS 2 code_ref17_Plan)))))))) g w (by kernel_rfl) (ref17_Plan_p6_ok (thenE (fun g w => den pg ann_ref17_Plan (dropS 5 (bI (takeS 1 (dropS 1 (bI (bI (dropS 1 (takeS 1 (dropS 2 code_ref17_Plan))))))))) Q g w) Q) g w (fun b_0 t2 l_3 behind_4 at_11 i_12 off_13 k_14 w => ref17_Plan_p5 kn R b_0 t2 l_3 behind_4 at_11 i_12 off_13 k_14 w) R (fun g w h => (ref17_Plan_p5_ok Q g w kn R hn hr h)) hr h)

def ref17_Plan_p8 (kn : Value → Value → Value → Value → Value → Value → World → Prop) (R : Value → World → Prop) (b_0 t2 l_3 behind_4 at_11 i_12 : Value) (w : World) : Prop :=
  ref17_Plan_p7 kn R b_0 t2 l_3 behind_4 at_11 i_12 w
theorem ref17_Plan_p8_ok (Q : Exit → Env → World → Prop) (g : Env) (w : World) (kn : Value → Value → Value → Value → Value → Value → World → Prop) (R : Value → World → Prop) (hn : ∀ g w, kn (g 0) (g 2) (g 3) (g 4) (g 11) (g 12) w → Q .normal g w) (hr : ∀ g w, (resVals pg rs_ref17_Plan g w fun vs => R (tup vs) w) → Q .ret g w) (h : ref17_Plan_p8 kn R (g 0) (g 2) (g 3) (g 4) (g 11) (g 12) w) : den pg ann_ref17_Plan (takeS 1 (dropS 1 (bI (bI (dropS 1 (takeS 1 (dropS 2 code_ref17_Plan))))))) Q g w :=
  den_blk 1 (takeS 1 (dropS 1 (bI (bI (dropS 1 (takeS 1 (dropS 2 code_ref17_Plan))))))) g w (by kernel_rfl) (ref17_Plan_p7_ok (blk 1 Q) g w kn R hn hr h)

def ref17_Plan_p9 (kn : Value → Value → Value → Value → Value → Value → World → Prop) (R : Value → World → Prop) (b_0 t2 l_3 behind_4 at_11 i_12 : Value) (w : World) : Prop :=
  ref17_Plan_p8 (fun b_0 t2 l_3 behind_4 at_11 i_12 w => ref17_Plan_p2 kn b_0 t2 l_3 behind_4 at_11 i_12 w) R b_0 t2 l_3 behind_4 at_11 i_12 w
theorem ref17_Plan_p9_ok (Q : Exit → Env → World → Prop) (g : Env) (w : World) (kn : Value → Value → Value → Value → Value → Value → World → Prop) (R : Value → World → Prop) (hn : ∀ g w, kn (g 0) (g 2) (g 3) (g 4) (g 11) (g 12) w → Q .normal g w) (hr : ∀ g w, (resVals pg rs_ref17_Plan g w fun vs => R (tup vs) w) → Q .ret g w) (h : ref17_Plan_p9 kn R (g 0) (g 2) (g 3) (g 4) (g 11) (g 12) w) : den pg ann_ref17_Plan (dropS 1 (bI (bI (dropS 1 (takeS 1 (dropS 2 code_ref17_Plan)))))) Q g w := by
  exact den_seqs 1 (dropS 1 (bI (bI (dropS 1 (takeS 1 (dropS 2 code_ref17_Plan)))))) g w (by kernel_rfl) (ref17_Plan_p8_ok (thenE (fun g w => den pg ann_ref17_Plan (dropS 1 (dropS 1 (bI (bI (dropS 1 (takeS 1 (dropS 2 code_ref17_Plan))))))) Q g w) Q) g w (fun b_0 t2 l_3 behind_4 at_11 i_12 w => ref17_Plan_p2 kn b_0 t2 l_3 behind_4 at_11 i_12 w) R (fun g w h => (ref17_Plan_p2_ok Q g w kn hn h)) hr h)

def ref17_Plan_p10 (kn : Value → Value → Value → Value → Value → Value → World → Prop) (k0 : Value → Value → Value → World → Prop) (b_0 t2 l_3 behind_4 at_11 i_12 : Value) (w : World) : Prop :=
  Stp pg (sBi .len #[24] 3 [l_3]) w fun t18 w =>
  Stp pg (sBin .lss 3 (.tmp 16) (.tmp 18) i_12 t18) w fun t19 w =>
  Cnd t19
    (kn b_0 t2 l_3 behind_4 at_11 i_12 w)
    (k0 t2 behind_4 at_11 w)
theorem ref17_Plan_p10_ok (Q : Exit → Env → World → Prop) (g : Env) (w : World) (kn : Value → Value → Value → Value → Value → Value → World → Prop) (k0 : Value → Value → Value → World → Prop) (hn : ∀ g w, kn (g 0) (g 2) (g 3) (g 4) (g 11) (g 12) w → Q .normal g w) (h0 : ∀ g w, k0 (g 2) (g 4) (g 11) w → Q (.exit 0) g w) (h : ref17_Plan_p10 kn k0 (g 0) (g 2) (g 3) (g 4) (g 11) (g 12) w) : den pg ann_ref17_Plan (takeS 1 (bI (bI (dropS 1 (takeS 1 (dropS 2 code_ref17_Plan)))))) Q g w := by
  have e : (ref17_Plan_p10 kn k0 (g 0) (g 2) (g 3) (g 4) (g 11) (g 12) w) = den pg ann_ref17_Plan (takeS 1 (bI (bI (dropS 1 (takeS 1 (dropS 2 code_ref17_Plan)))))) (exQ (fun g w => kn (g 0) (g 2) (g 3) (g 4) (g 11) (g 12) w) (fun _ _ => False) [(0, fun g w => k0 (g 2) (g 4) (g 11) w)]) g w := by kernel_rfl
  exact den_exQ e h hn (fun _ _ h => h.elim) ⟨h0, trivial⟩

def ref17_Plan_p11 (kn : Value → Value → Value → Value → Value → Value → World → Prop) (k0 : Value → Value → Value → World → Prop) (R : Value → World → Prop) (b_0 t2 l_3 behind_4 at_11 i_12 : Value) (w : World) : Prop :=
  ref17_Plan_p10 (fun b_0 t2 l_3 behind_4 at_11 i_12 w => ref17_Plan_p9 kn R b_0 t2 l_3 behind_4 at_11 i_12 w) k0 b_0 t2 l_3 behind_4 at_11 i_12 w
theorem ref17_Plan_p11_ok (Q : Exit → Env → World → Prop) (g : Env) (w : World) (kn : Value → Value → Value → Value → Value → Value → World → Prop) (k0 : Value → Value → Value → World → Prop) (R : Value → World → Prop) (hn : ∀ g w, kn (g 0) (g 2) (g 3) (g 4) (g 11) (g 12) w → Q .normal g w) (h0 : ∀ g w, k0 (g 2) (g 4) (g 11) w → Q (.exit 0) g w) (hr : ∀ g w, (resVals pg rs_ref17_Plan g w fun vs => R (tup vs) w) → Q .ret g w) (h : ref17_Plan_p11 kn k0 R (g 0) (g 2) (g 3) (g 4) (g 11) (g 12) w) : den pg ann_ref17_Plan (bI (bI (dropS 1 (takeS 1 (dropS 2 code_ref17_Plan))))) Q g w := by
  exact den_seqs 1 (bI (bI (dropS 1 (takeS 1 (dropS 2 code_ref17_Plan))))) g w (by kernel_rfl) (ref17_Plan_p10_ok (thenE (fun g w => den pg ann_ref17_Plan (dropS 1 (bI (bI (dropS 1 (takeS 1 (dropS 2 code_ref17_Plan)))))) Q g w) Q) g w (fun b_0 t2 l_3 behind_4 at_11 i_12 w => ref17_Plan_p9 kn R b_0 t2 l_3 behind_4 at_11 i_12 w) k0 (fun g w h => (ref17_Plan_p9_ok Q g w kn R hn hr h)) h0 h)

def ref17_Plan_p12 (k0 : Value → Value → Value → World → Prop) (R : Value → World → Prop) (b_0 t2 l_3 behind_4 at_11 i_12 : Value) (w : World) : Prop :=
  LoopD (fun (X : (Value × Value) → World → Prop) (t : Value × Value) (w : World) => ref17_Plan_p11 (fun _ _ _ _ at_11 i_12 w => X (at_11, i_12) w) k0 R b_0 t2 l_3 behind_4 t.1 t.2 w) (at_11, i_12) w
theorem ref17_Plan_p12_ok (Q : Exit → Env → World → Prop) (g : Env) (w : World) (k0 : Value → Value → Value → World → Prop) (R : Value → World → Prop) (h0 : ∀ g w, k0 (g 2) (g 4) (g 11) w → Q (.exit 0) g w) (hr : ∀ g w, (resVals pg rs_ref17_Plan g w fun vs => R (tup vs) w) → Q .ret g w) (h : ref17_Plan_p12 k0 R (g 0) (g 2) (g 3) (g 4) (g 11) (g 12) w) : den pg ann_ref17_Plan (bI (dropS 1 (takeS 1 (dropS 2 code_ref17_Plan)))) Q g w := by
  refine den_loops (T := Value × Value) (fun g : Env => (g 11, g 12)) (fun X t w => ref17_Plan_p11 (fun _ _ _ _ at_11 i_12 w => X (at_11, i_12) w) k0 R (g 0) (g 2) (g 3) (g 4) t.1 t.2 w) (bI (dropS 1 (takeS 1 (dropS 2 code_ref17_Plan)))) (by kernel_rfl) h (fun X g1 w1 ha h1 => ?_)
  rw [← agree_at (s := 0) ha (by kernel_rfl)] at h1
  rw [← agree_at (s := 2) ha (by kernel_rfl)] at h1
  rw [← agree_at (s := 3) ha (by kernel_rfl)] at h1
  rw [← agree_at (s := 4) ha (by kernel_rfl)] at h1
  exact (ref17_Plan_p11_ok (thenE (fun g2 w2 => X ((fun g : Env => (g 11, g 12)) g2) w2) Q) g1 w1 (fun _ _ _ _ at_11 i_12 w => X (at_11, i_12) w) k0 R (fun _ _ h => h) h0 hr h1)

def ref17_Plan_p13 (kn : Value → Value → Value → World → Prop) (R : Value → World → Prop) (b_0 t2 l_3 behind_4 at_11 i_12 : Value) (w : World) : Prop :=
  ref17_Plan_p12 kn R b_0 t2 l_3 behind_4 at_11 i_12 w
theorem ref17_Plan_p13_ok (Q : Exit → Env → World → Prop) (g : Env) (w : World) (kn : Value → Value → Value → World → Prop) (R : Value → World → Prop) (hn : ∀ g w, kn (g 2) (g 4) (g 11) w → Q .normal g w) (hr : ∀ g w, (resVals pg rs_ref17_Plan g w fun vs => R (tup vs) w) → Q .ret g w) (h : ref17_Plan_p13 kn R (g 0) (g 2) (g 3) (g 4) (g 11) (g 12) w) : den pg ann_ref17_Plan (dropS 1 (takeS 1 (dropS 2 code_ref17_Plan))) Q g w :=
  den_blk 0 (dropS 1 (takeS 1 (dropS 2 code_ref17_Plan))) g w (by kernel_rfl) (ref17_Plan_p12_ok (blk 0 Q) g w kn R hn hr h)

def ref17_Plan_p14 (kn : Value → Value → Value → Value → Value → Value → World → Prop) (b_0 t2 l_3 behind_4 at_11 : Value) (w : World) : Prop :=
  kn b_0 t2 l_3 behind_4 at_11 (.int .i64 0) w
theorem ref17_Plan_p14_ok (Q : Exit → Env → World → Prop) (g : Env) (w : World) (kn : Value → Value → Value → Value → Value → Value → World → Prop) (hn : ∀ g w, kn (g 0) (g 2) (g 3) (g 4) (g 11) (g 12) w → Q .normal g w) (h : ref17_Plan_p14 kn (g 0) (g 2) (g 3) (g 4) (g 11) w) : den pg ann_ref17_Plan (takeS 1 (takeS 1 (dropS 2 code_ref17_Plan))) Q g w := by
  have e : (ref17_Plan_p14 kn (g 0) (g 2) (g 3) (g 4) (g 11) w) = den pg ann_ref17_Plan (takeS 1 (takeS 1 (dropS 2 code_ref17_Plan))) (exQ (fun g w => kn (g 0) (g 2) (g 3) (g 4) (g 11) (g 12) w) (fun _ _ => False) []) g w := by kernel_rfl
  exact den_exQ e h hn (fun _ _ h => h.elim) trivial

def ref17_Plan_p15 (kn : Value → Value → Value → World → Prop) (R : Value → World → Prop) (b_0 t2 l_3 behind_4 at_11 : Value) (w : World) : Prop :=
  ref17_Plan_p14 (fun b_0 t2 l_3 behind_4 at_11 i_12 w => ref17_Plan_p13 kn R b_0 t2 l_3 behind_4 at_11 i_12 w) b_0 t2 l_3 behind_4 at_11 w
theorem ref17_Plan_p15_ok (Q : Exit → Env → World → Prop) (g : Env) (w : World) (kn : Value → Value → Value → World → Prop) (R : Value → World → Prop) (hn : ∀ g w, kn (g 2) (g 4) (g 11) w → Q .normal g w) (hr : ∀ g w, (resVals pg rs_ref17_Plan g w fun vs => R (tup vs) w) → Q .ret g w) (h : ref17_Plan_p15 kn R (g 0) (g 2) (g 3) (g 4) (g 11) w) : den pg ann_ref17_Plan (takeS 1 (dropS 2 code_ref17_Plan)) Q g w := by
  exact den_seqs 1 (takeS 1 (dropS 2 code_ref17_Plan)) g w (by kernel_rfl) (ref17_Plan_p14_ok (thenE (fun g w => den pg ann_ref17_Plan (dropS 1 (takeS 1 (dropS 2 code_ref17_Plan))) Q g w) Q) g w (fun b_0 t2 l_3 behind_4 at_11 i_12 w => ref17_Plan_p13 kn R b_0 t2 l_3 behind_4 at_11 i_12 w) (fun g w h => (ref17_Plan_p13_ok Q g w kn R hn hr h)) h)

def ref17_Plan_p16 (R : Value → World → Prop) (b_0 t2 l_3 behind_4 at_11 : Value) (w : World) : Prop :=
  ref17_Plan_p15 (fun t2 behind_4 at_11 w => ref17_Plan_p1 R t2 behind_4 at_11 w) R b_0 t2 l_3 behind_4 at_11 w
theorem ref17_Plan_p16_ok (Q : Exit → Env → World → Prop) (g : Env) (w : World) (R : Value → World → Prop) (hr : ∀ g w, (resVals pg rs_ref17_Plan g w fun vs => R (tup vs) w) → Q .ret g w) (h : ref17_Plan_p16 R (g 0) (g 2) (g 3) (g 4) (g 11) w) : den pg ann_ref17_Plan (dropS 2 code_ref17_Plan) Q g w := by
  exact den_seqs 1 (dropS 2 code_ref17_Plan) g w (by kernel_rfl) (ref17_Plan_p15_ok (thenE (fun g w => den pg ann_ref17_Plan (dropS 1 (dropS 2 code_ref17_Plan)) Q g w) Q) g w (fun t2 behind_4 at_11 w => ref17_Plan_p1 R t2 behind_4 at_11 w) R (fun g w h => (ref17_Plan_p1_ok Q g w R hr h)) hr h)

def ref17_Plan_p17 (kn : Value → Value → Value → Value → Value → World → Prop) (b_0 from_1 t2 l_3 behind_4 : Value) (w : World) : Prop :=
  kn b_0 t2 l_3 behind_4 from_1 w
theorem ref17_Plan_p17_ok (Q : Exit → Env → World → Prop) (g : Env) (w : World) (kn : Value → Value → Value → Value → Value → World → Prop) (hn : ∀ g w, kn (g 0) (g 2) (g 3) (g 4) (g 11) w → Q .normal g w) (h : ref17_Plan_p17 kn (g 0) (g 1) (g 2) (g 3) (g 4) w) : den pg ann_ref17_Plan (takeS 2 code_ref17_Plan) Q g w := by
  have e : (ref17_Plan_p17 kn (g 0) (g 1) (g 2) (g 3) (g 4) w) = den pg ann_ref17_Plan (takeS 2 code_ref17_Plan) (exQ (fun g w => kn (g 0) (g 2) (g 3) (g 4) (g 11) w) (fun _ _ => False) []) g w := by kernel_rfl
  exact den_exQ e h hn (fun _ _ h => h.elim) trivial

def ref17_Plan_p18 (R : Value → World → Prop) (b_0 from_1 t2 l_3 behind_4 : Value) (w : World) : Prop :=
  ref17_Plan_p17 (fun b_0 t2 l_3 behind_4 at_11 w => ref17_Plan_p16 R b_0 t2 l_3 behind_4 at_11 w) b_0 from_1 t2 l_3 behind_4 w
theorem ref17_Plan_p18_ok (Q : Exit → Env → World → Prop) (g : Env) (w : World) (R : Value → World → Prop) (hr : ∀ g w, (resVals pg rs_ref17_Plan g w fun vs => R (tup vs) w) → Q .ret g w) (h : ref17_Plan_p18 R (g 0) (g 1) (g 2) (g 3) (g 4) w) : den pg ann_ref17_Plan code_ref17_Plan Q g w := by
  exact den_seqs 2 code_ref17_Plan g w (by kernel_rfl) (ref17_Plan_p17_ok (thenE (fun g w => den pg ann_ref17_Plan (dropS 2 code_ref17_Plan) Q g w) Q) g w (fun b_0 t2 l_3 behind_4 at_11 w => ref17_Plan_p16 R b_0 t2 l_3 behind_4 at_11 w) (fun g w h => (ref17_Plan_p16_ok Q g w R hr h)) h)

def ref17_Plan (a0 a1 a2 a3 a4 : Value) (w : World) (R : Value → World → Prop) : Prop :=
  ref17_Plan_p18 R a0 a1 a2 a3 a4 w
theorem ref17_Plan_does {a0 a1 a2 a3 a4 : Value} {w : World} {R : Value → World → Prop} (h : ref17_Plan a0 a1 a2 a3 a4 w R) : Does pg F_ref17_Plan #[a0, a1, a2, a3, a4] w R := by
  refine does_of_den (ann := ann_ref17_Plan) (fn := Try.f9) (c := code_ref17_Plan) (args := [a0, a1, a2, a3, a4]) (rs := rs_ref17_Plan) (N := 107) TryM.mixed (by kernel_rfl) Try.func9 (by kernel_rfl) (by kernel_rfl) (by kernel_rfl) (of_decide_eq_true (by kernel_rfl)) (by kernel_rfl) ?_
  exact (ref17_Plan_p18_ok (retQ pg rs_ref17_Plan R) (envOf [a0, a1, a2, a3, a4]) w R (fun _ _ h => h) h)
-- PIECES ref17_Plan/0 ref17_Plan_p1 ref17_Plan_p12 ref17_Plan_p13 ref17_Plan_p14 ref17_Plan_p15 ref17_Plan_p16 ref17_Plan_p17 ref17_Plan_p18
-- PIECES ref17_Plan/1 ref17_Plan_p2 ref17_Plan_p4 ref17_Plan_p5 ref17_Plan_p6 ref17_Plan_p7 ref17_Plan_p8 ref17_Plan_p9 ref17_Plan_p10 ref17_Plan_p11
-- PIECES ref17_Plan/2 ref17_Plan_p3

/- (*lighterman/match.finder).note -/
def ann_match_finder_note : FA := ⟨F_match_finder_note, fun i => match Nat.beq i 1 with | true => .leaf ([], []) [(false, []), (false, []), (false, []), (false, []), (false, []), (false, []), (false, []), (false, []), (false, []), (false, []), (false, [])] | false => match Nat.beq i 7 with | true => .leaf ([6], []) [(false, []), (false, []), (false, []), (false, []), (false, []), (false, []), (true, [])] | false => .leaf ([], []) []⟩
def rs_match_finder_note : List ResultVar := []
noncomputable def code_match_finder_note : Code := bodyOf Try.f10
def match_finder_note_p1 (kn : World → Prop) (f_0 at_1 k_4 ok_5 : Value) (w : World) : Prop :=
  Cnd ok_5
    ((dr w) = (dr w) ∧
    Stp pg (sNil f_0) (dr w) fun t49 w_ => w_ = (dr w) ∧
    Stp pg (sFAddr 38 t49 2) (dr w) fun t50 w_ => w_ = (dr w) ∧
    Stp pg (sLoad 35 t50) (dr w) fun t51 w_ => w_ = (dr w) ∧
    Stp pg (sLoad 45 k_4) (dr w) fun t52 w_ => w_ = (dr w) ∧
    (dr w) = (dr w) ∧
    Stp pg (sMapUp 35 t51 t52 at_1) (dr w) fun _u6 w7_6 =>
    kn w7_6)
    (kn w)
theorem match_finder_note_p1_ok (Q : Exit → Env → World → Prop) (g : Env) (w : World) (kn : World → Prop) (hn : ∀ g w, kn w → Q .normal g w) (h : match_finder_note_p1 kn (g 0) (g 1) (g 4) (g 5) w) : den pg ann_match_finder_note (dropS 3 code_match_finder_note) Q g w := by
  have e : (match_finder_note_p1 kn (g 0) (g 1) (g 4) (g 5) w) = den pg ann_match_finder_note (dropS 3 code_match_finder_note) (exQ (fun g w => kn w) (fun _ _ => False) []) g w := by kernel_rfl
  exact den_exQ e h hn (fun _ _ h => h.elim) trivial

def match_finder_note_p2 (kn : Value → Value → Value → Value → World → Prop) (f_0 at_1 : Value) (w : World) : Prop :=
  Does pg F_match_finder_keyed #[f_0, at_1] w fun t11 w =>
  Stp pg (sExtr t11 0) w fun t12 w =>
  Stp pg (sExtr t11 1) w fun t13 w =>
  Stp pg (sAlloc 45) w fun k_4 w =>
  Stp pg (sStore 45 k_4 t12) w fun _u w =>
  (dr w) = (dr w) ∧
  Stp pg (sNil f_0) (dr w) fun t16 w_ => w_ = (dr w) ∧
  Stp pg (sFAddr 38 t16 2) (dr w) fun t17 w_ => w_ = (dr w) ∧
  Stp pg (sLoad 35 t17) (dr w) fun t18 w_ => w_ = (dr w) ∧
  Stp pg (sLoad 45 k_4) (dr w) fun t19 w_ => w_ = (dr w) ∧
  Stp pg (sLook 35 t18 t19 true) (dr w) fun t20 w_ => w_ = (dr w) ∧
  (dr w) = (dr w) ∧
  Stp pg (sExtr t20 0) (dr w) fun t21 w_ => w_ = (dr w) ∧
  Stp pg (sExtr t20 1) (dr w) fun t22 w_ => w_ = (dr w) ∧
  (dr w) = (dr w) ∧
  (dr w) = (dr w) ∧
  Stp pg (sUn .not t13) (dr w) fun t25 w =>
  Gd (isB t25 false) (fun K => K t22 w) w fun t27 w =>
  Gd (isB t25 false) (fun K => Stp pg (sUn .not t27) w K) w fun t28 w =>
  Stp pg (sPick t25 (.bool true) t28) w fun t29 w =>
  Cnd t29
    (Stp pg (sNil f_0) w fun t31 w =>
    Stp pg (sFAddr 38 t31 3) w fun t32 w =>
    Stp pg (sLoad 36 t32) w fun t33 w =>
    Stp pg (sIAddr 36 t33 at_1) w fun t35 w =>
    Stp pg (sStore 3 t35 (.int .i64 (-1))) w fun _u w =>
    kn f_0 at_1 k_4 t13 w)
    (Stp pg (sBin .lss 3 (.tmp 37) (.tmp 38) t21 at_1) w fun t39 w =>
    Cnd t39
      (Stp pg (sNil f_0) w fun t41 w =>
      Stp pg (sFAddr 38 t41 3) w fun t42 w =>
      Stp pg (sLoad 36 t42) w fun t43 w =>
      Stp pg (sIAddr 36 t43 at_1) w fun t46 w =>
      Stp pg (sStore 3 t46 t21) w fun _u w =>
      kn f_0 at_1 k_4 t13 w)
      (kn f_0 at_1 k_4 t13 w))
theorem match_finder_note_p2_ok (Q : Exit → Env → World → Prop) (g : Env) (w : World) (kn : Value → Value → Value → Value → World → Prop) (hn : ∀ g w, kn (g 0) (g 1) (g 4) (g 5) w → Q .normal g w) (h : match_finder_note_p2 kn (g 0) (g 1) w) : den pg ann_match_finder_note (takeS 3 code_match_finder_note) Q g w := by
  have e : (match_finder_note_p2 kn (g 0) (g 1) w) = den pg ann_match_finder_note (takeS 3 code_match_finder_note) (exQ (fun g w => kn (g 0) (g 1) (g 4) (g 5) w) (fun _ _ => False) []) g w := by kernel_rfl
  exact den_exQ e h hn (fun _ _ h => h.elim) trivial

def match_finder_note_p3 (kn : World → Prop) (f_0 at_1 : Value) (w : World) : Prop :=
  match_finder_note_p2 (fun f_0 at_1 k_4 ok_5 w => match_finder_note_p1 kn f_0 at_1 k_4 ok_5 w) f_0 at_1 w
theorem match_finder_note_p3_ok (Q : Exit → Env → World → Prop) (g : Env) (w : World) (kn : World → Prop) (hn : ∀ g w, kn w → Q .normal g w) (h : match_finder_note_p3 kn (g 0) (g 1) w) : den pg ann_match_finder_note code_match_finder_note Q g w := by
  exact den_seqs 3 code_match_finder_note g w (by kernel_rfl) (match_finder_note_p2_ok (thenE (fun g w => den pg ann_match_finder_note (dropS 3 code_match_finder_note) Q g w) Q) g w (fun f_0 at_1 k_4 ok_5 w => match_finder_note_p1 kn f_0 at_1 k_4 ok_5 w) (fun g w h => (match_finder_note_p1_ok Q g w kn hn h)) h)

def match_finder_note (a0 a1 : Value) (w : World) (R : Value → World → Prop) : Prop :=
  match_finder_note_p3 (fun  w => R (.tuple #[]) w) a0 a1 w
theorem match_finder_note_does {a0 a1 : Value} {w : World} {R : Value → World → Prop} (h : match_finder_note a0 a1 w R) : Does pg F_match_finder_note #[a0, a1] w R := by
  refine does_of_den (ann := ann_match_finder_note) (fn := Try.f10) (c := code_match_finder_note) (args := [a0, a1]) (rs := rs_match_finder_note) (N := 54) TryM.mixed (by kernel_rfl) Try.func10 (by kernel_rfl) (by kernel_rfl) (by kernel_rfl) (of_decide_eq_true (by kernel_rfl)) (by kernel_rfl) ?_
  exact (match_finder_note_p3_ok (retQ pg rs_match_finder_note R) (envOf [a0, a1]) w (fun  w => R (.tuple #[]) w) (fun _ _ h => h) h)
-- PIECES match_finder_note/0 match_finder_note_p1 match_finder_note_p2 match_finder_note_p3

/- (*lighterman/match.finder).best -/
def ann_match_finder_best : FA := ⟨F_match_finder_best, fun i => match Nat.beq i 4 with | true => .leaf ([], []) [(false, []), (false, []), (false, []), (false, []), (false, []), (false, []), (false, []), (false, []), (false, []), (false, []), (false, [])] | false => .leaf ([], []) []⟩
def rs_match_finder_best : List ResultVar := [.tmp 4, .tmp 5]
noncomputable def code_match_finder_best : Code := bodyOf Try.f11
def match_finder_best_p1 (R : Value → World → Prop) (long_10 off_11 : Value) (w : World) : Prop :=
  R (.tuple #[long_10, off_11]) w
theorem match_finder_best_p1_ok (Q : Exit → Env → World → Prop) (g : Env) (w : World) (R : Value → World → Prop) (hr : ∀ g w, (resVals pg rs_match_finder_best g w fun vs => R (tup vs) w) → Q .ret g w) (h : match_finder_best_p1 R (g 10) (g 11) w) : den pg ann_match_finder_best (dropS 1 (dropS 6 (bI (dropS 1 code_match_finder_best)))) Q g w := by
  have e : (match_finder_best_p1 R (g 10) (g 11) w) = den pg ann_match_finder_best (dropS 1 (dropS 6 (bI (dropS 1 code_match_finder_best)))) (exQ (fun _ _ => False) (fun g w => resVals pg rs_match_finder_best g w fun vs => R (tup vs) w) []) g w := by kernel_rfl
  exact den_exQ e h (fun _ _ h => h.elim) hr trivial

def match_finder_best_p2 (kn : Value → Value → Value → Value → Value → Value → Value → World → Prop) (f_0 at_1 old_8 long_10 off_11 t35 t36 : Value) (w : World) : Prop :=
  Stp pg (sBin .add 3 (.tmp 36) (.const (.int .i64 1)) t36 (.int .i64 1)) w fun t58 w =>
  kn f_0 at_1 old_8 long_10 off_11 t35 t58 w
theorem match_finder_best_p2_ok (Q : Exit → Env → World → Prop) (g : Env) (w : World) (kn : Value → Value → Value → Value → Value → Value → Value → World → Prop) (hn : ∀ g w, kn (g 0) (g 1) (g 8) (g 10) (g 11) (g 35) (g 36) w → Q .normal g w) (h : match_finder_best_p2 kn (g 0) (g 1) (g 8) (g 10) (g 11) (g 35) (g 36) w) : den pg ann_match_finder_best (dropS 1 (dropS 2 (bI (bI (dropS 1 (takeS 1 (dropS 6 (bI (dropS 1 code_match_finder_best))))))))) Q g w := by
  have e : (match_finder_best_p2 kn (g 0) (g 1) (g 8) (g 10) (g 11) (g 35) (g 36) w) = den pg ann_match_finder_best (dropS 1 (dropS 2 (bI (bI (dropS 1 (takeS 1 (dropS 6 (bI (dropS 1 code_match_finder_best))))))))) (exQ (fun g w => kn (g 0) (g 1) (g 8) (g 10) (g 11) (g 35) (g 36) w) (fun _ _ => False) []) g w := by kernel_rfl
  exact den_exQ e h hn (fun _ _ h => h.elim) trivial

def match_finder_best_p3 (kn : Value → Value → Value → Value → Value → Value → Value → World → Prop) (k0 : Value → Value → World → Prop) (f_0 at_1 old_8 long_10 off_11 t35 t36 : Value) (w : World) : Prop :=
  Stp pg (sNil f_0) w fun t50 w =>
  Stp pg (sFAddr 38 t50 3) w fun t51 w =>
  Stp pg (sLoad 36 t51) w fun t52 w =>
  Stp pg (sIAddr 36 t52 old_8) w fun t54 w =>
  Stp pg (sLoad 3 t54) w fun t55 w =>
  Stp pg (sBin .lss 3 (.tmp 56) (.const (.int .i64 0)) t55 (.int .i64 0)) w fun t57 w =>
  Cnd t57
    (k0 long_10 off_11 w)
    (kn f_0 at_1 t55 long_10 off_11 t35 t36 w)
theorem match_finder_best_p3_ok (Q : Exit → Env → World → Prop) (g : Env) (w : World) (kn : Value → Value → Value → Value → Value → Value → Value → World → Prop) (k0 : Value → Value → World → Prop) (hn : ∀ g w, kn (g 0) (g 1) (g 8) (g 10) (g 11) (g 35) (g 36) w → Q .normal g w) (h0 : ∀ g w, k0 (g 10) (g 11) w → Q (.exit 0) g w) (h : match_finder_best_p3 kn k0 (g 0) (g 1) (g 8) (g 10) (g 11) (g 35) (g 36) w) : den pg ann_match_finder_best (dropS 1 (bI (takeS 1 (dropS 2 (bI (bI (dropS 1 (takeS 1 (dropS 6 (bI (dropS 1 code_match_finder_best))))))))))) Q g w := by
  have e : (match_finder_best_p3 kn k0 (g 0) (g 1) (g 8) (g 10) (g 11) (g 35) (g 36) w) = den pg ann_match_finder_best (dropS 1 (bI (takeS 1 (dropS 2 (bI (bI (dropS 1 (takeS 1 (dropS 6 (bI (dropS 1 code_match_finder_best))))))))))) (exQ (fun g w => kn (g 0) (g 1) (g 8) (g 10) (g 11) (g 35) (g 36) w) (fun _ _ => False) [(0, fun g w => k0 (g 10) (g 11) w)]) g w := by kernel_rfl
  exact den_exQ e h hn (fun _ _ h => h.elim) ⟨h0, trivial⟩

def match_finder_best_p4 (kn : Value → Value → Value → Value → Value → Value → Value → World → Prop) (f_0 at_1 old_8 long_10 off_11 t35 t36 : Value) (w : World) : Prop :=
  Does pg F_match_finder_long #[f_0, old_8, at_1] w fun t41 w =>
  Stp pg (sBin .gtr 3 (.tmp 42) (.tmp 43) t41 long_10) w fun t44 w =>
  Cnd t44
    (Stp pg (sBin .sub 3 (.tmp 46) (.tmp 47) at_1 old_8) w fun t48 w =>
    kn f_0 at_1 old_8 t41 t48 t35 t36 w)
    (kn f_0 at_1 old_8 long_10 off_11 t35 t36 w)
theorem match_finder_best_p4_ok (Q : Exit → Env → World → Prop) (g : Env) (w : World) (kn : Value → Value → Value → Value → Value → Value → Value → World → Prop) (hn : ∀ g w, kn (g 0) (g 1) (g 8) (g 10) (g 11) (g 35) (g 36) w → Q .normal g w) (h : match_finder_best_p4 kn (g 0) (g 1) (g 8) (g 10) (g 11) (g 35) (g 36) w) : den pg ann_match_finder_best (takeS 1 (bI (takeS 1 (dropS 2 (bI (bI (dropS 1 (takeS 1 (dropS 6 (bI (dropS 1 code_match_finder_best))))))))))) Q g w := by
  have e : (match_finder_best_p4 kn (g 0) (g 1) (g 8) (g 10) (g 11) (g 35) (g 36) w) = den pg ann_match_finder_best (takeS 1 (bI (takeS 1 (dropS 2 (bI (bI (dropS 1 (takeS 1 (dropS 6 (bI (dropS 1 code_match_finder_best))))))))))) (exQ (fun g w => kn (g 0) (g 1) (g 8) (g 10) (g 11) (g 35) (g 36) w) (fun _ _ => False) []) g w := by kernel_rfl
  exact den_exQ e h hn (fun _ _ h => h.elim) trivial

def match_finder_best_p5 (kn : Value → Value → Value → Value → Value → Value → Value → World → Prop) (k0 : Value → Value → World → Prop) (f_0 at_1 old_8 long_10 off_11 t35 t36 : Value) (w : World) : Prop :=
  match_finder_best_p4 (fun f_0 at_1 old_8 long_10 off_11 t35 t36 w => match_finder_best_p3 kn k0 f_0 at_1 old_8 long_10 off_11 t35 t36 w) f_0 at_1 old_8 long_10 off_11 t35 t36 w
theorem match_finder_best_p5_ok (Q : Exit → Env → World → Prop) (g : Env) (w : World) (kn : Value → Value → Value → Value → Value → Value → Value → World → Prop) (k0 : Value → Value → World → Prop) (hn : ∀ g w, kn (g 0) (g 1) (g 8) (g 10) (g 11) (g 35) (g 36) w → Q .normal g w) (h0 : ∀ g w, k0 (g 10) (g 11) w → Q (.exit 0) g w) (h : match_finder_best_p5 kn k0 (g 0) (g 1) (g 8) (g 10) (g 11) (g 35) (g 36) w) : den pg ann_match_finder_best (bI (takeS 1 (dropS 2 (bI (bI (dropS 1 (takeS 1 (dropS 6 (bI (dropS 1 code_match_finder_best)))))))))) Q g w := by
  exact den_seqs 1 (bI (takeS 1 (dropS 2 (bI (bI (dropS 1 (takeS 1 (dropS 6 (bI (dropS 1 code_match_finder_best)))))))))) g w (by kernel_rfl) (match_finder_best_p4_ok (thenE (fun g w => den pg ann_match_finder_best (dropS 1 (bI (takeS 1 (dropS 2 (bI (bI (dropS 1 (takeS 1 (dropS 6 (bI (dropS 1 code_match_finder_best))))))))))) Q g w) Q) g w (fun f_0 at_1 old_8 long_10 off_11 t35 t36 w => match_finder_best_p3 kn k0 f_0 at_1 old_8 long_10 off_11 t35 t36 w) (fun g w h => (match_finder_best_p3_ok Q g w kn k0 hn h0 h)) h)

def match_finder_best_p6 (kn : Value → Value → Value → Value → Value → Value → Value → World → Prop) (k0 : Value → Value → World → Prop) (f_0 at_1 old_8 long_10 off_11 t35 t36 : Value) (w : World) : Prop :=
  match_finder_best_p5 kn k0 f_0 at_1 old_8 long_10 off_11 t35 t36 w
theorem match_finder_best_p6_ok (Q : Exit → Env → World → Prop) (g : Env) (w : World) (kn : Value → Value → Value → Value → Value → Value → Value → World → Prop) (k0 : Value → Value → World → Prop) (hn : ∀ g w, kn (g 0) (g 1) (g 8) (g 10) (g 11) (g 35) (g 36) w → Q .normal g w) (h0 : ∀ g w, k0 (g 10) (g 11) w → Q (.exit 0) g w) (h : match_finder_best_p6 kn k0 (g 0) (g 1) (g 8) (g 10) (g 11) (g 35) (g 36) w) : den pg ann_match_finder_best (takeS 1 (dropS 2 (bI (bI (dropS 1 (takeS 1 (dropS 6 (bI (dropS 1 code_match_finder_best))))))))) Q g w :=
  den_blk 1 (takeS 1 (dropS 2 (bI (bI (dropS 1 (takeS 1 (dropS 6 (bI (dropS 1 code_match_finder_best))))))))) g w (by kernel_rfl) (match_finder_best_p5_ok (blk 1 Q) g w kn k0 hn h0 h)

def match_finder_best_p7 (kn : Value → Value → Value → Value → Value → Value → Value → World → Prop) (k0 : Value → Value → World → Prop) (f_0 at_1 old_8 long_10 off_11 t35 t36 : Value) (w : World) : Prop :=
  match_finder_best_p6 (fun f_0 at_1 old_8 long_10 off_11 t35 t36 w => match_finder_best_p2 kn f_0 at_1 old_8 long_10 off_11 t35 t36 w) k0 f_0 at_1 old_8 long_10 off_11 t35 t36 w
theorem match_finder_best_p7_ok (Q : Exit → Env → World → Prop) (g : Env) (w : World) (kn : Value → Value → Value → Value → Value → Value → Value → World → Prop) (k0 : Value → Value → World → Prop) (hn : ∀ g w, kn (g 0) (g 1) (g 8) (g 10) (g 11) (g 35) (g 36) w → Q .normal g w) (h0 : ∀ g w, k0 (g 10) (g 11) w → Q (.exit 0) g w) (h : match_finder_best_p7 kn k0 (g 0) (g 1) (g 8) (g 10) (g 11) (g 35) (g 36) w) : den pg ann_match_finder_best (dropS 2 (bI (bI (dropS 1 (takeS 1 (dropS 6 (bI (dropS 1 code_match_finder_best)))))))) Q g w := by
  exact den_seqs 1 (dropS 2 (bI (bI (dropS 1 (takeS 1 (dropS 6 (bI (dropS 1 code_match_finder_best)))))))) g w (by kernel_rfl) (match_finder_best_p6_ok (thenE (fun g w => den pg ann_match_finder_best (dropS 1 (dropS 2 (bI (bI (dropS 1 (takeS 1 (dropS 6 (bI (dropS 1 code_match_finder_best))))))))) Q g w) Q) g w (fun f_0 at_1 old_8 long_10 off_11 t35 t36 w => match_finder_best_p2 kn f_0 at_1 old_8 long_10 off_11 t35 t36 w) k0 (fun g w h => (match_finder_best_p2_ok Q g w kn hn h)) h0 h)

def match_finder_best_p8 (kn : Value → Value → Value → Value → Value → Value → Value → World → Prop) (k0 : Value → Value → World → Prop) (f_0 at_1 old_8 long_10 off_11 t35 t36 : Value) (w : World) : Prop :=
  Stp pg (sBin .lss 3 (.tmp 36) (.tmp 35) t36 t35) w fun t37 w =>
  Cnd t37
    (kn f_0 at_1 old_8 long_10 off_11 t35 t36 w)
    (k0 long_10 off_11 w)
theorem match_finder_best_p8_ok (Q : Exit → Env → World → Prop) (g : Env) (w : World) (kn : Value → Value → Value → Value → Value → Value → Value → World → Prop) (k0 : Value → Value → World → Prop) (hn : ∀ g w, kn (g 0) (g 1) (g 8) (g 10) (g 11) (g 35) (g 36) w → Q .normal g w) (h0 : ∀ g w, k0 (g 10) (g 11) w → Q (.exit 0) g w) (h : match_finder_best_p8 kn k0 (g 0) (g 1) (g 8) (g 10) (g 11) (g 35) (g 36) w) : den pg ann_match_finder_best (takeS 2 (bI (bI (dropS 1 (takeS 1 (dropS 6 (bI (dropS 1 code_match_finder_best)))))))) Q g w := by
  have e : (match_finder_best_p8 kn k0 (g 0) (g 1) (g 8) (g 10) (g 11) (g 35) (g 36) w) = den pg ann_match_finder_best (takeS 2 (bI (bI (dropS 1 (takeS 1 (dropS 6 (bI (dropS 1 code_match_finder_best)))))))) (exQ (fun g w => kn (g 0) (g 1) (g 8) (g 10) (g 11) (g 35) (g 36) w) (fun _ _ => False) [(0, fun g w => k0 (g 10) (g 11) w)]) g w := by kernel_rfl
  exact den_exQ e h hn (fun _ _ h => h.elim) ⟨h0, trivial⟩

def match_finder_best_p9 (kn : Value → Value → Value → Value → Value → Value → Value → World → Prop) (k0 : Value → Value → World → Prop) (f_0 at_1 old_8 long_10 off_11 t35 t36 : Value) (w : World) : Prop :=
  match_finder_best_p8 (fun f_0 at_1 old_8 long_10 off_11 t35 t36 w => match_finder_best_p7 kn k0 f_0 at_1 old_8 long_10 off_11 t35 t36 w) k0 f_0 at_1 old_8 long_10 off_11 t35 t36 w
theorem match_finder_best_p9_ok (Q : Exit → Env → World → Prop) (g : Env) (w : World) (kn : Value → Value → Value → Value → Value → Value → Value → World → Prop) (k0 : Value → Value → World → Prop) (hn : ∀ g w, kn (g 0) (g 1) (g 8) (g 10) (g 11) (g 35) (g 36) w → Q .normal g w) (h0 : ∀ g w, k0 (g 10) (g 11) w → Q (.exit 0) g w) (h : match_finder_best_p9 kn k0 (g 0) (g 1) (g 8) (g 10) (g 11) (g 35) (g 36) w) : den pg ann_match_finder_best (bI (bI (dropS 1 (takeS 1 (dropS 6 (bI (dropS 1 code_match_finder_best))))))) Q g w := by
  exact den_seqs 2 (bI (bI (dropS 1 (takeS 1 (dropS 6 (bI (dropS 1 code_match_finder_best))))))) g w (by kernel_rfl) (match_finder_best_p8_ok (thenE (fun g w => den pg ann_match_finder_best (dropS 2 (bI (bI (dropS 1 (takeS 1 (dropS 6 (bI (dropS 1 code_match_finder_best)))))))) Q g w) Q) g w (fun f_0 at_1 old_8 long_10 off_11 t35 t36 w => match_finder_best_p7 kn k0 f_0 at_1 old_8 long_10 off_11 t35 t36 w) k0 (fun g w h => (match_finder_best_p7_ok Q g w kn k0 hn h0 h)) h0 h)

def match_finder_best_p10 (k0 : Value → Value → World → Prop) (f_0 at_1 old_8 long_10 off_11 t35 t36 : Value) (w : World) : Prop :=
  LoopD (fun (X : (Value × Value × Value × Value) → World → Prop) (t : Value × Value × Value × Value) (w : World) => match_finder_best_p9 (fun _ _ old_8 long_10 off_11 _ t36 w => X (old_8, long_10, off_11, t36) w) k0 f_0 at_1 t.1 t.2.1 t.2.2.1 t35 t.2.2.2 w) (old_8, long_10, off_11, t36) w
theorem match_finder_best_p10_ok (Q : Exit → Env → World → Prop) (g : Env) (w : World) (k0 : Value → Value → World → Prop) (h0 : ∀ g w, k0 (g 10) (g 11) w → Q (.exit 0) g w) (h : match_finder_best_p10 k0 (g 0) (g 1) (g 8) (g 10) (g 11) (g 35) (g 36) w) : den pg ann_match_finder_best (bI (dropS 1 (takeS 1 (dropS 6 (bI (dropS 1 code_match_finder_best)))))) Q g w := by
  refine den_loops (T := Value × Value × Value × Value) (fun g : Env => (g 8, g 10, g 11, g 36)) (fun X t w => match_finder_best_p9 (fun _ _ old_8 long_10 off_11 _ t36 w => X (old_8, long_10, off_11, t36) w) k0 (g 0) (g 1) t.1 t.2.1 t.2.2.1 (g 35) t.2.2.2 w) (bI (dropS 1 (takeS 1 (dropS 6 (bI (dropS 1 code_match_finder_best)))))) (by kernel_rfl) h (fun X g1 w1 ha h1 => ?_)
  rw [← agree_at (s := 0) ha (by kernel_rfl)] at h1
  rw [← agree_at (s := 1) ha (by kernel_rfl)] at h1
  rw [← agree_at (s := 35) ha (by kernel_rfl)] at h1
  exact (match_finder_best_p9_ok (thenE (fun g2 w2 => X ((fun g : Env => (g 8, g 10, g 11, g 36)) g2) w2) Q) g1 w1 (fun _ _ old_8 long_10 off_11 _ t36 w => X (old_8, long_10, off_11, t36) w) k0 (fun _ _ h => h) h0 h1)

def match_finder_best_p11 (kn : Value → Value → World → Prop) (f_0 at_1 old_8 long_10 off_11 t35 t36 : Value) (w : World) : Prop :=
  match_finder_best_p10 kn f_0 at_1 old_8 long_10 off_11 t35 t36 w
theorem match_finder_best_p11_ok (Q : Exit → Env → World → Prop) (g : Env) (w : World) (kn : Value → Value → World → Prop) (hn : ∀ g w, kn (g 10) (g 11) w → Q .normal g w) (h : match_finder_best_p11 kn (g 0) (g 1) (g 8) (g 10) (g 11) (g 35) (g 36) w) : den pg ann_match_finder_best (dropS 1 (takeS 1 (dropS 6 (bI (dropS 1 code_match_finder_best))))) Q g w :=
  den_blk 0 (dropS 1 (takeS 1 (dropS 6 (bI (dropS 1 code_match_finder_best))))) g w (by kernel_rfl) (match_finder_best_p10_ok (blk 0 Q) g w kn hn h)

def match_finder_best_p12 (kn : Value → Value → Value → Value → Value → Value → Value → World → Prop) (f_0 at_1 old_8 long_10 off_11 : Value) (w : World) : Prop :=
  Stp pg (sNil f_0) w fun t33 w =>
  Stp pg (sFAddr 38 t33 4) w fun t34 w =>
  Stp pg (sLoad 3 t34) w fun t35 w =>
  kn f_0 at_1 old_8 long_10 off_11 t35 (.int .i64 0) w
theorem match_finder_best_p12_ok (Q : Exit → Env → World → Prop) (g : Env) (w : World) (kn : Value → Value → Value → Value → Value → Value → Value → World → Prop) (hn : ∀ g w, kn (g 0) (g 1) (g 8) (g 10) (g 11) (g 35) (g 36) w → Q .normal g w) (h : match_finder_best_p12 kn (g 0) (g 1) (g 8) (g 10) (g 11) w) : den pg ann_match_finder_best (takeS 1 (takeS 1 (dropS 6 (bI (dropS 1 code_match_finder_best))))) Q g w := by
  have e : (match_finder_best_p12 kn (g 0) (g 1) (g 8) (g 10) (g 11) w) = den pg ann_match_finder_best (takeS 1 (takeS 1 (dropS 6 (bI (dropS 1 code_match_finder_best))))) (exQ (fun g w => kn (g 0) (g 1) (g 8) (g 10) (g 11) (g 35) (g 36) w) (fun _ _ => False) []) g w := by kernel_rfl
  exact den_exQ e h hn (fun _ _ h => h.elim) trivial

def match_finder_best_p13 (kn : Value → Value → World → Prop) (f_0 at_1 old_8 long_10 off_11 : Value) (w : World) : Prop :=
  match_finder_best_p12 (fun f_0 at_1 old_8 long_10 off_11 t35 t36 w => match_finder_best_p11 kn f_0 at_1 old_8 long_10 off_11 t35 t36 w) f_0 at_1 old_8 long_10 off_11 w
theorem match_finder_best_p13_ok (Q : Exit → Env → World → Prop) (g : Env) (w : World) (kn : Value → Value → World → Prop) (hn : ∀ g w, kn (g 10) (g 11) w → Q .normal g w) (h : match_finder_best_p13 kn (g 0) (g 1) (g 8) (g 10) (g 11) w) : den pg ann_match_finder_best (takeS 1 (dropS 6 (bI (dropS 1 code_match_finder_best)))) Q g w := by
  exact den_seqs 1 (takeS 1 (dropS 6 (bI (dropS 1 code_match_finder_best)))) g w (by kernel_rfl) (match_finder_best_p12_ok (thenE (fun g w => den pg ann_match_finder_best (dropS 1 (takeS 1 (dropS 6 (bI (dropS 1 code_match_finder_best))))) Q g w) Q) g w (fun f_0 at_1 old_8 long_10 off_11 t35 t36 w => match_finder_best_p11 kn f_0 at_1 old_8 long_10 off_11 t35 t36 w) (fun g w h => (match_finder_best_p11_ok Q g w kn hn h)) h)

def match_finder_best_p14 (R : Value → World → Prop) (f_0 at_1 old_8 long_10 off_11 : Value) (w : World) : Prop :=
  match_finder_best_p13 (fun long_10 off_11 w => match_finder_best_p1 R long_10 off_11 w) f_0 at_1 old_8 long_10 off_11 w
theorem match_finder_best_p14_ok (Q : Exit → Env → World → Prop) (g : Env) (w : World) (R : Value → World → Prop) (hr : ∀ g w, (resVals pg rs_match_finder_best g w fun vs => R (tup vs) w) → Q .ret g w) (h : match_finder_best_p14 R (g 0) (g 1) (g 8) (g 10) (g 11) w) : den pg ann_match_finder_best (dropS 6 (bI (dropS 1 code_match_finder_best))) Q g w := by
  exact den_seqs 1 (dropS 6 (bI (dropS 1 code_match_finder_best))) g w (by kernel_rfl) (match_finder_best_p13_ok (thenE (fun g w => den pg ann_match_finder_best (dropS 1 (dropS 6 (bI (dropS 1 code_match_finder_best)))) Q g w) Q) g w (fun long_10 off_11 w => match_finder_best_p1 R long_10 off_11 w) (fun g w h => (match_finder_best_p1_ok Q g w R hr h)) h)

def match_finder_best_p15 (kn : Value → Value → Value → Value → Value → World → Prop) (R : Value → World → Prop) (f_0 at_1 : Value) (w : World) : Prop :=
  Does pg F_match_finder_keyed #[f_0, at_1] w fun t16 w =>
  Stp pg (sExtr t16 0) w fun t17 w =>
  Stp pg (sExtr t16 1) w fun t18 w =>
  Stp pg (sAlloc 45) w fun k_6 w =>
  Stp pg (sStore 45 k_6 t17) w fun _u w =>
  Stp pg (sUn .not t18) w fun t20 w =>
  Cnd t20
    (R (.tuple #[(.int .i64 0), (.int .i64 0)]) w)
    ((dr w) = (dr w) ∧
    Stp pg (sNil f_0) (dr w) fun t23 w_ => w_ = (dr w) ∧
    Stp pg (sFAddr 38 t23 2) (dr w) fun t24 w_ => w_ = (dr w) ∧
    Stp pg (sLoad 35 t24) (dr w) fun t25 w_ => w_ = (dr w) ∧
    Stp pg (sLoad 45 k_6) (dr w) fun t26 w_ => w_ = (dr w) ∧
    Stp pg (sLook 35 t25 t26 true) (dr w) fun t27 w_ => w_ = (dr w) ∧
    (dr w) = (dr w) ∧
    Stp pg (sExtr t27 0) (dr w) fun t28 w_ => w_ = (dr w) ∧
    Stp pg (sExtr t27 1) (dr w) fun t29 w_ => w_ = (dr w) ∧
    (dr w) = (dr w) ∧
    (dr w) = (dr w) ∧
    Stp pg (sUn .not t29) (dr w) fun t31 w =>
    Cnd t31
      (R (.tuple #[(.int .i64 0), (.int .i64 0)]) w)
      (kn f_0 at_1 t28 (.int .i64 0) (.int .i64 0) w))
theorem match_finder_best_p15_ok (Q : Exit → Env → World → Prop) (g : Env) (w : World) (kn : Value → Value → Value → Value → Value → World → Prop) (R : Value → World → Prop) (hn : ∀ g w, kn (g 0) (g 1) (g 8) (g 10) (g 11) w → Q .normal g w) (hr : ∀ g w, (resVals pg rs_match_finder_best g w fun vs => R (tup vs) w) → Q .ret g w) (h : match_finder_best_p15 kn R (g 0) (g 1) w) : den pg ann_match_finder_best (takeS 6 (bI (dropS 1 code_match_finder_best))) Q g w := by
  have e : (match_finder_best_p15 kn R (g 0) (g 1) w) = den pg ann_match_finder_best (takeS 6 (bI (dropS 1 code_match_finder_best))) (exQ (fun g w => kn (g 0) (g 1) (g 8) (g 10) (g 11) w) (fun g w => resVals pg rs_match_finder_best g w fun vs => R (tup vs) w) []) g w := by kernel_rfl
  exact den_exQ e h hn hr trivial

def match_finder_best_p16 (R : Value → World → Prop) (f_0 at_1 : Value) (w : World) : Prop :=
  match_finder_best_p15 (fun f_0 at_1 old_8 long_10 off_11 w => match_finder_best_p14 R f_0 at_1 old_8 long_10 off_11 w) R f_0 at_1 w
theorem match_finder_best_p16_ok (Q : Exit → Env → World → Prop) (g : Env) (w : World) (R : Value → World → Prop) (hr : ∀ g w, (resVals pg rs_match_finder_best g w fun vs => R (tup vs) w) → Q .ret g w) (h : match_finder_best_p16 R (g 0) (g 1) w) : den pg ann_match_finder_best (bI (dropS 1 code_match_finder_best)) Q g w := by
  exact den_seqs 6 (bI (dropS 1 code_match_finder_best)) g w (by kernel_rfl) (match_finder_best_p15_ok (thenE (fun g w => den pg ann_match_finder_best (dropS 6 (bI (dropS 1 code_match_finder_best))) Q g w) Q) g w (fun f_0 at_1 old_8 long_10 off_11 w => match_finder_best_p14 R f_0 at_1 old_8 long_10 off_11 w) R (fun g w h => (match_finder_best_p14_ok Q g w R hr h)) hr h)

def match_finder_best_p17 (R : Value → World → Prop) (f_0 at_1 : Value) (w : World) : Prop :=
  match_finder_best_p16 R f_0 at_1 w
theorem match_finder_best_p17_ok (Q : Exit → Env → World → Prop) (g : Env) (w : World) (R : Value → World → Prop) (hr : ∀ g w, (resVals pg rs_match_finder_best g w fun vs => R (tup vs) w) → Q .ret g w) (h : match_finder_best_p17 R (g 0) (g 1) w) : den pg ann_match_finder_best (dropS 1 code_match_finder_best) Q g w :=
  den_scp (dropS 1 code_match_finder_best) g w (by kernel_rfl) (match_finder_best_p16_ok Q g w R hr h)

def match_finder_best_p18 (kn : Value → Value → World → Prop) (f_0 at_1 : Value) (w : World) : Prop :=
  kn f_0 at_1 w
theorem match_finder_best_p18_ok (Q : Exit → Env → World → Prop) (g : Env) (w : World) (kn : Value → Value → World → Prop) (hn : ∀ g w, kn (g 0) (g 1) w → Q .normal g w) (h : match_finder_best_p18 kn (g 0) (g 1) w) : den pg ann_match_finder_best (takeS 1 code_match_finder_best) Q g w := by
  have e : (match_finder_best_p18 kn (g 0) (g 1) w) = den pg ann_match_finder_best (takeS 1 code_match_finder_best) (exQ (fun g w => kn (g 0) (g 1) w) (fun _ _ => False) []) g w := by kernel_rfl
  exact den_exQ e h hn (fun _ _ h => h.elim) trivial

def match_finder_best_p19 (R : Value → World → Prop) (f_0 at_1 : Value) (w : World) : Prop :=
  match_finder_best_p18 (fun f_0 at_1 w => match_finder_best_p17 R f_0 at_1 w) f_0 at_1 w
theorem match_finder_best_p19_ok (Q : Exit → Env → World → Prop) (g : Env) (w : World) (R : Value → World → Prop) (hr : ∀ g w, (resVals pg rs_match_finder_best g w fun vs => R (tup vs) w) → Q .ret g w) (h : match_finder_best_p19 R (g 0) (g 1) w) : den pg ann_match_finder_best code_match_finder_best Q g w := by
  exact den_seqs 1 code_match_finder_best g w (by kernel_rfl) (match_finder_best_p18_ok (thenE (fun g w => den pg ann_match_finder_best (dropS 1 code_match_finder_best) Q g w) Q) g w (fun f_0 at_1 w => match_finder_best_p17 R f_0 at_1 w) (fun g w h => (match_finder_best_p17_ok Q g w R hr h)) h)

def match_finder_best (a0 a1 : Value) (w : World) (R : Value → World → Prop) : Prop :=
  match_finder_best_p19 R a0 a1 w
theorem match_finder_best_does {a0 a1 : Value} {w : World} {R : Value → World → Prop} (h : match_finder_best a0 a1 w R) : Does pg F_match_finder_best #[a0, a1] w R := by
  refine does_of_den (ann := ann_match_finder_best) (fn := Try.f11) (c := code_match_finder_best) (args := [a0, a1]) (rs := rs_match_finder_best) (N := 61) TryM.mixed (by kernel_rfl) Try.func11 (by kernel_rfl) (by kernel_rfl) (by kernel_rfl) (of_decide_eq_true (by kernel_rfl)) (by kernel_rfl) ?_
  exact (match_finder_best_p19_ok (retQ pg rs_match_finder_best R) (envOf [a0, a1]) w R (fun _ _ h => h) h)
-- PIECES match_finder_best/0 match_finder_best_p1 match_finder_best_p10 match_finder_best_p11 match_finder_best_p12 match_finder_best_p13 match_finder_best_p14 match_finder_best_p15 match_finder_best_p16 match_finder_best_p17 match_finder_best_p18 match_finder_best_p19
-- PIECES match_finder_best/1 match_finder_best_p2 match_finder_best_p3 match_finder_best_p4 match_finder_best_p5 match_finder_best_p6 match_finder_best_p7 match_finder_best_p8 match_finder_best_p9

/- (*lighterman/match.finder).keyed -/
def ann_match_finder_keyed : FA := ⟨F_match_finder_keyed, fun i => .leaf ([], []) []⟩
def rs_match_finder_keyed : List ResultVar := [.cell 4 45, .tmp 5]
noncomputable def code_match_finder_keyed : Code := bodyOf Try.f12
def match_finder_keyed_p1 (R : Value → World → Prop) (f_0 at_1 : Value) (w : World) : Prop :=
  Stp pg (sAlloc 45) w fun t4 w =>
  Stp pg (sBin .add 3 (.tmp 6) (.const (.int .i64 4)) at_1 (.int .i64 4)) w fun t7 w =>
  Stp pg (sNil f_0) w fun t9 w =>
  Stp pg (sFAddr 38 t9 0) w fun t10 w =>
  Stp pg (sLoad 22 t10) w fun t11 w =>
  Stp pg (sBi .len #[22] 3 [t11]) w fun t12 w =>
  Stp pg (sBin .gtr 3 (.tmp 7) (.tmp 12) t7 t12) w fun t13 w =>
  Cnd t13
    (Stp pg (sBuild 45 []) w fun t14 w =>
    Stp pg (sStore 45 t4 t14) w fun _u w =>
    LdR pg 45 t4 w fun r0 => R (.tuple #[r0, (.bool false)]) w)
    (Stp pg (sNil f_0) w fun t16 w =>
    Stp pg (sFAddr 38 t16 0) w fun t17 w =>
    Stp pg (sLoad 22 t17) w fun t18 w =>
    Stp pg (sBin .add 3 (.tmp 20) (.const (.int .i64 4)) at_1 (.int .i64 4)) w fun t21 w =>
    Stp pg (sSlice 22 t18 (some at_1) (some t21) none) w fun t22 w =>
    Stp pg (sArr 45 t22) w fun t23 w =>
    Stp pg (sLoad 45 t23) w fun t24 w =>
    Stp pg (sStore 45 t4 t24) w fun _u w =>
    LdR pg 45 t4 w fun r0 => R (.tuple #[r0, (.bool true)]) w)
theorem match_finder_keyed_p1_ok (Q : Exit → Env → World → Prop) (g : Env) (w : World) (R : Value → World → Prop) (hr : ∀ g w, (resVals pg rs_match_finder_keyed g w fun vs => R (tup vs) w) → Q .ret g w) (h : match_finder_keyed_p1 R (g 0) (g 1) w) : den pg ann_match_finder_keyed code_match_finder_keyed Q g w := by
  have e : (match_finder_keyed_p1 R (g 0) (g 1) w) = den pg ann_match_finder_keyed code_match_finder_keyed (exQ (fun _ _ => False) (fun g w => resVals pg rs_match_finder_keyed g w fun vs => R (tup vs) w) []) g w := by kernel_rfl
  exact den_exQ e h (fun _ _ h => h.elim) hr trivial

def match_finder_keyed (a0 a1 : Value) (w : World) (R : Value → World → Prop) : Prop :=
  match_finder_keyed_p1 R a0 a1 w
theorem match_finder_keyed_does {a0 a1 : Value} {w : World} {R : Value → World → Prop} (h : match_finder_keyed a0 a1 w R) : Does pg F_match_finder_keyed #[a0, a1] w R := by
  refine does_of_den (ann := ann_match_finder_keyed) (fn := Try.f12) (c := code_match_finder_keyed) (args := [a0, a1]) (rs := rs_match_finder_keyed) (N := 25) TryM.mixed (by kernel_rfl) Try.func12 (by kernel_rfl) (by kernel_rfl) (by kernel_rfl) (of_decide_eq_true (by kernel_rfl)) (by kernel_rfl) ?_
  exact (match_finder_keyed_p1_ok (retQ pg rs_match_finder_keyed R) (envOf [a0, a1]) w R (fun _ _ h => h) h)
-- PIECES match_finder_keyed/0 match_finder_keyed_p1

/- (*lighterman/match.finder).long -/
def ann_match_finder_long : FA := ⟨F_match_finder_long, fun i => match Nat.beq i 2 with | true => .leaf ([], []) [(false, []), (false, []), (false, []), (false, []), (false, []), (false, []), (false, []), (false, []), (false, []), (false, []), (false, []), (false, []), (false, []), (false, []), (false, []), (false, []), (false, []), (false, []), (false, []), (false, []), (false, []), (false, []), (false, []), (false, []), (false, []), (false, []), (false, []), (false, []), (false, []), (false, []), (false, []), (false, []), (false, [])] | false => .leaf ([], []) []⟩
def rs_match_finder_long : List ResultVar := [.tmp 6]
noncomputable def code_match_finder_long : Code := bodyOf Try.f13
def match_finder_long_p1 (R : Value → World → Prop) (n_7 : Value) (w : World) : Prop :=
  R n_7 w
theorem match_finder_long_p1_ok (Q : Exit → Env → World → Prop) (g : Env) (w : World) (R : Value → World → Prop) (hr : ∀ g w, (resVals pg rs_match_finder_long g w fun vs => R (tup vs) w) → Q .ret g w) (h : match_finder_long_p1 R (g 7) w) : den pg ann_match_finder_long (dropS 1 (dropS 2 code_match_finder_long)) Q g w := by
  have e : (match_finder_long_p1 R (g 7) w) = den pg ann_match_finder_long (dropS 1 (dropS 2 code_match_finder_long)) (exQ (fun _ _ => False) (fun g w => resVals pg rs_match_finder_long g w fun vs => R (tup vs) w) []) g w := by kernel_rfl
  exact den_exQ e h (fun _ _ h => h.elim) hr trivial

def match_finder_long_p2 (kn : Value → Value → Value → Value → World → Prop) (k0 : Value → World → Prop) (f_0 old_1 at_2 n_7 : Value) (w : World) : Prop :=
  (dr w) = (dr w) ∧
  (dr w) = (dr w) ∧
  Stp pg (sBin .add 3 (.tmp 8) (.tmp 9) at_2 n_7) (dr w) fun t10 w_ => w_ = (dr w) ∧
  (dr w) = (dr w) ∧
  Stp pg (sNil f_0) (dr w) fun t12 w_ => w_ = (dr w) ∧
  Stp pg (sFAddr 38 t12 1) (dr w) fun t13 w_ => w_ = (dr w) ∧
  Stp pg (sLoad 3 t13) (dr w) fun t14 w_ => w_ = (dr w) ∧
  Stp pg (sBin .lss 3 (.tmp 10) (.tmp 14) t10 t14) (dr w) fun t15 w_ => w_ = (dr w) ∧
  (dr w) = (dr w) ∧
  Gd (isB t15 true) (fun K => K n_7 (dr w)) (dr w) fun t17 w_ => w_ = (dr w) ∧
  Gd (isB t15 true) (fun K => Stp pg (sBin .lss 3 (.tmp 17) (.const (.int .i64 131074)) t17 (.int .i64 131074)) (dr w) K) (dr w) fun t18 w_ => w_ = (dr w) ∧
  Stp pg (sPick t15 t18 (.bool false)) (dr w) fun t19 w_ => w_ = (dr w) ∧
  (dr w) = (dr w) ∧
  Gd (isB t19 true) (fun K => K f_0 (dr w)) (dr w) fun t21 w_ => w_ = (dr w) ∧
  Gd (isB t19 true) (fun K => Stp pg (sNil t21) (dr w) K) (dr w) fun t22 w_ => w_ = (dr w) ∧
  Gd (isB t19 true) (fun K => Stp pg (sFAddr 38 t22 0) (dr w) K) (dr w) fun t23 w_ => w_ = (dr w) ∧
  Gd (isB t19 true) (fun K => Stp pg (sLoad 22 t23) (dr w) K) (dr w) fun t24 w_ => w_ = (dr w) ∧
  Gd (isB t19 true) (fun K => K old_1 (dr w)) (dr w) fun t25 w_ => w_ = (dr w) ∧
  Gd (isB t19 true) (fun K => K n_7 (dr w)) (dr w) fun t26 w_ => w_ = (dr w) ∧
  Gd (isB t19 true) (fun K => Stp pg (sBin .add 3 (.tmp 25) (.tmp 26) t25 t26) (dr w) K) (dr w) fun t27 w_ => w_ = (dr w) ∧
  Gd (isB t19 true) (fun K => Stp pg (sIAddr 22 t24 t27) (dr w) K) (dr w) fun t28 w_ => w_ = (dr w) ∧
  Gd (isB t19 true) (fun K => Stp pg (sLoad 5 t28) (dr w) K) (dr w) fun t29 w_ => w_ = (dr w) ∧
  Gd (isB t19 true) (fun K => K f_0 (dr w)) (dr w) fun t30 w_ => w_ = (dr w) ∧
  Gd (isB t19 true) (fun K => Stp pg (sNil t30) (dr w) K) (dr w) fun t31 w_ => w_ = (dr w) ∧
  Gd (isB t19 true) (fun K => Stp pg (sFAddr 38 t31 0) (dr w) K) (dr w) fun t32 w_ => w_ = (dr w) ∧
  Gd (isB t19 true) (fun K => Stp pg (sLoad 22 t32) (dr w) K) (dr w) fun t33 w_ => w_ = (dr w) ∧
  Gd (isB t19 true) (fun K => K at_2 (dr w)) (dr w) fun t34 w_ => w_ = (dr w) ∧
  Gd (isB t19 true) (fun K => K n_7 (dr w)) (dr w) fun t35 w_ => w_ = (dr w) ∧
  Gd (isB t19 true) (fun K => Stp pg (sBin .add 3 (.tmp 34) (.tmp 35) t34 t35) (dr w) K) (dr w) fun t36 w_ => w_ = (dr w) ∧
  Gd (isB t19 true) (fun K => Stp pg (sIAddr 22 t33 t36) (dr w) K) (dr w) fun t37 w_ => w_ = (dr w) ∧
  Gd (isB t19 true) (fun K => Stp pg (sLoad 5 t37) (dr w) K) (dr w) fun t38 w_ => w_ = (dr w) ∧
  Gd (isB t19 true) (fun K => Stp pg (sBin .eql 5 (.tmp 29) (.tmp 38) t29 t38) (dr w) K) (dr w) fun t39 w_ => w_ = (dr w) ∧
  Stp pg (sPick t19 t39 (.bool false)) (dr w) fun t40 w_ => w_ = (dr w) ∧
  Cnd t40
    (Stp pg (sBin .add 3 (.tmp 41) (.const (.int .i64 1)) n_7 (.int .i64 1)) (dr w) fun t42 w =>
    kn f_0 old_1 at_2 t42 w)
    (k0 n_7 (dr w))
theorem match_finder_long_p2_ok (Q : Exit → Env → World → Prop) (g : Env) (w : World) (kn : Value → Value → Value → Value → World → Prop) (k0 : Value → World → Prop) (hn : ∀ g w, kn (g 0) (g 1) (g 2) (g 7) w → Q .normal g w) (h0 : ∀ g w, k0 (g 7) w → Q (.exit 0) g w) (h : match_finder_long_p2 kn k0 (g 0) (g 1) (g 2) (g 7) w) : den pg ann_match_finder_long (bI (bI (takeS 1 (dropS 2 code_match_finder_long)))) Q g w := by
  have e : (match_finder_long_p2 kn k0 (g 0) (g 1) (g 2) (g 7) w) = den pg ann_match_finder_long (bI (bI (takeS 1 (dropS 2 code_match_finder_long)))) (exQ (fun g w => kn (g 0) (g 1) (g 2) (g 7) w) (fun _ _ => False) [(0, fun g w => k0 (g 7) w)]) g w := by kernel_rfl
  exact den_exQ e h hn (fun _ _ h => h.elim) ⟨h0, trivial⟩

def match_finder_long_p3 (k0 : Value → World → Prop) (f_0 old_1 at_2 n_7 : Value) (w : World) : Prop :=
  LoopD (fun (X : Value → World → Prop) (t : Value) (w : World) => match_finder_long_p2 (fun _ _ _ n_7 w => X n_7 w) k0 f_0 old_1 at_2 t w) n_7 w
theorem match_finder_long_p3_ok (Q : Exit → Env → World → Prop) (g : Env) (w : World) (k0 : Value → World → Prop) (h0 : ∀ g w, k0 (g 7) w → Q (.exit 0) g w) (h : match_finder_long_p3 k0 (g 0) (g 1) (g 2) (g 7) w) : den pg ann_match_finder_long (bI (takeS 1 (dropS 2 code_match_finder_long))) Q g w := by
  refine den_loops (T := Value) (fun g : Env => g 7) (fun X t w => match_finder_long_p2 (fun _ _ _ n_7 w => X n_7 w) k0 (g 0) (g 1) (g 2) t w) (bI (takeS 1 (dropS 2 code_match_finder_long))) (by kernel_rfl) h (fun X g1 w1 ha h1 => ?_)
  rw [← agree_at (s := 0) ha (by kernel_rfl)] at h1
  rw [← agree_at (s := 1) ha (by kernel_rfl)] at h1
  rw [← agree_at (s := 2) ha (by kernel_rfl)] at h1
  exact (match_finder_long_p2_ok (thenE (fun g2 w2 => X ((fun g : Env => g 7) g2) w2) Q) g1 w1 (fun _ _ _ n_7 w => X n_7 w) k0 (fun _ _ h => h) h0 h1)

def match_finder_long_p4 (kn : Value → World → Prop) (f_0 old_1 at_2 n_7 : Value) (w : World) : Prop :=
  match_finder_long_p3 kn f_0 old_1 at_2 n_7 w
theorem match_finder_long_p4_ok (Q : Exit → Env → World → Prop) (g : Env) (w : World) (kn : Value → World → Prop) (hn : ∀ g w, kn (g 7) w → Q .normal g w) (h : match_finder_long_p4 kn (g 0) (g 1) (g 2) (g 7) w) : den pg ann_match_finder_long (takeS 1 (dropS 2 code_match_finder_long)) Q g w :=
  den_blk 0 (takeS 1 (dropS 2 code_match_finder_long)) g w (by kernel_rfl) (match_finder_long_p3_ok (blk 0 Q) g w kn hn h)

def match_finder_long_p5 (R : Value → World → Prop) (f_0 old_1 at_2 n_7 : Value) (w : World) : Prop :=
  match_finder_long_p4 (fun n_7 w => match_finder_long_p1 R n_7 w) f_0 old_1 at_2 n_7 w
theorem match_finder_long_p5_ok (Q : Exit → Env → World → Prop) (g : Env) (w : World) (R : Value → World → Prop) (hr : ∀ g w, (resVals pg rs_match_finder_long g w fun vs => R (tup vs) w) → Q .ret g w) (h : match_finder_long_p5 R (g 0) (g 1) (g 2) (g 7) w) : den pg ann_match_finder_long (dropS 2 code_match_finder_long) Q g w := by
  exact den_seqs 1 (dropS 2 code_match_finder_long) g w (by kernel_rfl) (match_finder_long_p4_ok (thenE (fun g w => den pg ann_match_finder_long (dropS 1 (dropS 2 code_match_finder_long)) Q g w) Q) g w (fun n_7 w => match_finder_long_p1 R n_7 w) (fun g w h => (match_finder_long_p1_ok Q g w R hr h)) h)

def match_finder_long_p6 (kn : Value → Value → Value → Value → World → Prop) (f_0 old_1 at_2 : Value) (w : World) : Prop :=
  kn f_0 old_1 at_2 (.int .i64 0) w
theorem match_finder_long_p6_ok (Q : Exit → Env → World → Prop) (g : Env) (w : World) (kn : Value → Value → Value → Value → World → Prop) (hn : ∀ g w, kn (g 0) (g 1) (g 2) (g 7) w → Q .normal g w) (h : match_finder_long_p6 kn (g 0) (g 1) (g 2) w) : den pg ann_match_finder_long (takeS 2 code_match_finder_long) Q g w := by
  have e : (match_finder_long_p6 kn (g 0) (g 1) (g 2) w) = den pg ann_match_finder_long (takeS 2 code_match_finder_long) (exQ (fun g w => kn (g 0) (g 1) (g 2) (g 7) w) (fun _ _ => False) []) g w := by kernel_rfl
  exact den_exQ e h hn (fun _ _ h => h.elim) trivial

def match_finder_long_p7 (R : Value → World → Prop) (f_0 old_1 at_2 : Value) (w : World) : Prop :=
  match_finder_long_p6 (fun f_0 old_1 at_2 n_7 w => match_finder_long_p5 R f_0 old_1 at_2 n_7 w) f_0 old_1 at_2 w
theorem match_finder_long_p7_ok (Q : Exit → Env → World → Prop) (g : Env) (w : World) (R : Value → World → Prop) (hr : ∀ g w, (resVals pg rs_match_finder_long g w fun vs => R (tup vs) w) → Q .ret g w) (h : match_finder_long_p7 R (g 0) (g 1) (g 2) w) : den pg ann_match_finder_long code_match_finder_long Q g w := by
  exact den_seqs 2 code_match_finder_long g w (by kernel_rfl) (match_finder_long_p6_ok (thenE (fun g w => den pg ann_match_finder_long (dropS 2 code_match_finder_long) Q g w) Q) g w (fun f_0 old_1 at_2 n_7 w => match_finder_long_p5 R f_0 old_1 at_2 n_7 w) (fun g w h => (match_finder_long_p5_ok Q g w R hr h)) h)

def match_finder_long (a0 a1 a2 : Value) (w : World) (R : Value → World → Prop) : Prop :=
  match_finder_long_p7 R a0 a1 a2 w
theorem match_finder_long_does {a0 a1 a2 : Value} {w : World} {R : Value → World → Prop} (h : match_finder_long a0 a1 a2 w R) : Does pg F_match_finder_long #[a0, a1, a2] w R := by
  refine does_of_den (ann := ann_match_finder_long) (fn := Try.f13) (c := code_match_finder_long) (args := [a0, a1, a2]) (rs := rs_match_finder_long) (N := 44) TryM.mixed (by kernel_rfl) Try.func13 (by kernel_rfl) (by kernel_rfl) (by kernel_rfl) (of_decide_eq_true (by kernel_rfl)) (by kernel_rfl) ?_
  exact (match_finder_long_p7_ok (retQ pg rs_match_finder_long R) (envOf [a0, a1, a2]) w R (fun _ _ h => h) h)
-- PIECES match_finder_long/0 match_finder_long_p1 match_finder_long_p3 match_finder_long_p4 match_finder_long_p5 match_finder_long_p6 match_finder_long_p7
-- PIECES match_finder_long/1 match_finder_long_p2

end Go.Proofs.Ytoobkaojepgnjaa

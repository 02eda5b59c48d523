/- The pieces of bodies, written by a program of ours off the loaded code, each with its proof. -/
import Derived.Test.YtblljiohpcbieaaRows
import Derived.Test.YtblljiohpcbieaaEnGen
namespace Go.Proofs.Ytblljiohpcbieaa
open Go Go.En
set_option linter.unusedVariables false
attribute [local irreducible] Go.En.den

noncomputable abbrev pg : Program := Try.prog
theorem TryM.mixed : pg.follows .mixedOrders = true := Try.checked.mixed
abbrev F_law03_XxhSums : FuncId := 3
abbrev F_law03_XxhLengths : FuncId := 4
abbrev F_law03_XxhPieces : FuncId := 5
abbrev F_law03_XxhStripes : FuncId := 6
abbrev F_law03_awake : FuncId := 7
abbrev F_xxh_New : FuncId := 8
abbrev F_xxh_Hash_Write : FuncId := 9
abbrev F_xxh_Hash_Sum : FuncId := 10
abbrev F_ref03_Of : FuncId := 11
abbrev F_xxh_Of : FuncId := 12
abbrev F_xxh_round : FuncId := 13
abbrev F_xxh_number : FuncId := 14
abbrev F_xxh_Hash_joined : FuncId := 15
abbrev F_math_bits_RotateLeft64 : FuncId := 16
abbrev F_ref03_round : FuncId := 17
abbrev F_ref03_at : FuncId := 18
abbrev F_ref03_turn : FuncId := 19
abbrev F_ref01_Number : FuncId := 20
abbrev F_ref01_Take : FuncId := 21
/- lighterman/lightermanlaw03.XxhSums -/
def ann_law03_XxhSums : Nat → Ann × Plan := fun i => (([], []), [])
def rs_law03_XxhSums : List ResultVar := [.tmp 2]
noncomputable def code_law03_XxhSums : Code := bodyOf Try.f3
def law03_XxhSums_p1 (R : Value → World → Prop) (h_4 all_5 : Value) (w : World) : Prop :=
  Does pg F_xxh_Hash_Sum #[h_4] w fun t45 w =>
  Does pg F_ref03_Of #[all_5] w fun t47 w =>
  Stp pg (sBin .eql 28 (.tmp 45) (.tmp 47) t45 t47) w fun t48 w =>
  Gd (isB t48 true) (fun K => K all_5 w) w fun t50 w =>
  Gd (isB t48 true) (fun K => Stp pg (sCvt 9 26 t50) w K) w fun t51 w =>
  Gd (isB t48 true) (fun K => Does pg F_xxh_Of #[t51] w K) w fun t52 w =>
  Gd (isB t48 true) (fun K => K all_5 w) w fun t53 w =>
  Gd (isB t48 true) (fun K => Does pg F_ref03_Of #[t53] w K) w fun t54 w =>
  Gd (isB t48 true) (fun K => Stp pg (sBin .eql 28 (.tmp 52) (.tmp 54) t52 t54) w K) w fun t55 w =>
  Stp pg (sPick t48 t55 (.bool false)) w fun t56 w =>
  R t56 w
theorem law03_XxhSums_p1_ok (Q : Exit → Env → World → Prop) (g : Env) (w : World) (R : Value → World → Prop) (hr : ∀ g w, (resVals pg rs_law03_XxhSums g w fun vs => R (tup vs) w) → Q .ret g w) (h : law03_XxhSums_p1 R (g 4) (g 5) w) : den pg ann_law03_XxhSums (dropS 1 (dropS 6 code_law03_XxhSums)) Q g w := by
  have e : (law03_XxhSums_p1 R (g 4) (g 5) w) = den pg ann_law03_XxhSums (dropS 1 (dropS 6 code_law03_XxhSums)) (exQ (fun _ _ => False) (fun g w => resVals pg rs_law03_XxhSums g w fun vs => R (tup vs) w) []) g w := by kernel_rfl
  exact den_exQ e h (fun _ _ h => h.elim) hr trivial

def law03_XxhSums_p2 (kn : Value → Value → Value → Value → World → Prop) (k0 : Value → Value → World → Prop) (R : Value → World → Prop) (l_0 h_4 all_5 i_6 : Value) (w : World) : Prop :=
  Stp pg (sBi .len #[22] 3 [l_0]) w fun t16 w =>
  Stp pg (sBin .lss 3 (.tmp 14) (.tmp 16) i_6 t16) w fun t17 w =>
  Cnd t17
    (Stp pg (sIAddr 22 l_0 i_6) w fun t22 w =>
    Stp pg (sLoad 26 t22) w fun t23 w =>
    Stp pg (sBi .len #[26] 3 [t23]) w fun t24 w =>
    Stp pg (sBin .gtr 3 (.tmp 24) (.const (.int .i64 500)) t24 (.int .i64 500)) w fun t25 w =>
    Cnd t25
      (R (.bool true) w)
      (Stp pg (sIAddr 22 l_0 i_6) w fun t29 w =>
      Stp pg (sLoad 26 t29) w fun t30 w =>
      Does pg F_xxh_Hash_Write #[h_4, t30] w fun t31 w =>
      Stp pg (sIAddr 22 l_0 i_6) w fun t35 w =>
      Stp pg (sLoad 26 t35) w fun t36 w =>
      Stp pg (sCvt 26 9 t36) w fun t37 w =>
      Stp pg (sBin .add 9 (.tmp 32) (.tmp 37) all_5 t37) w fun t38 w =>
      Does pg F_xxh_Hash_Sum #[h_4] w fun t40 w =>
      Does pg F_ref03_Of #[t38] w fun t42 w =>
      Stp pg (sBin .neq 28 (.tmp 40) (.tmp 42) t40 t42) w fun t43 w =>
      Cnd t43
        (R (.bool false) w)
        (Stp pg (sBin .add 3 (.tmp 18) (.const (.int .i64 1)) i_6 (.int .i64 1)) w fun t19 w =>
        kn l_0 h_4 t38 t19 w)))
    (k0 h_4 all_5 w)
theorem law03_XxhSums_p2_ok (Q : Exit → Env → World → Prop) (g : Env) (w : World) (kn : Value → Value → Value → Value → World → Prop) (k0 : Value → Value → World → Prop) (R : Value → World → Prop) (hn : ∀ g w, kn (g 0) (g 4) (g 5) (g 6) w → Q .normal g w) (h0 : ∀ g w, k0 (g 4) (g 5) w → Q (.exit 0) g w) (hr : ∀ g w, (resVals pg rs_law03_XxhSums g w fun vs => R (tup vs) w) → Q .ret g w) (h : law03_XxhSums_p2 kn k0 R (g 0) (g 4) (g 5) (g 6) w) : den pg ann_law03_XxhSums (bI (bI (dropS 1 (takeS 1 (dropS 6 code_law03_XxhSums))))) Q g w := by
  have e : (law03_XxhSums_p2 kn k0 R (g 0) (g 4) (g 5) (g 6) w) = den pg ann_law03_XxhSums (bI (bI (dropS 1 (takeS 1 (dropS 6 code_law03_XxhSums))))) (exQ (fun g w => kn (g 0) (g 4) (g 5) (g 6) w) (fun g w => resVals pg rs_law03_XxhSums g w fun vs => R (tup vs) w) [(0, fun g w => k0 (g 4) (g 5) w)]) g w := by kernel_rfl
  exact den_exQ e h hn hr ⟨h0, trivial⟩

def law03_XxhSums_p3 (k0 : Value → Value → World → Prop) (R : Value → World → Prop) (l_0 h_4 all_5 i_6 : Value) (w : World) : Prop :=
  LoopD (fun (X : (Value × Value) → World → Prop) (t : Value × Value) (w : World) => law03_XxhSums_p2 (fun _ _ all_5 i_6 w => X (all_5, i_6) w) k0 R l_0 h_4 t.1 t.2 w) (all_5, i_6) w
theorem law03_XxhSums_p3_ok (Q : Exit → Env → World → Prop) (g : Env) (w : World) (k0 : Value → Value → World → Prop) (R : Value → World → Prop) (h0 : ∀ g w, k0 (g 4) (g 5) w → Q (.exit 0) g w) (hr : ∀ g w, (resVals pg rs_law03_XxhSums g w fun vs => R (tup vs) w) → Q .ret g w) (h : law03_XxhSums_p3 k0 R (g 0) (g 4) (g 5) (g 6) w) : den pg ann_law03_XxhSums (bI (dropS 1 (takeS 1 (dropS 6 code_law03_XxhSums)))) Q g w := by
  refine den_loops (T := Value × Value) (fun g : Env => (g 5, g 6)) (fun X t w => law03_XxhSums_p2 (fun _ _ all_5 i_6 w => X (all_5, i_6) w) k0 R (g 0) (g 4) t.1 t.2 w) (bI (dropS 1 (takeS 1 (dropS 6 code_law03_XxhSums)))) (by kernel_rfl) h (fun X g1 w1 ha h1 => ?_)
  rw [← agree_at (s := 0) ha (by kernel_rfl)] at h1
  rw [← agree_at (s := 4) ha (by kernel_rfl)] at h1
  exact (law03_XxhSums_p2_ok (thenE (fun g2 w2 => X ((fun g : Env => (g 5, g 6)) g2) w2) Q) g1 w1 (fun _ _ all_5 i_6 w => X (all_5, i_6) w) k0 R (fun _ _ h => h) h0 hr h1)

def law03_XxhSums_p4 (kn : Value → Value → World → Prop) (R : Value → World → Prop) (l_0 h_4 all_5 i_6 : Value) (w : World) : Prop :=
  law03_XxhSums_p3 kn R l_0 h_4 all_5 i_6 w
theorem law03_XxhSums_p4_ok (Q : Exit → Env → World → Prop) (g : Env) (w : World) (kn : Value → Value → World → Prop) (R : Value → World → Prop) (hn : ∀ g w, kn (g 4) (g 5) w → Q .normal g w) (hr : ∀ g w, (resVals pg rs_law03_XxhSums g w fun vs => R (tup vs) w) → Q .ret g w) (h : law03_XxhSums_p4 kn R (g 0) (g 4) (g 5) (g 6) w) : den pg ann_law03_XxhSums (dropS 1 (takeS 1 (dropS 6 code_law03_XxhSums))) Q g w :=
  den_blk 0 (dropS 1 (takeS 1 (dropS 6 code_law03_XxhSums))) g w (by kernel_rfl) (law03_XxhSums_p3_ok (blk 0 Q) g w kn R hn hr h)

def law03_XxhSums_p5 (kn : Value → Value → Value → Value → World → Prop) (l_0 h_4 all_5 : Value) (w : World) : Prop :=
  kn l_0 h_4 all_5 (.int .i64 0) w
theorem law03_XxhSums_p5_ok (Q : Exit → Env → World → Prop) (g : Env) (w : World) (kn : Value → Value → Value → Value → World → Prop) (hn : ∀ g w, kn (g 0) (g 4) (g 5) (g 6) w → Q .normal g w) (h : law03_XxhSums_p5 kn (g 0) (g 4) (g 5) w) : den pg ann_law03_XxhSums (takeS 1 (takeS 1 (dropS 6 code_law03_XxhSums))) Q g w := by
  have e : (law03_XxhSums_p5 kn (g 0) (g 4) (g 5) w) = den pg ann_law03_XxhSums (takeS 1 (takeS 1 (dropS 6 code_law03_XxhSums))) (exQ (fun g w => kn (g 0) (g 4) (g 5) (g 6) w) (fun _ _ => False) []) g w := by kernel_rfl
  exact den_exQ e h hn (fun _ _ h => h.elim) trivial

def law03_XxhSums_p6 (kn : Value → Value → World → Prop) (R : Value → World → Prop) (l_0 h_4 all_5 : Value) (w : World) : Prop :=
  law03_XxhSums_p5 (fun l_0 h_4 all_5 i_6 w => law03_XxhSums_p4 kn R l_0 h_4 all_5 i_6 w) l_0 h_4 all_5 w
theorem law03_XxhSums_p6_ok (Q : Exit → Env → World → Prop) (g : Env) (w : World) (kn : Value → Value → World → Prop) (R : Value → World → Prop) (hn : ∀ g w, kn (g 4) (g 5) w → Q .normal g w) (hr : ∀ g w, (resVals pg rs_law03_XxhSums g w fun vs => R (tup vs) w) → Q .ret g w) (h : law03_XxhSums_p6 kn R (g 0) (g 4) (g 5) w) : den pg ann_law03_XxhSums (takeS 1 (dropS 6 code_law03_XxhSums)) Q g w := by
  exact den_seqs 1 (takeS 1 (dropS 6 code_law03_XxhSums)) g w (by kernel_rfl) (law03_XxhSums_p5_ok (thenE (fun g w => den pg ann_law03_XxhSums (dropS 1 (takeS 1 (dropS 6 code_law03_XxhSums))) Q g w) Q) g w (fun l_0 h_4 all_5 i_6 w => law03_XxhSums_p4 kn R l_0 h_4 all_5 i_6 w) (fun g w h => (law03_XxhSums_p4_ok Q g w kn R hn hr h)) h)

def law03_XxhSums_p7 (R : Value → World → Prop) (l_0 h_4 all_5 : Value) (w : World) : Prop :=
  law03_XxhSums_p6 (fun h_4 all_5 w => law03_XxhSums_p1 R h_4 all_5 w) R l_0 h_4 all_5 w
theorem law03_XxhSums_p7_ok (Q : Exit → Env → World → Prop) (g : Env) (w : World) (R : Value → World → Prop) (hr : ∀ g w, (resVals pg rs_law03_XxhSums g w fun vs => R (tup vs) w) → Q .ret g w) (h : law03_XxhSums_p7 R (g 0) (g 4) (g 5) w) : den pg ann_law03_XxhSums (dropS 6 code_law03_XxhSums) Q g w := by
  exact den_seqs 1 (dropS 6 code_law03_XxhSums) g w (by kernel_rfl) (law03_XxhSums_p6_ok (thenE (fun g w => den pg ann_law03_XxhSums (dropS 1 (dropS 6 code_law03_XxhSums)) Q g w) Q) g w (fun h_4 all_5 w => law03_XxhSums_p1 R h_4 all_5 w) R (fun g w h => (law03_XxhSums_p1_ok Q g w R hr h)) hr h)

def law03_XxhSums_p8 (kn : Value → Value → Value → World → Prop) (R : Value → World → Prop) (l_0 : Value) (w : World) : Prop :=
  Does pg F_law03_awake #[] w fun t7 w =>
  Stp pg (sUn .not t7) w fun t9 w =>
  Cnd t9
    (R (.bool false) w)
    (Stp pg (sBi .len #[22] 3 [l_0]) w fun t11 w =>
    Stp pg (sBin .gtr 3 (.tmp 11) (.const (.int .i64 20)) t11 (.int .i64 20)) w fun t12 w =>
    Cnd t12
      (R (.bool true) w)
      (Does pg F_xxh_New #[] w fun t13 w =>
      kn l_0 t13 (.string ⟨#[]⟩) w))
theorem law03_XxhSums_p8_ok (Q : Exit → Env → World → Prop) (g : Env) (w : World) (kn : Value → Value → Value → World → Prop) (R : Value → World → Prop) (hn : ∀ g w, kn (g 0) (g 4) (g 5) w → Q .normal g w) (hr : ∀ g w, (resVals pg rs_law03_XxhSums g w fun vs => R (tup vs) w) → Q .ret g w) (h : law03_XxhSums_p8 kn R (g 0) w) : den pg ann_law03_XxhSums (takeS 6 code_law03_XxhSums) Q g w := by
  have e : (law03_XxhSums_p8 kn R (g 0) w) = den pg ann_law03_XxhSums (takeS 6 code_law03_XxhSums) (exQ (fun g w => kn (g 0) (g 4) (g 5) w) (fun g w => resVals pg rs_law03_XxhSums g w fun vs => R (tup vs) w) []) g w := by kernel_rfl
  exact den_exQ e h hn hr trivial

def law03_XxhSums_p9 (R : Value → World → Prop) (l_0 : Value) (w : World) : Prop :=
  law03_XxhSums_p8 (fun l_0 h_4 all_5 w => law03_XxhSums_p7 R l_0 h_4 all_5 w) R l_0 w
theorem law03_XxhSums_p9_ok (Q : Exit → Env → World → Prop) (g : Env) (w : World) (R : Value → World → Prop) (hr : ∀ g w, (resVals pg rs_law03_XxhSums g w fun vs => R (tup vs) w) → Q .ret g w) (h : law03_XxhSums_p9 R (g 0) w) : den pg ann_law03_XxhSums code_law03_XxhSums Q g w := by
  exact den_seqs 6 code_law03_XxhSums g w (by kernel_rfl) (law03_XxhSums_p8_ok (thenE (fun g w => den pg ann_law03_XxhSums (dropS 6 code_law03_XxhSums) Q g w) Q) g w (fun l_0 h_4 all_5 w => law03_XxhSums_p7 R l_0 h_4 all_5 w) R (fun g w h => (law03_XxhSums_p7_ok Q g w R hr h)) hr h)

def law03_XxhSums (a0 : Value) (w : World) (R : Value → World → Prop) : Prop :=
  law03_XxhSums_p9 R a0 w
theorem law03_XxhSums_does {a0 : Value} {w : World} {R : Value → World → Prop} (h : law03_XxhSums a0 w R) : Does pg F_law03_XxhSums #[a0] w R := by
  refine does_of_den (ann := ann_law03_XxhSums) (fn := Try.f3) (c := code_law03_XxhSums) (args := [a0]) (rs := rs_law03_XxhSums) (N := 57) TryM.mixed Try.func3 (by kernel_rfl) (by kernel_rfl) (by kernel_rfl) (of_decide_eq_true (by kernel_rfl)) (by kernel_rfl) ?_
  exact (law03_XxhSums_p9_ok (retQ pg rs_law03_XxhSums R) (envOf [a0]) w R (fun _ _ h => h) h)
-- PIECES law03_XxhSums/0 law03_XxhSums_p1 law03_XxhSums_p3 law03_XxhSums_p4 law03_XxhSums_p5 law03_XxhSums_p6 law03_XxhSums_p7 law03_XxhSums_p8 law03_XxhSums_p9
-- PIECES law03_XxhSums/1 law03_XxhSums_p2

/- lighterman/lightermanlaw03.XxhLengths -/
def ann_law03_XxhLengths : Nat → Ann × Plan := fun i => match Nat.beq i 9 with | true => (([1, 4], [(1, 3)]), [(false, []), (true, []), (false, []), (false, [1]), (true, []), (false, []), (false, [])]) | false => (([], []), [])
def rs_law03_XxhLengths : List ResultVar := [.tmp 4]
noncomputable def code_law03_XxhLengths : Code := bodyOf Try.f4
def law03_XxhLengths_p1 (R : Value → World → Prop) (b_6 : Value) (w : World) : Prop :=
  (dr w) = (dr w) ∧
  Does pg F_xxh_Of #[b_6] (dr w) fun t30 w9_1 =>
  w9_1 = w9_1 ∧
  Stp pg (sCvt 26 9 b_6) w9_1 fun t32 w_ => w_ = w9_1 ∧
  (Same pg (sCvt 26 9 b_6) t32 (dr w) ∧ True) ∧
  Does pg F_ref03_Of #[t32] w9_1 fun t33 w9_4 =>
  Stp pg (sBin .eql 28 (.tmp 30) (.tmp 33) t30 t33) w9_4 fun t34 w_ => w_ = w9_4 ∧
  w9_4 = w9_4 ∧
  R t34 w9_4
theorem law03_XxhLengths_p1_ok (Q : Exit → Env → World → Prop) (g : Env) (w : World) (R : Value → World → Prop) (hr : ∀ g w, (resVals pg rs_law03_XxhLengths g w fun vs => R (tup vs) w) → Q .ret g w) (h : law03_XxhLengths_p1 R (g 6) w) : den pg ann_law03_XxhLengths (dropS 1 (dropS 4 code_law03_XxhLengths)) Q g w := by
  have e : (law03_XxhLengths_p1 R (g 6) w) = den pg ann_law03_XxhLengths (dropS 1 (dropS 4 code_law03_XxhLengths)) (exQ (fun _ _ => False) (fun g w => resVals pg rs_law03_XxhLengths g w fun vs => R (tup vs) w) []) g w := by kernel_rfl
  exact den_exQ e h (fun _ _ h => h.elim) hr trivial

def law03_XxhLengths_p2 (kn : Value → Value → Value → World → Prop) (k0 : Value → World → Prop) (c_1 b_6 i_7 : Value) (w : World) : Prop :=
  Stp pg (sBi .len #[26] 3 [b_6]) w fun t17 w =>
  Stp pg (sBin .lss 3 (.tmp 15) (.tmp 17) i_7 t17) w fun t18 w =>
  Cnd t18
    (Stp pg (sBin .quo 3 (.tmp 24) (.const (.int .i64 7)) i_7 (.int .i64 7)) w fun t25 w =>
    Stp pg (sCvt 3 5 t25) w fun t26 w =>
    Stp pg (sBin .add 5 (.tmp 23) (.tmp 26) c_1 t26) w fun t27 w =>
    Stp pg (sIAddr 26 b_6 i_7) w fun t28 w =>
    Stp pg (sStore 5 t28 t27) w fun _u w =>
    Stp pg (sBin .add 3 (.tmp 19) (.const (.int .i64 1)) i_7 (.int .i64 1)) w fun t20 w =>
    kn c_1 b_6 t20 w)
    (k0 b_6 w)
theorem law03_XxhLengths_p2_ok (Q : Exit → Env → World → Prop) (g : Env) (w : World) (kn : Value → Value → Value → World → Prop) (k0 : Value → World → Prop) (hn : ∀ g w, kn (g 1) (g 6) (g 7) w → Q .normal g w) (h0 : ∀ g w, k0 (g 6) w → Q (.exit 0) g w) (h : law03_XxhLengths_p2 kn k0 (g 1) (g 6) (g 7) w) : den pg ann_law03_XxhLengths (bI (bI (dropS 1 (takeS 1 (dropS 4 code_law03_XxhLengths))))) Q g w := by
  have e : (law03_XxhLengths_p2 kn k0 (g 1) (g 6) (g 7) w) = den pg ann_law03_XxhLengths (bI (bI (dropS 1 (takeS 1 (dropS 4 code_law03_XxhLengths))))) (exQ (fun g w => kn (g 1) (g 6) (g 7) w) (fun _ _ => False) [(0, fun g w => k0 (g 6) w)]) g w := by kernel_rfl
  exact den_exQ e h hn (fun _ _ h => h.elim) ⟨h0, trivial⟩

def law03_XxhLengths_p3 (k0 : Value → World → Prop) (c_1 b_6 i_7 : Value) (w : World) : Prop :=
  LoopD (fun (X : Value → World → Prop) (t : Value) (w : World) => law03_XxhLengths_p2 (fun _ _ i_7 w => X i_7 w) k0 c_1 b_6 t w) i_7 w
theorem law03_XxhLengths_p3_ok (Q : Exit → Env → World → Prop) (g : Env) (w : World) (k0 : Value → World → Prop) (h0 : ∀ g w, k0 (g 6) w → Q (.exit 0) g w) (h : law03_XxhLengths_p3 k0 (g 1) (g 6) (g 7) w) : den pg ann_law03_XxhLengths (bI (dropS 1 (takeS 1 (dropS 4 code_law03_XxhLengths)))) Q g w := by
  refine den_loops (T := Value) (fun g : Env => g 7) (fun X t w => law03_XxhLengths_p2 (fun _ _ i_7 w => X i_7 w) k0 (g 1) (g 6) t w) (bI (dropS 1 (takeS 1 (dropS 4 code_law03_XxhLengths)))) (by kernel_rfl) h (fun X g1 w1 ha h1 => ?_)
  rw [← agree_at (s := 1) ha (by kernel_rfl)] at h1
  rw [← agree_at (s := 6) ha (by kernel_rfl)] at h1
  exact (law03_XxhLengths_p2_ok (thenE (fun g2 w2 => X ((fun g : Env => g 7) g2) w2) Q) g1 w1 (fun _ _ i_7 w => X i_7 w) k0 (fun _ _ h => h) h0 h1)

def law03_XxhLengths_p4 (kn : Value → World → Prop) (c_1 b_6 i_7 : Value) (w : World) : Prop :=
  law03_XxhLengths_p3 kn c_1 b_6 i_7 w
theorem law03_XxhLengths_p4_ok (Q : Exit → Env → World → Prop) (g : Env) (w : World) (kn : Value → World → Prop) (hn : ∀ g w, kn (g 6) w → Q .normal g w) (h : law03_XxhLengths_p4 kn (g 1) (g 6) (g 7) w) : den pg ann_law03_XxhLengths (dropS 1 (takeS 1 (dropS 4 code_law03_XxhLengths))) Q g w :=
  den_blk 0 (dropS 1 (takeS 1 (dropS 4 code_law03_XxhLengths))) g w (by kernel_rfl) (law03_XxhLengths_p3_ok (blk 0 Q) g w kn hn h)

def law03_XxhLengths_p5 (kn : Value → Value → Value → World → Prop) (c_1 b_6 : Value) (w : World) : Prop :=
  kn c_1 b_6 (.int .i64 0) w
theorem law03_XxhLengths_p5_ok (Q : Exit → Env → World → Prop) (g : Env) (w : World) (kn : Value → Value → Value → World → Prop) (hn : ∀ g w, kn (g 1) (g 6) (g 7) w → Q .normal g w) (h : law03_XxhLengths_p5 kn (g 1) (g 6) w) : den pg ann_law03_XxhLengths (takeS 1 (takeS 1 (dropS 4 code_law03_XxhLengths))) Q g w := by
  have e : (law03_XxhLengths_p5 kn (g 1) (g 6) w) = den pg ann_law03_XxhLengths (takeS 1 (takeS 1 (dropS 4 code_law03_XxhLengths))) (exQ (fun g w => kn (g 1) (g 6) (g 7) w) (fun _ _ => False) []) g w := by kernel_rfl
  exact den_exQ e h hn (fun _ _ h => h.elim) trivial

def law03_XxhLengths_p6 (kn : Value → World → Prop) (c_1 b_6 : Value) (w : World) : Prop :=
  law03_XxhLengths_p5 (fun c_1 b_6 i_7 w => law03_XxhLengths_p4 kn c_1 b_6 i_7 w) c_1 b_6 w
theorem law03_XxhLengths_p6_ok (Q : Exit → Env → World → Prop) (g : Env) (w : World) (kn : Value → World → Prop) (hn : ∀ g w, kn (g 6) w → Q .normal g w) (h : law03_XxhLengths_p6 kn (g 1) (g 6) w) : den pg ann_law03_XxhLengths (takeS 1 (dropS 4 code_law03_XxhLengths)) Q g w := by
  exact den_seqs 1 (takeS 1 (dropS 4 code_law03_XxhLengths)) g w (by kernel_rfl) (law03_XxhLengths_p5_ok (thenE (fun g w => den pg ann_law03_XxhLengths (dropS 1 (takeS 1 (dropS 4 code_law03_XxhLengths))) Q g w) Q) g w (fun c_1 b_6 i_7 w => law03_XxhLengths_p4 kn c_1 b_6 i_7 w) (fun g w h => (law03_XxhLengths_p4_ok Q g w kn hn h)) h)

def law03_XxhLengths_p7 (R : Value → World → Prop) (c_1 b_6 : Value) (w : World) : Prop :=
  law03_XxhLengths_p6 (fun b_6 w => law03_XxhLengths_p1 R b_6 w) c_1 b_6 w
theorem law03_XxhLengths_p7_ok (Q : Exit → Env → World → Prop) (g : Env) (w : World) (R : Value → World → Prop) (hr : ∀ g w, (resVals pg rs_law03_XxhLengths g w fun vs => R (tup vs) w) → Q .ret g w) (h : law03_XxhLengths_p7 R (g 1) (g 6) w) : den pg ann_law03_XxhLengths (dropS 4 code_law03_XxhLengths) Q g w := by
  exact den_seqs 1 (dropS 4 code_law03_XxhLengths) g w (by kernel_rfl) (law03_XxhLengths_p6_ok (thenE (fun g w => den pg ann_law03_XxhLengths (dropS 1 (dropS 4 code_law03_XxhLengths)) Q g w) Q) g w (fun b_6 w => law03_XxhLengths_p1 R b_6 w) (fun g w h => (law03_XxhLengths_p1_ok Q g w R hr h)) h)

def law03_XxhLengths_p8 (kn : Value → Value → World → Prop) (R : Value → World → Prop) (n_0 c_1 : Value) (w : World) : Prop :=
  Does pg F_law03_awake #[] w fun t8 w =>
  Stp pg (sUn .not t8) w fun t10 w =>
  Cnd t10
    (R (.bool false) w)
    (Stp pg (sBin .rem 33 (.tmp 11) (.const (.int .u16 400)) n_0 (.int .u16 400)) w fun t12 w =>
    Stp pg (sCvt 33 3 t12) w fun t13 w =>
    Stp pg (sMkSlice 26 t13 t13) w fun t14 w =>
    kn c_1 t14 w)
theorem law03_XxhLengths_p8_ok (Q : Exit → Env → World → Prop) (g : Env) (w : World) (kn : Value → Value → World → Prop) (R : Value → World → Prop) (hn : ∀ g w, kn (g 1) (g 6) w → Q .normal g w) (hr : ∀ g w, (resVals pg rs_law03_XxhLengths g w fun vs => R (tup vs) w) → Q .ret g w) (h : law03_XxhLengths_p8 kn R (g 0) (g 1) w) : den pg ann_law03_XxhLengths (takeS 4 code_law03_XxhLengths) Q g w := by
  have e : (law03_XxhLengths_p8 kn R (g 0) (g 1) w) = den pg ann_law03_XxhLengths (takeS 4 code_law03_XxhLengths) (exQ (fun g w => kn (g 1) (g 6) w) (fun g w => resVals pg rs_law03_XxhLengths g w fun vs => R (tup vs) w) []) g w := by kernel_rfl
  exact den_exQ e h hn hr trivial

def law03_XxhLengths_p9 (R : Value → World → Prop) (n_0 c_1 : Value) (w : World) : Prop :=
  law03_XxhLengths_p8 (fun c_1 b_6 w => law03_XxhLengths_p7 R c_1 b_6 w) R n_0 c_1 w
theorem law03_XxhLengths_p9_ok (Q : Exit → Env → World → Prop) (g : Env) (w : World) (R : Value → World → Prop) (hr : ∀ g w, (resVals pg rs_law03_XxhLengths g w fun vs => R (tup vs) w) → Q .ret g w) (h : law03_XxhLengths_p9 R (g 0) (g 1) w) : den pg ann_law03_XxhLengths code_law03_XxhLengths Q g w := by
  exact den_seqs 4 code_law03_XxhLengths g w (by kernel_rfl) (law03_XxhLengths_p8_ok (thenE (fun g w => den pg ann_law03_XxhLengths (dropS 4 code_law03_XxhLengths) Q g w) Q) g w (fun c_1 b_6 w => law03_XxhLengths_p7 R c_1 b_6 w) R (fun g w h => (law03_XxhLengths_p7_ok Q g w R hr h)) hr h)

def law03_XxhLengths (a0 a1 : Value) (w : World) (R : Value → World → Prop) : Prop :=
  law03_XxhLengths_p9 R a0 a1 w
theorem law03_XxhLengths_does {a0 a1 : Value} {w : World} {R : Value → World → Prop} (h : law03_XxhLengths a0 a1 w R) : Does pg F_law03_XxhLengths #[a0, a1] w R := by
  refine does_of_den (ann := ann_law03_XxhLengths) (fn := Try.f4) (c := code_law03_XxhLengths) (args := [a0, a1]) (rs := rs_law03_XxhLengths) (N := 35) TryM.mixed Try.func4 (by kernel_rfl) (by kernel_rfl) (by kernel_rfl) (of_decide_eq_true (by kernel_rfl)) (by kernel_rfl) ?_
  exact (law03_XxhLengths_p9_ok (retQ pg rs_law03_XxhLengths R) (envOf [a0, a1]) w R (fun _ _ h => h) h)
-- PIECES law03_XxhLengths/0 law03_XxhLengths_p1 law03_XxhLengths_p3 law03_XxhLengths_p4 law03_XxhLengths_p5 law03_XxhLengths_p6 law03_XxhLengths_p7 law03_XxhLengths_p8 law03_XxhLengths_p9
-- PIECES law03_XxhLengths/1 law03_XxhLengths_p2

/- lighterman/lightermanlaw03.XxhPieces -/
def ann_law03_XxhPieces : Nat → Ann × Plan := fun i => match Nat.beq i 14 with | true => (([1, 5], [(1, 4)]), [(false, []), (true, []), (false, []), (false, []), (false, [2]), (true, []), (false, [])]) | false => (([], []), [])
def rs_law03_XxhPieces : List ResultVar := [.tmp 4]
noncomputable def code_law03_XxhPieces : Code := bodyOf Try.f5
def law03_XxhPieces_p1 (R : Value → World → Prop) (b_0 h_6 at_7 : Value) (w : World) : Prop :=
  Stp pg (sSlice 26 b_0 (some at_7) none none) w fun t61 w =>
  Does pg F_xxh_Hash_Write #[h_6, t61] w fun t62 w =>
  Does pg F_xxh_Hash_Write #[(.pointer none), b_0] w fun t65 w =>
  Does pg F_xxh_Hash_Sum #[h_6] w fun t67 w =>
  Does pg F_xxh_Of #[b_0] w fun t69 w =>
  Stp pg (sBin .eql 28 (.tmp 67) (.tmp 69) t67 t69) w fun t70 w =>
  Gd (isB t70 true) (fun K => K h_6 w) w fun t72 w =>
  Gd (isB t70 true) (fun K => Does pg F_xxh_Hash_Sum #[t72] w K) w fun t73 w =>
  Gd (isB t70 true) (fun K => K h_6 w) w fun t74 w =>
  Gd (isB t70 true) (fun K => Does pg F_xxh_Hash_Sum #[t74] w K) w fun t75 w =>
  Gd (isB t70 true) (fun K => Stp pg (sBin .eql 28 (.tmp 73) (.tmp 75) t73 t75) w K) w fun t76 w =>
  Stp pg (sPick t70 t76 (.bool false)) w fun t77 w =>
  Gd (isB t77 true) (fun K => K (.pointer none) w) w fun t79 w =>
  Gd (isB t77 true) (fun K => Does pg F_xxh_Hash_Sum #[t79] w K) w fun t80 w =>
  Gd (isB t77 true) (fun K => Does pg F_xxh_Of #[(.slice none 0 0)] w K) w fun t81 w =>
  Gd (isB t77 true) (fun K => Stp pg (sBin .eql 28 (.tmp 80) (.tmp 81) t80 t81) w K) w fun t82 w =>
  Stp pg (sPick t77 t82 (.bool false)) w fun t83 w =>
  R t83 w
theorem law03_XxhPieces_p1_ok (Q : Exit → Env → World → Prop) (g : Env) (w : World) (R : Value → World → Prop) (hr : ∀ g w, (resVals pg rs_law03_XxhPieces g w fun vs => R (tup vs) w) → Q .ret g w) (h : law03_XxhPieces_p1 R (g 0) (g 6) (g 7) w) : den pg ann_law03_XxhPieces (dropS 1 (dropS 6 code_law03_XxhPieces)) Q g w := by
  have e : (law03_XxhPieces_p1 R (g 0) (g 6) (g 7) w) = den pg ann_law03_XxhPieces (dropS 1 (dropS 6 code_law03_XxhPieces)) (exQ (fun _ _ => False) (fun g w => resVals pg rs_law03_XxhPieces g w fun vs => R (tup vs) w) []) g w := by kernel_rfl
  exact den_exQ e h (fun _ _ h => h.elim) hr trivial

def law03_XxhPieces_p2 (kn : Value → Value → Value → Value → Value → World → Prop) (k0 : Value → Value → Value → World → Prop) (R : Value → World → Prop) (b_0 cuts_1 h_6 at_7 i_8 : Value) (w : World) : Prop :=
  Stp pg (sBi .len #[35] 3 [cuts_1]) w fun t25 w =>
  Stp pg (sBin .lss 3 (.tmp 23) (.tmp 25) i_8 t25) w fun t26 w =>
  Cnd t26
    (Stp pg (sIAddr 35 cuts_1 i_8) w fun t31 w =>
    Stp pg (sLoad 33 t31) w fun t32 w =>
    Stp pg (sCvt 33 3 t32) w fun t33 w =>
    Stp pg (sBi .len #[26] 3 [b_0]) w fun t35 w =>
    Stp pg (sBin .sub 3 (.tmp 35) (.tmp 36) t35 at_7) w fun t37 w =>
    Stp pg (sBin .add 3 (.tmp 37) (.const (.int .i64 1)) t37 (.int .i64 1)) w fun t38 w =>
    Stp pg (sBin .rem 3 (.tmp 33) (.tmp 38) t33 t38) w fun t39 w =>
    Stp pg (sBin .add 3 (.tmp 43) (.tmp 44) at_7 t39) w fun t45 w =>
    Stp pg (sSlice 26 b_0 (some at_7) (some t45) none) w fun t46 w =>
    Does pg F_xxh_Hash_Write #[h_6, t46] w fun t47 w =>
    Stp pg (sBin .add 3 (.tmp 48) (.tmp 49) at_7 t39) w fun t50 w =>
    (dr w) = (dr w) ∧
    Does pg F_xxh_Hash_Sum #[h_6] (dr w) fun t52 w14_1 =>
    w14_1 = w14_1 ∧
    w14_1 = w14_1 ∧
    Stp pg (sSlice 26 b_0 none (some t50) none) w14_1 fun t55 w_ => w_ = w14_1 ∧
    (Same pg (sSlice 26 b_0 none (some t50) none) t55 (dr w) ∧ True) ∧
    Does pg F_xxh_Of #[t55] w14_1 fun t56 w14_5 =>
    Stp pg (sBin .neq 28 (.tmp 52) (.tmp 56) t52 t56) w14_5 fun t57 w_ => w_ = w14_5 ∧
    Cnd t57
      (R (.bool false) w14_5)
      (Stp pg (sBin .add 3 (.tmp 27) (.const (.int .i64 1)) i_8 (.int .i64 1)) w14_5 fun t28 w =>
      kn b_0 cuts_1 h_6 t50 t28 w))
    (k0 b_0 h_6 at_7 w)
theorem law03_XxhPieces_p2_ok (Q : Exit → Env → World → Prop) (g : Env) (w : World) (kn : Value → Value → Value → Value → Value → World → Prop) (k0 : Value → Value → Value → World → Prop) (R : Value → World → Prop) (hn : ∀ g w, kn (g 0) (g 1) (g 6) (g 7) (g 8) w → Q .normal g w) (h0 : ∀ g w, k0 (g 0) (g 6) (g 7) w → Q (.exit 0) g w) (hr : ∀ g w, (resVals pg rs_law03_XxhPieces g w fun vs => R (tup vs) w) → Q .ret g w) (h : law03_XxhPieces_p2 kn k0 R (g 0) (g 1) (g 6) (g 7) (g 8) w) : den pg ann_law03_XxhPieces (bI (bI (dropS 1 (takeS 1 (dropS 6 code_law03_XxhPieces))))) Q g w := by
  have e : (law03_XxhPieces_p2 kn k0 R (g 0) (g 1) (g 6) (g 7) (g 8) w) = den pg ann_law03_XxhPieces (bI (bI (dropS 1 (takeS 1 (dropS 6 code_law03_XxhPieces))))) (exQ (fun g w => kn (g 0) (g 1) (g 6) (g 7) (g 8) w) (fun g w => resVals pg rs_law03_XxhPieces g w fun vs => R (tup vs) w) [(0, fun g w => k0 (g 0) (g 6) (g 7) w)]) g w := by kernel_rfl
  exact den_exQ e h hn hr ⟨h0, trivial⟩

def law03_XxhPieces_p3 (k0 : Value → Value → Value → World → Prop) (R : Value → World → Prop) (b_0 cuts_1 h_6 at_7 i_8 : Value) (w : World) : Prop :=
  LoopD (fun (X : (Value × Value) → World → Prop) (t : Value × Value) (w : World) => law03_XxhPieces_p2 (fun _ _ _ at_7 i_8 w => X (at_7, i_8) w) k0 R b_0 cuts_1 h_6 t.1 t.2 w) (at_7, i_8) w
theorem law03_XxhPieces_p3_ok (Q : Exit → Env → World → Prop) (g : Env) (w : World) (k0 : Value → Value → Value → World → Prop) (R : Value → World → Prop) (h0 : ∀ g w, k0 (g 0) (g 6) (g 7) w → Q (.exit 0) g w) (hr : ∀ g w, (resVals pg rs_law03_XxhPieces g w fun vs => R (tup vs) w) → Q .ret g w) (h : law03_XxhPieces_p3 k0 R (g 0) (g 1) (g 6) (g 7) (g 8) w) : den pg ann_law03_XxhPieces (bI (dropS 1 (takeS 1 (dropS 6 code_law03_XxhPieces)))) Q g w := by
  refine den_loops (T := Value × Value) (fun g : Env => (g 7, g 8)) (fun X t w => law03_XxhPieces_p2 (fun _ _ _ at_7 i_8 w => X (at_7, i_8) w) k0 R (g 0) (g 1) (g 6) t.1 t.2 w) (bI (dropS 1 (takeS 1 (dropS 6 code_law03_XxhPieces)))) (by kernel_rfl) h (fun X g1 w1 ha h1 => ?_)
  rw [← agree_at (s := 0) ha (by kernel_rfl)] at h1
  rw [← agree_at (s := 1) ha (by kernel_rfl)] at h1
  rw [← agree_at (s := 6) ha (by kernel_rfl)] at h1
  exact (law03_XxhPieces_p2_ok (thenE (fun g2 w2 => X ((fun g : Env => (g 7, g 8)) g2) w2) Q) g1 w1 (fun _ _ _ at_7 i_8 w => X (at_7, i_8) w) k0 R (fun _ _ h => h) h0 hr h1)

def law03_XxhPieces_p4 (kn : Value → Value → Value → World → Prop) (R : Value → World → Prop) (b_0 cuts_1 h_6 at_7 i_8 : Value) (w : World) : Prop :=
  law03_XxhPieces_p3 kn R b_0 cuts_1 h_6 at_7 i_8 w
theorem law03_XxhPieces_p4_ok (Q : Exit → Env → World → Prop) (g : Env) (w : World) (kn : Value → Value → Value → World → Prop) (R : Value → World → Prop) (hn : ∀ g w, kn (g 0) (g 6) (g 7) w → Q .normal g w) (hr : ∀ g w, (resVals pg rs_law03_XxhPieces g w fun vs => R (tup vs) w) → Q .ret g w) (h : law03_XxhPieces_p4 kn R (g 0) (g 1) (g 6) (g 7) (g 8) w) : den pg ann_law03_XxhPieces (dropS 1 (takeS 1 (dropS 6 code_law03_XxhPieces))) Q g w :=
  den_blk 0 (dropS 1 (takeS 1 (dropS 6 code_law03_XxhPieces))) g w (by kernel_rfl) (law03_XxhPieces_p3_ok (blk 0 Q) g w kn R hn hr h)

def law03_XxhPieces_p5 (kn : Value → Value → Value → Value → Value → World → Prop) (b_0 cuts_1 h_6 at_7 : Value) (w : World) : Prop :=
  kn b_0 cuts_1 h_6 at_7 (.int .i64 0) w
theorem law03_XxhPieces_p5_ok (Q : Exit → Env → World → Prop) (g : Env) (w : World) (kn : Value → Value → Value → Value → Value → World → Prop) (hn : ∀ g w, kn (g 0) (g 1) (g 6) (g 7) (g 8) w → Q .normal g w) (h : law03_XxhPieces_p5 kn (g 0) (g 1) (g 6) (g 7) w) : den pg ann_law03_XxhPieces (takeS 1 (takeS 1 (dropS 6 code_law03_XxhPieces))) Q g w := by
  have e : (law03_XxhPieces_p5 kn (g 0) (g 1) (g 6) (g 7) w) = den pg ann_law03_XxhPieces (takeS 1 (takeS 1 (dropS 6 code_law03_XxhPieces))) (exQ (fun g w => kn (g 0) (g 1) (g 6) (g 7) (g 8) w) (fun _ _ => False) []) g w := by kernel_rfl
  exact den_exQ e h hn (fun _ _ h => h.elim) trivial

def law03_XxhPieces_p6 (kn : Value → Value → Value → World → Prop) (R : Value → World → Prop) (b_0 cuts_1 h_6 at_7 : Value) (w : World) : Prop :=
  law03_XxhPieces_p5 (fun b_0 cuts_1 h_6 at_7 i_8 w => law03_XxhPieces_p4 kn R b_0 cuts_1 h_6 at_7 i_8 w) b_0 cuts_1 h_6 at_7 w
theorem law03_XxhPieces_p6_ok (Q : Exit → Env → World → Prop) (g : Env) (w : World) (kn : Value → Value → Value → World → Prop) (R : Value → World → Prop) (hn : ∀ g w, kn (g 0) (g 6) (g 7) w → Q .normal g w) (hr : ∀ g w, (resVals pg rs_law03_XxhPieces g w fun vs => R (tup vs) w) → Q .ret g w) (h : law03_XxhPieces_p6 kn R (g 0) (g 1) (g 6) (g 7) w) : den pg ann_law03_XxhPieces (takeS 1 (dropS 6 code_law03_XxhPieces)) Q g w := by
  exact den_seqs 1 (takeS 1 (dropS 6 code_law03_XxhPieces)) g w (by kernel_rfl) (law03_XxhPieces_p5_ok (thenE (fun g w => den pg ann_law03_XxhPieces (dropS 1 (takeS 1 (dropS 6 code_law03_XxhPieces))) Q g w) Q) g w (fun b_0 cuts_1 h_6 at_7 i_8 w => law03_XxhPieces_p4 kn R b_0 cuts_1 h_6 at_7 i_8 w) (fun g w h => (law03_XxhPieces_p4_ok Q g w kn R hn hr h)) h)

def law03_XxhPieces_p7 (R : Value → World → Prop) (b_0 cuts_1 h_6 at_7 : Value) (w : World) : Prop :=
  law03_XxhPieces_p6 (fun b_0 h_6 at_7 w => law03_XxhPieces_p1 R b_0 h_6 at_7 w) R b_0 cuts_1 h_6 at_7 w
theorem law03_XxhPieces_p7_ok (Q : Exit → Env → World → Prop) (g : Env) (w : World) (R : Value → World → Prop) (hr : ∀ g w, (resVals pg rs_law03_XxhPieces g w fun vs => R (tup vs) w) → Q .ret g w) (h : law03_XxhPieces_p7 R (g 0) (g 1) (g 6) (g 7) w) : den pg ann_law03_XxhPieces (dropS 6 code_law03_XxhPieces) Q g w := by
  exact den_seqs 1 (dropS 6 code_law03_XxhPieces) g w (by kernel_rfl) (law03_XxhPieces_p6_ok (thenE (fun g w => den pg ann_law03_XxhPieces (dropS 1 (dropS 6 code_law03_XxhPieces)) Q g w) Q) g w (fun b_0 h_6 at_7 w => law03_XxhPieces_p1 R b_0 h_6 at_7 w) R (fun g w h => (law03_XxhPieces_p1_ok Q g w R hr h)) hr h)

def law03_XxhPieces_p8 (kn : Value → Value → Value → Value → World → Prop) (R : Value → World → Prop) (b_0 cuts_1 : Value) (w : World) : Prop :=
  Does pg F_law03_awake #[] w fun t11 w =>
  Stp pg (sUn .not t11) w fun t13 w =>
  Cnd t13
    (R (.bool false) w)
    (Stp pg (sBi .len #[26] 3 [b_0]) w fun t15 w =>
    Stp pg (sBin .gtr 3 (.tmp 15) (.const (.int .i64 1000)) t15 (.int .i64 1000)) w fun t16 w =>
    Gd (isB t16 false) (fun K => K cuts_1 w) w fun t18 w =>
    Gd (isB t16 false) (fun K => Stp pg (sBi .len #[35] 3 [t18]) w K) w fun t19 w =>
    Gd (isB t16 false) (fun K => Stp pg (sBin .gtr 3 (.tmp 19) (.const (.int .i64 30)) t19 (.int .i64 30)) w K) w fun t20 w =>
    Stp pg (sPick t16 (.bool true) t20) w fun t21 w =>
    Cnd t21
      (R (.bool true) w)
      (Does pg F_xxh_New #[] w fun t22 w =>
      kn b_0 cuts_1 t22 (.int .i64 0) w))
theorem law03_XxhPieces_p8_ok (Q : Exit → Env → World → Prop) (g : Env) (w : World) (kn : Value → Value → Value → Value → World → Prop) (R : Value → World → Prop) (hn : ∀ g w, kn (g 0) (g 1) (g 6) (g 7) w → Q .normal g w) (hr : ∀ g w, (resVals pg rs_law03_XxhPieces g w fun vs => R (tup vs) w) → Q .ret g w) (h : law03_XxhPieces_p8 kn R (g 0) (g 1) w) : den pg ann_law03_XxhPieces (takeS 6 code_law03_XxhPieces) Q g w := by
  have e : (law03_XxhPieces_p8 kn R (g 0) (g 1) w) = den pg ann_law03_XxhPieces (takeS 6 code_law03_XxhPieces) (exQ (fun g w => kn (g 0) (g 1) (g 6) (g 7) w) (fun g w => resVals pg rs_law03_XxhPieces g w fun vs => R (tup vs) w) []) g w := by kernel_rfl
  exact den_exQ e h hn hr trivial

def law03_XxhPieces_p9 (R : Value → World → Prop) (b_0 cuts_1 : Value) (w : World) : Prop :=
  law03_XxhPieces_p8 (fun b_0 cuts_1 h_6 at_7 w => law03_XxhPieces_p7 R b_0 cuts_1 h_6 at_7 w) R b_0 cuts_1 w
theorem law03_XxhPieces_p9_ok (Q : Exit → Env → World → Prop) (g : Env) (w : World) (R : Value → World → Prop) (hr : ∀ g w, (resVals pg rs_law03_XxhPieces g w fun vs => R (tup vs) w) → Q .ret g w) (h : law03_XxhPieces_p9 R (g 0) (g 1) w) : den pg ann_law03_XxhPieces code_law03_XxhPieces Q g w := by
  exact den_seqs 6 code_law03_XxhPieces g w (by kernel_rfl) (law03_XxhPieces_p8_ok (thenE (fun g w => den pg ann_law03_XxhPieces (dropS 6 code_law03_XxhPieces) Q g w) Q) g w (fun b_0 cuts_1 h_6 at_7 w => law03_XxhPieces_p7 R b_0 cuts_1 h_6 at_7 w) R (fun g w h => (law03_XxhPieces_p7_ok Q g w R hr h)) hr h)

def law03_XxhPieces (a0 a1 : Value) (w : World) (R : Value → World → Prop) : Prop :=
  law03_XxhPieces_p9 R a0 a1 w
theorem law03_XxhPieces_does {a0 a1 : Value} {w : World} {R : Value → World → Prop} (h : law03_XxhPieces a0 a1 w R) : Does pg F_law03_XxhPieces #[a0, a1] w R := by
  refine does_of_den (ann := ann_law03_XxhPieces) (fn := Try.f5) (c := code_law03_XxhPieces) (args := [a0, a1]) (rs := rs_law03_XxhPieces) (N := 84) TryM.mixed Try.func5 (by kernel_rfl) (by kernel_rfl) (by kernel_rfl) (of_decide_eq_true (by kernel_rfl)) (by kernel_rfl) ?_
  exact (law03_XxhPieces_p9_ok (retQ pg rs_law03_XxhPieces R) (envOf [a0, a1]) w R (fun _ _ h => h) h)
-- PIECES law03_XxhPieces/0 law03_XxhPieces_p1 law03_XxhPieces_p3 law03_XxhPieces_p4 law03_XxhPieces_p5 law03_XxhPieces_p6 law03_XxhPieces_p7 law03_XxhPieces_p8 law03_XxhPieces_p9
-- PIECES law03_XxhPieces/1 law03_XxhPieces_p2

/- lighterman/lightermanlaw03.XxhStripes -/
def ann_law03_XxhStripes : Nat → Ann × Plan := fun i => match Nat.beq i 12 with | true => (([1, 4], [(1, 3)]), [(false, []), (true, []), (false, []), (false, [1]), (true, []), (false, []), (false, [])]) | false => (([], []), [])
def rs_law03_XxhStripes : List ResultVar := [.tmp 6]
noncomputable def code_law03_XxhStripes : Code := bodyOf Try.f6
def law03_XxhStripes_p1 (R : Value → World → Prop) (t1 b_8 : Value) (w : World) : Prop :=
  Stp pg (sBi .append #[26, 26] 26 [b_8, t1]) w fun t36 w =>
  (dr w) = (dr w) ∧
  Does pg F_xxh_Of #[t36] (dr w) fun t38 w12_1 =>
  w12_1 = w12_1 ∧
  Stp pg (sCvt 26 9 t36) w12_1 fun t40 w_ => w_ = w12_1 ∧
  (Same pg (sCvt 26 9 t36) t40 (dr w) ∧ True) ∧
  Does pg F_ref03_Of #[t40] w12_1 fun t41 w12_4 =>
  Stp pg (sBin .eql 28 (.tmp 38) (.tmp 41) t38 t41) w12_4 fun t42 w_ => w_ = w12_4 ∧
  w12_4 = w12_4 ∧
  R t42 w12_4
theorem law03_XxhStripes_p1_ok (Q : Exit → Env → World → Prop) (g : Env) (w : World) (R : Value → World → Prop) (hr : ∀ g w, (resVals pg rs_law03_XxhStripes g w fun vs => R (tup vs) w) → Q .ret g w) (h : law03_XxhStripes_p1 R (g 1) (g 8) w) : den pg ann_law03_XxhStripes (dropS 1 (dropS 5 code_law03_XxhStripes)) Q g w := by
  have e : (law03_XxhStripes_p1 R (g 1) (g 8) w) = den pg ann_law03_XxhStripes (dropS 1 (dropS 5 code_law03_XxhStripes)) (exQ (fun _ _ => False) (fun g w => resVals pg rs_law03_XxhStripes g w fun vs => R (tup vs) w) []) g w := by kernel_rfl
  exact den_exQ e h (fun _ _ h => h.elim) hr trivial

def law03_XxhStripes_p2 (kn : Value → Value → Value → Value → World → Prop) (k0 : Value → Value → World → Prop) (t1 c_2 b_8 i_9 : Value) (w : World) : Prop :=
  Stp pg (sBi .len #[26] 3 [b_8]) w fun t23 w =>
  Stp pg (sBin .lss 3 (.tmp 21) (.tmp 23) i_9 t23) w fun t24 w =>
  Cnd t24
    (Stp pg (sCvt 3 5 i_9) w fun t31 w =>
    Stp pg (sBin .mul 5 (.tmp 29) (.tmp 31) c_2 t31) w fun t32 w =>
    Stp pg (sIAddr 26 b_8 i_9) w fun t33 w =>
    Stp pg (sStore 5 t33 t32) w fun _u w =>
    Stp pg (sBin .add 3 (.tmp 25) (.const (.int .i64 1)) i_9 (.int .i64 1)) w fun t26 w =>
    kn t1 c_2 b_8 t26 w)
    (k0 t1 b_8 w)
theorem law03_XxhStripes_p2_ok (Q : Exit → Env → World → Prop) (g : Env) (w : World) (kn : Value → Value → Value → Value → World → Prop) (k0 : Value → Value → World → Prop) (hn : ∀ g w, kn (g 1) (g 2) (g 8) (g 9) w → Q .normal g w) (h0 : ∀ g w, k0 (g 1) (g 8) w → Q (.exit 0) g w) (h : law03_XxhStripes_p2 kn k0 (g 1) (g 2) (g 8) (g 9) w) : den pg ann_law03_XxhStripes (bI (bI (dropS 1 (takeS 1 (dropS 5 code_law03_XxhStripes))))) Q g w := by
  have e : (law03_XxhStripes_p2 kn k0 (g 1) (g 2) (g 8) (g 9) w) = den pg ann_law03_XxhStripes (bI (bI (dropS 1 (takeS 1 (dropS 5 code_law03_XxhStripes))))) (exQ (fun g w => kn (g 1) (g 2) (g 8) (g 9) w) (fun _ _ => False) [(0, fun g w => k0 (g 1) (g 8) w)]) g w := by kernel_rfl
  exact den_exQ e h hn (fun _ _ h => h.elim) ⟨h0, trivial⟩

def law03_XxhStripes_p3 (k0 : Value → Value → World → Prop) (t1 c_2 b_8 i_9 : Value) (w : World) : Prop :=
  LoopD (fun (X : Value → World → Prop) (t : Value) (w : World) => law03_XxhStripes_p2 (fun _ _ _ i_9 w => X i_9 w) k0 t1 c_2 b_8 t w) i_9 w
theorem law03_XxhStripes_p3_ok (Q : Exit → Env → World → Prop) (g : Env) (w : World) (k0 : Value → Value → World → Prop) (h0 : ∀ g w, k0 (g 1) (g 8) w → Q (.exit 0) g w) (h : law03_XxhStripes_p3 k0 (g 1) (g 2) (g 8) (g 9) w) : den pg ann_law03_XxhStripes (bI (dropS 1 (takeS 1 (dropS 5 code_law03_XxhStripes)))) Q g w := by
  refine den_loops (T := Value) (fun g : Env => g 9) (fun X t w => law03_XxhStripes_p2 (fun _ _ _ i_9 w => X i_9 w) k0 (g 1) (g 2) (g 8) t w) (bI (dropS 1 (takeS 1 (dropS 5 code_law03_XxhStripes)))) (by kernel_rfl) h (fun X g1 w1 ha h1 => ?_)
  rw [← agree_at (s := 1) ha (by kernel_rfl)] at h1
  rw [← agree_at (s := 2) ha (by kernel_rfl)] at h1
  rw [← agree_at (s := 8) ha (by kernel_rfl)] at h1
  exact (law03_XxhStripes_p2_ok (thenE (fun g2 w2 => X ((fun g : Env => g 9) g2) w2) Q) g1 w1 (fun _ _ _ i_9 w => X i_9 w) k0 (fun _ _ h => h) h0 h1)

def law03_XxhStripes_p4 (kn : Value → Value → World → Prop) (t1 c_2 b_8 i_9 : Value) (w : World) : Prop :=
  law03_XxhStripes_p3 kn t1 c_2 b_8 i_9 w
theorem law03_XxhStripes_p4_ok (Q : Exit → Env → World → Prop) (g : Env) (w : World) (kn : Value → Value → World → Prop) (hn : ∀ g w, kn (g 1) (g 8) w → Q .normal g w) (h : law03_XxhStripes_p4 kn (g 1) (g 2) (g 8) (g 9) w) : den pg ann_law03_XxhStripes (dropS 1 (takeS 1 (dropS 5 code_law03_XxhStripes))) Q g w :=
  den_blk 0 (dropS 1 (takeS 1 (dropS 5 code_law03_XxhStripes))) g w (by kernel_rfl) (law03_XxhStripes_p3_ok (blk 0 Q) g w kn hn h)

def law03_XxhStripes_p5 (kn : Value → Value → Value → Value → World → Prop) (t1 c_2 b_8 : Value) (w : World) : Prop :=
  kn t1 c_2 b_8 (.int .i64 0) w
theorem law03_XxhStripes_p5_ok (Q : Exit → Env → World → Prop) (g : Env) (w : World) (kn : Value → Value → Value → Value → World → Prop) (hn : ∀ g w, kn (g 1) (g 2) (g 8) (g 9) w → Q .normal g w) (h : law03_XxhStripes_p5 kn (g 1) (g 2) (g 8) w) : den pg ann_law03_XxhStripes (takeS 1 (takeS 1 (dropS 5 code_law03_XxhStripes))) Q g w := by
  have e : (law03_XxhStripes_p5 kn (g 1) (g 2) (g 8) w) = den pg ann_law03_XxhStripes (takeS 1 (takeS 1 (dropS 5 code_law03_XxhStripes))) (exQ (fun g w => kn (g 1) (g 2) (g 8) (g 9) w) (fun _ _ => False) []) g w := by kernel_rfl
  exact den_exQ e h hn (fun _ _ h => h.elim) trivial

def law03_XxhStripes_p6 (kn : Value → Value → World → Prop) (t1 c_2 b_8 : Value) (w : World) : Prop :=
  law03_XxhStripes_p5 (fun t1 c_2 b_8 i_9 w => law03_XxhStripes_p4 kn t1 c_2 b_8 i_9 w) t1 c_2 b_8 w
theorem law03_XxhStripes_p6_ok (Q : Exit → Env → World → Prop) (g : Env) (w : World) (kn : Value → Value → World → Prop) (hn : ∀ g w, kn (g 1) (g 8) w → Q .normal g w) (h : law03_XxhStripes_p6 kn (g 1) (g 2) (g 8) w) : den pg ann_law03_XxhStripes (takeS 1 (dropS 5 code_law03_XxhStripes)) Q g w := by
  exact den_seqs 1 (takeS 1 (dropS 5 code_law03_XxhStripes)) g w (by kernel_rfl) (law03_XxhStripes_p5_ok (thenE (fun g w => den pg ann_law03_XxhStripes (dropS 1 (takeS 1 (dropS 5 code_law03_XxhStripes))) Q g w) Q) g w (fun t1 c_2 b_8 i_9 w => law03_XxhStripes_p4 kn t1 c_2 b_8 i_9 w) (fun g w h => (law03_XxhStripes_p4_ok Q g w kn hn h)) h)

def law03_XxhStripes_p7 (R : Value → World → Prop) (t1 c_2 b_8 : Value) (w : World) : Prop :=
  law03_XxhStripes_p6 (fun t1 b_8 w => law03_XxhStripes_p1 R t1 b_8 w) t1 c_2 b_8 w
theorem law03_XxhStripes_p7_ok (Q : Exit → Env → World → Prop) (g : Env) (w : World) (R : Value → World → Prop) (hr : ∀ g w, (resVals pg rs_law03_XxhStripes g w fun vs => R (tup vs) w) → Q .ret g w) (h : law03_XxhStripes_p7 R (g 1) (g 2) (g 8) w) : den pg ann_law03_XxhStripes (dropS 5 code_law03_XxhStripes) Q g w := by
  exact den_seqs 1 (dropS 5 code_law03_XxhStripes) g w (by kernel_rfl) (law03_XxhStripes_p6_ok (thenE (fun g w => den pg ann_law03_XxhStripes (dropS 1 (dropS 5 code_law03_XxhStripes)) Q g w) Q) g w (fun t1 b_8 w => law03_XxhStripes_p1 R t1 b_8 w) (fun g w h => (law03_XxhStripes_p1_ok Q g w R hr h)) h)

def law03_XxhStripes_p8 (kn : Value → Value → Value → World → Prop) (R : Value → World → Prop) (n_0 t1 c_2 : Value) (w : World) : Prop :=
  Does pg F_law03_awake #[] w fun t10 w =>
  Stp pg (sUn .not t10) w fun t12 w =>
  Cnd t12
    (R (.bool false) w)
    (Stp pg (sBi .len #[26] 3 [t1]) w fun t14 w =>
    Stp pg (sBin .gtr 3 (.tmp 14) (.const (.int .i64 40)) t14 (.int .i64 40)) w fun t15 w =>
    Cnd t15
      (R (.bool true) w)
      (Stp pg (sBin .rem 5 (.tmp 16) (.const (.int .u8 5)) n_0 (.int .u8 5)) w fun t17 w =>
      Stp pg (sCvt 5 3 t17) w fun t18 w =>
      Stp pg (sBin .mul 3 (.const (.int .i64 32)) (.tmp 18) (.int .i64 32) t18) w fun t19 w =>
      Stp pg (sMkSlice 26 t19 t19) w fun t20 w =>
      kn t1 c_2 t20 w))
theorem law03_XxhStripes_p8_ok (Q : Exit → Env → World → Prop) (g : Env) (w : World) (kn : Value → Value → Value → World → Prop) (R : Value → World → Prop) (hn : ∀ g w, kn (g 1) (g 2) (g 8) w → Q .normal g w) (hr : ∀ g w, (resVals pg rs_law03_XxhStripes g w fun vs => R (tup vs) w) → Q .ret g w) (h : law03_XxhStripes_p8 kn R (g 0) (g 1) (g 2) w) : den pg ann_law03_XxhStripes (takeS 5 code_law03_XxhStripes) Q g w := by
  have e : (law03_XxhStripes_p8 kn R (g 0) (g 1) (g 2) w) = den pg ann_law03_XxhStripes (takeS 5 code_law03_XxhStripes) (exQ (fun g w => kn (g 1) (g 2) (g 8) w) (fun g w => resVals pg rs_law03_XxhStripes g w fun vs => R (tup vs) w) []) g w := by kernel_rfl
  exact den_exQ e h hn hr trivial

def law03_XxhStripes_p9 (R : Value → World → Prop) (n_0 t1 c_2 : Value) (w : World) : Prop :=
  law03_XxhStripes_p8 (fun t1 c_2 b_8 w => law03_XxhStripes_p7 R t1 c_2 b_8 w) R n_0 t1 c_2 w
theorem law03_XxhStripes_p9_ok (Q : Exit → Env → World → Prop) (g : Env) (w : World) (R : Value → World → Prop) (hr : ∀ g w, (resVals pg rs_law03_XxhStripes g w fun vs => R (tup vs) w) → Q .ret g w) (h : law03_XxhStripes_p9 R (g 0) (g 1) (g 2) w) : den pg ann_law03_XxhStripes code_law03_XxhStripes Q g w := by
  exact den_seqs 5 code_law03_XxhStripes g w (by kernel_rfl) (law03_XxhStripes_p8_ok (thenE (fun g w => den pg ann_law03_XxhStripes (dropS 5 code_law03_XxhStripes) Q g w) Q) g w (fun t1 c_2 b_8 w => law03_XxhStripes_p7 R t1 c_2 b_8 w) R (fun g w h => (law03_XxhStripes_p7_ok Q g w R hr h)) hr h)

def law03_XxhStripes (a0 a1 a2 : Value) (w : World) (R : Value → World → Prop) : Prop :=
  law03_XxhStripes_p9 R a0 a1 a2 w
theorem law03_XxhStripes_does {a0 a1 a2 : Value} {w : World} {R : Value → World → Prop} (h : law03_XxhStripes a0 a1 a2 w R) : Does pg F_law03_XxhStripes #[a0, a1, a2] w R := by
  refine does_of_den (ann := ann_law03_XxhStripes) (fn := Try.f6) (c := code_law03_XxhStripes) (args := [a0, a1, a2]) (rs := rs_law03_XxhStripes) (N := 43) TryM.mixed Try.func6 (by kernel_rfl) (by kernel_rfl) (by kernel_rfl) (of_decide_eq_true (by kernel_rfl)) (by kernel_rfl) ?_
  exact (law03_XxhStripes_p9_ok (retQ pg rs_law03_XxhStripes R) (envOf [a0, a1, a2]) w R (fun _ _ h => h) h)
-- PIECES law03_XxhStripes/0 law03_XxhStripes_p1 law03_XxhStripes_p3 law03_XxhStripes_p4 law03_XxhStripes_p5 law03_XxhStripes_p6 law03_XxhStripes_p7 law03_XxhStripes_p8 law03_XxhStripes_p9
-- PIECES law03_XxhStripes/1 law03_XxhStripes_p2

/- lighterman/lightermanlaw03.awake -/
def ann_law03_awake : Nat → Ann × Plan := fun i => (([], []), [])
def rs_law03_awake : List ResultVar := [.tmp 0]
noncomputable def code_law03_awake : Code := bodyOf Try.f7
def law03_awake_p1 (R : Value → World → Prop)  (w : World) : Prop :=
  Does pg F_xxh_New #[] w fun t3 w =>
  Stp pg (sBuildSlice 26 1 [(0, (.int .u8 97))]) w fun t5 w =>
  Stp pg (sCvt 26 26 t5) w fun t6 w =>
  Does pg F_xxh_Hash_Write #[t3, t6] w fun t7 w =>
  Stp pg (sBuildSlice 26 2 [(0, (.int .u8 98)), (1, (.int .u8 99))]) w fun t9 w =>
  Stp pg (sCvt 26 26 t9) w fun t10 w =>
  Does pg F_xxh_Hash_Write #[t3, t10] w fun t11 w =>
  Stp pg (sBuildSlice 26 3 [(0, (.int .u8 97)), (1, (.int .u8 98)), (2, (.int .u8 99))]) w fun t12 w =>
  Stp pg (sCvt 26 26 t12) w fun t13 w =>
  Does pg F_xxh_Of #[t13] w fun t14 w =>
  Does pg F_xxh_Hash_Sum #[t3] w fun t16 w =>
  Stp pg (sBin .eql 28 (.tmp 16) (.tmp 17) t16 t14) w fun t18 w =>
  Gd (isB t18 true) (fun K => Does pg F_xxh_Of #[(.slice none 0 0)] w K) w fun t20 w =>
  Gd (isB t18 true) (fun K => Stp pg (sBin .eql 28 (.tmp 20) (.const (.int .u64 17241709254077376921)) t20 (.int .u64 17241709254077376921)) w K) w fun t21 w =>
  Stp pg (sPick t18 t21 (.bool false)) w fun t22 w =>
  R t22 w
theorem law03_awake_p1_ok (Q : Exit → Env → World → Prop) (g : Env) (w : World) (R : Value → World → Prop) (hr : ∀ g w, (resVals pg rs_law03_awake g w fun vs => R (tup vs) w) → Q .ret g w) (h : law03_awake_p1 R w) : den pg ann_law03_awake code_law03_awake Q g w := by
  have e : (law03_awake_p1 R w) = den pg ann_law03_awake code_law03_awake (exQ (fun _ _ => False) (fun g w => resVals pg rs_law03_awake g w fun vs => R (tup vs) w) []) g w := by kernel_rfl
  exact den_exQ e h (fun _ _ h => h.elim) hr trivial

def law03_awake (w : World) (R : Value → World → Prop) : Prop :=
  law03_awake_p1 R w
theorem law03_awake_does {w : World} {R : Value → World → Prop} (h : law03_awake w R) : Does pg F_law03_awake #[] w R := by
  refine does_of_den (ann := ann_law03_awake) (fn := Try.f7) (c := code_law03_awake) (args := []) (rs := rs_law03_awake) (N := 23) TryM.mixed Try.func7 (by kernel_rfl) (by kernel_rfl) (by kernel_rfl) (of_decide_eq_true (by kernel_rfl)) (by kernel_rfl) ?_
  exact (law03_awake_p1_ok (retQ pg rs_law03_awake R) (envOf []) w R (fun _ _ h => h) h)
-- PIECES law03_awake/0 law03_awake_p1

/- lighterman/xxh.New -/
def ann_xxh_New : Nat → Ann × Plan := fun i => (([], []), [])
def rs_xxh_New : List ResultVar := [.tmp 0]
noncomputable def code_xxh_New : Code := bodyOf Try.f8
def xxh_New_p1 (R : Value → World → Prop)  (w : World) : Prop :=
  Stp pg (sBin .add 28 (.tmp 2) (.const (.int .u64 14029467366897019727)) (.int .u64 11400714785074694791) (.int .u64 14029467366897019727)) w fun t3 w =>
  Stp pg (sUn .neg (.int .u64 11400714785074694791)) w fun t5 w =>
  Stp pg (sBuild 38 [(0, t3), (1, (.int .u64 14029467366897019727)), (2, (.int .u64 0)), (3, t5)]) w fun t6 w =>
  Stp pg (sBuild 41 [(0, t6)]) w fun t7 w =>
  Stp pg (sBox 41 t7) w fun t8 w =>
  R t8 w
theorem xxh_New_p1_ok (Q : Exit → Env → World → Prop) (g : Env) (w : World) (R : Value → World → Prop) (hr : ∀ g w, (resVals pg rs_xxh_New g w fun vs => R (tup vs) w) → Q .ret g w) (h : xxh_New_p1 R w) : den pg ann_xxh_New code_xxh_New Q g w := by
  have e : (xxh_New_p1 R w) = den pg ann_xxh_New code_xxh_New (exQ (fun _ _ => False) (fun g w => resVals pg rs_xxh_New g w fun vs => R (tup vs) w) []) g w := by kernel_rfl
  exact den_exQ e h (fun _ _ h => h.elim) hr trivial

def xxh_New (w : World) (R : Value → World → Prop) : Prop :=
  xxh_New_p1 R w
theorem xxh_New_does {w : World} {R : Value → World → Prop} (h : xxh_New w R) : Does pg F_xxh_New #[] w R := by
  refine does_of_den (ann := ann_xxh_New) (fn := Try.f8) (c := code_xxh_New) (args := []) (rs := rs_xxh_New) (N := 9) TryM.mixed Try.func8 (by kernel_rfl) (by kernel_rfl) (by kernel_rfl) (of_decide_eq_true (by kernel_rfl)) (by kernel_rfl) ?_
  exact (xxh_New_p1_ok (retQ pg rs_xxh_New R) (envOf []) w R (fun _ _ h => h) h)
-- PIECES xxh_New/0 xxh_New_p1

/- (*lighterman/xxh.Hash).Write -/
def ann_xxh_Hash_Write : Nat → Ann × Plan := fun i => match Nat.beq i 3 with | true => (([9], []), [(false, []), (false, []), (false, []), (false, []), (false, []), (false, []), (false, []), (false, []), (false, []), (true, []), (false, [])]) | false => match Nat.beq i 10 with | true => (([17, 18, 22], [(4, 17), (5, 17), (6, 17), (7, 17), (17, 19), (17, 20), (18, 19), (18, 20)]), [(false, []), (false, []), (false, []), (false, []), (false, []), (false, []), (false, []), (false, []), (false, []), (false, []), (false, []), (false, []), (false, []), (false, []), (false, []), (false, []), (false, []), (true, [9, 10, 11, 12]), (true, []), (false, [0, 1]), (false, [1, 2]), (false, []), (true, [])]) | false => (([], []), [])
def rs_xxh_Hash_Write : List ResultVar := []
noncomputable def code_xxh_Hash_Write : Code := bodyOf Try.f9
def xxh_Hash_Write_p1 (kn : Value → Value → World → Prop) (h_0 b_1 : Value) (w : World) : Prop :=
  Stp pg (sNil h_0) w fun t74 w =>
  Stp pg (sFAddr 41 t74 2) w fun t75 w =>
  Stp pg (sStore 3 t75 (.int .i64 0)) w fun _u w =>
  kn h_0 b_1 w
theorem xxh_Hash_Write_p1_ok (Q : Exit → Env → World → Prop) (g : Env) (w : World) (kn : Value → Value → World → Prop) (hn : ∀ g w, kn (g 0) (g 1) w → Q .normal g w) (h : xxh_Hash_Write_p1 kn (g 0) (g 1) w) : den pg ann_xxh_Hash_Write (dropS 1 (cT (dropS 4 (bI (dropS 1 (bI (bI (dropS 2 code_xxh_Hash_Write)))))))) Q g w := by
  have e : (xxh_Hash_Write_p1 kn (g 0) (g 1) w) = den pg ann_xxh_Hash_Write (dropS 1 (cT (dropS 4 (bI (dropS 1 (bI (bI (dropS 2 code_xxh_Hash_Write)))))))) (exQ (fun g w => kn (g 0) (g 1) w) (fun _ _ => False) []) g w := by kernel_rfl
  exact den_exQ e h hn (fun _ _ h => h.elim) trivial

def xxh_Hash_Write_p2 (kn : Value → Value → Value → World → Prop) (k2 : Value → Value → World → Prop) (h_0 b_1 t47 : Value) (w : World) : Prop :=
  Stp pg (sBin .lss 3 (.tmp 47) (.const (.int .i64 4)) t47 (.int .i64 4)) w fun t48 w =>
  Cnd t48
    ((dr w) = (dr w) ∧
    (dr w) = (dr w) ∧
    (dr w) = (dr w) ∧
    (dr w) = (dr w) ∧
    Stp pg (sNil h_0) (dr w) fun t54 w_ => w_ = (dr w) ∧
    Stp pg (sFAddr 41 t54 0) (dr w) fun t55 w_ => w_ = (dr w) ∧
    Stp pg (sIAddr 38 t55 t47) (dr w) fun t56 w_ => w_ = (dr w) ∧
    Stp pg (sLoad 28 t56) (dr w) fun t57 w_ => w_ = (dr w) ∧
    (dr w) = (dr w) ∧
    Stp pg (sNil h_0) (dr w) fun t59 w_ => w_ = (dr w) ∧
    Stp pg (sFAddr 41 t59 1) (dr w) fun t60 w_ => w_ = (dr w) ∧
    (dr w) = (dr w) ∧
    Stp pg (sBin .mul 3 (.const (.int .i64 8)) (.tmp 61) (.int .i64 8) t47) (dr w) fun t62 w_ => w_ = (dr w) ∧
    (dr w) = (dr w) ∧
    Stp pg (sBin .mul 3 (.const (.int .i64 8)) (.tmp 63) (.int .i64 8) t47) (dr w) fun t64 w_ => w_ = (dr w) ∧
    Stp pg (sBin .add 3 (.tmp 64) (.const (.int .i64 8)) t64 (.int .i64 8)) (dr w) fun t65 w_ => w_ = (dr w) ∧
    Stp pg (sSlice 39 t60 (some t62) (some t65) none) (dr w) fun t66 w_ => w_ = (dr w) ∧
    Does pg F_xxh_number #[t66] (dr w) fun t67 w10_17 =>
    (Same pg (sLoad 28 t56) t57 w10_17 ∧ Same pg (sIAddr 38 t55 t47) t56 w10_17 ∧ Same pg (sFAddr 41 t54 0) t55 w10_17 ∧ Same pg (sNil h_0) t54 w10_17 ∧ True) ∧
    Does pg F_xxh_round #[t57, t67] w10_17 fun t68 w10_18 =>
    Stp pg (sNil h_0) w10_18 fun t69 w_ => w_ = w10_18 ∧
    (Same pg (sNil h_0) t69 w10_17 ∧ Same pg (sNil h_0) t69 (dr w) ∧ True) ∧
    Stp pg (sFAddr 41 t69 0) w10_18 fun t70 w_ => w_ = w10_18 ∧
    (Same pg (sFAddr 41 t69 0) t70 w10_17 ∧ Same pg (sFAddr 41 t69 0) t70 (dr w) ∧ True) ∧
    Stp pg (sIAddr 38 t70 t47) w10_18 fun t71 w_ => w_ = w10_18 ∧
    Stp pg (sStore 28 t71 t68) w10_18 fun _u22 w10_22 =>
    Stp pg (sBin .add 3 (.tmp 47) (.const (.int .i64 1)) t47 (.int .i64 1)) w10_22 fun t72 w =>
    kn h_0 b_1 t72 w)
    (k2 h_0 b_1 w)
theorem xxh_Hash_Write_p2_ok (Q : Exit → Env → World → Prop) (g : Env) (w : World) (kn : Value → Value → Value → World → Prop) (k2 : Value → Value → World → Prop) (hn : ∀ g w, kn (g 0) (g 1) (g 47) w → Q .normal g w) (h2 : ∀ g w, k2 (g 0) (g 1) w → Q (.exit 2) g w) (h : xxh_Hash_Write_p2 kn k2 (g 0) (g 1) (g 47) w) : den pg ann_xxh_Hash_Write (bI (bI (dropS 1 (takeS 1 (cT (dropS 4 (bI (dropS 1 (bI (bI (dropS 2 code_xxh_Hash_Write))))))))))) Q g w := by
  have e : (xxh_Hash_Write_p2 kn k2 (g 0) (g 1) (g 47) w) = den pg ann_xxh_Hash_Write (bI (bI (dropS 1 (takeS 1 (cT (dropS 4 (bI (dropS 1 (bI (bI (dropS 2 code_xxh_Hash_Write))))))))))) (exQ (fun g w => kn (g 0) (g 1) (g 47) w) (fun _ _ => False) [(2, fun g w => k2 (g 0) (g 1) w)]) g w := by kernel_rfl
  exact den_exQ e h hn (fun _ _ h => h.elim) ⟨h2, trivial⟩

def xxh_Hash_Write_p3 (k2 : Value → Value → World → Prop) (h_0 b_1 t47 : Value) (w : World) : Prop :=
  LoopD (fun (X : Value → World → Prop) (t : Value) (w : World) => xxh_Hash_Write_p2 (fun _ _ t47 w => X t47 w) k2 h_0 b_1 t w) t47 w
theorem xxh_Hash_Write_p3_ok (Q : Exit → Env → World → Prop) (g : Env) (w : World) (k2 : Value → Value → World → Prop) (h2 : ∀ g w, k2 (g 0) (g 1) w → Q (.exit 2) g w) (h : xxh_Hash_Write_p3 k2 (g 0) (g 1) (g 47) w) : den pg ann_xxh_Hash_Write (bI (dropS 1 (takeS 1 (cT (dropS 4 (bI (dropS 1 (bI (bI (dropS 2 code_xxh_Hash_Write)))))))))) Q g w := by
  refine den_loops (T := Value) (fun g : Env => g 47) (fun X t w => xxh_Hash_Write_p2 (fun _ _ t47 w => X t47 w) k2 (g 0) (g 1) t w) (bI (dropS 1 (takeS 1 (cT (dropS 4 (bI (dropS 1 (bI (bI (dropS 2 code_xxh_Hash_Write)))))))))) (by kernel_rfl) h (fun X g1 w1 ha h1 => ?_)
  rw [← agree_at (s := 0) ha (by kernel_rfl)] at h1
  rw [← agree_at (s := 1) ha (by kernel_rfl)] at h1
  exact (xxh_Hash_Write_p2_ok (thenE (fun g2 w2 => X ((fun g : Env => g 47) g2) w2) Q) g1 w1 (fun _ _ t47 w => X t47 w) k2 (fun _ _ h => h) h2 h1)

def xxh_Hash_Write_p4 (kn : Value → Value → World → Prop) (h_0 b_1 t47 : Value) (w : World) : Prop :=
  xxh_Hash_Write_p3 kn h_0 b_1 t47 w
theorem xxh_Hash_Write_p4_ok (Q : Exit → Env → World → Prop) (g : Env) (w : World) (kn : Value → Value → World → Prop) (hn : ∀ g w, kn (g 0) (g 1) w → Q .normal g w) (h : xxh_Hash_Write_p4 kn (g 0) (g 1) (g 47) w) : den pg ann_xxh_Hash_Write (dropS 1 (takeS 1 (cT (dropS 4 (bI (dropS 1 (bI (bI (dropS 2 code_xxh_Hash_Write))))))))) Q g w :=
  den_blk 2 (dropS 1 (takeS 1 (cT (dropS 4 (bI (dropS 1 (bI (bI (dropS 2 code_xxh_Hash_Write))))))))) g w (by kernel_rfl) (xxh_Hash_Write_p3_ok (blk 2 Q) g w kn hn h)

def xxh_Hash_Write_p5 (kn : Value → Value → Value → World → Prop) (h_0 b_1 : Value) (w : World) : Prop :=
  kn h_0 b_1 (.int .i64 0) w
theorem xxh_Hash_Write_p5_ok (Q : Exit → Env → World → Prop) (g : Env) (w : World) (kn : Value → Value → Value → World → Prop) (hn : ∀ g w, kn (g 0) (g 1) (g 47) w → Q .normal g w) (h : xxh_Hash_Write_p5 kn (g 0) (g 1) w) : den pg ann_xxh_Hash_Write (takeS 1 (takeS 1 (cT (dropS 4 (bI (dropS 1 (bI (bI (dropS 2 code_xxh_Hash_Write))))))))) Q g w := by
  have e : (xxh_Hash_Write_p5 kn (g 0) (g 1) w) = den pg ann_xxh_Hash_Write (takeS 1 (takeS 1 (cT (dropS 4 (bI (dropS 1 (bI (bI (dropS 2 code_xxh_Hash_Write))))))))) (exQ (fun g w => kn (g 0) (g 1) (g 47) w) (fun _ _ => False) []) g w := by kernel_rfl
  exact den_exQ e h hn (fun _ _ h => h.elim) trivial

def xxh_Hash_Write_p6 (kn : Value → Value → World → Prop) (h_0 b_1 : Value) (w : World) : Prop :=
  xxh_Hash_Write_p5 (fun h_0 b_1 t47 w => xxh_Hash_Write_p4 kn h_0 b_1 t47 w) h_0 b_1 w
theorem xxh_Hash_Write_p6_ok (Q : Exit → Env → World → Prop) (g : Env) (w : World) (kn : Value → Value → World → Prop) (hn : ∀ g w, kn (g 0) (g 1) w → Q .normal g w) (h : xxh_Hash_Write_p6 kn (g 0) (g 1) w) : den pg ann_xxh_Hash_Write (takeS 1 (cT (dropS 4 (bI (dropS 1 (bI (bI (dropS 2 code_xxh_Hash_Write)))))))) Q g w := by
  exact den_seqs 1 (takeS 1 (cT (dropS 4 (bI (dropS 1 (bI (bI (dropS 2 code_xxh_Hash_Write)))))))) g w (by kernel_rfl) (xxh_Hash_Write_p5_ok (thenE (fun g w => den pg ann_xxh_Hash_Write (dropS 1 (takeS 1 (cT (dropS 4 (bI (dropS 1 (bI (bI (dropS 2 code_xxh_Hash_Write))))))))) Q g w) Q) g w (fun h_0 b_1 t47 w => xxh_Hash_Write_p4 kn h_0 b_1 t47 w) (fun g w h => (xxh_Hash_Write_p4_ok Q g w kn hn h)) h)

def xxh_Hash_Write_p7 (kn : Value → Value → World → Prop) (h_0 b_1 : Value) (w : World) : Prop :=
  xxh_Hash_Write_p6 (fun h_0 b_1 w => xxh_Hash_Write_p1 kn h_0 b_1 w) h_0 b_1 w
theorem xxh_Hash_Write_p7_ok (Q : Exit → Env → World → Prop) (g : Env) (w : World) (kn : Value → Value → World → Prop) (hn : ∀ g w, kn (g 0) (g 1) w → Q .normal g w) (h : xxh_Hash_Write_p7 kn (g 0) (g 1) w) : den pg ann_xxh_Hash_Write (cT (dropS 4 (bI (dropS 1 (bI (bI (dropS 2 code_xxh_Hash_Write))))))) Q g w := by
  exact den_seqs 1 (cT (dropS 4 (bI (dropS 1 (bI (bI (dropS 2 code_xxh_Hash_Write))))))) g w (by kernel_rfl) (xxh_Hash_Write_p6_ok (thenE (fun g w => den pg ann_xxh_Hash_Write (dropS 1 (cT (dropS 4 (bI (dropS 1 (bI (bI (dropS 2 code_xxh_Hash_Write)))))))) Q g w) Q) g w (fun h_0 b_1 w => xxh_Hash_Write_p1 kn h_0 b_1 w) (fun g w h => (xxh_Hash_Write_p1_ok Q g w kn hn h)) h)

def xxh_Hash_Write_p8 (kn : Value → Value → World → Prop) (h_0 b_1 : Value) (w : World) : Prop :=
  kn h_0 b_1 w
theorem xxh_Hash_Write_p8_ok (Q : Exit → Env → World → Prop) (g : Env) (w : World) (kn : Value → Value → World → Prop) (hn : ∀ g w, kn (g 0) (g 1) w → Q .normal g w) (h : xxh_Hash_Write_p8 kn (g 0) (g 1) w) : den pg ann_xxh_Hash_Write (cE (dropS 4 (bI (dropS 1 (bI (bI (dropS 2 code_xxh_Hash_Write))))))) Q g w := by
  have e : (xxh_Hash_Write_p8 kn (g 0) (g 1) w) = den pg ann_xxh_Hash_Write (cE (dropS 4 (bI (dropS 1 (bI (bI (dropS 2 code_xxh_Hash_Write))))))) (exQ (fun g w => kn (g 0) (g 1) w) (fun _ _ => False) []) g w := by kernel_rfl
  exact den_exQ e h hn (fun _ _ h => h.elim) trivial

def xxh_Hash_Write_p9 (kn : Value → Value → World → Prop) (h_0 b_1 t46 : Value) (w : World) : Prop :=
  Cnd t46 (xxh_Hash_Write_p7 kn h_0 b_1 w) (xxh_Hash_Write_p8 kn h_0 b_1 w)
theorem xxh_Hash_Write_p9_ok (Q : Exit → Env → World → Prop) (g : Env) (w : World) (kn : Value → Value → World → Prop) (hn : ∀ g w, kn (g 0) (g 1) w → Q .normal g w) (h : xxh_Hash_Write_p9 kn (g 0) (g 1) (g 46) w) : den pg ann_xxh_Hash_Write (dropS 4 (bI (dropS 1 (bI (bI (dropS 2 code_xxh_Hash_Write)))))) Q g w := by
  refine den_cnd (.tmp 46) (dropS 4 (bI (dropS 1 (bI (bI (dropS 2 code_xxh_Hash_Write)))))) g w (by kernel_rfl) ?_
  exact Cnd_mono (fun h => (xxh_Hash_Write_p7_ok Q g w kn hn h)) (fun h => (xxh_Hash_Write_p8_ok Q g w kn hn h)) h

def xxh_Hash_Write_p10 (kn : Value → Value → Value → World → Prop) (h_0 b_1 : Value) (w : World) : Prop :=
  (dr w) = (dr w) ∧
  Stp pg (sNil h_0) (dr w) fun t22 w_ => w_ = (dr w) ∧
  Stp pg (sFAddr 41 t22 1) (dr w) fun t23 w_ => w_ = (dr w) ∧
  (dr w) = (dr w) ∧
  Stp pg (sNil h_0) (dr w) fun t25 w_ => w_ = (dr w) ∧
  Stp pg (sFAddr 41 t25 2) (dr w) fun t26 w_ => w_ = (dr w) ∧
  Stp pg (sLoad 3 t26) (dr w) fun t27 w_ => w_ = (dr w) ∧
  Stp pg (sSlice 39 t23 (some t27) none none) (dr w) fun t28 w_ => w_ = (dr w) ∧
  (dr w) = (dr w) ∧
  Stp pg (sBi .copy #[26, 26] 3 [t28, b_1]) (dr w) fun t30 w3_9 =>
  w3_9 = w3_9 ∧
  Stp pg (sNil h_0) w3_9 fun t32 w =>
  Stp pg (sFAddr 41 t32 2) w fun t33 w =>
  Stp pg (sLoad 3 t33) w fun t34 w =>
  Stp pg (sBin .add 3 (.tmp 34) (.tmp 35) t34 t30) w fun t36 w =>
  Stp pg (sNil h_0) w fun t37 w =>
  Stp pg (sFAddr 41 t37 2) w fun t38 w =>
  Stp pg (sStore 3 t38 t36) w fun _u w =>
  Stp pg (sSlice 26 b_1 (some t30) none none) w fun t41 w =>
  Stp pg (sNil h_0) w fun t43 w =>
  Stp pg (sFAddr 41 t43 2) w fun t44 w =>
  Stp pg (sLoad 3 t44) w fun t45 w =>
  Stp pg (sBin .eql 3 (.tmp 45) (.const (.int .i64 32)) t45 (.int .i64 32)) w fun t46 w =>
  kn h_0 t41 t46 w
theorem xxh_Hash_Write_p10_ok (Q : Exit → Env → World → Prop) (g : Env) (w : World) (kn : Value → Value → Value → World → Prop) (hn : ∀ g w, kn (g 0) (g 1) (g 46) w → Q .normal g w) (h : xxh_Hash_Write_p10 kn (g 0) (g 1) w) : den pg ann_xxh_Hash_Write (takeS 4 (bI (dropS 1 (bI (bI (dropS 2 code_xxh_Hash_Write)))))) Q g w := by
  have e : (xxh_Hash_Write_p10 kn (g 0) (g 1) w) = den pg ann_xxh_Hash_Write (takeS 4 (bI (dropS 1 (bI (bI (dropS 2 code_xxh_Hash_Write)))))) (exQ (fun g w => kn (g 0) (g 1) (g 46) w) (fun _ _ => False) []) g w := by kernel_rfl
  exact den_exQ e h hn (fun _ _ h => h.elim) trivial

def xxh_Hash_Write_p11 (kn : Value → Value → World → Prop) (h_0 b_1 : Value) (w : World) : Prop :=
  xxh_Hash_Write_p10 (fun h_0 b_1 t46 w => xxh_Hash_Write_p9 kn h_0 b_1 t46 w) h_0 b_1 w
theorem xxh_Hash_Write_p11_ok (Q : Exit → Env → World → Prop) (g : Env) (w : World) (kn : Value → Value → World → Prop) (hn : ∀ g w, kn (g 0) (g 1) w → Q .normal g w) (h : xxh_Hash_Write_p11 kn (g 0) (g 1) w) : den pg ann_xxh_Hash_Write (bI (dropS 1 (bI (bI (dropS 2 code_xxh_Hash_Write))))) Q g w := by
  exact den_seqs 4 (bI (dropS 1 (bI (bI (dropS 2 code_xxh_Hash_Write))))) g w (by kernel_rfl) (xxh_Hash_Write_p10_ok (thenE (fun g w => den pg ann_xxh_Hash_Write (dropS 4 (bI (dropS 1 (bI (bI (dropS 2 code_xxh_Hash_Write)))))) Q g w) Q) g w (fun h_0 b_1 t46 w => xxh_Hash_Write_p9 kn h_0 b_1 t46 w) (fun g w h => (xxh_Hash_Write_p9_ok Q g w kn hn h)) h)

def xxh_Hash_Write_p12 (kn : Value → Value → World → Prop) (h_0 b_1 : Value) (w : World) : Prop :=
  xxh_Hash_Write_p11 kn h_0 b_1 w
theorem xxh_Hash_Write_p12_ok (Q : Exit → Env → World → Prop) (g : Env) (w : World) (kn : Value → Value → World → Prop) (hn : ∀ g w, kn (g 0) (g 1) w → Q .normal g w) (h : xxh_Hash_Write_p12 kn (g 0) (g 1) w) : den pg ann_xxh_Hash_Write (dropS 1 (bI (bI (dropS 2 code_xxh_Hash_Write)))) Q g w :=
  den_blk 1 (dropS 1 (bI (bI (dropS 2 code_xxh_Hash_Write)))) g w (by kernel_rfl) (xxh_Hash_Write_p11_ok (blk 1 Q) g w kn hn h)

def xxh_Hash_Write_p13 (kn : Value → Value → World → Prop) (k0 : World → Prop) (h_0 b_1 : Value) (w : World) : Prop :=
  Stp pg (sBi .len #[26] 3 [b_1]) w fun t19 w =>
  Stp pg (sBin .gtr 3 (.tmp 19) (.const (.int .i64 0)) t19 (.int .i64 0)) w fun t20 w =>
  Cnd t20
    (kn h_0 b_1 w)
    (k0 w)
theorem xxh_Hash_Write_p13_ok (Q : Exit → Env → World → Prop) (g : Env) (w : World) (kn : Value → Value → World → Prop) (k0 : World → Prop) (hn : ∀ g w, kn (g 0) (g 1) w → Q .normal g w) (h0 : ∀ g w, k0 w → Q (.exit 0) g w) (h : xxh_Hash_Write_p13 kn k0 (g 0) (g 1) w) : den pg ann_xxh_Hash_Write (takeS 1 (bI (bI (dropS 2 code_xxh_Hash_Write)))) Q g w := by
  have e : (xxh_Hash_Write_p13 kn k0 (g 0) (g 1) w) = den pg ann_xxh_Hash_Write (takeS 1 (bI (bI (dropS 2 code_xxh_Hash_Write)))) (exQ (fun g w => kn (g 0) (g 1) w) (fun _ _ => False) [(0, fun g w => k0 w)]) g w := by kernel_rfl
  exact den_exQ e h hn (fun _ _ h => h.elim) ⟨h0, trivial⟩

def xxh_Hash_Write_p14 (kn : Value → Value → World → Prop) (k0 : World → Prop) (h_0 b_1 : Value) (w : World) : Prop :=
  xxh_Hash_Write_p13 (fun h_0 b_1 w => xxh_Hash_Write_p12 kn h_0 b_1 w) k0 h_0 b_1 w
theorem xxh_Hash_Write_p14_ok (Q : Exit → Env → World → Prop) (g : Env) (w : World) (kn : Value → Value → World → Prop) (k0 : World → Prop) (hn : ∀ g w, kn (g 0) (g 1) w → Q .normal g w) (h0 : ∀ g w, k0 w → Q (.exit 0) g w) (h : xxh_Hash_Write_p14 kn k0 (g 0) (g 1) w) : den pg ann_xxh_Hash_Write (bI (bI (dropS 2 code_xxh_Hash_Write))) Q g w := by
  exact den_seqs 1 (bI (bI (dropS 2 code_xxh_Hash_Write))) g w (by kernel_rfl) (xxh_Hash_Write_p13_ok (thenE (fun g w => den pg ann_xxh_Hash_Write (dropS 1 (bI (bI (dropS 2 code_xxh_Hash_Write)))) Q g w) Q) g w (fun h_0 b_1 w => xxh_Hash_Write_p12 kn h_0 b_1 w) k0 (fun g w h => (xxh_Hash_Write_p12_ok Q g w kn hn h)) h0 h)

def xxh_Hash_Write_p15 (k0 : World → Prop) (h_0 b_1 : Value) (w : World) : Prop :=
  LoopD (fun (X : Value → World → Prop) (t : Value) (w : World) => xxh_Hash_Write_p14 (fun _ b_1 w => X b_1 w) k0 h_0 t w) b_1 w
theorem xxh_Hash_Write_p15_ok (Q : Exit → Env → World → Prop) (g : Env) (w : World) (k0 : World → Prop) (h0 : ∀ g w, k0 w → Q (.exit 0) g w) (h : xxh_Hash_Write_p15 k0 (g 0) (g 1) w) : den pg ann_xxh_Hash_Write (bI (dropS 2 code_xxh_Hash_Write)) Q g w := by
  refine den_loops (T := Value) (fun g : Env => g 1) (fun X t w => xxh_Hash_Write_p14 (fun _ b_1 w => X b_1 w) k0 (g 0) t w) (bI (dropS 2 code_xxh_Hash_Write)) (by kernel_rfl) h (fun X g1 w1 ha h1 => ?_)
  rw [← agree_at (s := 0) ha (by kernel_rfl)] at h1
  exact (xxh_Hash_Write_p14_ok (thenE (fun g2 w2 => X ((fun g : Env => g 1) g2) w2) Q) g1 w1 (fun _ b_1 w => X b_1 w) k0 (fun _ _ h => h) h0 h1)

def xxh_Hash_Write_p16 (kn : World → Prop) (h_0 b_1 : Value) (w : World) : Prop :=
  xxh_Hash_Write_p15 kn h_0 b_1 w
theorem xxh_Hash_Write_p16_ok (Q : Exit → Env → World → Prop) (g : Env) (w : World) (kn : World → Prop) (hn : ∀ g w, kn w → Q .normal g w) (h : xxh_Hash_Write_p16 kn (g 0) (g 1) w) : den pg ann_xxh_Hash_Write (dropS 2 code_xxh_Hash_Write) Q g w :=
  den_blk 0 (dropS 2 code_xxh_Hash_Write) g w (by kernel_rfl) (xxh_Hash_Write_p15_ok (blk 0 Q) g w kn hn h)

def xxh_Hash_Write_p17 (kn : Value → Value → World → Prop) (R : Value → World → Prop) (h_0 b_1 : Value) (w : World) : Prop :=
  Stp pg (sBin .eql 24 (.tmp 6) (.const (.pointer none)) h_0 (.pointer none)) w fun t7 w =>
  Cnd t7
    (R (.tuple #[]) w)
    (Stp pg (sNil h_0) w fun t9 w =>
    Stp pg (sFAddr 41 t9 3) w fun t10 w =>
    Stp pg (sLoad 28 t10) w fun t11 w =>
    Stp pg (sBi .len #[26] 3 [b_1]) w fun t13 w =>
    Stp pg (sCvt 3 28 t13) w fun t14 w =>
    Stp pg (sBin .add 28 (.tmp 11) (.tmp 14) t11 t14) w fun t15 w =>
    Stp pg (sNil h_0) w fun t16 w =>
    Stp pg (sFAddr 41 t16 3) w fun t17 w =>
    Stp pg (sStore 28 t17 t15) w fun _u w =>
    kn h_0 b_1 w)
theorem xxh_Hash_Write_p17_ok (Q : Exit → Env → World → Prop) (g : Env) (w : World) (kn : Value → Value → World → Prop) (R : Value → World → Prop) (hn : ∀ g w, kn (g 0) (g 1) w → Q .normal g w) (hr : ∀ g w, (resVals pg rs_xxh_Hash_Write g w fun vs => R (tup vs) w) → Q .ret g w) (h : xxh_Hash_Write_p17 kn R (g 0) (g 1) w) : den pg ann_xxh_Hash_Write (takeS 2 code_xxh_Hash_Write) Q g w := by
  have e : (xxh_Hash_Write_p17 kn R (g 0) (g 1) w) = den pg ann_xxh_Hash_Write (takeS 2 code_xxh_Hash_Write) (exQ (fun g w => kn (g 0) (g 1) w) (fun g w => resVals pg rs_xxh_Hash_Write g w fun vs => R (tup vs) w) []) g w := by kernel_rfl
  exact den_exQ e h hn hr trivial

def xxh_Hash_Write_p18 (kn : World → Prop) (R : Value → World → Prop) (h_0 b_1 : Value) (w : World) : Prop :=
  xxh_Hash_Write_p17 (fun h_0 b_1 w => xxh_Hash_Write_p16 kn h_0 b_1 w) R h_0 b_1 w
theorem xxh_Hash_Write_p18_ok (Q : Exit → Env → World → Prop) (g : Env) (w : World) (kn : World → Prop) (R : Value → World → Prop) (hn : ∀ g w, kn w → Q .normal g w) (hr : ∀ g w, (resVals pg rs_xxh_Hash_Write g w fun vs => R (tup vs) w) → Q .ret g w) (h : xxh_Hash_Write_p18 kn R (g 0) (g 1) w) : den pg ann_xxh_Hash_Write code_xxh_Hash_Write Q g w := by
  exact den_seqs 2 code_xxh_Hash_Write g w (by kernel_rfl) (xxh_Hash_Write_p17_ok (thenE (fun g w => den pg ann_xxh_Hash_Write (dropS 2 code_xxh_Hash_Write) Q g w) Q) g w (fun h_0 b_1 w => xxh_Hash_Write_p16 kn h_0 b_1 w) R (fun g w h => (xxh_Hash_Write_p16_ok Q g w kn hn h)) hr h)

def xxh_Hash_Write (a0 a1 : Value) (w : World) (R : Value → World → Prop) : Prop :=
  xxh_Hash_Write_p18 (fun  w => R (.tuple #[]) w) R a0 a1 w
theorem xxh_Hash_Write_does {a0 a1 : Value} {w : World} {R : Value → World → Prop} (h : xxh_Hash_Write a0 a1 w R) : Does pg F_xxh_Hash_Write #[a0, a1] w R := by
  refine does_of_den (ann := ann_xxh_Hash_Write) (fn := Try.f9) (c := code_xxh_Hash_Write) (args := [a0, a1]) (rs := rs_xxh_Hash_Write) (N := 76) TryM.mixed Try.func9 (by kernel_rfl) (by kernel_rfl) (by kernel_rfl) (of_decide_eq_true (by kernel_rfl)) (by kernel_rfl) ?_
  exact (xxh_Hash_Write_p18_ok (retQ pg rs_xxh_Hash_Write R) (envOf [a0, a1]) w (fun  w => R (.tuple #[]) w) R (fun _ _ h => h) (fun _ _ h => h) h)
-- PIECES xxh_Hash_Write/0 xxh_Hash_Write_p15 xxh_Hash_Write_p16 xxh_Hash_Write_p17 xxh_Hash_Write_p18
-- PIECES xxh_Hash_Write/1 xxh_Hash_Write_p1 xxh_Hash_Write_p3 xxh_Hash_Write_p4 xxh_Hash_Write_p5 xxh_Hash_Write_p6 xxh_Hash_Write_p7 xxh_Hash_Write_p8 xxh_Hash_Write_p9 xxh_Hash_Write_p10 xxh_Hash_Write_p11 xxh_Hash_Write_p12 xxh_Hash_Write_p13 xxh_Hash_Write_p14
-- PIECES xxh_Hash_Write/2 xxh_Hash_Write_p2

/- (*lighterman/xxh.Hash).Sum -/
def ann_xxh_Hash_Sum : Nat → Ann × Plan := fun i => match Nat.beq i 3 with | true => (([1], [(1, 3), (1, 4), (1, 5)]), [(false, []), (true, []), (false, []), (false, [1]), (false, [2]), (false, [3]), (false, []), (false, [])]) | false => match Nat.beq i 4 with | true => (([], []), [(false, []), (false, []), (false, []), (false, []), (false, []), (false, []), (false, []), (false, []), (false, [])]) | false => (([], []), [])
def rs_xxh_Hash_Sum : List ResultVar := [.tmp 2]
noncomputable def code_xxh_Hash_Sum : Code := bodyOf Try.f10
def xxh_Hash_Sum_p1 (R : Value → World → Prop) (x_3 : Value) (w : World) : Prop :=
  Stp pg (sBin .shr 28 (.tmp 68) (.const (.int .u64 33)) x_3 (.int .u64 33)) w fun t69 w =>
  Stp pg (sBin .xor 28 (.tmp 67) (.tmp 69) x_3 t69) w fun t70 w =>
  Stp pg (sBin .mul 28 (.tmp 70) (.const (.int .u64 14029467366897019727)) t70 (.int .u64 14029467366897019727)) w fun t71 w =>
  Stp pg (sBin .shr 28 (.tmp 73) (.const (.int .u64 29)) t71 (.int .u64 29)) w fun t74 w =>
  Stp pg (sBin .xor 28 (.tmp 72) (.tmp 74) t71 t74) w fun t75 w =>
  Stp pg (sBin .mul 28 (.tmp 75) (.const (.int .u64 1609587929392839161)) t75 (.int .u64 1609587929392839161)) w fun t76 w =>
  Stp pg (sBin .shr 28 (.tmp 78) (.const (.int .u64 32)) t76 (.int .u64 32)) w fun t79 w =>
  Stp pg (sBin .xor 28 (.tmp 77) (.tmp 79) t76 t79) w fun t80 w =>
  R t80 w
theorem xxh_Hash_Sum_p1_ok (Q : Exit → Env → World → Prop) (g : Env) (w : World) (R : Value → World → Prop) (hr : ∀ g w, (resVals pg rs_xxh_Hash_Sum g w fun vs => R (tup vs) w) → Q .ret g w) (h : xxh_Hash_Sum_p1 R (g 3) w) : den pg ann_xxh_Hash_Sum (dropS 1 (dropS 1 (dropS 1 (dropS 4 code_xxh_Hash_Sum)))) Q g w := by
  have e : (xxh_Hash_Sum_p1 R (g 3) w) = den pg ann_xxh_Hash_Sum (dropS 1 (dropS 1 (dropS 1 (dropS 4 code_xxh_Hash_Sum)))) (exQ (fun _ _ => False) (fun g w => resVals pg rs_xxh_Hash_Sum g w fun vs => R (tup vs) w) []) g w := by kernel_rfl
  exact den_exQ e h (fun _ _ h => h.elim) hr trivial

def xxh_Hash_Sum_p2 (kn : Value → Value → Value → Value → World → Prop) (k2 : Value → World → Prop) (x_3 t53 t54 t55 : Value) (w : World) : Prop :=
  Stp pg (sBin .lss 3 (.tmp 55) (.tmp 54) t55 t54) w fun t56 w =>
  Cnd t56
    (Stp pg (sIAddr 26 t53 t55) w fun t57 w =>
    Stp pg (sLoad 5 t57) w fun t58 w =>
    Stp pg (sCvt 5 28 t58) w fun t61 w =>
    Stp pg (sBin .mul 28 (.tmp 61) (.const (.int .u64 2870177450012600261)) t61 (.int .u64 2870177450012600261)) w fun t62 w =>
    Stp pg (sBin .xor 28 (.tmp 59) (.tmp 62) x_3 t62) w fun t63 w =>
    Does pg F_math_bits_RotateLeft64 #[t63, (.int .i64 11)] w fun t64 w =>
    Stp pg (sBin .mul 28 (.tmp 64) (.const (.int .u64 11400714785074694791)) t64 (.int .u64 11400714785074694791)) w fun t65 w =>
    Stp pg (sBin .add 3 (.tmp 55) (.const (.int .i64 1)) t55 (.int .i64 1)) w fun t66 w =>
    kn t65 t53 t54 t66 w)
    (k2 x_3 w)
theorem xxh_Hash_Sum_p2_ok (Q : Exit → Env → World → Prop) (g : Env) (w : World) (kn : Value → Value → Value → Value → World → Prop) (k2 : Value → World → Prop) (hn : ∀ g w, kn (g 3) (g 53) (g 54) (g 55) w → Q .normal g w) (h2 : ∀ g w, k2 (g 3) w → Q (.exit 2) g w) (h : xxh_Hash_Sum_p2 kn k2 (g 3) (g 53) (g 54) (g 55) w) : den pg ann_xxh_Hash_Sum (bI (bI (dropS 1 (takeS 1 (dropS 1 (dropS 1 (dropS 4 code_xxh_Hash_Sum))))))) Q g w := by
  have e : (xxh_Hash_Sum_p2 kn k2 (g 3) (g 53) (g 54) (g 55) w) = den pg ann_xxh_Hash_Sum (bI (bI (dropS 1 (takeS 1 (dropS 1 (dropS 1 (dropS 4 code_xxh_Hash_Sum))))))) (exQ (fun g w => kn (g 3) (g 53) (g 54) (g 55) w) (fun _ _ => False) [(2, fun g w => k2 (g 3) w)]) g w := by kernel_rfl
  exact den_exQ e h hn (fun _ _ h => h.elim) ⟨h2, trivial⟩

def xxh_Hash_Sum_p3 (k2 : Value → World → Prop) (x_3 t53 t54 t55 : Value) (w : World) : Prop :=
  LoopD (fun (X : (Value × Value) → World → Prop) (t : Value × Value) (w : World) => xxh_Hash_Sum_p2 (fun x_3 _ _ t55 w => X (x_3, t55) w) k2 t.1 t53 t54 t.2 w) (x_3, t55) w
theorem xxh_Hash_Sum_p3_ok (Q : Exit → Env → World → Prop) (g : Env) (w : World) (k2 : Value → World → Prop) (h2 : ∀ g w, k2 (g 3) w → Q (.exit 2) g w) (h : xxh_Hash_Sum_p3 k2 (g 3) (g 53) (g 54) (g 55) w) : den pg ann_xxh_Hash_Sum (bI (dropS 1 (takeS 1 (dropS 1 (dropS 1 (dropS 4 code_xxh_Hash_Sum)))))) Q g w := by
  refine den_loops (T := Value × Value) (fun g : Env => (g 3, g 55)) (fun X t w => xxh_Hash_Sum_p2 (fun x_3 _ _ t55 w => X (x_3, t55) w) k2 t.1 (g 53) (g 54) t.2 w) (bI (dropS 1 (takeS 1 (dropS 1 (dropS 1 (dropS 4 code_xxh_Hash_Sum)))))) (by kernel_rfl) h (fun X g1 w1 ha h1 => ?_)
  rw [← agree_at (s := 53) ha (by kernel_rfl)] at h1
  rw [← agree_at (s := 54) ha (by kernel_rfl)] at h1
  exact (xxh_Hash_Sum_p2_ok (thenE (fun g2 w2 => X ((fun g : Env => (g 3, g 55)) g2) w2) Q) g1 w1 (fun x_3 _ _ t55 w => X (x_3, t55) w) k2 (fun _ _ h => h) h2 h1)

def xxh_Hash_Sum_p4 (kn : Value → World → Prop) (x_3 t53 t54 t55 : Value) (w : World) : Prop :=
  xxh_Hash_Sum_p3 kn x_3 t53 t54 t55 w
theorem xxh_Hash_Sum_p4_ok (Q : Exit → Env → World → Prop) (g : Env) (w : World) (kn : Value → World → Prop) (hn : ∀ g w, kn (g 3) w → Q .normal g w) (h : xxh_Hash_Sum_p4 kn (g 3) (g 53) (g 54) (g 55) w) : den pg ann_xxh_Hash_Sum (dropS 1 (takeS 1 (dropS 1 (dropS 1 (dropS 4 code_xxh_Hash_Sum))))) Q g w :=
  den_blk 2 (dropS 1 (takeS 1 (dropS 1 (dropS 1 (dropS 4 code_xxh_Hash_Sum))))) g w (by kernel_rfl) (xxh_Hash_Sum_p3_ok (blk 2 Q) g w kn hn h)

def xxh_Hash_Sum_p5 (kn : Value → Value → Value → Value → World → Prop) (x_3 b_4 : Value) (w : World) : Prop :=
  Stp pg (sBi .len #[26] 3 [b_4]) w fun t54 w =>
  kn x_3 b_4 t54 (.int .i64 0) w
theorem xxh_Hash_Sum_p5_ok (Q : Exit → Env → World → Prop) (g : Env) (w : World) (kn : Value → Value → Value → Value → World → Prop) (hn : ∀ g w, kn (g 3) (g 53) (g 54) (g 55) w → Q .normal g w) (h : xxh_Hash_Sum_p5 kn (g 3) (g 4) w) : den pg ann_xxh_Hash_Sum (takeS 1 (takeS 1 (dropS 1 (dropS 1 (dropS 4 code_xxh_Hash_Sum))))) Q g w := by
  have e : (xxh_Hash_Sum_p5 kn (g 3) (g 4) w) = den pg ann_xxh_Hash_Sum (takeS 1 (takeS 1 (dropS 1 (dropS 1 (dropS 4 code_xxh_Hash_Sum))))) (exQ (fun g w => kn (g 3) (g 53) (g 54) (g 55) w) (fun _ _ => False) []) g w := by kernel_rfl
  exact den_exQ e h hn (fun _ _ h => h.elim) trivial

def xxh_Hash_Sum_p6 (kn : Value → World → Prop) (x_3 b_4 : Value) (w : World) : Prop :=
  xxh_Hash_Sum_p5 (fun x_3 t53 t54 t55 w => xxh_Hash_Sum_p4 kn x_3 t53 t54 t55 w) x_3 b_4 w
theorem xxh_Hash_Sum_p6_ok (Q : Exit → Env → World → Prop) (g : Env) (w : World) (kn : Value → World → Prop) (hn : ∀ g w, kn (g 3) w → Q .normal g w) (h : xxh_Hash_Sum_p6 kn (g 3) (g 4) w) : den pg ann_xxh_Hash_Sum (takeS 1 (dropS 1 (dropS 1 (dropS 4 code_xxh_Hash_Sum)))) Q g w := by
  exact den_seqs 1 (takeS 1 (dropS 1 (dropS 1 (dropS 4 code_xxh_Hash_Sum)))) g w (by kernel_rfl) (xxh_Hash_Sum_p5_ok (thenE (fun g w => den pg ann_xxh_Hash_Sum (dropS 1 (takeS 1 (dropS 1 (dropS 1 (dropS 4 code_xxh_Hash_Sum))))) Q g w) Q) g w (fun x_3 t53 t54 t55 w => xxh_Hash_Sum_p4 kn x_3 t53 t54 t55 w) (fun g w h => (xxh_Hash_Sum_p4_ok Q g w kn hn h)) h)

def xxh_Hash_Sum_p7 (R : Value → World → Prop) (x_3 b_4 : Value) (w : World) : Prop :=
  xxh_Hash_Sum_p6 (fun x_3 w => xxh_Hash_Sum_p1 R x_3 w) x_3 b_4 w
theorem xxh_Hash_Sum_p7_ok (Q : Exit → Env → World → Prop) (g : Env) (w : World) (R : Value → World → Prop) (hr : ∀ g w, (resVals pg rs_xxh_Hash_Sum g w fun vs => R (tup vs) w) → Q .ret g w) (h : xxh_Hash_Sum_p7 R (g 3) (g 4) w) : den pg ann_xxh_Hash_Sum (dropS 1 (dropS 1 (dropS 4 code_xxh_Hash_Sum))) Q g w := by
  exact den_seqs 1 (dropS 1 (dropS 1 (dropS 4 code_xxh_Hash_Sum))) g w (by kernel_rfl) (xxh_Hash_Sum_p6_ok (thenE (fun g w => den pg ann_xxh_Hash_Sum (dropS 1 (dropS 1 (dropS 1 (dropS 4 code_xxh_Hash_Sum)))) Q g w) Q) g w (fun x_3 w => xxh_Hash_Sum_p1 R x_3 w) (fun g w h => (xxh_Hash_Sum_p1_ok Q g w R hr h)) h)

def xxh_Hash_Sum_p8 (kn : Value → Value → World → Prop) (x_3 b_4 : Value) (w : World) : Prop :=
  Stp pg (sBi .len #[26] 3 [b_4]) w fun t40 w =>
  Stp pg (sBin .geq 3 (.tmp 40) (.const (.int .i64 4)) t40 (.int .i64 4)) w fun t41 w =>
  Cnd t41
    (Stp pg (sSlice 26 b_4 none (some (.int .i64 4)) none) w fun t44 w =>
    Does pg F_xxh_number #[t44] w fun t45 w =>
    Stp pg (sBin .mul 28 (.tmp 45) (.const (.int .u64 11400714785074694791)) t45 (.int .u64 11400714785074694791)) w fun t46 w =>
    Stp pg (sBin .xor 28 (.tmp 42) (.tmp 46) x_3 t46) w fun t47 w =>
    Does pg F_math_bits_RotateLeft64 #[t47, (.int .i64 23)] w fun t48 w =>
    Stp pg (sBin .mul 28 (.tmp 48) (.const (.int .u64 14029467366897019727)) t48 (.int .u64 14029467366897019727)) w fun t49 w =>
    Stp pg (sBin .add 28 (.tmp 49) (.const (.int .u64 1609587929392839161)) t49 (.int .u64 1609587929392839161)) w fun t50 w =>
    Stp pg (sSlice 26 b_4 (some (.int .i64 4)) none none) w fun t52 w =>
    kn t50 t52 w)
    (kn x_3 b_4 w)
theorem xxh_Hash_Sum_p8_ok (Q : Exit → Env → World → Prop) (g : Env) (w : World) (kn : Value → Value → World → Prop) (hn : ∀ g w, kn (g 3) (g 4) w → Q .normal g w) (h : xxh_Hash_Sum_p8 kn (g 3) (g 4) w) : den pg ann_xxh_Hash_Sum (takeS 1 (dropS 1 (dropS 4 code_xxh_Hash_Sum))) Q g w := by
  have e : (xxh_Hash_Sum_p8 kn (g 3) (g 4) w) = den pg ann_xxh_Hash_Sum (takeS 1 (dropS 1 (dropS 4 code_xxh_Hash_Sum))) (exQ (fun g w => kn (g 3) (g 4) w) (fun _ _ => False) []) g w := by kernel_rfl
  exact den_exQ e h hn (fun _ _ h => h.elim) trivial

def xxh_Hash_Sum_p9 (R : Value → World → Prop) (x_3 b_4 : Value) (w : World) : Prop :=
  xxh_Hash_Sum_p8 (fun x_3 b_4 w => xxh_Hash_Sum_p7 R x_3 b_4 w) x_3 b_4 w
theorem xxh_Hash_Sum_p9_ok (Q : Exit → Env → World → Prop) (g : Env) (w : World) (R : Value → World → Prop) (hr : ∀ g w, (resVals pg rs_xxh_Hash_Sum g w fun vs => R (tup vs) w) → Q .ret g w) (h : xxh_Hash_Sum_p9 R (g 3) (g 4) w) : den pg ann_xxh_Hash_Sum (dropS 1 (dropS 4 code_xxh_Hash_Sum)) Q g w := by
  exact den_seqs 1 (dropS 1 (dropS 4 code_xxh_Hash_Sum)) g w (by kernel_rfl) (xxh_Hash_Sum_p8_ok (thenE (fun g w => den pg ann_xxh_Hash_Sum (dropS 1 (dropS 1 (dropS 4 code_xxh_Hash_Sum))) Q g w) Q) g w (fun x_3 b_4 w => xxh_Hash_Sum_p7 R x_3 b_4 w) (fun g w h => (xxh_Hash_Sum_p7_ok Q g w R hr h)) h)

def xxh_Hash_Sum_p10 (kn : Value → Value → World → Prop) (k0 : Value → Value → World → Prop) (x_3 b_4 : Value) (w : World) : Prop :=
  Stp pg (sBi .len #[26] 3 [b_4]) w fun t26 w =>
  Stp pg (sBin .geq 3 (.tmp 26) (.const (.int .i64 8)) t26 (.int .i64 8)) w fun t27 w =>
  Cnd t27
    (Stp pg (sSlice 26 b_4 none (some (.int .i64 8)) none) w fun t30 w =>
    Does pg F_xxh_number #[t30] w fun t31 w =>
    Does pg F_xxh_round #[(.int .u64 0), t31] w fun t32 w =>
    Stp pg (sBin .xor 28 (.tmp 28) (.tmp 32) x_3 t32) w fun t33 w =>
    Does pg F_math_bits_RotateLeft64 #[t33, (.int .i64 27)] w fun t34 w =>
    Stp pg (sBin .mul 28 (.tmp 34) (.const (.int .u64 11400714785074694791)) t34 (.int .u64 11400714785074694791)) w fun t35 w =>
    Stp pg (sBin .add 28 (.tmp 35) (.const (.int .u64 9650029242287828579)) t35 (.int .u64 9650029242287828579)) w fun t36 w =>
    Stp pg (sSlice 26 b_4 (some (.int .i64 8)) none none) w fun t38 w =>
    kn t36 t38 w)
    (k0 x_3 b_4 w)
theorem xxh_Hash_Sum_p10_ok (Q : Exit → Env → World → Prop) (g : Env) (w : World) (kn : Value → Value → World → Prop) (k0 : Value → Value → World → Prop) (hn : ∀ g w, kn (g 3) (g 4) w → Q .normal g w) (h0 : ∀ g w, k0 (g 3) (g 4) w → Q (.exit 0) g w) (h : xxh_Hash_Sum_p10 kn k0 (g 3) (g 4) w) : den pg ann_xxh_Hash_Sum (bI (bI (takeS 1 (dropS 4 code_xxh_Hash_Sum)))) Q g w := by
  have e : (xxh_Hash_Sum_p10 kn k0 (g 3) (g 4) w) = den pg ann_xxh_Hash_Sum (bI (bI (takeS 1 (dropS 4 code_xxh_Hash_Sum)))) (exQ (fun g w => kn (g 3) (g 4) w) (fun _ _ => False) [(0, fun g w => k0 (g 3) (g 4) w)]) g w := by kernel_rfl
  exact den_exQ e h hn (fun _ _ h => h.elim) ⟨h0, trivial⟩

def xxh_Hash_Sum_p11 (k0 : Value → Value → World → Prop) (x_3 b_4 : Value) (w : World) : Prop :=
  LoopD (fun (X : (Value × Value) → World → Prop) (t : Value × Value) (w : World) => xxh_Hash_Sum_p10 (fun x_3 b_4 w => X (x_3, b_4) w) k0 t.1 t.2 w) (x_3, b_4) w
theorem xxh_Hash_Sum_p11_ok (Q : Exit → Env → World → Prop) (g : Env) (w : World) (k0 : Value → Value → World → Prop) (h0 : ∀ g w, k0 (g 3) (g 4) w → Q (.exit 0) g w) (h : xxh_Hash_Sum_p11 k0 (g 3) (g 4) w) : den pg ann_xxh_Hash_Sum (bI (takeS 1 (dropS 4 code_xxh_Hash_Sum))) Q g w := by
  refine den_loops (T := Value × Value) (fun g : Env => (g 3, g 4)) (fun X t w => xxh_Hash_Sum_p10 (fun x_3 b_4 w => X (x_3, b_4) w) k0 t.1 t.2 w) (bI (takeS 1 (dropS 4 code_xxh_Hash_Sum))) (by kernel_rfl) h (fun X g1 w1 ha h1 => ?_)
  exact (xxh_Hash_Sum_p10_ok (thenE (fun g2 w2 => X ((fun g : Env => (g 3, g 4)) g2) w2) Q) g1 w1 (fun x_3 b_4 w => X (x_3, b_4) w) k0 (fun _ _ h => h) h0 h1)

def xxh_Hash_Sum_p12 (kn : Value → Value → World → Prop) (x_3 b_4 : Value) (w : World) : Prop :=
  xxh_Hash_Sum_p11 kn x_3 b_4 w
theorem xxh_Hash_Sum_p12_ok (Q : Exit → Env → World → Prop) (g : Env) (w : World) (kn : Value → Value → World → Prop) (hn : ∀ g w, kn (g 3) (g 4) w → Q .normal g w) (h : xxh_Hash_Sum_p12 kn (g 3) (g 4) w) : den pg ann_xxh_Hash_Sum (takeS 1 (dropS 4 code_xxh_Hash_Sum)) Q g w :=
  den_blk 0 (takeS 1 (dropS 4 code_xxh_Hash_Sum)) g w (by kernel_rfl) (xxh_Hash_Sum_p11_ok (blk 0 Q) g w kn hn h)

def xxh_Hash_Sum_p13 (R : Value → World → Prop) (x_3 b_4 : Value) (w : World) : Prop :=
  xxh_Hash_Sum_p12 (fun x_3 b_4 w => xxh_Hash_Sum_p9 R x_3 b_4 w) x_3 b_4 w
theorem xxh_Hash_Sum_p13_ok (Q : Exit → Env → World → Prop) (g : Env) (w : World) (R : Value → World → Prop) (hr : ∀ g w, (resVals pg rs_xxh_Hash_Sum g w fun vs => R (tup vs) w) → Q .ret g w) (h : xxh_Hash_Sum_p13 R (g 3) (g 4) w) : den pg ann_xxh_Hash_Sum (dropS 4 code_xxh_Hash_Sum) Q g w := by
  exact den_seqs 1 (dropS 4 code_xxh_Hash_Sum) g w (by kernel_rfl) (xxh_Hash_Sum_p12_ok (thenE (fun g w => den pg ann_xxh_Hash_Sum (dropS 1 (dropS 4 code_xxh_Hash_Sum)) Q g w) Q) g w (fun x_3 b_4 w => xxh_Hash_Sum_p9 R x_3 b_4 w) (fun g w h => (xxh_Hash_Sum_p9_ok Q g w R hr h)) h)

def xxh_Hash_Sum_p14 (kn : Value → Value → World → Prop) (R : Value → World → Prop) (h_0 : Value) (w : World) : Prop :=
  Stp pg (sBin .eql 24 (.tmp 7) (.const (.pointer none)) h_0 (.pointer none)) w fun t8 w =>
  Cnd t8
    (Does pg F_xxh_Of #[(.slice none 0 0)] w fun t9 w =>
    R t9 w)
    ((dr w) = (dr w) ∧
    Does pg F_xxh_Hash_joined #[h_0] (dr w) fun t11 w3_1 =>
    w3_1 = w3_1 ∧
    Stp pg (sNil h_0) w3_1 fun t13 w_ => w_ = w3_1 ∧
    (Same pg (sNil h_0) t13 (dr w) ∧ True) ∧
    Stp pg (sFAddr 41 t13 3) w3_1 fun t14 w_ => w_ = w3_1 ∧
    (Same pg (sFAddr 41 t13 3) t14 (dr w) ∧ True) ∧
    Stp pg (sLoad 28 t14) w3_1 fun t15 w_ => w_ = w3_1 ∧
    (Same pg (sLoad 28 t14) t15 (dr w) ∧ True) ∧
    Stp pg (sBin .add 28 (.tmp 11) (.tmp 15) t11 t15) w3_1 fun t16 w_ => w_ = w3_1 ∧
    w3_1 = w3_1 ∧
    (dr w3_1) = (dr w3_1) ∧
    Stp pg (sNil h_0) (dr w3_1) fun t18 w_ => w_ = (dr w3_1) ∧
    Stp pg (sFAddr 41 t18 1) (dr w3_1) fun t19 w_ => w_ = (dr w3_1) ∧
    (dr w3_1) = (dr w3_1) ∧
    Stp pg (sNil h_0) (dr w3_1) fun t21 w_ => w_ = (dr w3_1) ∧
    Stp pg (sFAddr 41 t21 2) (dr w3_1) fun t22 w_ => w_ = (dr w3_1) ∧
    Stp pg (sLoad 3 t22) (dr w3_1) fun t23 w_ => w_ = (dr w3_1) ∧
    Stp pg (sSlice 39 t19 none (some t23) none) (dr w3_1) fun t24 w_ => w_ = (dr w3_1) ∧
    (dr w3_1) = (dr w3_1) ∧
    kn t16 t24 (dr w3_1))
theorem xxh_Hash_Sum_p14_ok (Q : Exit → Env → World → Prop) (g : Env) (w : World) (kn : Value → Value → World → Prop) (R : Value → World → Prop) (hn : ∀ g w, kn (g 3) (g 4) w → Q .normal g w) (hr : ∀ g w, (resVals pg rs_xxh_Hash_Sum g w fun vs => R (tup vs) w) → Q .ret g w) (h : xxh_Hash_Sum_p14 kn R (g 0) w) : den pg ann_xxh_Hash_Sum (takeS 4 code_xxh_Hash_Sum) Q g w := by
  have e : (xxh_Hash_Sum_p14 kn R (g 0) w) = den pg ann_xxh_Hash_Sum (takeS 4 code_xxh_Hash_Sum) (exQ (fun g w => kn (g 3) (g 4) w) (fun g w => resVals pg rs_xxh_Hash_Sum g w fun vs => R (tup vs) w) []) g w := by kernel_rfl
  exact den_exQ e h hn hr trivial

def xxh_Hash_Sum_p15 (R : Value → World → Prop) (h_0 : Value) (w : World) : Prop :=
  xxh_Hash_Sum_p14 (fun x_3 b_4 w => xxh_Hash_Sum_p13 R x_3 b_4 w) R h_0 w
theorem xxh_Hash_Sum_p15_ok (Q : Exit → Env → World → Prop) (g : Env) (w : World) (R : Value → World → Prop) (hr : ∀ g w, (resVals pg rs_xxh_Hash_Sum g w fun vs => R (tup vs) w) → Q .ret g w) (h : xxh_Hash_Sum_p15 R (g 0) w) : den pg ann_xxh_Hash_Sum code_xxh_Hash_Sum Q g w := by
  exact den_seqs 4 code_xxh_Hash_Sum g w (by kernel_rfl) (xxh_Hash_Sum_p14_ok (thenE (fun g w => den pg ann_xxh_Hash_Sum (dropS 4 code_xxh_Hash_Sum) Q g w) Q) g w (fun x_3 b_4 w => xxh_Hash_Sum_p13 R x_3 b_4 w) R (fun g w h => (xxh_Hash_Sum_p13_ok Q g w R hr h)) hr h)

def xxh_Hash_Sum (a0 : Value) (w : World) (R : Value → World → Prop) : Prop :=
  xxh_Hash_Sum_p15 R a0 w
theorem xxh_Hash_Sum_does {a0 : Value} {w : World} {R : Value → World → Prop} (h : xxh_Hash_Sum a0 w R) : Does pg F_xxh_Hash_Sum #[a0] w R := by
  refine does_of_den (ann := ann_xxh_Hash_Sum) (fn := Try.f10) (c := code_xxh_Hash_Sum) (args := [a0]) (rs := rs_xxh_Hash_Sum) (N := 81) TryM.mixed Try.func10 (by kernel_rfl) (by kernel_rfl) (by kernel_rfl) (of_decide_eq_true (by kernel_rfl)) (by kernel_rfl) ?_
  exact (xxh_Hash_Sum_p15_ok (retQ pg rs_xxh_Hash_Sum R) (envOf [a0]) w R (fun _ _ h => h) h)
-- PIECES xxh_Hash_Sum/0 xxh_Hash_Sum_p1 xxh_Hash_Sum_p3 xxh_Hash_Sum_p4 xxh_Hash_Sum_p5 xxh_Hash_Sum_p6 xxh_Hash_Sum_p7 xxh_Hash_Sum_p8 xxh_Hash_Sum_p9 xxh_Hash_Sum_p11 xxh_Hash_Sum_p12 xxh_Hash_Sum_p13 xxh_Hash_Sum_p14 xxh_Hash_Sum_p15
-- PIECES xxh_Hash_Sum/1 xxh_Hash_Sum_p2
-- PIECES xxh_Hash_Sum/2 xxh_Hash_Sum_p10

/- lighterman/lightermanref03.Of -/
def ann_ref03_Of : Nat → Ann × Plan := fun i => match Nat.beq i 10 with | true => (([9, 10, 12], [(2, 9), (3, 9)]), [(false, []), (false, []), (false, []), (false, []), (false, []), (false, []), (false, []), (false, []), (false, []), (true, [5, 6]), (true, []), (false, []), (true, [])]) | false => match Nat.beq i 12 with | true => (([2, 5, 9, 13], [(2, 3), (2, 4), (2, 7), (2, 8), (2, 11), (2, 12), (5, 7), (5, 8), (5, 11), (5, 12), (6, 9), (6, 13), (9, 11), (9, 12), (10, 13)]), [(false, []), (false, []), (true, []), (false, [0]), (false, [1]), (true, []), (false, []), (false, [1, 4]), (false, [2, 5]), (true, [2]), (false, []), (false, [1, 5, 8]), (false, [2, 6, 9]), (true, [2, 6]), (false, []), (false, [])]) | false => (([], []), [])
def rs_ref03_Of : List ResultVar := [.tmp 2]
noncomputable def code_ref03_Of : Code := bodyOf Try.f11
def ref03_Of_p1 (R : Value → World → Prop) (h_3 : Value) (w : World) : Prop :=
  Stp pg (sBin .shr 28 (.tmp 124) (.const (.int .u64 33)) h_3 (.int .u64 33)) w fun t125 w =>
  Stp pg (sBin .xor 28 (.tmp 123) (.tmp 125) h_3 t125) w fun t126 w =>
  Stp pg (sBin .mul 28 (.tmp 126) (.const (.int .u64 14029467366897019727)) t126 (.int .u64 14029467366897019727)) w fun t127 w =>
  Stp pg (sBin .shr 28 (.tmp 129) (.const (.int .u64 29)) t127 (.int .u64 29)) w fun t130 w =>
  Stp pg (sBin .xor 28 (.tmp 128) (.tmp 130) t127 t130) w fun t131 w =>
  Stp pg (sBin .mul 28 (.tmp 131) (.const (.int .u64 1609587929392839161)) t131 (.int .u64 1609587929392839161)) w fun t132 w =>
  Stp pg (sBin .shr 28 (.tmp 134) (.const (.int .u64 32)) t132 (.int .u64 32)) w fun t135 w =>
  Stp pg (sBin .xor 28 (.tmp 133) (.tmp 135) t132 t135) w fun t136 w =>
  R t136 w
theorem ref03_Of_p1_ok (Q : Exit → Env → World → Prop) (g : Env) (w : World) (R : Value → World → Prop) (hr : ∀ g w, (resVals pg rs_ref03_Of g w fun vs => R (tup vs) w) → Q .ret g w) (h : ref03_Of_p1 R (g 3) w) : den pg ann_ref03_Of (dropS 1 (dropS 1 (dropS 1 (dropS 1 (dropS 1 (dropS 3 code_ref03_Of)))))) Q g w := by
  have e : (ref03_Of_p1 R (g 3) w) = den pg ann_ref03_Of (dropS 1 (dropS 1 (dropS 1 (dropS 1 (dropS 1 (dropS 3 code_ref03_Of)))))) (exQ (fun _ _ => False) (fun g w => resVals pg rs_ref03_Of g w fun vs => R (tup vs) w) []) g w := by kernel_rfl
  exact den_exQ e h (fun _ _ h => h.elim) hr trivial

def ref03_Of_p2 (kn : Value → Value → Value → World → Prop) (k8 : Value → World → Prop) (s_0 h_3 i_4 : Value) (w : World) : Prop :=
  Stp pg (sBi .len #[9] 3 [s_0]) w fun t109 w =>
  Stp pg (sBin .lss 3 (.tmp 107) (.tmp 109) i_4 t109) w fun t110 w =>
  Cnd t110
    (Stp pg (sIdx 9 s_0 i_4) w fun t113 w =>
    Stp pg (sCvt 5 28 t113) w fun t114 w =>
    Stp pg (sBin .mul 28 (.tmp 114) (.const (.int .u64 2870177450012600261)) t114 (.int .u64 2870177450012600261)) w fun t115 w =>
    Stp pg (sBin .xor 28 (.tmp 116) (.tmp 117) h_3 t115) w fun t118 w =>
    Does pg F_ref03_turn #[t118, (.int .u64 11)] w fun t119 w =>
    Stp pg (sBin .mul 28 (.tmp 119) (.const (.int .u64 11400714785074694791)) t119 (.int .u64 11400714785074694791)) w fun t120 w =>
    Stp pg (sBin .add 3 (.tmp 121) (.const (.int .i64 1)) i_4 (.int .i64 1)) w fun t122 w =>
    kn s_0 t120 t122 w)
    (k8 h_3 w)
theorem ref03_Of_p2_ok (Q : Exit → Env → World → Prop) (g : Env) (w : World) (kn : Value → Value → Value → World → Prop) (k8 : Value → World → Prop) (hn : ∀ g w, kn (g 0) (g 3) (g 4) w → Q .normal g w) (h8 : ∀ g w, k8 (g 3) w → Q (.exit 8) g w) (h : ref03_Of_p2 kn k8 (g 0) (g 3) (g 4) w) : den pg ann_ref03_Of (bI (bI (takeS 1 (dropS 1 (dropS 1 (dropS 1 (dropS 1 (dropS 3 code_ref03_Of)))))))) Q g w := by
  have e : (ref03_Of_p2 kn k8 (g 0) (g 3) (g 4) w) = den pg ann_ref03_Of (bI (bI (takeS 1 (dropS 1 (dropS 1 (dropS 1 (dropS 1 (dropS 3 code_ref03_Of)))))))) (exQ (fun g w => kn (g 0) (g 3) (g 4) w) (fun _ _ => False) [(8, fun g w => k8 (g 3) w)]) g w := by kernel_rfl
  exact den_exQ e h hn (fun _ _ h => h.elim) ⟨h8, trivial⟩

def ref03_Of_p3 (k8 : Value → World → Prop) (s_0 h_3 i_4 : Value) (w : World) : Prop :=
  LoopD (fun (X : (Value × Value) → World → Prop) (t : Value × Value) (w : World) => ref03_Of_p2 (fun _ h_3 i_4 w => X (h_3, i_4) w) k8 s_0 t.1 t.2 w) (h_3, i_4) w
theorem ref03_Of_p3_ok (Q : Exit → Env → World → Prop) (g : Env) (w : World) (k8 : Value → World → Prop) (h8 : ∀ g w, k8 (g 3) w → Q (.exit 8) g w) (h : ref03_Of_p3 k8 (g 0) (g 3) (g 4) w) : den pg ann_ref03_Of (bI (takeS 1 (dropS 1 (dropS 1 (dropS 1 (dropS 1 (dropS 3 code_ref03_Of))))))) Q g w := by
  refine den_loops (T := Value × Value) (fun g : Env => (g 3, g 4)) (fun X t w => ref03_Of_p2 (fun _ h_3 i_4 w => X (h_3, i_4) w) k8 (g 0) t.1 t.2 w) (bI (takeS 1 (dropS 1 (dropS 1 (dropS 1 (dropS 1 (dropS 3 code_ref03_Of))))))) (by kernel_rfl) h (fun X g1 w1 ha h1 => ?_)
  rw [← agree_at (s := 0) ha (by kernel_rfl)] at h1
  exact (ref03_Of_p2_ok (thenE (fun g2 w2 => X ((fun g : Env => (g 3, g 4)) g2) w2) Q) g1 w1 (fun _ h_3 i_4 w => X (h_3, i_4) w) k8 (fun _ _ h => h) h8 h1)

def ref03_Of_p4 (kn : Value → World → Prop) (s_0 h_3 i_4 : Value) (w : World) : Prop :=
  ref03_Of_p3 kn s_0 h_3 i_4 w
theorem ref03_Of_p4_ok (Q : Exit → Env → World → Prop) (g : Env) (w : World) (kn : Value → World → Prop) (hn : ∀ g w, kn (g 3) w → Q .normal g w) (h : ref03_Of_p4 kn (g 0) (g 3) (g 4) w) : den pg ann_ref03_Of (takeS 1 (dropS 1 (dropS 1 (dropS 1 (dropS 1 (dropS 3 code_ref03_Of)))))) Q g w :=
  den_blk 8 (takeS 1 (dropS 1 (dropS 1 (dropS 1 (dropS 1 (dropS 3 code_ref03_Of)))))) g w (by kernel_rfl) (ref03_Of_p3_ok (blk 8 Q) g w kn hn h)

def ref03_Of_p5 (R : Value → World → Prop) (s_0 h_3 i_4 : Value) (w : World) : Prop :=
  ref03_Of_p4 (fun h_3 w => ref03_Of_p1 R h_3 w) s_0 h_3 i_4 w
theorem ref03_Of_p5_ok (Q : Exit → Env → World → Prop) (g : Env) (w : World) (R : Value → World → Prop) (hr : ∀ g w, (resVals pg rs_ref03_Of g w fun vs => R (tup vs) w) → Q .ret g w) (h : ref03_Of_p5 R (g 0) (g 3) (g 4) w) : den pg ann_ref03_Of (dropS 1 (dropS 1 (dropS 1 (dropS 1 (dropS 3 code_ref03_Of))))) Q g w := by
  exact den_seqs 1 (dropS 1 (dropS 1 (dropS 1 (dropS 1 (dropS 3 code_ref03_Of))))) g w (by kernel_rfl) (ref03_Of_p4_ok (thenE (fun g w => den pg ann_ref03_Of (dropS 1 (dropS 1 (dropS 1 (dropS 1 (dropS 1 (dropS 3 code_ref03_Of)))))) Q g w) Q) g w (fun h_3 w => ref03_Of_p1 R h_3 w) (fun g w h => (ref03_Of_p1_ok Q g w R hr h)) h)

def ref03_Of_p6 (kn : Value → Value → Value → World → Prop) (s_0 h_3 i_4 : Value) (w : World) : Prop :=
  Stp pg (sBin .add 3 (.tmp 90) (.const (.int .i64 4)) i_4 (.int .i64 4)) w fun t91 w =>
  Stp pg (sBi .len #[9] 3 [s_0]) w fun t93 w =>
  Stp pg (sBin .leq 3 (.tmp 91) (.tmp 93) t91 t93) w fun t94 w =>
  Cnd t94
    (Does pg F_ref03_at #[s_0, i_4, (.int .i64 4)] w fun t97 w =>
    Stp pg (sBin .mul 28 (.tmp 97) (.const (.int .u64 11400714785074694791)) t97 (.int .u64 11400714785074694791)) w fun t98 w =>
    Stp pg (sBin .xor 28 (.tmp 99) (.tmp 100) h_3 t98) w fun t101 w =>
    Does pg F_ref03_turn #[t101, (.int .u64 23)] w fun t102 w =>
    Stp pg (sBin .mul 28 (.tmp 102) (.const (.int .u64 14029467366897019727)) t102 (.int .u64 14029467366897019727)) w fun t103 w =>
    Stp pg (sBin .add 28 (.tmp 103) (.const (.int .u64 1609587929392839161)) t103 (.int .u64 1609587929392839161)) w fun t104 w =>
    Stp pg (sBin .add 3 (.tmp 105) (.const (.int .i64 4)) i_4 (.int .i64 4)) w fun t106 w =>
    kn s_0 t104 t106 w)
    (kn s_0 h_3 i_4 w)
theorem ref03_Of_p6_ok (Q : Exit → Env → World → Prop) (g : Env) (w : World) (kn : Value → Value → Value → World → Prop) (hn : ∀ g w, kn (g 0) (g 3) (g 4) w → Q .normal g w) (h : ref03_Of_p6 kn (g 0) (g 3) (g 4) w) : den pg ann_ref03_Of (takeS 1 (dropS 1 (dropS 1 (dropS 1 (dropS 3 code_ref03_Of))))) Q g w := by
  have e : (ref03_Of_p6 kn (g 0) (g 3) (g 4) w) = den pg ann_ref03_Of (takeS 1 (dropS 1 (dropS 1 (dropS 1 (dropS 3 code_ref03_Of))))) (exQ (fun g w => kn (g 0) (g 3) (g 4) w) (fun _ _ => False) []) g w := by kernel_rfl
  exact den_exQ e h hn (fun _ _ h => h.elim) trivial

def ref03_Of_p7 (R : Value → World → Prop) (s_0 h_3 i_4 : Value) (w : World) : Prop :=
  ref03_Of_p6 (fun s_0 h_3 i_4 w => ref03_Of_p5 R s_0 h_3 i_4 w) s_0 h_3 i_4 w
theorem ref03_Of_p7_ok (Q : Exit → Env → World → Prop) (g : Env) (w : World) (R : Value → World → Prop) (hr : ∀ g w, (resVals pg rs_ref03_Of g w fun vs => R (tup vs) w) → Q .ret g w) (h : ref03_Of_p7 R (g 0) (g 3) (g 4) w) : den pg ann_ref03_Of (dropS 1 (dropS 1 (dropS 1 (dropS 3 code_ref03_Of)))) Q g w := by
  exact den_seqs 1 (dropS 1 (dropS 1 (dropS 1 (dropS 3 code_ref03_Of)))) g w (by kernel_rfl) (ref03_Of_p6_ok (thenE (fun g w => den pg ann_ref03_Of (dropS 1 (dropS 1 (dropS 1 (dropS 1 (dropS 3 code_ref03_Of))))) Q g w) Q) g w (fun s_0 h_3 i_4 w => ref03_Of_p5 R s_0 h_3 i_4 w) (fun g w h => (ref03_Of_p5_ok Q g w R hr h)) h)

def ref03_Of_p8 (kn : Value → Value → Value → World → Prop) (k6 : Value → Value → Value → World → Prop) (s_0 h_3 i_4 : Value) (w : World) : Prop :=
  Stp pg (sBin .add 3 (.tmp 74) (.const (.int .i64 8)) i_4 (.int .i64 8)) w fun t75 w =>
  Stp pg (sBi .len #[9] 3 [s_0]) w fun t77 w =>
  Stp pg (sBin .leq 3 (.tmp 75) (.tmp 77) t75 t77) w fun t78 w =>
  Cnd t78
    (Does pg F_ref03_at #[s_0, i_4, (.int .i64 8)] w fun t82 w =>
    Does pg F_ref03_round #[(.int .u64 0), t82] w fun t83 w =>
    Stp pg (sBin .xor 28 (.tmp 79) (.tmp 83) h_3 t83) w fun t84 w =>
    Does pg F_ref03_turn #[t84, (.int .u64 27)] w fun t85 w =>
    Stp pg (sBin .mul 28 (.tmp 85) (.const (.int .u64 11400714785074694791)) t85 (.int .u64 11400714785074694791)) w fun t86 w =>
    Stp pg (sBin .add 28 (.tmp 86) (.const (.int .u64 9650029242287828579)) t86 (.int .u64 9650029242287828579)) w fun t87 w =>
    Stp pg (sBin .add 3 (.tmp 88) (.const (.int .i64 8)) i_4 (.int .i64 8)) w fun t89 w =>
    kn s_0 t87 t89 w)
    (k6 s_0 h_3 i_4 w)
theorem ref03_Of_p8_ok (Q : Exit → Env → World → Prop) (g : Env) (w : World) (kn : Value → Value → Value → World → Prop) (k6 : Value → Value → Value → World → Prop) (hn : ∀ g w, kn (g 0) (g 3) (g 4) w → Q .normal g w) (h6 : ∀ g w, k6 (g 0) (g 3) (g 4) w → Q (.exit 6) g w) (h : ref03_Of_p8 kn k6 (g 0) (g 3) (g 4) w) : den pg ann_ref03_Of (bI (bI (takeS 1 (dropS 1 (dropS 1 (dropS 3 code_ref03_Of)))))) Q g w := by
  have e : (ref03_Of_p8 kn k6 (g 0) (g 3) (g 4) w) = den pg ann_ref03_Of (bI (bI (takeS 1 (dropS 1 (dropS 1 (dropS 3 code_ref03_Of)))))) (exQ (fun g w => kn (g 0) (g 3) (g 4) w) (fun _ _ => False) [(6, fun g w => k6 (g 0) (g 3) (g 4) w)]) g w := by kernel_rfl
  exact den_exQ e h hn (fun _ _ h => h.elim) ⟨h6, trivial⟩

def ref03_Of_p9 (k6 : Value → Value → Value → World → Prop) (s_0 h_3 i_4 : Value) (w : World) : Prop :=
  LoopD (fun (X : (Value × Value) → World → Prop) (t : Value × Value) (w : World) => ref03_Of_p8 (fun _ h_3 i_4 w => X (h_3, i_4) w) k6 s_0 t.1 t.2 w) (h_3, i_4) w
theorem ref03_Of_p9_ok (Q : Exit → Env → World → Prop) (g : Env) (w : World) (k6 : Value → Value → Value → World → Prop) (h6 : ∀ g w, k6 (g 0) (g 3) (g 4) w → Q (.exit 6) g w) (h : ref03_Of_p9 k6 (g 0) (g 3) (g 4) w) : den pg ann_ref03_Of (bI (takeS 1 (dropS 1 (dropS 1 (dropS 3 code_ref03_Of))))) Q g w := by
  refine den_loops (T := Value × Value) (fun g : Env => (g 3, g 4)) (fun X t w => ref03_Of_p8 (fun _ h_3 i_4 w => X (h_3, i_4) w) k6 (g 0) t.1 t.2 w) (bI (takeS 1 (dropS 1 (dropS 1 (dropS 3 code_ref03_Of))))) (by kernel_rfl) h (fun X g1 w1 ha h1 => ?_)
  rw [← agree_at (s := 0) ha (by kernel_rfl)] at h1
  exact (ref03_Of_p8_ok (thenE (fun g2 w2 => X ((fun g : Env => (g 3, g 4)) g2) w2) Q) g1 w1 (fun _ h_3 i_4 w => X (h_3, i_4) w) k6 (fun _ _ h => h) h6 h1)

def ref03_Of_p10 (kn : Value → Value → Value → World → Prop) (s_0 h_3 i_4 : Value) (w : World) : Prop :=
  ref03_Of_p9 kn s_0 h_3 i_4 w
theorem ref03_Of_p10_ok (Q : Exit → Env → World → Prop) (g : Env) (w : World) (kn : Value → Value → Value → World → Prop) (hn : ∀ g w, kn (g 0) (g 3) (g 4) w → Q .normal g w) (h : ref03_Of_p10 kn (g 0) (g 3) (g 4) w) : den pg ann_ref03_Of (takeS 1 (dropS 1 (dropS 1 (dropS 3 code_ref03_Of)))) Q g w :=
  den_blk 6 (takeS 1 (dropS 1 (dropS 1 (dropS 3 code_ref03_Of)))) g w (by kernel_rfl) (ref03_Of_p9_ok (blk 6 Q) g w kn hn h)

def ref03_Of_p11 (R : Value → World → Prop) (s_0 h_3 i_4 : Value) (w : World) : Prop :=
  ref03_Of_p10 (fun s_0 h_3 i_4 w => ref03_Of_p7 R s_0 h_3 i_4 w) s_0 h_3 i_4 w
theorem ref03_Of_p11_ok (Q : Exit → Env → World → Prop) (g : Env) (w : World) (R : Value → World → Prop) (hr : ∀ g w, (resVals pg rs_ref03_Of g w fun vs => R (tup vs) w) → Q .ret g w) (h : ref03_Of_p11 R (g 0) (g 3) (g 4) w) : den pg ann_ref03_Of (dropS 1 (dropS 1 (dropS 3 code_ref03_Of))) Q g w := by
  exact den_seqs 1 (dropS 1 (dropS 1 (dropS 3 code_ref03_Of))) g w (by kernel_rfl) (ref03_Of_p10_ok (thenE (fun g w => den pg ann_ref03_Of (dropS 1 (dropS 1 (dropS 1 (dropS 3 code_ref03_Of)))) Q g w) Q) g w (fun s_0 h_3 i_4 w => ref03_Of_p7 R s_0 h_3 i_4 w) (fun g w h => (ref03_Of_p7_ok Q g w R hr h)) h)

def ref03_Of_p12 (kn : Value → Value → Value → World → Prop) (s_0 h_3 i_4 : Value) (w : World) : Prop :=
  Stp pg (sBi .len #[9] 3 [s_0]) w fun t71 w =>
  Stp pg (sCvt 3 28 t71) w fun t72 w =>
  Stp pg (sBin .add 28 (.tmp 69) (.tmp 72) h_3 t72) w fun t73 w =>
  kn s_0 t73 i_4 w
theorem ref03_Of_p12_ok (Q : Exit → Env → World → Prop) (g : Env) (w : World) (kn : Value → Value → Value → World → Prop) (hn : ∀ g w, kn (g 0) (g 3) (g 4) w → Q .normal g w) (h : ref03_Of_p12 kn (g 0) (g 3) (g 4) w) : den pg ann_ref03_Of (takeS 1 (dropS 1 (dropS 3 code_ref03_Of))) Q g w := by
  have e : (ref03_Of_p12 kn (g 0) (g 3) (g 4) w) = den pg ann_ref03_Of (takeS 1 (dropS 1 (dropS 3 code_ref03_Of))) (exQ (fun g w => kn (g 0) (g 3) (g 4) w) (fun _ _ => False) []) g w := by kernel_rfl
  exact den_exQ e h hn (fun _ _ h => h.elim) trivial

def ref03_Of_p13 (R : Value → World → Prop) (s_0 h_3 i_4 : Value) (w : World) : Prop :=
  ref03_Of_p12 (fun s_0 h_3 i_4 w => ref03_Of_p11 R s_0 h_3 i_4 w) s_0 h_3 i_4 w
theorem ref03_Of_p13_ok (Q : Exit → Env → World → Prop) (g : Env) (w : World) (R : Value → World → Prop) (hr : ∀ g w, (resVals pg rs_ref03_Of g w fun vs => R (tup vs) w) → Q .ret g w) (h : ref03_Of_p13 R (g 0) (g 3) (g 4) w) : den pg ann_ref03_Of (dropS 1 (dropS 3 code_ref03_Of)) Q g w := by
  exact den_seqs 1 (dropS 1 (dropS 3 code_ref03_Of)) g w (by kernel_rfl) (ref03_Of_p12_ok (thenE (fun g w => den pg ann_ref03_Of (dropS 1 (dropS 1 (dropS 3 code_ref03_Of))) Q g w) Q) g w (fun s_0 h_3 i_4 w => ref03_Of_p11 R s_0 h_3 i_4 w) (fun g w h => (ref03_Of_p11_ok Q g w R hr h)) h)

def ref03_Of_p14 (kn : Value → Value → Value → Value → Value → World → Prop) (k4 : Value → Value → Value → World → Prop) (s_0 h_3 i_4 v_6 k_8 : Value) (w : World) : Prop :=
  Stp pg (sBin .lss 3 (.tmp 57) (.const (.int .i64 4)) k_8 (.int .i64 4)) w fun t58 w =>
  Cnd t58
    (Stp pg (sIAddr 38 v_6 k_8) w fun t63 w =>
    Stp pg (sLoad 28 t63) w fun t64 w =>
    Does pg F_ref03_round #[(.int .u64 0), t64] w fun t65 w =>
    Stp pg (sBin .xor 28 (.tmp 61) (.tmp 65) h_3 t65) w fun t66 w =>
    Stp pg (sBin .mul 28 (.tmp 66) (.const (.int .u64 11400714785074694791)) t66 (.int .u64 11400714785074694791)) w fun t67 w =>
    Stp pg (sBin .add 28 (.tmp 67) (.const (.int .u64 9650029242287828579)) t67 (.int .u64 9650029242287828579)) w fun t68 w =>
    Stp pg (sBin .add 3 (.tmp 59) (.const (.int .i64 1)) k_8 (.int .i64 1)) w fun t60 w =>
    kn s_0 t68 i_4 v_6 t60 w)
    (k4 s_0 h_3 i_4 w)
theorem ref03_Of_p14_ok (Q : Exit → Env → World → Prop) (g : Env) (w : World) (kn : Value → Value → Value → Value → Value → World → Prop) (k4 : Value → Value → Value → World → Prop) (hn : ∀ g w, kn (g 0) (g 3) (g 4) (g 6) (g 8) w → Q .normal g w) (h4 : ∀ g w, k4 (g 0) (g 3) (g 4) w → Q (.exit 4) g w) (h : ref03_Of_p14 kn k4 (g 0) (g 3) (g 4) (g 6) (g 8) w) : den pg ann_ref03_Of (bI (bI (dropS 2 (dropS 1 (dropS 2 (cT (dropS 1 (takeS 1 (dropS 3 code_ref03_Of))))))))) Q g w := by
  have e : (ref03_Of_p14 kn k4 (g 0) (g 3) (g 4) (g 6) (g 8) w) = den pg ann_ref03_Of (bI (bI (dropS 2 (dropS 1 (dropS 2 (cT (dropS 1 (takeS 1 (dropS 3 code_ref03_Of))))))))) (exQ (fun g w => kn (g 0) (g 3) (g 4) (g 6) (g 8) w) (fun _ _ => False) [(4, fun g w => k4 (g 0) (g 3) (g 4) w)]) g w := by kernel_rfl
  exact den_exQ e h hn (fun _ _ h => h.elim) ⟨h4, trivial⟩

def ref03_Of_p15 (k4 : Value → Value → Value → World → Prop) (s_0 h_3 i_4 v_6 k_8 : Value) (w : World) : Prop :=
  LoopD (fun (X : (Value × Value) → World → Prop) (t : Value × Value) (w : World) => ref03_Of_p14 (fun _ h_3 _ _ k_8 w => X (h_3, k_8) w) k4 s_0 t.1 i_4 v_6 t.2 w) (h_3, k_8) w
theorem ref03_Of_p15_ok (Q : Exit → Env → World → Prop) (g : Env) (w : World) (k4 : Value → Value → Value → World → Prop) (h4 : ∀ g w, k4 (g 0) (g 3) (g 4) w → Q (.exit 4) g w) (h : ref03_Of_p15 k4 (g 0) (g 3) (g 4) (g 6) (g 8) w) : den pg ann_ref03_Of (bI (dropS 2 (dropS 1 (dropS 2 (cT (dropS 1 (takeS 1 (dropS 3 code_ref03_Of)))))))) Q g w := by
  refine den_loops (T := Value × Value) (fun g : Env => (g 3, g 8)) (fun X t w => ref03_Of_p14 (fun _ h_3 _ _ k_8 w => X (h_3, k_8) w) k4 (g 0) t.1 (g 4) (g 6) t.2 w) (bI (dropS 2 (dropS 1 (dropS 2 (cT (dropS 1 (takeS 1 (dropS 3 code_ref03_Of)))))))) (by kernel_rfl) h (fun X g1 w1 ha h1 => ?_)
  rw [← agree_at (s := 0) ha (by kernel_rfl)] at h1
  rw [← agree_at (s := 4) ha (by kernel_rfl)] at h1
  rw [← agree_at (s := 6) ha (by kernel_rfl)] at h1
  exact (ref03_Of_p14_ok (thenE (fun g2 w2 => X ((fun g : Env => (g 3, g 8)) g2) w2) Q) g1 w1 (fun _ h_3 _ _ k_8 w => X (h_3, k_8) w) k4 (fun _ _ h => h) h4 h1)

def ref03_Of_p16 (kn : Value → Value → Value → World → Prop) (s_0 h_3 i_4 v_6 k_8 : Value) (w : World) : Prop :=
  ref03_Of_p15 kn s_0 h_3 i_4 v_6 k_8 w
theorem ref03_Of_p16_ok (Q : Exit → Env → World → Prop) (g : Env) (w : World) (kn : Value → Value → Value → World → Prop) (hn : ∀ g w, kn (g 0) (g 3) (g 4) w → Q .normal g w) (h : ref03_Of_p16 kn (g 0) (g 3) (g 4) (g 6) (g 8) w) : den pg ann_ref03_Of (dropS 2 (dropS 1 (dropS 2 (cT (dropS 1 (takeS 1 (dropS 3 code_ref03_Of))))))) Q g w :=
  den_blk 4 (dropS 2 (dropS 1 (dropS 2 (cT (dropS 1 (takeS 1 (dropS 3 code_ref03_Of))))))) g w (by kernel_rfl) (ref03_Of_p15_ok (blk 4 Q) g w kn hn h)

def ref03_Of_p17 (kn : Value → Value → Value → Value → Value → World → Prop) (s_0 i_4 v_6 : Value) (w : World) : Prop :=
  Stp pg (sIAddr 38 v_6 (.int .i64 0)) (dr w) fun t42 w_ => w_ = (dr w) ∧
  Stp pg (sLoad 28 t42) (dr w) fun t43 w_ => w_ = (dr w) ∧
  Does pg F_ref03_turn #[t43, (.int .u64 1)] (dr w) fun t44 w12_2 =>
  Stp pg (sIAddr 38 v_6 (.int .i64 1)) w12_2 fun t45 w_ => w_ = w12_2 ∧
  (Same pg (sIAddr 38 v_6 (.int .i64 1)) t45 (dr w) ∧ True) ∧
  Stp pg (sLoad 28 t45) w12_2 fun t46 w_ => w_ = w12_2 ∧
  (Same pg (sLoad 28 t45) t46 (dr w) ∧ True) ∧
  Does pg F_ref03_turn #[t46, (.int .u64 7)] w12_2 fun t47 w12_5 =>
  Stp pg (sBin .add 28 (.tmp 44) (.tmp 47) t44 t47) w12_5 fun t48 w_ => w_ = w12_5 ∧
  Stp pg (sIAddr 38 v_6 (.int .i64 2)) w12_5 fun t49 w_ => w_ = w12_5 ∧
  (Same pg (sIAddr 38 v_6 (.int .i64 2)) t49 w12_2 ∧ Same pg (sIAddr 38 v_6 (.int .i64 2)) t49 (dr w) ∧ True) ∧
  Stp pg (sLoad 28 t49) w12_5 fun t50 w_ => w_ = w12_5 ∧
  (Same pg (sLoad 28 t49) t50 w12_2 ∧ Same pg (sLoad 28 t49) t50 (dr w) ∧ True) ∧
  Does pg F_ref03_turn #[t50, (.int .u64 12)] w12_5 fun t51 w12_9 =>
  (Same pg (sBin .add 28 (.tmp 44) (.tmp 47) t44 t47) t48 w12_9 ∧ True) ∧
  Stp pg (sBin .add 28 (.tmp 48) (.tmp 51) t48 t51) w12_9 fun t52 w_ => w_ = w12_9 ∧
  Stp pg (sIAddr 38 v_6 (.int .i64 3)) w12_9 fun t53 w_ => w_ = w12_9 ∧
  (Same pg (sIAddr 38 v_6 (.int .i64 3)) t53 w12_5 ∧ Same pg (sIAddr 38 v_6 (.int .i64 3)) t53 w12_2 ∧ Same pg (sIAddr 38 v_6 (.int .i64 3)) t53 (dr w) ∧ True) ∧
  Stp pg (sLoad 28 t53) w12_9 fun t54 w_ => w_ = w12_9 ∧
  (Same pg (sLoad 28 t53) t54 w12_5 ∧ Same pg (sLoad 28 t53) t54 w12_2 ∧ Same pg (sLoad 28 t53) t54 (dr w) ∧ True) ∧
  Does pg F_ref03_turn #[t54, (.int .u64 18)] w12_9 fun t55 w12_13 =>
  (Same pg (sBin .add 28 (.tmp 48) (.tmp 51) t48 t51) t52 w12_13 ∧ Same pg (sBin .add 28 (.tmp 44) (.tmp 47) t44 t47) t48 w12_13 ∧ True) ∧
  Stp pg (sBin .add 28 (.tmp 52) (.tmp 55) t52 t55) w12_13 fun t56 w_ => w_ = w12_13 ∧
  w12_13 = w12_13 ∧
  kn s_0 t56 i_4 v_6 (.int .i64 0) w12_13
theorem ref03_Of_p17_ok (Q : Exit → Env → World → Prop) (g : Env) (w : World) (kn : Value → Value → Value → Value → Value → World → Prop) (hn : ∀ g w, kn (g 0) (g 3) (g 4) (g 6) (g 8) w → Q .normal g w) (h : ref03_Of_p17 kn (g 0) (g 4) (g 6) w) : den pg ann_ref03_Of (takeS 2 (dropS 1 (dropS 2 (cT (dropS 1 (takeS 1 (dropS 3 code_ref03_Of))))))) Q g w := by
  have e : (ref03_Of_p17 kn (g 0) (g 4) (g 6) w) = den pg ann_ref03_Of (takeS 2 (dropS 1 (dropS 2 (cT (dropS 1 (takeS 1 (dropS 3 code_ref03_Of))))))) (exQ (fun g w => kn (g 0) (g 3) (g 4) (g 6) (g 8) w) (fun _ _ => False) []) g w := by kernel_rfl
  exact den_exQ e h hn (fun _ _ h => h.elim) trivial

def ref03_Of_p18 (kn : Value → Value → Value → World → Prop) (s_0 i_4 v_6 : Value) (w : World) : Prop :=
  ref03_Of_p17 (fun s_0 h_3 i_4 v_6 k_8 w => ref03_Of_p16 kn s_0 h_3 i_4 v_6 k_8 w) s_0 i_4 v_6 w
theorem ref03_Of_p18_ok (Q : Exit → Env → World → Prop) (g : Env) (w : World) (kn : Value → Value → Value → World → Prop) (hn : ∀ g w, kn (g 0) (g 3) (g 4) w → Q .normal g w) (h : ref03_Of_p18 kn (g 0) (g 4) (g 6) w) : den pg ann_ref03_Of (dropS 1 (dropS 2 (cT (dropS 1 (takeS 1 (dropS 3 code_ref03_Of)))))) Q g w := by
  exact den_seqs 2 (dropS 1 (dropS 2 (cT (dropS 1 (takeS 1 (dropS 3 code_ref03_Of)))))) g w (by kernel_rfl) (ref03_Of_p17_ok (thenE (fun g w => den pg ann_ref03_Of (dropS 2 (dropS 1 (dropS 2 (cT (dropS 1 (takeS 1 (dropS 3 code_ref03_Of))))))) Q g w) Q) g w (fun s_0 h_3 i_4 v_6 k_8 w => ref03_Of_p16 kn s_0 h_3 i_4 v_6 k_8 w) (fun g w h => (ref03_Of_p16_ok Q g w kn hn h)) h)

def ref03_Of_p19 (kn : Value → Value → Value → World → Prop) (s_0 i_4 v_6 : Value) (w : World) : Prop :=
  Stp pg (sBin .add 3 (.tmp 40) (.const (.int .i64 32)) i_4 (.int .i64 32)) w fun t41 w =>
  kn s_0 t41 v_6 w
theorem ref03_Of_p19_ok (Q : Exit → Env → World → Prop) (g : Env) (w : World) (kn : Value → Value → Value → World → Prop) (hn : ∀ g w, kn (g 0) (g 4) (g 6) w → Q .normal g w) (h : ref03_Of_p19 kn (g 0) (g 4) (g 6) w) : den pg ann_ref03_Of (dropS 1 (bI (dropS 1 (bI (bI (takeS 1 (dropS 2 (cT (dropS 1 (takeS 1 (dropS 3 code_ref03_Of))))))))))) Q g w := by
  have e : (ref03_Of_p19 kn (g 0) (g 4) (g 6) w) = den pg ann_ref03_Of (dropS 1 (bI (dropS 1 (bI (bI (takeS 1 (dropS 2 (cT (dropS 1 (takeS 1 (dropS 3 code_ref03_Of))))))))))) (exQ (fun g w => kn (g 0) (g 4) (g 6) w) (fun _ _ => False) []) g w := by kernel_rfl
  exact den_exQ e h hn (fun _ _ h => h.elim) trivial

def ref03_Of_p20 (kn : Value → Value → Value → Value → World → Prop) (k2 : Value → Value → Value → World → Prop) (s_0 i_4 v_6 k_7 : Value) (w : World) : Prop :=
  Stp pg (sBin .lss 3 (.tmp 24) (.const (.int .i64 4)) k_7 (.int .i64 4)) w fun t25 w =>
  Cnd t25
    ((dr w) = (dr w) ∧
    (dr w) = (dr w) ∧
    Stp pg (sIAddr 38 v_6 k_7) (dr w) fun t30 w_ => w_ = (dr w) ∧
    Stp pg (sLoad 28 t30) (dr w) fun t31 w_ => w_ = (dr w) ∧
    (dr w) = (dr w) ∧
    (dr w) = (dr w) ∧
    (dr w) = (dr w) ∧
    Stp pg (sBin .mul 3 (.const (.int .i64 8)) (.tmp 34) (.int .i64 8) k_7) (dr w) fun t35 w_ => w_ = (dr w) ∧
    Stp pg (sBin .add 3 (.tmp 33) (.tmp 35) i_4 t35) (dr w) fun t36 w_ => w_ = (dr w) ∧
    Does pg F_ref03_at #[s_0, t36, (.int .i64 8)] (dr w) fun t37 w10_9 =>
    (Same pg (sLoad 28 t30) t31 w10_9 ∧ Same pg (sIAddr 38 v_6 k_7) t30 w10_9 ∧ True) ∧
    Does pg F_ref03_round #[t31, t37] w10_9 fun t38 w10_10 =>
    Stp pg (sIAddr 38 v_6 k_7) w10_10 fun t39 w_ => w_ = w10_10 ∧
    Stp pg (sStore 28 t39 t38) w10_10 fun _u12 w10_12 =>
    Stp pg (sBin .add 3 (.tmp 26) (.const (.int .i64 1)) k_7 (.int .i64 1)) w10_12 fun t27 w =>
    kn s_0 i_4 v_6 t27 w)
    (k2 s_0 i_4 v_6 w)
theorem ref03_Of_p20_ok (Q : Exit → Env → World → Prop) (g : Env) (w : World) (kn : Value → Value → Value → Value → World → Prop) (k2 : Value → Value → Value → World → Prop) (hn : ∀ g w, kn (g 0) (g 4) (g 6) (g 7) w → Q .normal g w) (h2 : ∀ g w, k2 (g 0) (g 4) (g 6) w → Q (.exit 2) g w) (h : ref03_Of_p20 kn k2 (g 0) (g 4) (g 6) (g 7) w) : den pg ann_ref03_Of (bI (bI (dropS 1 (takeS 1 (bI (dropS 1 (bI (bI (takeS 1 (dropS 2 (cT (dropS 1 (takeS 1 (dropS 3 code_ref03_Of)))))))))))))) Q g w := by
  have e : (ref03_Of_p20 kn k2 (g 0) (g 4) (g 6) (g 7) w) = den pg ann_ref03_Of (bI (bI (dropS 1 (takeS 1 (bI (dropS 1 (bI (bI (takeS 1 (dropS 2 (cT (dropS 1 (takeS 1 (dropS 3 code_ref03_Of)))))))))))))) (exQ (fun g w => kn (g 0) (g 4) (g 6) (g 7) w) (fun _ _ => False) [(2, fun g w => k2 (g 0) (g 4) (g 6) w)]) g w := by kernel_rfl
  exact den_exQ e h hn (fun _ _ h => h.elim) ⟨h2, trivial⟩

def ref03_Of_p21 (k2 : Value → Value → Value → World → Prop) (s_0 i_4 v_6 k_7 : Value) (w : World) : Prop :=
  LoopD (fun (X : Value → World → Prop) (t : Value) (w : World) => ref03_Of_p20 (fun _ _ _ k_7 w => X k_7 w) k2 s_0 i_4 v_6 t w) k_7 w
theorem ref03_Of_p21_ok (Q : Exit → Env → World → Prop) (g : Env) (w : World) (k2 : Value → Value → Value → World → Prop) (h2 : ∀ g w, k2 (g 0) (g 4) (g 6) w → Q (.exit 2) g w) (h : ref03_Of_p21 k2 (g 0) (g 4) (g 6) (g 7) w) : den pg ann_ref03_Of (bI (dropS 1 (takeS 1 (bI (dropS 1 (bI (bI (takeS 1 (dropS 2 (cT (dropS 1 (takeS 1 (dropS 3 code_ref03_Of))))))))))))) Q g w := by
  refine den_loops (T := Value) (fun g : Env => g 7) (fun X t w => ref03_Of_p20 (fun _ _ _ k_7 w => X k_7 w) k2 (g 0) (g 4) (g 6) t w) (bI (dropS 1 (takeS 1 (bI (dropS 1 (bI (bI (takeS 1 (dropS 2 (cT (dropS 1 (takeS 1 (dropS 3 code_ref03_Of))))))))))))) (by kernel_rfl) h (fun X g1 w1 ha h1 => ?_)
  rw [← agree_at (s := 0) ha (by kernel_rfl)] at h1
  rw [← agree_at (s := 4) ha (by kernel_rfl)] at h1
  rw [← agree_at (s := 6) ha (by kernel_rfl)] at h1
  exact (ref03_Of_p20_ok (thenE (fun g2 w2 => X ((fun g : Env => g 7) g2) w2) Q) g1 w1 (fun _ _ _ k_7 w => X k_7 w) k2 (fun _ _ h => h) h2 h1)

def ref03_Of_p22 (kn : Value → Value → Value → World → Prop) (s_0 i_4 v_6 k_7 : Value) (w : World) : Prop :=
  ref03_Of_p21 kn s_0 i_4 v_6 k_7 w
theorem ref03_Of_p22_ok (Q : Exit → Env → World → Prop) (g : Env) (w : World) (kn : Value → Value → Value → World → Prop) (hn : ∀ g w, kn (g 0) (g 4) (g 6) w → Q .normal g w) (h : ref03_Of_p22 kn (g 0) (g 4) (g 6) (g 7) w) : den pg ann_ref03_Of (dropS 1 (takeS 1 (bI (dropS 1 (bI (bI (takeS 1 (dropS 2 (cT (dropS 1 (takeS 1 (dropS 3 code_ref03_Of)))))))))))) Q g w :=
  den_blk 2 (dropS 1 (takeS 1 (bI (dropS 1 (bI (bI (takeS 1 (dropS 2 (cT (dropS 1 (takeS 1 (dropS 3 code_ref03_Of)))))))))))) g w (by kernel_rfl) (ref03_Of_p21_ok (blk 2 Q) g w kn hn h)

def ref03_Of_p23 (kn : Value → Value → Value → Value → World → Prop) (s_0 i_4 v_6 : Value) (w : World) : Prop :=
  kn s_0 i_4 v_6 (.int .i64 0) w
theorem ref03_Of_p23_ok (Q : Exit → Env → World → Prop) (g : Env) (w : World) (kn : Value → Value → Value → Value → World → Prop) (hn : ∀ g w, kn (g 0) (g 4) (g 6) (g 7) w → Q .normal g w) (h : ref03_Of_p23 kn (g 0) (g 4) (g 6) w) : den pg ann_ref03_Of (takeS 1 (takeS 1 (bI (dropS 1 (bI (bI (takeS 1 (dropS 2 (cT (dropS 1 (takeS 1 (dropS 3 code_ref03_Of)))))))))))) Q g w := by
  have e : (ref03_Of_p23 kn (g 0) (g 4) (g 6) w) = den pg ann_ref03_Of (takeS 1 (takeS 1 (bI (dropS 1 (bI (bI (takeS 1 (dropS 2 (cT (dropS 1 (takeS 1 (dropS 3 code_ref03_Of)))))))))))) (exQ (fun g w => kn (g 0) (g 4) (g 6) (g 7) w) (fun _ _ => False) []) g w := by kernel_rfl
  exact den_exQ e h hn (fun _ _ h => h.elim) trivial

def ref03_Of_p24 (kn : Value → Value → Value → World → Prop) (s_0 i_4 v_6 : Value) (w : World) : Prop :=
  ref03_Of_p23 (fun s_0 i_4 v_6 k_7 w => ref03_Of_p22 kn s_0 i_4 v_6 k_7 w) s_0 i_4 v_6 w
theorem ref03_Of_p24_ok (Q : Exit → Env → World → Prop) (g : Env) (w : World) (kn : Value → Value → Value → World → Prop) (hn : ∀ g w, kn (g 0) (g 4) (g 6) w → Q .normal g w) (h : ref03_Of_p24 kn (g 0) (g 4) (g 6) w) : den pg ann_ref03_Of (takeS 1 (bI (dropS 1 (bI (bI (takeS 1 (dropS 2 (cT (dropS 1 (takeS 1 (dropS 3 code_ref03_Of))))))))))) Q g w := by
  exact den_seqs 1 (takeS 1 (bI (dropS 1 (bI (bI (takeS 1 (dropS 2 (cT (dropS 1 (takeS 1 (dropS 3 code_ref03_Of))))))))))) g w (by kernel_rfl) (ref03_Of_p23_ok (thenE (fun g w => den pg ann_ref03_Of (dropS 1 (takeS 1 (bI (dropS 1 (bI (bI (takeS 1 (dropS 2 (cT (dropS 1 (takeS 1 (dropS 3 code_ref03_Of)))))))))))) Q g w) Q) g w (fun s_0 i_4 v_6 k_7 w => ref03_Of_p22 kn s_0 i_4 v_6 k_7 w) (fun g w h => (ref03_Of_p22_ok Q g w kn hn h)) h)

def ref03_Of_p25 (kn : Value → Value → Value → World → Prop) (s_0 i_4 v_6 : Value) (w : World) : Prop :=
  ref03_Of_p24 (fun s_0 i_4 v_6 w => ref03_Of_p19 kn s_0 i_4 v_6 w) s_0 i_4 v_6 w
theorem ref03_Of_p25_ok (Q : Exit → Env → World → Prop) (g : Env) (w : World) (kn : Value → Value → Value → World → Prop) (hn : ∀ g w, kn (g 0) (g 4) (g 6) w → Q .normal g w) (h : ref03_Of_p25 kn (g 0) (g 4) (g 6) w) : den pg ann_ref03_Of (bI (dropS 1 (bI (bI (takeS 1 (dropS 2 (cT (dropS 1 (takeS 1 (dropS 3 code_ref03_Of)))))))))) Q g w := by
  exact den_seqs 1 (bI (dropS 1 (bI (bI (takeS 1 (dropS 2 (cT (dropS 1 (takeS 1 (dropS 3 code_ref03_Of)))))))))) g w (by kernel_rfl) (ref03_Of_p24_ok (thenE (fun g w => den pg ann_ref03_Of (dropS 1 (bI (dropS 1 (bI (bI (takeS 1 (dropS 2 (cT (dropS 1 (takeS 1 (dropS 3 code_ref03_Of))))))))))) Q g w) Q) g w (fun s_0 i_4 v_6 w => ref03_Of_p19 kn s_0 i_4 v_6 w) (fun g w h => (ref03_Of_p19_ok Q g w kn hn h)) h)

def ref03_Of_p26 (kn : Value → Value → Value → World → Prop) (s_0 i_4 v_6 : Value) (w : World) : Prop :=
  ref03_Of_p25 kn s_0 i_4 v_6 w
theorem ref03_Of_p26_ok (Q : Exit → Env → World → Prop) (g : Env) (w : World) (kn : Value → Value → Value → World → Prop) (hn : ∀ g w, kn (g 0) (g 4) (g 6) w → Q .normal g w) (h : ref03_Of_p26 kn (g 0) (g 4) (g 6) w) : den pg ann_ref03_Of (dropS 1 (bI (bI (takeS 1 (dropS 2 (cT (dropS 1 (takeS 1 (dropS 3 code_ref03_Of))))))))) Q g w :=
  den_blk 1 (dropS 1 (bI (bI (takeS 1 (dropS 2 (cT (dropS 1 (takeS 1 (dropS 3 code_ref03_Of))))))))) g w (by kernel_rfl) (ref03_Of_p25_ok (blk 1 Q) g w kn hn h)

def ref03_Of_p27 (kn : Value → Value → Value → World → Prop) (k0 : Value → Value → Value → World → Prop) (s_0 i_4 v_6 : Value) (w : World) : Prop :=
  Stp pg (sBin .add 3 (.tmp 19) (.const (.int .i64 32)) i_4 (.int .i64 32)) w fun t20 w =>
  Stp pg (sBi .len #[9] 3 [s_0]) w fun t22 w =>
  Stp pg (sBin .leq 3 (.tmp 20) (.tmp 22) t20 t22) w fun t23 w =>
  Cnd t23
    (kn s_0 i_4 v_6 w)
    (k0 s_0 i_4 v_6 w)
theorem ref03_Of_p27_ok (Q : Exit → Env → World → Prop) (g : Env) (w : World) (kn : Value → Value → Value → World → Prop) (k0 : Value → Value → Value → World → Prop) (hn : ∀ g w, kn (g 0) (g 4) (g 6) w → Q .normal g w) (h0 : ∀ g w, k0 (g 0) (g 4) (g 6) w → Q (.exit 0) g w) (h : ref03_Of_p27 kn k0 (g 0) (g 4) (g 6) w) : den pg ann_ref03_Of (takeS 1 (bI (bI (takeS 1 (dropS 2 (cT (dropS 1 (takeS 1 (dropS 3 code_ref03_Of))))))))) Q g w := by
  have e : (ref03_Of_p27 kn k0 (g 0) (g 4) (g 6) w) = den pg ann_ref03_Of (takeS 1 (bI (bI (takeS 1 (dropS 2 (cT (dropS 1 (takeS 1 (dropS 3 code_ref03_Of))))))))) (exQ (fun g w => kn (g 0) (g 4) (g 6) w) (fun _ _ => False) [(0, fun g w => k0 (g 0) (g 4) (g 6) w)]) g w := by kernel_rfl
  exact den_exQ e h hn (fun _ _ h => h.elim) ⟨h0, trivial⟩

def ref03_Of_p28 (kn : Value → Value → Value → World → Prop) (k0 : Value → Value → Value → World → Prop) (s_0 i_4 v_6 : Value) (w : World) : Prop :=
  ref03_Of_p27 (fun s_0 i_4 v_6 w => ref03_Of_p26 kn s_0 i_4 v_6 w) k0 s_0 i_4 v_6 w
theorem ref03_Of_p28_ok (Q : Exit → Env → World → Prop) (g : Env) (w : World) (kn : Value → Value → Value → World → Prop) (k0 : Value → Value → Value → World → Prop) (hn : ∀ g w, kn (g 0) (g 4) (g 6) w → Q .normal g w) (h0 : ∀ g w, k0 (g 0) (g 4) (g 6) w → Q (.exit 0) g w) (h : ref03_Of_p28 kn k0 (g 0) (g 4) (g 6) w) : den pg ann_ref03_Of (bI (bI (takeS 1 (dropS 2 (cT (dropS 1 (takeS 1 (dropS 3 code_ref03_Of)))))))) Q g w := by
  exact den_seqs 1 (bI (bI (takeS 1 (dropS 2 (cT (dropS 1 (takeS 1 (dropS 3 code_ref03_Of)))))))) g w (by kernel_rfl) (ref03_Of_p27_ok (thenE (fun g w => den pg ann_ref03_Of (dropS 1 (bI (bI (takeS 1 (dropS 2 (cT (dropS 1 (takeS 1 (dropS 3 code_ref03_Of))))))))) Q g w) Q) g w (fun s_0 i_4 v_6 w => ref03_Of_p26 kn s_0 i_4 v_6 w) k0 (fun g w h => (ref03_Of_p26_ok Q g w kn hn h)) h0 h)

def ref03_Of_p29 (k0 : Value → Value → Value → World → Prop) (s_0 i_4 v_6 : Value) (w : World) : Prop :=
  LoopD (fun (X : Value → World → Prop) (t : Value) (w : World) => ref03_Of_p28 (fun _ i_4 _ w => X i_4 w) k0 s_0 t v_6 w) i_4 w
theorem ref03_Of_p29_ok (Q : Exit → Env → World → Prop) (g : Env) (w : World) (k0 : Value → Value → Value → World → Prop) (h0 : ∀ g w, k0 (g 0) (g 4) (g 6) w → Q (.exit 0) g w) (h : ref03_Of_p29 k0 (g 0) (g 4) (g 6) w) : den pg ann_ref03_Of (bI (takeS 1 (dropS 2 (cT (dropS 1 (takeS 1 (dropS 3 code_ref03_Of))))))) Q g w := by
  refine den_loops (T := Value) (fun g : Env => g 4) (fun X t w => ref03_Of_p28 (fun _ i_4 _ w => X i_4 w) k0 (g 0) t (g 6) w) (bI (takeS 1 (dropS 2 (cT (dropS 1 (takeS 1 (dropS 3 code_ref03_Of))))))) (by kernel_rfl) h (fun X g1 w1 ha h1 => ?_)
  rw [← agree_at (s := 0) ha (by kernel_rfl)] at h1
  rw [← agree_at (s := 6) ha (by kernel_rfl)] at h1
  exact (ref03_Of_p28_ok (thenE (fun g2 w2 => X ((fun g : Env => g 4) g2) w2) Q) g1 w1 (fun _ i_4 _ w => X i_4 w) k0 (fun _ _ h => h) h0 h1)

def ref03_Of_p30 (kn : Value → Value → Value → World → Prop) (s_0 i_4 v_6 : Value) (w : World) : Prop :=
  ref03_Of_p29 kn s_0 i_4 v_6 w
theorem ref03_Of_p30_ok (Q : Exit → Env → World → Prop) (g : Env) (w : World) (kn : Value → Value → Value → World → Prop) (hn : ∀ g w, kn (g 0) (g 4) (g 6) w → Q .normal g w) (h : ref03_Of_p30 kn (g 0) (g 4) (g 6) w) : den pg ann_ref03_Of (takeS 1 (dropS 2 (cT (dropS 1 (takeS 1 (dropS 3 code_ref03_Of)))))) Q g w :=
  den_blk 0 (takeS 1 (dropS 2 (cT (dropS 1 (takeS 1 (dropS 3 code_ref03_Of)))))) g w (by kernel_rfl) (ref03_Of_p29_ok (blk 0 Q) g w kn hn h)

def ref03_Of_p31 (kn : Value → Value → Value → World → Prop) (s_0 i_4 v_6 : Value) (w : World) : Prop :=
  ref03_Of_p30 (fun s_0 i_4 v_6 w => ref03_Of_p18 kn s_0 i_4 v_6 w) s_0 i_4 v_6 w
theorem ref03_Of_p31_ok (Q : Exit → Env → World → Prop) (g : Env) (w : World) (kn : Value → Value → Value → World → Prop) (hn : ∀ g w, kn (g 0) (g 3) (g 4) w → Q .normal g w) (h : ref03_Of_p31 kn (g 0) (g 4) (g 6) w) : den pg ann_ref03_Of (dropS 2 (cT (dropS 1 (takeS 1 (dropS 3 code_ref03_Of))))) Q g w := by
  exact den_seqs 1 (dropS 2 (cT (dropS 1 (takeS 1 (dropS 3 code_ref03_Of))))) g w (by kernel_rfl) (ref03_Of_p30_ok (thenE (fun g w => den pg ann_ref03_Of (dropS 1 (dropS 2 (cT (dropS 1 (takeS 1 (dropS 3 code_ref03_Of)))))) Q g w) Q) g w (fun s_0 i_4 v_6 w => ref03_Of_p18 kn s_0 i_4 v_6 w) (fun g w h => (ref03_Of_p18_ok Q g w kn hn h)) h)

def ref03_Of_p32 (kn : Value → Value → Value → World → Prop) (s_0 i_4 : Value) (w : World) : Prop :=
  Stp pg (sBin .add 28 (.tmp 14) (.const (.int .u64 14029467366897019727)) (.int .u64 11400714785074694791) (.int .u64 14029467366897019727)) w fun t15 w =>
  Stp pg (sBin .sub 28 (.const (.int .u64 0)) (.tmp 16) (.int .u64 0) (.int .u64 11400714785074694791)) w fun t17 w =>
  Stp pg (sBuild 38 [(0, t15), (1, (.int .u64 14029467366897019727)), (2, (.int .u64 0)), (3, t17)]) w fun t18 w =>
  Stp pg (sAlloc 38) w fun v_6 w =>
  Stp pg (sStore 38 v_6 t18) w fun _u w =>
  kn s_0 i_4 v_6 w
theorem ref03_Of_p32_ok (Q : Exit → Env → World → Prop) (g : Env) (w : World) (kn : Value → Value → Value → World → Prop) (hn : ∀ g w, kn (g 0) (g 4) (g 6) w → Q .normal g w) (h : ref03_Of_p32 kn (g 0) (g 4) w) : den pg ann_ref03_Of (takeS 2 (cT (dropS 1 (takeS 1 (dropS 3 code_ref03_Of))))) Q g w := by
  have e : (ref03_Of_p32 kn (g 0) (g 4) w) = den pg ann_ref03_Of (takeS 2 (cT (dropS 1 (takeS 1 (dropS 3 code_ref03_Of))))) (exQ (fun g w => kn (g 0) (g 4) (g 6) w) (fun _ _ => False) []) g w := by kernel_rfl
  exact den_exQ e h hn (fun _ _ h => h.elim) trivial

def ref03_Of_p33 (kn : Value → Value → Value → World → Prop) (s_0 i_4 : Value) (w : World) : Prop :=
  ref03_Of_p32 (fun s_0 i_4 v_6 w => ref03_Of_p31 kn s_0 i_4 v_6 w) s_0 i_4 w
theorem ref03_Of_p33_ok (Q : Exit → Env → World → Prop) (g : Env) (w : World) (kn : Value → Value → Value → World → Prop) (hn : ∀ g w, kn (g 0) (g 3) (g 4) w → Q .normal g w) (h : ref03_Of_p33 kn (g 0) (g 4) w) : den pg ann_ref03_Of (cT (dropS 1 (takeS 1 (dropS 3 code_ref03_Of)))) Q g w := by
  exact den_seqs 2 (cT (dropS 1 (takeS 1 (dropS 3 code_ref03_Of)))) g w (by kernel_rfl) (ref03_Of_p32_ok (thenE (fun g w => den pg ann_ref03_Of (dropS 2 (cT (dropS 1 (takeS 1 (dropS 3 code_ref03_Of))))) Q g w) Q) g w (fun s_0 i_4 v_6 w => ref03_Of_p31 kn s_0 i_4 v_6 w) (fun g w h => (ref03_Of_p31_ok Q g w kn hn h)) h)

def ref03_Of_p34 (kn : Value → Value → Value → World → Prop) (s_0 h_3 i_4 : Value) (w : World) : Prop :=
  kn s_0 h_3 i_4 w
theorem ref03_Of_p34_ok (Q : Exit → Env → World → Prop) (g : Env) (w : World) (kn : Value → Value → Value → World → Prop) (hn : ∀ g w, kn (g 0) (g 3) (g 4) w → Q .normal g w) (h : ref03_Of_p34 kn (g 0) (g 3) (g 4) w) : den pg ann_ref03_Of (cE (dropS 1 (takeS 1 (dropS 3 code_ref03_Of)))) Q g w := by
  have e : (ref03_Of_p34 kn (g 0) (g 3) (g 4) w) = den pg ann_ref03_Of (cE (dropS 1 (takeS 1 (dropS 3 code_ref03_Of)))) (exQ (fun g w => kn (g 0) (g 3) (g 4) w) (fun _ _ => False) []) g w := by kernel_rfl
  exact den_exQ e h hn (fun _ _ h => h.elim) trivial

def ref03_Of_p35 (kn : Value → Value → Value → World → Prop) (s_0 h_3 i_4 t13 : Value) (w : World) : Prop :=
  Cnd t13 (ref03_Of_p33 kn s_0 i_4 w) (ref03_Of_p34 kn s_0 h_3 i_4 w)
theorem ref03_Of_p35_ok (Q : Exit → Env → World → Prop) (g : Env) (w : World) (kn : Value → Value → Value → World → Prop) (hn : ∀ g w, kn (g 0) (g 3) (g 4) w → Q .normal g w) (h : ref03_Of_p35 kn (g 0) (g 3) (g 4) (g 13) w) : den pg ann_ref03_Of (dropS 1 (takeS 1 (dropS 3 code_ref03_Of))) Q g w := by
  refine den_cnd (.tmp 13) (dropS 1 (takeS 1 (dropS 3 code_ref03_Of))) g w (by kernel_rfl) ?_
  exact Cnd_mono (fun h => (ref03_Of_p33_ok Q g w kn hn h)) (fun h => (ref03_Of_p34_ok Q g w kn hn h)) h

def ref03_Of_p36 (kn : Value → Value → Value → Value → World → Prop) (s_0 h_3 i_4 : Value) (w : World) : Prop :=
  Stp pg (sBi .len #[9] 3 [s_0]) w fun t12 w =>
  Stp pg (sBin .geq 3 (.tmp 12) (.const (.int .i64 32)) t12 (.int .i64 32)) w fun t13 w =>
  kn s_0 h_3 i_4 t13 w
theorem ref03_Of_p36_ok (Q : Exit → Env → World → Prop) (g : Env) (w : World) (kn : Value → Value → Value → Value → World → Prop) (hn : ∀ g w, kn (g 0) (g 3) (g 4) (g 13) w → Q .normal g w) (h : ref03_Of_p36 kn (g 0) (g 3) (g 4) w) : den pg ann_ref03_Of (takeS 1 (takeS 1 (dropS 3 code_ref03_Of))) Q g w := by
  have e : (ref03_Of_p36 kn (g 0) (g 3) (g 4) w) = den pg ann_ref03_Of (takeS 1 (takeS 1 (dropS 3 code_ref03_Of))) (exQ (fun g w => kn (g 0) (g 3) (g 4) (g 13) w) (fun _ _ => False) []) g w := by kernel_rfl
  exact den_exQ e h hn (fun _ _ h => h.elim) trivial

def ref03_Of_p37 (kn : Value → Value → Value → World → Prop) (s_0 h_3 i_4 : Value) (w : World) : Prop :=
  ref03_Of_p36 (fun s_0 h_3 i_4 t13 w => ref03_Of_p35 kn s_0 h_3 i_4 t13 w) s_0 h_3 i_4 w
theorem ref03_Of_p37_ok (Q : Exit → Env → World → Prop) (g : Env) (w : World) (kn : Value → Value → Value → World → Prop) (hn : ∀ g w, kn (g 0) (g 3) (g 4) w → Q .normal g w) (h : ref03_Of_p37 kn (g 0) (g 3) (g 4) w) : den pg ann_ref03_Of (takeS 1 (dropS 3 code_ref03_Of)) Q g w := by
  exact den_seqs 1 (takeS 1 (dropS 3 code_ref03_Of)) g w (by kernel_rfl) (ref03_Of_p36_ok (thenE (fun g w => den pg ann_ref03_Of (dropS 1 (takeS 1 (dropS 3 code_ref03_Of))) Q g w) Q) g w (fun s_0 h_3 i_4 t13 w => ref03_Of_p35 kn s_0 h_3 i_4 t13 w) (fun g w h => (ref03_Of_p35_ok Q g w kn hn h)) h)

def ref03_Of_p38 (R : Value → World → Prop) (s_0 h_3 i_4 : Value) (w : World) : Prop :=
  ref03_Of_p37 (fun s_0 h_3 i_4 w => ref03_Of_p13 R s_0 h_3 i_4 w) s_0 h_3 i_4 w
theorem ref03_Of_p38_ok (Q : Exit → Env → World → Prop) (g : Env) (w : World) (R : Value → World → Prop) (hr : ∀ g w, (resVals pg rs_ref03_Of g w fun vs => R (tup vs) w) → Q .ret g w) (h : ref03_Of_p38 R (g 0) (g 3) (g 4) w) : den pg ann_ref03_Of (dropS 3 code_ref03_Of) Q g w := by
  exact den_seqs 1 (dropS 3 code_ref03_Of) g w (by kernel_rfl) (ref03_Of_p37_ok (thenE (fun g w => den pg ann_ref03_Of (dropS 1 (dropS 3 code_ref03_Of)) Q g w) Q) g w (fun s_0 h_3 i_4 w => ref03_Of_p13 R s_0 h_3 i_4 w) (fun g w h => (ref03_Of_p13_ok Q g w R hr h)) h)

def ref03_Of_p39 (kn : Value → Value → Value → World → Prop) (s_0 : Value) (w : World) : Prop :=
  kn s_0 (.int .u64 2870177450012600261) (.int .i64 0) w
theorem ref03_Of_p39_ok (Q : Exit → Env → World → Prop) (g : Env) (w : World) (kn : Value → Value → Value → World → Prop) (hn : ∀ g w, kn (g 0) (g 3) (g 4) w → Q .normal g w) (h : ref03_Of_p39 kn (g 0) w) : den pg ann_ref03_Of (takeS 3 code_ref03_Of) Q g w := by
  have e : (ref03_Of_p39 kn (g 0) w) = den pg ann_ref03_Of (takeS 3 code_ref03_Of) (exQ (fun g w => kn (g 0) (g 3) (g 4) w) (fun _ _ => False) []) g w := by kernel_rfl
  exact den_exQ e h hn (fun _ _ h => h.elim) trivial

def ref03_Of_p40 (R : Value → World → Prop) (s_0 : Value) (w : World) : Prop :=
  ref03_Of_p39 (fun s_0 h_3 i_4 w => ref03_Of_p38 R s_0 h_3 i_4 w) s_0 w
theorem ref03_Of_p40_ok (Q : Exit → Env → World → Prop) (g : Env) (w : World) (R : Value → World → Prop) (hr : ∀ g w, (resVals pg rs_ref03_Of g w fun vs => R (tup vs) w) → Q .ret g w) (h : ref03_Of_p40 R (g 0) w) : den pg ann_ref03_Of code_ref03_Of Q g w := by
  exact den_seqs 3 code_ref03_Of g w (by kernel_rfl) (ref03_Of_p39_ok (thenE (fun g w => den pg ann_ref03_Of (dropS 3 code_ref03_Of) Q g w) Q) g w (fun s_0 h_3 i_4 w => ref03_Of_p38 R s_0 h_3 i_4 w) (fun g w h => (ref03_Of_p38_ok Q g w R hr h)) h)

def ref03_Of (a0 : Value) (w : World) (R : Value → World → Prop) : Prop :=
  ref03_Of_p40 R a0 w
theorem ref03_Of_does {a0 : Value} {w : World} {R : Value → World → Prop} (h : ref03_Of a0 w R) : Does pg F_ref03_Of #[a0] w R := by
  refine does_of_den (ann := ann_ref03_Of) (fn := Try.f11) (c := code_ref03_Of) (args := [a0]) (rs := rs_ref03_Of) (N := 137) TryM.mixed Try.func11 (by kernel_rfl) (by kernel_rfl) (by kernel_rfl) (of_decide_eq_true (by kernel_rfl)) (by kernel_rfl) ?_
  exact (ref03_Of_p40_ok (retQ pg rs_ref03_Of R) (envOf [a0]) w R (fun _ _ h => h) h)
-- PIECES ref03_Of/0 ref03_Of_p1 ref03_Of_p3 ref03_Of_p4 ref03_Of_p5 ref03_Of_p6 ref03_Of_p7 ref03_Of_p9 ref03_Of_p10 ref03_Of_p11 ref03_Of_p12 ref03_Of_p13 ref03_Of_p15 ref03_Of_p16 ref03_Of_p17 ref03_Of_p18 ref03_Of_p29 ref03_Of_p30 ref03_Of_p31 ref03_Of_p32 ref03_Of_p33 ref03_Of_p34 ref03_Of_p35 ref03_Of_p36 ref03_Of_p37 ref03_Of_p38 ref03_Of_p39 ref03_Of_p40
-- PIECES ref03_Of/1 ref03_Of_p2
-- PIECES ref03_Of/2 ref03_Of_p8
-- PIECES ref03_Of/3 ref03_Of_p14
-- PIECES ref03_Of/4 ref03_Of_p19 ref03_Of_p21 ref03_Of_p22 ref03_Of_p23 ref03_Of_p24 ref03_Of_p25 ref03_Of_p26 ref03_Of_p27 ref03_Of_p28
-- PIECES ref03_Of/5 ref03_Of_p20

/- lighterman/xxh.Of -/
def ann_xxh_Of : Nat → Ann × Plan := fun i => (([], []), [])
def rs_xxh_Of : List ResultVar := [.tmp 2]
noncomputable def code_xxh_Of : Code := bodyOf Try.f12
def xxh_Of_p1 (R : Value → World → Prop) (b_0 : Value) (w : World) : Prop :=
  Does pg F_xxh_New #[] w fun t4 w =>
  Does pg F_xxh_Hash_Write #[t4, b_0] w fun t7 w =>
  Does pg F_xxh_Hash_Sum #[t4] w fun t9 w =>
  R t9 w
theorem xxh_Of_p1_ok (Q : Exit → Env → World → Prop) (g : Env) (w : World) (R : Value → World → Prop) (hr : ∀ g w, (resVals pg rs_xxh_Of g w fun vs => R (tup vs) w) → Q .ret g w) (h : xxh_Of_p1 R (g 0) w) : den pg ann_xxh_Of code_xxh_Of Q g w := by
  have e : (xxh_Of_p1 R (g 0) w) = den pg ann_xxh_Of code_xxh_Of (exQ (fun _ _ => False) (fun g w => resVals pg rs_xxh_Of g w fun vs => R (tup vs) w) []) g w := by kernel_rfl
  exact den_exQ e h (fun _ _ h => h.elim) hr trivial

def xxh_Of (a0 : Value) (w : World) (R : Value → World → Prop) : Prop :=
  xxh_Of_p1 R a0 w
theorem xxh_Of_does {a0 : Value} {w : World} {R : Value → World → Prop} (h : xxh_Of a0 w R) : Does pg F_xxh_Of #[a0] w R := by
  refine does_of_den (ann := ann_xxh_Of) (fn := Try.f12) (c := code_xxh_Of) (args := [a0]) (rs := rs_xxh_Of) (N := 10) TryM.mixed Try.func12 (by kernel_rfl) (by kernel_rfl) (by kernel_rfl) (of_decide_eq_true (by kernel_rfl)) (by kernel_rfl) ?_
  exact (xxh_Of_p1_ok (retQ pg rs_xxh_Of R) (envOf [a0]) w R (fun _ _ h => h) h)
-- PIECES xxh_Of/0 xxh_Of_p1

/- lighterman/xxh.round -/
def ann_xxh_round : Nat → Ann × Plan := fun i => (([], []), [])
def rs_xxh_round : List ResultVar := [.tmp 4]
noncomputable def code_xxh_round : Code := bodyOf Try.f13
def xxh_round_p1 (R : Value → World → Prop) (v_0 x_1 : Value) (w : World) : Prop :=
  Stp pg (sBin .mul 28 (.tmp 6) (.const (.int .u64 14029467366897019727)) x_1 (.int .u64 14029467366897019727)) w fun t7 w =>
  Stp pg (sBin .add 28 (.tmp 5) (.tmp 7) v_0 t7) w fun t8 w =>
  Does pg F_math_bits_RotateLeft64 #[t8, (.int .i64 31)] w fun t9 w =>
  Stp pg (sBin .mul 28 (.tmp 9) (.const (.int .u64 11400714785074694791)) t9 (.int .u64 11400714785074694791)) w fun t10 w =>
  R t10 w
theorem xxh_round_p1_ok (Q : Exit → Env → World → Prop) (g : Env) (w : World) (R : Value → World → Prop) (hr : ∀ g w, (resVals pg rs_xxh_round g w fun vs => R (tup vs) w) → Q .ret g w) (h : xxh_round_p1 R (g 0) (g 1) w) : den pg ann_xxh_round code_xxh_round Q g w := by
  have e : (xxh_round_p1 R (g 0) (g 1) w) = den pg ann_xxh_round code_xxh_round (exQ (fun _ _ => False) (fun g w => resVals pg rs_xxh_round g w fun vs => R (tup vs) w) []) g w := by kernel_rfl
  exact den_exQ e h (fun _ _ h => h.elim) hr trivial

def xxh_round (a0 a1 : Value) (w : World) (R : Value → World → Prop) : Prop :=
  xxh_round_p1 R a0 a1 w
theorem xxh_round_does {a0 a1 : Value} {w : World} {R : Value → World → Prop} (h : xxh_round a0 a1 w R) : Does pg F_xxh_round #[a0, a1] w R := by
  refine does_of_den (ann := ann_xxh_round) (fn := Try.f13) (c := code_xxh_round) (args := [a0, a1]) (rs := rs_xxh_round) (N := 11) TryM.mixed Try.func13 (by kernel_rfl) (by kernel_rfl) (by kernel_rfl) (of_decide_eq_true (by kernel_rfl)) (by kernel_rfl) ?_
  exact (xxh_round_p1_ok (retQ pg rs_xxh_round R) (envOf [a0, a1]) w R (fun _ _ h => h) h)
-- PIECES xxh_round/0 xxh_round_p1

/- lighterman/xxh.number -/
def ann_xxh_number : Nat → Ann × Plan := fun i => (([], []), [])
def rs_xxh_number : List ResultVar := [.tmp 2]
noncomputable def code_xxh_number : Code := bodyOf Try.f14
def xxh_number_p1 (R : Value → World → Prop) (x_3 : Value) (w : World) : Prop :=
  R x_3 w
theorem xxh_number_p1_ok (Q : Exit → Env → World → Prop) (g : Env) (w : World) (R : Value → World → Prop) (hr : ∀ g w, (resVals pg rs_xxh_number g w fun vs => R (tup vs) w) → Q .ret g w) (h : xxh_number_p1 R (g 3) w) : den pg ann_xxh_number (dropS 1 (dropS 2 code_xxh_number)) Q g w := by
  have e : (xxh_number_p1 R (g 3) w) = den pg ann_xxh_number (dropS 1 (dropS 2 code_xxh_number)) (exQ (fun _ _ => False) (fun g w => resVals pg rs_xxh_number g w fun vs => R (tup vs) w) []) g w := by kernel_rfl
  exact den_exQ e h (fun _ _ h => h.elim) hr trivial

def xxh_number_p2 (kn : Value → Value → Value → Value → World → Prop) (k0 : Value → World → Prop) (x_3 t6 t7 t8 : Value) (w : World) : Prop :=
  Stp pg (sBin .lss 3 (.tmp 8) (.tmp 7) t8 t7) w fun t9 w =>
  Cnd t9
    (Stp pg (sIAddr 26 t6 t8) w fun t11 w =>
    Stp pg (sLoad 5 t11) w fun t12 w =>
    Stp pg (sCvt 5 28 t12) w fun t15 w =>
    Stp pg (sBin .mul 3 (.const (.int .i64 8)) (.tmp 16) (.int .i64 8) t8) w fun t17 w =>
    Stp pg (sCvt 3 44 t17) w fun t18 w =>
    Stp pg (sBin .shl 28 (.tmp 15) (.tmp 18) t15 t18) w fun t19 w =>
    Stp pg (sBin .or 28 (.tmp 13) (.tmp 19) x_3 t19) w fun t20 w =>
    Stp pg (sBin .add 3 (.tmp 8) (.const (.int .i64 1)) t8 (.int .i64 1)) w fun t21 w =>
    kn t20 t6 t7 t21 w)
    (k0 x_3 w)
theorem xxh_number_p2_ok (Q : Exit → Env → World → Prop) (g : Env) (w : World) (kn : Value → Value → Value → Value → World → Prop) (k0 : Value → World → Prop) (hn : ∀ g w, kn (g 3) (g 6) (g 7) (g 8) w → Q .normal g w) (h0 : ∀ g w, k0 (g 3) w → Q (.exit 0) g w) (h : xxh_number_p2 kn k0 (g 3) (g 6) (g 7) (g 8) w) : den pg ann_xxh_number (bI (bI (dropS 1 (takeS 1 (dropS 2 code_xxh_number))))) Q g w := by
  have e : (xxh_number_p2 kn k0 (g 3) (g 6) (g 7) (g 8) w) = den pg ann_xxh_number (bI (bI (dropS 1 (takeS 1 (dropS 2 code_xxh_number))))) (exQ (fun g w => kn (g 3) (g 6) (g 7) (g 8) w) (fun _ _ => False) [(0, fun g w => k0 (g 3) w)]) g w := by kernel_rfl
  exact den_exQ e h hn (fun _ _ h => h.elim) ⟨h0, trivial⟩

def xxh_number_p3 (k0 : Value → World → Prop) (x_3 t6 t7 t8 : Value) (w : World) : Prop :=
  LoopD (fun (X : (Value × Value) → World → Prop) (t : Value × Value) (w : World) => xxh_number_p2 (fun x_3 _ _ t8 w => X (x_3, t8) w) k0 t.1 t6 t7 t.2 w) (x_3, t8) w
theorem xxh_number_p3_ok (Q : Exit → Env → World → Prop) (g : Env) (w : World) (k0 : Value → World → Prop) (h0 : ∀ g w, k0 (g 3) w → Q (.exit 0) g w) (h : xxh_number_p3 k0 (g 3) (g 6) (g 7) (g 8) w) : den pg ann_xxh_number (bI (dropS 1 (takeS 1 (dropS 2 code_xxh_number)))) Q g w := by
  refine den_loops (T := Value × Value) (fun g : Env => (g 3, g 8)) (fun X t w => xxh_number_p2 (fun x_3 _ _ t8 w => X (x_3, t8) w) k0 t.1 (g 6) (g 7) t.2 w) (bI (dropS 1 (takeS 1 (dropS 2 code_xxh_number)))) (by kernel_rfl) h (fun X g1 w1 ha h1 => ?_)
  rw [← agree_at (s := 6) ha (by kernel_rfl)] at h1
  rw [← agree_at (s := 7) ha (by kernel_rfl)] at h1
  exact (xxh_number_p2_ok (thenE (fun g2 w2 => X ((fun g : Env => (g 3, g 8)) g2) w2) Q) g1 w1 (fun x_3 _ _ t8 w => X (x_3, t8) w) k0 (fun _ _ h => h) h0 h1)

def xxh_number_p4 (kn : Value → World → Prop) (x_3 t6 t7 t8 : Value) (w : World) : Prop :=
  xxh_number_p3 kn x_3 t6 t7 t8 w
theorem xxh_number_p4_ok (Q : Exit → Env → World → Prop) (g : Env) (w : World) (kn : Value → World → Prop) (hn : ∀ g w, kn (g 3) w → Q .normal g w) (h : xxh_number_p4 kn (g 3) (g 6) (g 7) (g 8) w) : den pg ann_xxh_number (dropS 1 (takeS 1 (dropS 2 code_xxh_number))) Q g w :=
  den_blk 0 (dropS 1 (takeS 1 (dropS 2 code_xxh_number))) g w (by kernel_rfl) (xxh_number_p3_ok (blk 0 Q) g w kn hn h)

def xxh_number_p5 (kn : Value → Value → Value → Value → World → Prop) (b_0 x_3 : Value) (w : World) : Prop :=
  Stp pg (sBi .len #[26] 3 [b_0]) w fun t7 w =>
  kn x_3 b_0 t7 (.int .i64 0) w
theorem xxh_number_p5_ok (Q : Exit → Env → World → Prop) (g : Env) (w : World) (kn : Value → Value → Value → Value → World → Prop) (hn : ∀ g w, kn (g 3) (g 6) (g 7) (g 8) w → Q .normal g w) (h : xxh_number_p5 kn (g 0) (g 3) w) : den pg ann_xxh_number (takeS 1 (takeS 1 (dropS 2 code_xxh_number))) Q g w := by
  have e : (xxh_number_p5 kn (g 0) (g 3) w) = den pg ann_xxh_number (takeS 1 (takeS 1 (dropS 2 code_xxh_number))) (exQ (fun g w => kn (g 3) (g 6) (g 7) (g 8) w) (fun _ _ => False) []) g w := by kernel_rfl
  exact den_exQ e h hn (fun _ _ h => h.elim) trivial

def xxh_number_p6 (kn : Value → World → Prop) (b_0 x_3 : Value) (w : World) : Prop :=
  xxh_number_p5 (fun x_3 t6 t7 t8 w => xxh_number_p4 kn x_3 t6 t7 t8 w) b_0 x_3 w
theorem xxh_number_p6_ok (Q : Exit → Env → World → Prop) (g : Env) (w : World) (kn : Value → World → Prop) (hn : ∀ g w, kn (g 3) w → Q .normal g w) (h : xxh_number_p6 kn (g 0) (g 3) w) : den pg ann_xxh_number (takeS 1 (dropS 2 code_xxh_number)) Q g w := by
  exact den_seqs 1 (takeS 1 (dropS 2 code_xxh_number)) g w (by kernel_rfl) (xxh_number_p5_ok (thenE (fun g w => den pg ann_xxh_number (dropS 1 (takeS 1 (dropS 2 code_xxh_number))) Q g w) Q) g w (fun x_3 t6 t7 t8 w => xxh_number_p4 kn x_3 t6 t7 t8 w) (fun g w h => (xxh_number_p4_ok Q g w kn hn h)) h)

def xxh_number_p7 (R : Value → World → Prop) (b_0 x_3 : Value) (w : World) : Prop :=
  xxh_number_p6 (fun x_3 w => xxh_number_p1 R x_3 w) b_0 x_3 w
theorem xxh_number_p7_ok (Q : Exit → Env → World → Prop) (g : Env) (w : World) (R : Value → World → Prop) (hr : ∀ g w, (resVals pg rs_xxh_number g w fun vs => R (tup vs) w) → Q .ret g w) (h : xxh_number_p7 R (g 0) (g 3) w) : den pg ann_xxh_number (dropS 2 code_xxh_number) Q g w := by
  exact den_seqs 1 (dropS 2 code_xxh_number) g w (by kernel_rfl) (xxh_number_p6_ok (thenE (fun g w => den pg ann_xxh_number (dropS 1 (dropS 2 code_xxh_number)) Q g w) Q) g w (fun x_3 w => xxh_number_p1 R x_3 w) (fun g w h => (xxh_number_p1_ok Q g w R hr h)) h)

def xxh_number_p8 (kn : Value → Value → World → Prop) (b_0 : Value) (w : World) : Prop :=
  kn b_0 (.int .u64 0) w
theorem xxh_number_p8_ok (Q : Exit → Env → World → Prop) (g : Env) (w : World) (kn : Value → Value → World → Prop) (hn : ∀ g w, kn (g 0) (g 3) w → Q .normal g w) (h : xxh_number_p8 kn (g 0) w) : den pg ann_xxh_number (takeS 2 code_xxh_number) Q g w := by
  have e : (xxh_number_p8 kn (g 0) w) = den pg ann_xxh_number (takeS 2 code_xxh_number) (exQ (fun g w => kn (g 0) (g 3) w) (fun _ _ => False) []) g w := by kernel_rfl
  exact den_exQ e h hn (fun _ _ h => h.elim) trivial

def xxh_number_p9 (R : Value → World → Prop) (b_0 : Value) (w : World) : Prop :=
  xxh_number_p8 (fun b_0 x_3 w => xxh_number_p7 R b_0 x_3 w) b_0 w
theorem xxh_number_p9_ok (Q : Exit → Env → World → Prop) (g : Env) (w : World) (R : Value → World → Prop) (hr : ∀ g w, (resVals pg rs_xxh_number g w fun vs => R (tup vs) w) → Q .ret g w) (h : xxh_number_p9 R (g 0) w) : den pg ann_xxh_number code_xxh_number Q g w := by
  exact den_seqs 2 code_xxh_number g w (by kernel_rfl) (xxh_number_p8_ok (thenE (fun g w => den pg ann_xxh_number (dropS 2 code_xxh_number) Q g w) Q) g w (fun b_0 x_3 w => xxh_number_p7 R b_0 x_3 w) (fun g w h => (xxh_number_p7_ok Q g w R hr h)) h)

def xxh_number (a0 : Value) (w : World) (R : Value → World → Prop) : Prop :=
  xxh_number_p9 R a0 w
theorem xxh_number_does {a0 : Value} {w : World} {R : Value → World → Prop} (h : xxh_number a0 w R) : Does pg F_xxh_number #[a0] w R := by
  refine does_of_den (ann := ann_xxh_number) (fn := Try.f14) (c := code_xxh_number) (args := [a0]) (rs := rs_xxh_number) (N := 23) TryM.mixed Try.func14 (by kernel_rfl) (by kernel_rfl) (by kernel_rfl) (of_decide_eq_true (by kernel_rfl)) (by kernel_rfl) ?_
  exact (xxh_number_p9_ok (retQ pg rs_xxh_number R) (envOf [a0]) w R (fun _ _ h => h) h)
-- PIECES xxh_number/0 xxh_number_p1 xxh_number_p3 xxh_number_p4 xxh_number_p5 xxh_number_p6 xxh_number_p7 xxh_number_p8 xxh_number_p9
-- PIECES xxh_number/1 xxh_number_p2

/- (*lighterman/xxh.Hash).joined -/
def ann_xxh_Hash_joined : Nat → Ann × Plan := fun i => (([], []), [])
def rs_xxh_Hash_joined : List ResultVar := [.tmp 2]
noncomputable def code_xxh_Hash_joined : Code := bodyOf Try.f15
def xxh_Hash_joined_p1 (R : Value → World → Prop) (x_3 : Value) (w : World) : Prop :=
  R x_3 w
theorem xxh_Hash_joined_p1_ok (Q : Exit → Env → World → Prop) (g : Env) (w : World) (R : Value → World → Prop) (hr : ∀ g w, (resVals pg rs_xxh_Hash_joined g w fun vs => R (tup vs) w) → Q .ret g w) (h : xxh_Hash_joined_p1 R (g 3) w) : den pg ann_xxh_Hash_joined (dropS 1 (dropS 1 (dropS 3 code_xxh_Hash_joined))) Q g w := by
  have e : (xxh_Hash_joined_p1 R (g 3) w) = den pg ann_xxh_Hash_joined (dropS 1 (dropS 1 (dropS 3 code_xxh_Hash_joined))) (exQ (fun _ _ => False) (fun g w => resVals pg rs_xxh_Hash_joined g w fun vs => R (tup vs) w) []) g w := by kernel_rfl
  exact den_exQ e h (fun _ _ h => h.elim) hr trivial

def xxh_Hash_joined_p2 (kn : Value → Value → Value → World → Prop) (k2 : Value → World → Prop) (x_3 t32 t33 : Value) (w : World) : Prop :=
  Stp pg (sBin .lss 3 (.tmp 33) (.const (.int .i64 4)) t33 (.int .i64 4)) w fun t34 w =>
  Cnd t34
    (Stp pg (sIdx 38 t32 t33) w fun t35 w =>
    Does pg F_xxh_round #[(.int .u64 0), t35] w fun t38 w =>
    Stp pg (sBin .xor 28 (.tmp 36) (.tmp 38) x_3 t38) w fun t39 w =>
    Stp pg (sBin .mul 28 (.tmp 39) (.const (.int .u64 11400714785074694791)) t39 (.int .u64 11400714785074694791)) w fun t40 w =>
    Stp pg (sBin .add 28 (.tmp 40) (.const (.int .u64 9650029242287828579)) t40 (.int .u64 9650029242287828579)) w fun t41 w =>
    Stp pg (sBin .add 3 (.tmp 33) (.const (.int .i64 1)) t33 (.int .i64 1)) w fun t42 w =>
    kn t41 t32 t42 w)
    (k2 x_3 w)
theorem xxh_Hash_joined_p2_ok (Q : Exit → Env → World → Prop) (g : Env) (w : World) (kn : Value → Value → Value → World → Prop) (k2 : Value → World → Prop) (hn : ∀ g w, kn (g 3) (g 32) (g 33) w → Q .normal g w) (h2 : ∀ g w, k2 (g 3) w → Q (.exit 2) g w) (h : xxh_Hash_joined_p2 kn k2 (g 3) (g 32) (g 33) w) : den pg ann_xxh_Hash_joined (bI (bI (dropS 1 (takeS 1 (dropS 1 (dropS 3 code_xxh_Hash_joined)))))) Q g w := by
  have e : (xxh_Hash_joined_p2 kn k2 (g 3) (g 32) (g 33) w) = den pg ann_xxh_Hash_joined (bI (bI (dropS 1 (takeS 1 (dropS 1 (dropS 3 code_xxh_Hash_joined)))))) (exQ (fun g w => kn (g 3) (g 32) (g 33) w) (fun _ _ => False) [(2, fun g w => k2 (g 3) w)]) g w := by kernel_rfl
  exact den_exQ e h hn (fun _ _ h => h.elim) ⟨h2, trivial⟩

def xxh_Hash_joined_p3 (k2 : Value → World → Prop) (x_3 t32 t33 : Value) (w : World) : Prop :=
  LoopD (fun (X : (Value × Value) → World → Prop) (t : Value × Value) (w : World) => xxh_Hash_joined_p2 (fun x_3 _ t33 w => X (x_3, t33) w) k2 t.1 t32 t.2 w) (x_3, t33) w
theorem xxh_Hash_joined_p3_ok (Q : Exit → Env → World → Prop) (g : Env) (w : World) (k2 : Value → World → Prop) (h2 : ∀ g w, k2 (g 3) w → Q (.exit 2) g w) (h : xxh_Hash_joined_p3 k2 (g 3) (g 32) (g 33) w) : den pg ann_xxh_Hash_joined (bI (dropS 1 (takeS 1 (dropS 1 (dropS 3 code_xxh_Hash_joined))))) Q g w := by
  refine den_loops (T := Value × Value) (fun g : Env => (g 3, g 33)) (fun X t w => xxh_Hash_joined_p2 (fun x_3 _ t33 w => X (x_3, t33) w) k2 t.1 (g 32) t.2 w) (bI (dropS 1 (takeS 1 (dropS 1 (dropS 3 code_xxh_Hash_joined))))) (by kernel_rfl) h (fun X g1 w1 ha h1 => ?_)
  rw [← agree_at (s := 32) ha (by kernel_rfl)] at h1
  exact (xxh_Hash_joined_p2_ok (thenE (fun g2 w2 => X ((fun g : Env => (g 3, g 33)) g2) w2) Q) g1 w1 (fun x_3 _ t33 w => X (x_3, t33) w) k2 (fun _ _ h => h) h2 h1)

def xxh_Hash_joined_p4 (kn : Value → World → Prop) (x_3 t32 t33 : Value) (w : World) : Prop :=
  xxh_Hash_joined_p3 kn x_3 t32 t33 w
theorem xxh_Hash_joined_p4_ok (Q : Exit → Env → World → Prop) (g : Env) (w : World) (kn : Value → World → Prop) (hn : ∀ g w, kn (g 3) w → Q .normal g w) (h : xxh_Hash_joined_p4 kn (g 3) (g 32) (g 33) w) : den pg ann_xxh_Hash_joined (dropS 1 (takeS 1 (dropS 1 (dropS 3 code_xxh_Hash_joined)))) Q g w :=
  den_blk 2 (dropS 1 (takeS 1 (dropS 1 (dropS 3 code_xxh_Hash_joined)))) g w (by kernel_rfl) (xxh_Hash_joined_p3_ok (blk 2 Q) g w kn hn h)

def xxh_Hash_joined_p5 (kn : Value → Value → Value → World → Prop) (h_0 x_3 : Value) (w : World) : Prop :=
  Stp pg (sNil h_0) w fun t30 w =>
  Stp pg (sFAddr 41 t30 0) w fun t31 w =>
  Stp pg (sLoad 38 t31) w fun t32 w =>
  kn x_3 t32 (.int .i64 0) w
theorem xxh_Hash_joined_p5_ok (Q : Exit → Env → World → Prop) (g : Env) (w : World) (kn : Value → Value → Value → World → Prop) (hn : ∀ g w, kn (g 3) (g 32) (g 33) w → Q .normal g w) (h : xxh_Hash_joined_p5 kn (g 0) (g 3) w) : den pg ann_xxh_Hash_joined (takeS 1 (takeS 1 (dropS 1 (dropS 3 code_xxh_Hash_joined)))) Q g w := by
  have e : (xxh_Hash_joined_p5 kn (g 0) (g 3) w) = den pg ann_xxh_Hash_joined (takeS 1 (takeS 1 (dropS 1 (dropS 3 code_xxh_Hash_joined)))) (exQ (fun g w => kn (g 3) (g 32) (g 33) w) (fun _ _ => False) []) g w := by kernel_rfl
  exact den_exQ e h hn (fun _ _ h => h.elim) trivial

def xxh_Hash_joined_p6 (kn : Value → World → Prop) (h_0 x_3 : Value) (w : World) : Prop :=
  xxh_Hash_joined_p5 (fun x_3 t32 t33 w => xxh_Hash_joined_p4 kn x_3 t32 t33 w) h_0 x_3 w
theorem xxh_Hash_joined_p6_ok (Q : Exit → Env → World → Prop) (g : Env) (w : World) (kn : Value → World → Prop) (hn : ∀ g w, kn (g 3) w → Q .normal g w) (h : xxh_Hash_joined_p6 kn (g 0) (g 3) w) : den pg ann_xxh_Hash_joined (takeS 1 (dropS 1 (dropS 3 code_xxh_Hash_joined))) Q g w := by
  exact den_seqs 1 (takeS 1 (dropS 1 (dropS 3 code_xxh_Hash_joined))) g w (by kernel_rfl) (xxh_Hash_joined_p5_ok (thenE (fun g w => den pg ann_xxh_Hash_joined (dropS 1 (takeS 1 (dropS 1 (dropS 3 code_xxh_Hash_joined)))) Q g w) Q) g w (fun x_3 t32 t33 w => xxh_Hash_joined_p4 kn x_3 t32 t33 w) (fun g w h => (xxh_Hash_joined_p4_ok Q g w kn hn h)) h)

def xxh_Hash_joined_p7 (R : Value → World → Prop) (h_0 x_3 : Value) (w : World) : Prop :=
  xxh_Hash_joined_p6 (fun x_3 w => xxh_Hash_joined_p1 R x_3 w) h_0 x_3 w
theorem xxh_Hash_joined_p7_ok (Q : Exit → Env → World → Prop) (g : Env) (w : World) (R : Value → World → Prop) (hr : ∀ g w, (resVals pg rs_xxh_Hash_joined g w fun vs => R (tup vs) w) → Q .ret g w) (h : xxh_Hash_joined_p7 R (g 0) (g 3) w) : den pg ann_xxh_Hash_joined (dropS 1 (dropS 3 code_xxh_Hash_joined)) Q g w := by
  exact den_seqs 1 (dropS 1 (dropS 3 code_xxh_Hash_joined)) g w (by kernel_rfl) (xxh_Hash_joined_p6_ok (thenE (fun g w => den pg ann_xxh_Hash_joined (dropS 1 (dropS 1 (dropS 3 code_xxh_Hash_joined))) Q g w) Q) g w (fun x_3 w => xxh_Hash_joined_p1 R x_3 w) (fun g w h => (xxh_Hash_joined_p1_ok Q g w R hr h)) h)

def xxh_Hash_joined_p8 (kn : Value → Value → Value → Value → World → Prop) (k0 : Value → Value → World → Prop) (h_0 x_3 t13 t14 : Value) (w : World) : Prop :=
  Stp pg (sBin .lss 3 (.tmp 14) (.const (.int .i64 4)) t14 (.int .i64 4)) w fun t15 w =>
  Cnd t15
    (Stp pg (sIdx 47 t13 t14) w fun t17 w =>
    Stp pg (sNil h_0) w fun t21 w =>
    Stp pg (sFAddr 41 t21 0) w fun t22 w =>
    Stp pg (sIAddr 38 t22 t14) w fun t23 w =>
    Stp pg (sLoad 28 t23) w fun t24 w =>
    Does pg F_math_bits_RotateLeft64 #[t24, t17] w fun t26 w =>
    Stp pg (sBin .add 28 (.tmp 18) (.tmp 26) x_3 t26) w fun t27 w =>
    Stp pg (sBin .add 3 (.tmp 14) (.const (.int .i64 1)) t14 (.int .i64 1)) w fun t28 w =>
    kn h_0 t27 t13 t28 w)
    (k0 h_0 x_3 w)
theorem xxh_Hash_joined_p8_ok (Q : Exit → Env → World → Prop) (g : Env) (w : World) (kn : Value → Value → Value → Value → World → Prop) (k0 : Value → Value → World → Prop) (hn : ∀ g w, kn (g 0) (g 3) (g 13) (g 14) w → Q .normal g w) (h0 : ∀ g w, k0 (g 0) (g 3) w → Q (.exit 0) g w) (h : xxh_Hash_joined_p8 kn k0 (g 0) (g 3) (g 13) (g 14) w) : den pg ann_xxh_Hash_joined (bI (bI (dropS 1 (takeS 1 (dropS 3 code_xxh_Hash_joined))))) Q g w := by
  have e : (xxh_Hash_joined_p8 kn k0 (g 0) (g 3) (g 13) (g 14) w) = den pg ann_xxh_Hash_joined (bI (bI (dropS 1 (takeS 1 (dropS 3 code_xxh_Hash_joined))))) (exQ (fun g w => kn (g 0) (g 3) (g 13) (g 14) w) (fun _ _ => False) [(0, fun g w => k0 (g 0) (g 3) w)]) g w := by kernel_rfl
  exact den_exQ e h hn (fun _ _ h => h.elim) ⟨h0, trivial⟩

def xxh_Hash_joined_p9 (k0 : Value → Value → World → Prop) (h_0 x_3 t13 t14 : Value) (w : World) : Prop :=
  LoopD (fun (X : (Value × Value) → World → Prop) (t : Value × Value) (w : World) => xxh_Hash_joined_p8 (fun _ x_3 _ t14 w => X (x_3, t14) w) k0 h_0 t.1 t13 t.2 w) (x_3, t14) w
theorem xxh_Hash_joined_p9_ok (Q : Exit → Env → World → Prop) (g : Env) (w : World) (k0 : Value → Value → World → Prop) (h0 : ∀ g w, k0 (g 0) (g 3) w → Q (.exit 0) g w) (h : xxh_Hash_joined_p9 k0 (g 0) (g 3) (g 13) (g 14) w) : den pg ann_xxh_Hash_joined (bI (dropS 1 (takeS 1 (dropS 3 code_xxh_Hash_joined)))) Q g w := by
  refine den_loops (T := Value × Value) (fun g : Env => (g 3, g 14)) (fun X t w => xxh_Hash_joined_p8 (fun _ x_3 _ t14 w => X (x_3, t14) w) k0 (g 0) t.1 (g 13) t.2 w) (bI (dropS 1 (takeS 1 (dropS 3 code_xxh_Hash_joined)))) (by kernel_rfl) h (fun X g1 w1 ha h1 => ?_)
  rw [← agree_at (s := 0) ha (by kernel_rfl)] at h1
  rw [← agree_at (s := 13) ha (by kernel_rfl)] at h1
  exact (xxh_Hash_joined_p8_ok (thenE (fun g2 w2 => X ((fun g : Env => (g 3, g 14)) g2) w2) Q) g1 w1 (fun _ x_3 _ t14 w => X (x_3, t14) w) k0 (fun _ _ h => h) h0 h1)

def xxh_Hash_joined_p10 (kn : Value → Value → World → Prop) (h_0 x_3 t13 t14 : Value) (w : World) : Prop :=
  xxh_Hash_joined_p9 kn h_0 x_3 t13 t14 w
theorem xxh_Hash_joined_p10_ok (Q : Exit → Env → World → Prop) (g : Env) (w : World) (kn : Value → Value → World → Prop) (hn : ∀ g w, kn (g 0) (g 3) w → Q .normal g w) (h : xxh_Hash_joined_p10 kn (g 0) (g 3) (g 13) (g 14) w) : den pg ann_xxh_Hash_joined (dropS 1 (takeS 1 (dropS 3 code_xxh_Hash_joined))) Q g w :=
  den_blk 0 (dropS 1 (takeS 1 (dropS 3 code_xxh_Hash_joined))) g w (by kernel_rfl) (xxh_Hash_joined_p9_ok (blk 0 Q) g w kn hn h)

def xxh_Hash_joined_p11 (kn : Value → Value → Value → Value → World → Prop) (h_0 x_3 : Value) (w : World) : Prop :=
  Stp pg (sBuild 47 [(0, (.int .i64 1)), (1, (.int .i64 7)), (2, (.int .i64 12)), (3, (.int .i64 18))]) w fun t13 w =>
  kn h_0 x_3 t13 (.int .i64 0) w
theorem xxh_Hash_joined_p11_ok (Q : Exit → Env → World → Prop) (g : Env) (w : World) (kn : Value → Value → Value → Value → World → Prop) (hn : ∀ g w, kn (g 0) (g 3) (g 13) (g 14) w → Q .normal g w) (h : xxh_Hash_joined_p11 kn (g 0) (g 3) w) : den pg ann_xxh_Hash_joined (takeS 1 (takeS 1 (dropS 3 code_xxh_Hash_joined))) Q g w := by
  have e : (xxh_Hash_joined_p11 kn (g 0) (g 3) w) = den pg ann_xxh_Hash_joined (takeS 1 (takeS 1 (dropS 3 code_xxh_Hash_joined))) (exQ (fun g w => kn (g 0) (g 3) (g 13) (g 14) w) (fun _ _ => False) []) g w := by kernel_rfl
  exact den_exQ e h hn (fun _ _ h => h.elim) trivial

def xxh_Hash_joined_p12 (kn : Value → Value → World → Prop) (h_0 x_3 : Value) (w : World) : Prop :=
  xxh_Hash_joined_p11 (fun h_0 x_3 t13 t14 w => xxh_Hash_joined_p10 kn h_0 x_3 t13 t14 w) h_0 x_3 w
theorem xxh_Hash_joined_p12_ok (Q : Exit → Env → World → Prop) (g : Env) (w : World) (kn : Value → Value → World → Prop) (hn : ∀ g w, kn (g 0) (g 3) w → Q .normal g w) (h : xxh_Hash_joined_p12 kn (g 0) (g 3) w) : den pg ann_xxh_Hash_joined (takeS 1 (dropS 3 code_xxh_Hash_joined)) Q g w := by
  exact den_seqs 1 (takeS 1 (dropS 3 code_xxh_Hash_joined)) g w (by kernel_rfl) (xxh_Hash_joined_p11_ok (thenE (fun g w => den pg ann_xxh_Hash_joined (dropS 1 (takeS 1 (dropS 3 code_xxh_Hash_joined))) Q g w) Q) g w (fun h_0 x_3 t13 t14 w => xxh_Hash_joined_p10 kn h_0 x_3 t13 t14 w) (fun g w h => (xxh_Hash_joined_p10_ok Q g w kn hn h)) h)

def xxh_Hash_joined_p13 (R : Value → World → Prop) (h_0 x_3 : Value) (w : World) : Prop :=
  xxh_Hash_joined_p12 (fun h_0 x_3 w => xxh_Hash_joined_p7 R h_0 x_3 w) h_0 x_3 w
theorem xxh_Hash_joined_p13_ok (Q : Exit → Env → World → Prop) (g : Env) (w : World) (R : Value → World → Prop) (hr : ∀ g w, (resVals pg rs_xxh_Hash_joined g w fun vs => R (tup vs) w) → Q .ret g w) (h : xxh_Hash_joined_p13 R (g 0) (g 3) w) : den pg ann_xxh_Hash_joined (dropS 3 code_xxh_Hash_joined) Q g w := by
  exact den_seqs 1 (dropS 3 code_xxh_Hash_joined) g w (by kernel_rfl) (xxh_Hash_joined_p12_ok (thenE (fun g w => den pg ann_xxh_Hash_joined (dropS 1 (dropS 3 code_xxh_Hash_joined)) Q g w) Q) g w (fun h_0 x_3 w => xxh_Hash_joined_p7 R h_0 x_3 w) (fun g w h => (xxh_Hash_joined_p7_ok Q g w R hr h)) h)

def xxh_Hash_joined_p14 (kn : Value → Value → World → Prop) (R : Value → World → Prop) (h_0 : Value) (w : World) : Prop :=
  Stp pg (sNil h_0) w fun t9 w =>
  Stp pg (sFAddr 41 t9 3) w fun t10 w =>
  Stp pg (sLoad 28 t10) w fun t11 w =>
  Stp pg (sBin .lss 28 (.tmp 11) (.const (.int .u64 32)) t11 (.int .u64 32)) w fun t12 w =>
  Cnd t12
    (R (.int .u64 2870177450012600261) w)
    (kn h_0 (.int .u64 0) w)
theorem xxh_Hash_joined_p14_ok (Q : Exit → Env → World → Prop) (g : Env) (w : World) (kn : Value → Value → World → Prop) (R : Value → World → Prop) (hn : ∀ g w, kn (g 0) (g 3) w → Q .normal g w) (hr : ∀ g w, (resVals pg rs_xxh_Hash_joined g w fun vs => R (tup vs) w) → Q .ret g w) (h : xxh_Hash_joined_p14 kn R (g 0) w) : den pg ann_xxh_Hash_joined (takeS 3 code_xxh_Hash_joined) Q g w := by
  have e : (xxh_Hash_joined_p14 kn R (g 0) w) = den pg ann_xxh_Hash_joined (takeS 3 code_xxh_Hash_joined) (exQ (fun g w => kn (g 0) (g 3) w) (fun g w => resVals pg rs_xxh_Hash_joined g w fun vs => R (tup vs) w) []) g w := by kernel_rfl
  exact den_exQ e h hn hr trivial

def xxh_Hash_joined_p15 (R : Value → World → Prop) (h_0 : Value) (w : World) : Prop :=
  xxh_Hash_joined_p14 (fun h_0 x_3 w => xxh_Hash_joined_p13 R h_0 x_3 w) R h_0 w
theorem xxh_Hash_joined_p15_ok (Q : Exit → Env → World → Prop) (g : Env) (w : World) (R : Value → World → Prop) (hr : ∀ g w, (resVals pg rs_xxh_Hash_joined g w fun vs => R (tup vs) w) → Q .ret g w) (h : xxh_Hash_joined_p15 R (g 0) w) : den pg ann_xxh_Hash_joined code_xxh_Hash_joined Q g w := by
  exact den_seqs 3 code_xxh_Hash_joined g w (by kernel_rfl) (xxh_Hash_joined_p14_ok (thenE (fun g w => den pg ann_xxh_Hash_joined (dropS 3 code_xxh_Hash_joined) Q g w) Q) g w (fun h_0 x_3 w => xxh_Hash_joined_p13 R h_0 x_3 w) R (fun g w h => (xxh_Hash_joined_p13_ok Q g w R hr h)) hr h)

def xxh_Hash_joined (a0 : Value) (w : World) (R : Value → World → Prop) : Prop :=
  xxh_Hash_joined_p15 R a0 w
theorem xxh_Hash_joined_does {a0 : Value} {w : World} {R : Value → World → Prop} (h : xxh_Hash_joined a0 w R) : Does pg F_xxh_Hash_joined #[a0] w R := by
  refine does_of_den (ann := ann_xxh_Hash_joined) (fn := Try.f15) (c := code_xxh_Hash_joined) (args := [a0]) (rs := rs_xxh_Hash_joined) (N := 44) TryM.mixed Try.func15 (by kernel_rfl) (by kernel_rfl) (by kernel_rfl) (of_decide_eq_true (by kernel_rfl)) (by kernel_rfl) ?_
  exact (xxh_Hash_joined_p15_ok (retQ pg rs_xxh_Hash_joined R) (envOf [a0]) w R (fun _ _ h => h) h)
-- PIECES xxh_Hash_joined/0 xxh_Hash_joined_p1 xxh_Hash_joined_p3 xxh_Hash_joined_p4 xxh_Hash_joined_p5 xxh_Hash_joined_p6 xxh_Hash_joined_p7 xxh_Hash_joined_p9 xxh_Hash_joined_p10 xxh_Hash_joined_p11 xxh_Hash_joined_p12 xxh_Hash_joined_p13 xxh_Hash_joined_p14 xxh_Hash_joined_p15
-- PIECES xxh_Hash_joined/1 xxh_Hash_joined_p2
-- PIECES xxh_Hash_joined/2 xxh_Hash_joined_p8

/- math/bits.RotateLeft64 -/
def ann_math_bits_RotateLeft64 : Nat → Ann × Plan := fun i => (([], []), [])
def rs_math_bits_RotateLeft64 : List ResultVar := [.tmp 4]
noncomputable def code_math_bits_RotateLeft64 : Code := bodyOf Try.f16
def math_bits_RotateLeft64_p1 (R : Value → World → Prop) (x_0 k_1 : Value) (w : World) : Prop :=
  Stp pg (sCvt 3 44 k_1) w fun t7 w =>
  Stp pg (sBin .and 44 (.tmp 7) (.const (.int .u64 63)) t7 (.int .u64 63)) w fun t8 w =>
  Stp pg (sBin .shl 28 (.tmp 9) (.tmp 10) x_0 t8) w fun t11 w =>
  Stp pg (sBin .sub 44 (.const (.int .u64 64)) (.tmp 13) (.int .u64 64) t8) w fun t14 w =>
  Stp pg (sBin .shr 28 (.tmp 12) (.tmp 14) x_0 t14) w fun t15 w =>
  Stp pg (sBin .or 28 (.tmp 11) (.tmp 15) t11 t15) w fun t16 w =>
  R t16 w
theorem math_bits_RotateLeft64_p1_ok (Q : Exit → Env → World → Prop) (g : Env) (w : World) (R : Value → World → Prop) (hr : ∀ g w, (resVals pg rs_math_bits_RotateLeft64 g w fun vs => R (tup vs) w) → Q .ret g w) (h : math_bits_RotateLeft64_p1 R (g 0) (g 1) w) : den pg ann_math_bits_RotateLeft64 code_math_bits_RotateLeft64 Q g w := by
  have e : (math_bits_RotateLeft64_p1 R (g 0) (g 1) w) = den pg ann_math_bits_RotateLeft64 code_math_bits_RotateLeft64 (exQ (fun _ _ => False) (fun g w => resVals pg rs_math_bits_RotateLeft64 g w fun vs => R (tup vs) w) []) g w := by kernel_rfl
  exact den_exQ e h (fun _ _ h => h.elim) hr trivial

def math_bits_RotateLeft64 (a0 a1 : Value) (w : World) (R : Value → World → Prop) : Prop :=
  math_bits_RotateLeft64_p1 R a0 a1 w
theorem math_bits_RotateLeft64_does {a0 a1 : Value} {w : World} {R : Value → World → Prop} (h : math_bits_RotateLeft64 a0 a1 w R) : Does pg F_math_bits_RotateLeft64 #[a0, a1] w R := by
  refine does_of_den (ann := ann_math_bits_RotateLeft64) (fn := Try.f16) (c := code_math_bits_RotateLeft64) (args := [a0, a1]) (rs := rs_math_bits_RotateLeft64) (N := 17) TryM.mixed Try.func16 (by kernel_rfl) (by kernel_rfl) (by kernel_rfl) (of_decide_eq_true (by kernel_rfl)) (by kernel_rfl) ?_
  exact (math_bits_RotateLeft64_p1_ok (retQ pg rs_math_bits_RotateLeft64 R) (envOf [a0, a1]) w R (fun _ _ h => h) h)
-- PIECES math_bits_RotateLeft64/0 math_bits_RotateLeft64_p1

/- lighterman/lightermanref03.round -/
def ann_ref03_round : Nat → Ann × Plan := fun i => (([], []), [])
def rs_ref03_round : List ResultVar := [.tmp 4]
noncomputable def code_ref03_round : Code := bodyOf Try.f17
def ref03_round_p1 (R : Value → World → Prop) (v_0 x_1 : Value) (w : World) : Prop :=
  Stp pg (sBin .mul 28 (.tmp 7) (.const (.int .u64 14029467366897019727)) x_1 (.int .u64 14029467366897019727)) w fun t8 w =>
  Stp pg (sBin .add 28 (.tmp 6) (.tmp 8) v_0 t8) w fun t9 w =>
  Does pg F_ref03_turn #[t9, (.int .u64 31)] w fun t11 w =>
  Stp pg (sBin .mul 28 (.tmp 11) (.const (.int .u64 11400714785074694791)) t11 (.int .u64 11400714785074694791)) w fun t12 w =>
  R t12 w
theorem ref03_round_p1_ok (Q : Exit → Env → World → Prop) (g : Env) (w : World) (R : Value → World → Prop) (hr : ∀ g w, (resVals pg rs_ref03_round g w fun vs => R (tup vs) w) → Q .ret g w) (h : ref03_round_p1 R (g 0) (g 1) w) : den pg ann_ref03_round code_ref03_round Q g w := by
  have e : (ref03_round_p1 R (g 0) (g 1) w) = den pg ann_ref03_round code_ref03_round (exQ (fun _ _ => False) (fun g w => resVals pg rs_ref03_round g w fun vs => R (tup vs) w) []) g w := by kernel_rfl
  exact den_exQ e h (fun _ _ h => h.elim) hr trivial

def ref03_round (a0 a1 : Value) (w : World) (R : Value → World → Prop) : Prop :=
  ref03_round_p1 R a0 a1 w
theorem ref03_round_does {a0 a1 : Value} {w : World} {R : Value → World → Prop} (h : ref03_round a0 a1 w R) : Does pg F_ref03_round #[a0, a1] w R := by
  refine does_of_den (ann := ann_ref03_round) (fn := Try.f17) (c := code_ref03_round) (args := [a0, a1]) (rs := rs_ref03_round) (N := 13) TryM.mixed Try.func17 (by kernel_rfl) (by kernel_rfl) (by kernel_rfl) (of_decide_eq_true (by kernel_rfl)) (by kernel_rfl) ?_
  exact (ref03_round_p1_ok (retQ pg rs_ref03_round R) (envOf [a0, a1]) w R (fun _ _ h => h) h)
-- PIECES ref03_round/0 ref03_round_p1

/- lighterman/lightermanref03.at -/
def ann_ref03_at : Nat → Ann × Plan := fun i => (([], []), [])
def rs_ref03_at : List ResultVar := [.tmp 6]
noncomputable def code_ref03_at : Code := bodyOf Try.f18
def ref03_at_p1 (R : Value → World → Prop) (s_0 i_1 n_2 : Value) (w : World) : Prop :=
  Stp pg (sSlice 9 s_0 (some i_1) none none) w fun t12 w =>
  Stp pg (sBuild 50 [(0, t12)]) w fun t13 w =>
  Does pg F_ref01_Number #[t13, n_2] w fun t15 w =>
  Stp pg (sExtr t15 0) w fun t16 w =>
  Stp pg (sExtr t15 1) w fun t17 w =>
  Stp pg (sAlloc 50) w fun t7 w =>
  Stp pg (sStore 50 t7 t16) w fun _u w =>
  R t17 w
theorem ref03_at_p1_ok (Q : Exit → Env → World → Prop) (g : Env) (w : World) (R : Value → World → Prop) (hr : ∀ g w, (resVals pg rs_ref03_at g w fun vs => R (tup vs) w) → Q .ret g w) (h : ref03_at_p1 R (g 0) (g 1) (g 2) w) : den pg ann_ref03_at code_ref03_at Q g w := by
  have e : (ref03_at_p1 R (g 0) (g 1) (g 2) w) = den pg ann_ref03_at code_ref03_at (exQ (fun _ _ => False) (fun g w => resVals pg rs_ref03_at g w fun vs => R (tup vs) w) []) g w := by kernel_rfl
  exact den_exQ e h (fun _ _ h => h.elim) hr trivial

def ref03_at (a0 a1 a2 : Value) (w : World) (R : Value → World → Prop) : Prop :=
  ref03_at_p1 R a0 a1 a2 w
theorem ref03_at_does {a0 a1 a2 : Value} {w : World} {R : Value → World → Prop} (h : ref03_at a0 a1 a2 w R) : Does pg F_ref03_at #[a0, a1, a2] w R := by
  refine does_of_den (ann := ann_ref03_at) (fn := Try.f18) (c := code_ref03_at) (args := [a0, a1, a2]) (rs := rs_ref03_at) (N := 19) TryM.mixed Try.func18 (by kernel_rfl) (by kernel_rfl) (by kernel_rfl) (of_decide_eq_true (by kernel_rfl)) (by kernel_rfl) ?_
  exact (ref03_at_p1_ok (retQ pg rs_ref03_at R) (envOf [a0, a1, a2]) w R (fun _ _ h => h) h)
-- PIECES ref03_at/0 ref03_at_p1

/- lighterman/lightermanref03.turn -/
def ann_ref03_turn : Nat → Ann × Plan := fun i => (([], []), [])
def rs_ref03_turn : List ResultVar := [.tmp 4]
noncomputable def code_ref03_turn : Code := bodyOf Try.f19
def ref03_turn_p1 (R : Value → World → Prop) (x_0 n_1 : Value) (w : World) : Prop :=
  Stp pg (sBin .shl 28 (.tmp 5) (.tmp 6) x_0 n_1) w fun t7 w =>
  Stp pg (sBin .sub 44 (.const (.int .u64 64)) (.tmp 9) (.int .u64 64) n_1) w fun t10 w =>
  Stp pg (sBin .shr 28 (.tmp 8) (.tmp 10) x_0 t10) w fun t11 w =>
  Stp pg (sBin .or 28 (.tmp 7) (.tmp 11) t7 t11) w fun t12 w =>
  R t12 w
theorem ref03_turn_p1_ok (Q : Exit → Env → World → Prop) (g : Env) (w : World) (R : Value → World → Prop) (hr : ∀ g w, (resVals pg rs_ref03_turn g w fun vs => R (tup vs) w) → Q .ret g w) (h : ref03_turn_p1 R (g 0) (g 1) w) : den pg ann_ref03_turn code_ref03_turn Q g w := by
  have e : (ref03_turn_p1 R (g 0) (g 1) w) = den pg ann_ref03_turn code_ref03_turn (exQ (fun _ _ => False) (fun g w => resVals pg rs_ref03_turn g w fun vs => R (tup vs) w) []) g w := by kernel_rfl
  exact den_exQ e h (fun _ _ h => h.elim) hr trivial

def ref03_turn (a0 a1 : Value) (w : World) (R : Value → World → Prop) : Prop :=
  ref03_turn_p1 R a0 a1 w
theorem ref03_turn_does {a0 a1 : Value} {w : World} {R : Value → World → Prop} (h : ref03_turn a0 a1 w R) : Does pg F_ref03_turn #[a0, a1] w R := by
  refine does_of_den (ann := ann_ref03_turn) (fn := Try.f19) (c := code_ref03_turn) (args := [a0, a1]) (rs := rs_ref03_turn) (N := 13) TryM.mixed Try.func19 (by kernel_rfl) (by kernel_rfl) (by kernel_rfl) (of_decide_eq_true (by kernel_rfl)) (by kernel_rfl) ?_
  exact (ref03_turn_p1_ok (retQ pg rs_ref03_turn R) (envOf [a0, a1]) w R (fun _ _ h => h) h)
-- PIECES ref03_turn/0 ref03_turn_p1

/- lighterman/lightermanref01.Number -/
def ann_ref01_Number : Nat → Ann × Plan := fun i => (([], []), [])
def rs_ref01_Number : List ResultVar := [.cell 4 50, .tmp 5]
noncomputable def code_ref01_Number : Code := bodyOf Try.f20
def ref01_Number_p1 (R : Value → World → Prop) (r_2 t4 x_7 : Value) (w : World) : Prop :=
  Stp pg (sLoad 50 r_2) w fun t44 w =>
  Stp pg (sStore 50 t4 t44) w fun _u w =>
  LdR pg 50 t4 w fun r0 => R (.tuple #[r0, x_7]) w
theorem ref01_Number_p1_ok (Q : Exit → Env → World → Prop) (g : Env) (w : World) (R : Value → World → Prop) (hr : ∀ g w, (resVals pg rs_ref01_Number g w fun vs => R (tup vs) w) → Q .ret g w) (h : ref01_Number_p1 R (g 2) (g 4) (g 7) w) : den pg ann_ref01_Number (dropS 1 (dropS 3 (dropS 2 code_ref01_Number))) Q g w := by
  have e : (ref01_Number_p1 R (g 2) (g 4) (g 7) w) = den pg ann_ref01_Number (dropS 1 (dropS 3 (dropS 2 code_ref01_Number))) (exQ (fun _ _ => False) (fun g w => resVals pg rs_ref01_Number g w fun vs => R (tup vs) w) []) g w := by kernel_rfl
  exact den_exQ e h (fun _ _ h => h.elim) hr trivial

def ref01_Number_p2 (kn : Value → Value → Value → Value → Value → Value → World → Prop) (k0 : Value → Value → Value → World → Prop) (r_2 t4 s_6 x_7 m_8 i_9 : Value) (w : World) : Prop :=
  Stp pg (sBi .len #[9] 3 [s_6]) w fun t30 w =>
  Stp pg (sBin .lss 3 (.tmp 28) (.tmp 30) i_9 t30) w fun t31 w =>
  Cnd t31
    (Stp pg (sIdx 9 s_6 i_9) w fun t37 w =>
    Stp pg (sCvt 5 28 t37) w fun t38 w =>
    Stp pg (sBin .mul 28 (.tmp 38) (.tmp 39) t38 m_8) w fun t40 w =>
    Stp pg (sBin .add 28 (.tmp 34) (.tmp 40) x_7 t40) w fun t41 w =>
    Stp pg (sBin .mul 28 (.tmp 42) (.const (.int .u64 256)) m_8 (.int .u64 256)) w fun t43 w =>
    Stp pg (sBin .add 3 (.tmp 32) (.const (.int .i64 1)) i_9 (.int .i64 1)) w fun t33 w =>
    kn r_2 t4 s_6 t41 t43 t33 w)
    (k0 r_2 t4 x_7 w)
theorem ref01_Number_p2_ok (Q : Exit → Env → World → Prop) (g : Env) (w : World) (kn : Value → Value → Value → Value → Value → Value → World → Prop) (k0 : Value → Value → Value → World → Prop) (hn : ∀ g w, kn (g 2) (g 4) (g 6) (g 7) (g 8) (g 9) w → Q .normal g w) (h0 : ∀ g w, k0 (g 2) (g 4) (g 7) w → Q (.exit 0) g w) (h : ref01_Number_p2 kn k0 (g 2) (g 4) (g 6) (g 7) (g 8) (g 9) w) : den pg ann_ref01_Number (bI (bI (dropS 1 (takeS 1 (dropS 3 (dropS 2 code_ref01_Number)))))) Q g w := by
  have e : (ref01_Number_p2 kn k0 (g 2) (g 4) (g 6) (g 7) (g 8) (g 9) w) = den pg ann_ref01_Number (bI (bI (dropS 1 (takeS 1 (dropS 3 (dropS 2 code_ref01_Number)))))) (exQ (fun g w => kn (g 2) (g 4) (g 6) (g 7) (g 8) (g 9) w) (fun _ _ => False) [(0, fun g w => k0 (g 2) (g 4) (g 7) w)]) g w := by kernel_rfl
  exact den_exQ e h hn (fun _ _ h => h.elim) ⟨h0, trivial⟩

def ref01_Number_p3 (k0 : Value → Value → Value → World → Prop) (r_2 t4 s_6 x_7 m_8 i_9 : Value) (w : World) : Prop :=
  LoopD (fun (X : (Value × Value × Value) → World → Prop) (t : Value × Value × Value) (w : World) => ref01_Number_p2 (fun _ _ _ x_7 m_8 i_9 w => X (x_7, m_8, i_9) w) k0 r_2 t4 s_6 t.1 t.2.1 t.2.2 w) (x_7, m_8, i_9) w
theorem ref01_Number_p3_ok (Q : Exit → Env → World → Prop) (g : Env) (w : World) (k0 : Value → Value → Value → World → Prop) (h0 : ∀ g w, k0 (g 2) (g 4) (g 7) w → Q (.exit 0) g w) (h : ref01_Number_p3 k0 (g 2) (g 4) (g 6) (g 7) (g 8) (g 9) w) : den pg ann_ref01_Number (bI (dropS 1 (takeS 1 (dropS 3 (dropS 2 code_ref01_Number))))) Q g w := by
  refine den_loops (T := Value × Value × Value) (fun g : Env => (g 7, g 8, g 9)) (fun X t w => ref01_Number_p2 (fun _ _ _ x_7 m_8 i_9 w => X (x_7, m_8, i_9) w) k0 (g 2) (g 4) (g 6) t.1 t.2.1 t.2.2 w) (bI (dropS 1 (takeS 1 (dropS 3 (dropS 2 code_ref01_Number))))) (by kernel_rfl) h (fun X g1 w1 ha h1 => ?_)
  rw [← agree_at (s := 2) ha (by kernel_rfl)] at h1
  rw [← agree_at (s := 4) ha (by kernel_rfl)] at h1
  rw [← agree_at (s := 6) ha (by kernel_rfl)] at h1
  exact (ref01_Number_p2_ok (thenE (fun g2 w2 => X ((fun g : Env => (g 7, g 8, g 9)) g2) w2) Q) g1 w1 (fun _ _ _ x_7 m_8 i_9 w => X (x_7, m_8, i_9) w) k0 (fun _ _ h => h) h0 h1)

def ref01_Number_p4 (kn : Value → Value → Value → World → Prop) (r_2 t4 s_6 x_7 m_8 i_9 : Value) (w : World) : Prop :=
  ref01_Number_p3 kn r_2 t4 s_6 x_7 m_8 i_9 w
theorem ref01_Number_p4_ok (Q : Exit → Env → World → Prop) (g : Env) (w : World) (kn : Value → Value → Value → World → Prop) (hn : ∀ g w, kn (g 2) (g 4) (g 7) w → Q .normal g w) (h : ref01_Number_p4 kn (g 2) (g 4) (g 6) (g 7) (g 8) (g 9) w) : den pg ann_ref01_Number (dropS 1 (takeS 1 (dropS 3 (dropS 2 code_ref01_Number)))) Q g w :=
  den_blk 0 (dropS 1 (takeS 1 (dropS 3 (dropS 2 code_ref01_Number)))) g w (by kernel_rfl) (ref01_Number_p3_ok (blk 0 Q) g w kn hn h)

def ref01_Number_p5 (kn : Value → Value → Value → Value → Value → Value → World → Prop) (r_2 t4 s_6 x_7 m_8 : Value) (w : World) : Prop :=
  kn r_2 t4 s_6 x_7 m_8 (.int .i64 0) w
theorem ref01_Number_p5_ok (Q : Exit → Env → World → Prop) (g : Env) (w : World) (kn : Value → Value → Value → Value → Value → Value → World → Prop) (hn : ∀ g w, kn (g 2) (g 4) (g 6) (g 7) (g 8) (g 9) w → Q .normal g w) (h : ref01_Number_p5 kn (g 2) (g 4) (g 6) (g 7) (g 8) w) : den pg ann_ref01_Number (takeS 1 (takeS 1 (dropS 3 (dropS 2 code_ref01_Number)))) Q g w := by
  have e : (ref01_Number_p5 kn (g 2) (g 4) (g 6) (g 7) (g 8) w) = den pg ann_ref01_Number (takeS 1 (takeS 1 (dropS 3 (dropS 2 code_ref01_Number)))) (exQ (fun g w => kn (g 2) (g 4) (g 6) (g 7) (g 8) (g 9) w) (fun _ _ => False) []) g w := by kernel_rfl
  exact den_exQ e h hn (fun _ _ h => h.elim) trivial

def ref01_Number_p6 (kn : Value → Value → Value → World → Prop) (r_2 t4 s_6 x_7 m_8 : Value) (w : World) : Prop :=
  ref01_Number_p5 (fun r_2 t4 s_6 x_7 m_8 i_9 w => ref01_Number_p4 kn r_2 t4 s_6 x_7 m_8 i_9 w) r_2 t4 s_6 x_7 m_8 w
theorem ref01_Number_p6_ok (Q : Exit → Env → World → Prop) (g : Env) (w : World) (kn : Value → Value → Value → World → Prop) (hn : ∀ g w, kn (g 2) (g 4) (g 7) w → Q .normal g w) (h : ref01_Number_p6 kn (g 2) (g 4) (g 6) (g 7) (g 8) w) : den pg ann_ref01_Number (takeS 1 (dropS 3 (dropS 2 code_ref01_Number))) Q g w := by
  exact den_seqs 1 (takeS 1 (dropS 3 (dropS 2 code_ref01_Number))) g w (by kernel_rfl) (ref01_Number_p5_ok (thenE (fun g w => den pg ann_ref01_Number (dropS 1 (takeS 1 (dropS 3 (dropS 2 code_ref01_Number)))) Q g w) Q) g w (fun r_2 t4 s_6 x_7 m_8 i_9 w => ref01_Number_p4 kn r_2 t4 s_6 x_7 m_8 i_9 w) (fun g w h => (ref01_Number_p4_ok Q g w kn hn h)) h)

def ref01_Number_p7 (R : Value → World → Prop) (r_2 t4 s_6 x_7 m_8 : Value) (w : World) : Prop :=
  ref01_Number_p6 (fun r_2 t4 x_7 w => ref01_Number_p1 R r_2 t4 x_7 w) r_2 t4 s_6 x_7 m_8 w
theorem ref01_Number_p7_ok (Q : Exit → Env → World → Prop) (g : Env) (w : World) (R : Value → World → Prop) (hr : ∀ g w, (resVals pg rs_ref01_Number g w fun vs => R (tup vs) w) → Q .ret g w) (h : ref01_Number_p7 R (g 2) (g 4) (g 6) (g 7) (g 8) w) : den pg ann_ref01_Number (dropS 3 (dropS 2 code_ref01_Number)) Q g w := by
  exact den_seqs 1 (dropS 3 (dropS 2 code_ref01_Number)) g w (by kernel_rfl) (ref01_Number_p6_ok (thenE (fun g w => den pg ann_ref01_Number (dropS 1 (dropS 3 (dropS 2 code_ref01_Number))) Q g w) Q) g w (fun r_2 t4 x_7 w => ref01_Number_p1 R r_2 t4 x_7 w) (fun g w h => (ref01_Number_p1_ok Q g w R hr h)) h)

def ref01_Number_p8 (kn : Value → Value → Value → Value → Value → World → Prop) (n_1 r_2 t4 : Value) (w : World) : Prop :=
  Stp pg (sLoad 50 r_2) w fun t23 w =>
  Does pg F_ref01_Take #[t23, n_1] w fun t25 w =>
  Stp pg (sExtr t25 0) w fun t26 w =>
  Stp pg (sExtr t25 1) w fun t27 w =>
  Stp pg (sStore 50 r_2 t26) w fun _u w =>
  kn r_2 t4 t27 (.int .u64 0) (.int .u64 1) w
theorem ref01_Number_p8_ok (Q : Exit → Env → World → Prop) (g : Env) (w : World) (kn : Value → Value → Value → Value → Value → World → Prop) (hn : ∀ g w, kn (g 2) (g 4) (g 6) (g 7) (g 8) w → Q .normal g w) (h : ref01_Number_p8 kn (g 1) (g 2) (g 4) w) : den pg ann_ref01_Number (takeS 3 (dropS 2 code_ref01_Number)) Q g w := by
  have e : (ref01_Number_p8 kn (g 1) (g 2) (g 4) w) = den pg ann_ref01_Number (takeS 3 (dropS 2 code_ref01_Number)) (exQ (fun g w => kn (g 2) (g 4) (g 6) (g 7) (g 8) w) (fun _ _ => False) []) g w := by kernel_rfl
  exact den_exQ e h hn (fun _ _ h => h.elim) trivial

def ref01_Number_p9 (R : Value → World → Prop) (n_1 r_2 t4 : Value) (w : World) : Prop :=
  ref01_Number_p8 (fun r_2 t4 s_6 x_7 m_8 w => ref01_Number_p7 R r_2 t4 s_6 x_7 m_8 w) n_1 r_2 t4 w
theorem ref01_Number_p9_ok (Q : Exit → Env → World → Prop) (g : Env) (w : World) (R : Value → World → Prop) (hr : ∀ g w, (resVals pg rs_ref01_Number g w fun vs => R (tup vs) w) → Q .ret g w) (h : ref01_Number_p9 R (g 1) (g 2) (g 4) w) : den pg ann_ref01_Number (dropS 2 code_ref01_Number) Q g w := by
  exact den_seqs 3 (dropS 2 code_ref01_Number) g w (by kernel_rfl) (ref01_Number_p8_ok (thenE (fun g w => den pg ann_ref01_Number (dropS 3 (dropS 2 code_ref01_Number)) Q g w) Q) g w (fun r_2 t4 s_6 x_7 m_8 w => ref01_Number_p7 R r_2 t4 s_6 x_7 m_8 w) (fun g w h => (ref01_Number_p7_ok Q g w R hr h)) h)

def ref01_Number_p10 (kn : Value → Value → Value → World → Prop) (r_0 n_1 : Value) (w : World) : Prop :=
  Stp pg (sBox 50 r_0) w fun r_2 w =>
  Stp pg (sAlloc 50) w fun t4 w =>
  Stp pg (sFAddr 50 r_2 1) w fun t10 w =>
  Stp pg (sLoad 48 t10) w fun t11 w =>
  Stp pg (sBin .eql 48 (.tmp 11) (.const (.int .i64 0)) t11 (.int .i64 0)) w fun t12 w =>
  Gd (isB t12 true) (fun K => K n_1 w) w fun t14 w =>
  Gd (isB t12 true) (fun K => Stp pg (sBin .lss 3 (.tmp 14) (.const (.int .i64 1)) t14 (.int .i64 1)) w K) w fun t15 w =>
  Gd (isB t12 true) (fun K => K t15 w) w fun t16 w =>
  Gd (isB t16 false) (fun K => K n_1 w) w fun t17 w =>
  Gd (isB t16 false) (fun K => Stp pg (sBin .gtr 3 (.tmp 17) (.const (.int .i64 8)) t17 (.int .i64 8)) w K) w fun t18 w =>
  Gd (isB t12 true) (fun K => Stp pg (sPick t16 (.bool true) t18) w K) w fun t19 w =>
  Stp pg (sPick t12 t19 (.bool false)) w fun t20 w =>
  Cnd t20
    (Stp pg (sFAddr 50 r_2 1) w fun t21 w =>
    Stp pg (sStore 48 t21 (.int .i64 1)) w fun _u w =>
    kn n_1 r_2 t4 w)
    (kn n_1 r_2 t4 w)
theorem ref01_Number_p10_ok (Q : Exit → Env → World → Prop) (g : Env) (w : World) (kn : Value → Value → Value → World → Prop) (hn : ∀ g w, kn (g 1) (g 2) (g 4) w → Q .normal g w) (h : ref01_Number_p10 kn (g 0) (g 1) w) : den pg ann_ref01_Number (takeS 2 code_ref01_Number) Q g w := by
  have e : (ref01_Number_p10 kn (g 0) (g 1) w) = den pg ann_ref01_Number (takeS 2 code_ref01_Number) (exQ (fun g w => kn (g 1) (g 2) (g 4) w) (fun _ _ => False) []) g w := by kernel_rfl
  exact den_exQ e h hn (fun _ _ h => h.elim) trivial

def ref01_Number_p11 (R : Value → World → Prop) (r_0 n_1 : Value) (w : World) : Prop :=
  ref01_Number_p10 (fun n_1 r_2 t4 w => ref01_Number_p9 R n_1 r_2 t4 w) r_0 n_1 w
theorem ref01_Number_p11_ok (Q : Exit → Env → World → Prop) (g : Env) (w : World) (R : Value → World → Prop) (hr : ∀ g w, (resVals pg rs_ref01_Number g w fun vs => R (tup vs) w) → Q .ret g w) (h : ref01_Number_p11 R (g 0) (g 1) w) : den pg ann_ref01_Number code_ref01_Number Q g w := by
  exact den_seqs 2 code_ref01_Number g w (by kernel_rfl) (ref01_Number_p10_ok (thenE (fun g w => den pg ann_ref01_Number (dropS 2 code_ref01_Number) Q g w) Q) g w (fun n_1 r_2 t4 w => ref01_Number_p9 R n_1 r_2 t4 w) (fun g w h => (ref01_Number_p9_ok Q g w R hr h)) h)

def ref01_Number (a0 a1 : Value) (w : World) (R : Value → World → Prop) : Prop :=
  ref01_Number_p11 R a0 a1 w
theorem ref01_Number_does {a0 a1 : Value} {w : World} {R : Value → World → Prop} (h : ref01_Number a0 a1 w R) : Does pg F_ref01_Number #[a0, a1] w R := by
  refine does_of_den (ann := ann_ref01_Number) (fn := Try.f20) (c := code_ref01_Number) (args := [a0, a1]) (rs := rs_ref01_Number) (N := 46) TryM.mixed Try.func20 (by kernel_rfl) (by kernel_rfl) (by kernel_rfl) (of_decide_eq_true (by kernel_rfl)) (by kernel_rfl) ?_
  exact (ref01_Number_p11_ok (retQ pg rs_ref01_Number R) (envOf [a0, a1]) w R (fun _ _ h => h) h)
-- PIECES ref01_Number/0 ref01_Number_p1 ref01_Number_p3 ref01_Number_p4 ref01_Number_p5 ref01_Number_p6 ref01_Number_p7 ref01_Number_p8 ref01_Number_p9 ref01_Number_p10 ref01_Number_p11
-- PIECES ref01_Number/1 ref01_Number_p2

/- lighterman/lightermanref01.Take -/
def ann_ref01_Take : Nat → Ann × Plan := fun i => (([], []), [])
def rs_ref01_Take : List ResultVar := [.cell 4 50, .tmp 5]
noncomputable def code_ref01_Take : Code := bodyOf Try.f21
def ref01_Take_p1 (R : Value → World → Prop) (r_0 n_1 : Value) (w : World) : Prop :=
  Stp pg (sBox 50 r_0) w fun r_2 w =>
  Stp pg (sAlloc 50) w fun t4 w =>
  Stp pg (sFAddr 50 r_2 1) w fun t7 w =>
  Stp pg (sLoad 48 t7) w fun t8 w =>
  Stp pg (sBin .neq 48 (.tmp 8) (.const (.int .i64 0)) t8 (.int .i64 0)) w fun t9 w =>
  Cnd t9
    (Stp pg (sLoad 50 r_2) w fun t10 w =>
    Stp pg (sStore 50 t4 t10) w fun _u w =>
    LdR pg 50 t4 w fun r0 => R (.tuple #[r0, (.string ⟨#[]⟩)]) w)
    (Stp pg (sBin .lss 3 (.tmp 11) (.const (.int .i64 0)) n_1 (.int .i64 0)) w fun t12 w =>
    Cnd t12
      (Stp pg (sFAddr 50 r_2 1) w fun t13 w =>
      Stp pg (sStore 48 t13 (.int .i64 1)) w fun _u w =>
      Stp pg (sLoad 50 r_2) w fun t14 w =>
      Stp pg (sStore 50 t4 t14) w fun _u w =>
      LdR pg 50 t4 w fun r0 => R (.tuple #[r0, (.string ⟨#[]⟩)]) w)
      (Stp pg (sFAddr 50 r_2 0) w fun t16 w =>
      Stp pg (sLoad 9 t16) w fun t17 w =>
      Stp pg (sBi .len #[9] 3 [t17]) w fun t18 w =>
      Stp pg (sBin .gtr 3 (.tmp 15) (.tmp 18) n_1 t18) w fun t19 w =>
      Cnd t19
        (Stp pg (sFAddr 50 r_2 1) w fun t20 w =>
        Stp pg (sStore 48 t20 (.int .i64 10)) w fun _u w =>
        Stp pg (sLoad 50 r_2) w fun t21 w =>
        Stp pg (sStore 50 t4 t21) w fun _u w =>
        LdR pg 50 t4 w fun r0 => R (.tuple #[r0, (.string ⟨#[]⟩)]) w)
        (Stp pg (sFAddr 50 r_2 0) w fun t22 w =>
        Stp pg (sLoad 9 t22) w fun t23 w =>
        Stp pg (sSlice 9 t23 none (some n_1) none) w fun t25 w =>
        Stp pg (sFAddr 50 r_2 0) w fun t26 w =>
        Stp pg (sLoad 9 t26) w fun t27 w =>
        Stp pg (sSlice 9 t27 (some n_1) none none) w fun t29 w =>
        Stp pg (sFAddr 50 r_2 0) w fun t30 w =>
        Stp pg (sStore 9 t30 t29) w fun _u w =>
        Stp pg (sLoad 50 r_2) w fun t31 w =>
        Stp pg (sStore 50 t4 t31) w fun _u w =>
        LdR pg 50 t4 w fun r0 => R (.tuple #[r0, t25]) w)))
theorem ref01_Take_p1_ok (Q : Exit → Env → World → Prop) (g : Env) (w : World) (R : Value → World → Prop) (hr : ∀ g w, (resVals pg rs_ref01_Take g w fun vs => R (tup vs) w) → Q .ret g w) (h : ref01_Take_p1 R (g 0) (g 1) w) : den pg ann_ref01_Take code_ref01_Take Q g w := by
  have e : (ref01_Take_p1 R (g 0) (g 1) w) = den pg ann_ref01_Take code_ref01_Take (exQ (fun _ _ => False) (fun g w => resVals pg rs_ref01_Take g w fun vs => R (tup vs) w) []) g w := by kernel_rfl
  exact den_exQ e h (fun _ _ h => h.elim) hr trivial

def ref01_Take (a0 a1 : Value) (w : World) (R : Value → World → Prop) : Prop :=
  ref01_Take_p1 R a0 a1 w
theorem ref01_Take_does {a0 a1 : Value} {w : World} {R : Value → World → Prop} (h : ref01_Take a0 a1 w R) : Does pg F_ref01_Take #[a0, a1] w R := by
  refine does_of_den (ann := ann_ref01_Take) (fn := Try.f21) (c := code_ref01_Take) (args := [a0, a1]) (rs := rs_ref01_Take) (N := 33) TryM.mixed Try.func21 (by kernel_rfl) (by kernel_rfl) (by kernel_rfl) (of_decide_eq_true (by kernel_rfl)) (by kernel_rfl) ?_
  exact (ref01_Take_p1_ok (retQ pg rs_ref01_Take R) (envOf [a0, a1]) w R (fun _ _ h => h) h)
-- PIECES ref01_Take/0 ref01_Take_p1

end Go.Proofs.Ytblljiohpcbieaa

/- The pieces of bodies, written by a program of ours off the loaded code, each with its proof. -/
import Derived.Test.YtcbkdccobhkbpaaF
namespace Go.Proofs.Ytcbkdccobhkbpaa
open Go Go.En
set_option linter.unusedVariables false
set_option maxRecDepth 20000
attribute [local irreducible] Go.En.den
variable (Q : Exit → Env → World → Prop) (g : Env) (w : World)
/- lighterman/lightermanlaw07.FseBack -/
def ann_law07_FseBack : FA := ⟨F_law07_FseBack, fun i => match Nat.beq i 13 with | true => .leaf ([15, 16], []) [(false, []), (false, []), (false, []), (false, []), (false, []), (false, []), (false, []), (false, []), (false, []), (false, []), (false, []), (false, []), (false, []), (false, []), (false, []), (true, []), (true, []), (false, [])] | false => match Nat.beq i 15 with | true => .leaf ([7], []) [(false, []), (false, []), (false, []), (false, []), (false, []), (false, []), (false, []), (true, []), (false, []), (false, []), (false, []), (false, []), (false, [])] | false => match Nat.beq i 21 with | true => .leaf ([6], []) [(false, []), (false, []), (false, []), (false, []), (false, []), (false, []), (true, []), (false, []), (false, []), (false, []), (false, []), (false, []), (false, []), (false, []), (false, []), (false, [])] | false => match Nat.beq i 34 with | true => .leaf ([], []) [(false, []), (false, []), (false, []), (false, []), (false, []), (false, []), (false, []), (false, []), (false, []), (false, []), (false, []), (false, []), (false, []), (false, []), (false, []), (false, []), (false, []), (false, []), (false, []), (false, []), (false, []), (false, [])] | false => .leaf ([], []) []⟩
def rs_law07_FseBack : List ResultVar := [.tmp 4]
noncomputable def code_law07_FseBack : Code := bodyOf Try.f7
def law07_FseBack_p1 (R : K1) (r_18 : Value) (w : World) : Prop :=
  Does pg F_bits_Backward_Left #[r_18] w fun t172 w =>
  Stp pg (sBin .eql 3 (.tmp 172) (.const (.int .i64 0)) t172 (.int .i64 0)) w fun t173 w =>
  R t173 w
theorem law07_FseBack_p1_ok (R : K1) (hr : HR rs_law07_FseBack R Q) (h : law07_FseBack_p1 R (g 18) w) : den pg ann_law07_FseBack (dropS 1 (dropS 4 (dropS 1 (dropS 3 (dropS 1 (dropS 7 code_law07_FseBack)))))) Q g w :=
  den_exQ (kn := no) (l := []) (by kernel_rfl) h noE hr trivial

def law07_FseBack_p2 (kn : K5) (t6 l_8 s_11 r_18 i_20 : Value) (w : World) : Prop :=
  Stp pg (sBin .add 3 (.tmp 138) (.const (.int .i64 1)) i_20 (.int .i64 1)) w fun t139 w =>
  kn t6 l_8 s_11 r_18 t139 w
theorem law07_FseBack_p2_ok (kn : K5) (hn : ∀ g w, kn (g 6) (g 8) (g 11) (g 18) (g 20) w → Q .normal g w) (h : law07_FseBack_p2 kn (g 6) (g 8) (g 11) (g 18) (g 20) w) : den pg ann_law07_FseBack (dropS 2 (bI (bI (dropS 1 (takeS 1 (dropS 4 (dropS 1 (dropS 3 (dropS 1 (dropS 7 code_law07_FseBack)))))))))) Q g w :=
  den_exQ (kr := no) (l := []) (by kernel_rfl) h hn noE trivial

def law07_FseBack_p3 (kn : K5) (k4 : K1) (R : K1) (t6 l_8 s_11 r_18 i_20 : Value) (w : World) : Prop :=
  Stp pg (sBi .len #[52] 3 [l_8]) w fun t136 w =>
  Stp pg (sBin .lss 3 (.tmp 134) (.tmp 136) i_20 t136) w fun t137 w =>
  Cnd t137
    ((dr w) = (dr w) ∧
    Stp pg (sBin .lss 3 (.tmp 140) (.const (.int .i64 0)) s_11 (.int .i64 0)) (dr w) fun t141 w_ => w_ = (dr w) ∧
    (dr w) = (dr w) ∧
    Gd (isB t141 false) (fun K => K s_11 (dr w)) (dr w) fun t143 w_ => w_ = (dr w) ∧
    Gd (isB t141 false) (fun K => Stp pg (sFAddr 28 t6 1) (dr w) K) (dr w) fun t144 w_ => w_ = (dr w) ∧
    Gd (isB t141 false) (fun K => Stp pg (sLoad 26 t144) (dr w) K) (dr w) fun t145 w_ => w_ = (dr w) ∧
    Gd (isB t141 false) (fun K => Stp pg (sBi .len #[26] 3 [t145]) (dr w) K) (dr w) fun t146 w_ => w_ = (dr w) ∧
    Gd (isB t141 false) (fun K => Stp pg (sBin .geq 3 (.tmp 143) (.tmp 146) t143 t146) (dr w) K) (dr w) fun t147 w_ => w_ = (dr w) ∧
    Stp pg (sPick t141 (.bool true) t147) (dr w) fun t148 w_ => w_ = (dr w) ∧
    (dr w) = (dr w) ∧
    Gd (isB t148 false) (fun K => Stp pg (sFAddr 28 t6 1) (dr w) K) (dr w) fun t150 w_ => w_ = (dr w) ∧
    Gd (isB t148 false) (fun K => Stp pg (sLoad 26 t150) (dr w) K) (dr w) fun t151 w_ => w_ = (dr w) ∧
    Gd (isB t148 false) (fun K => K s_11 (dr w)) (dr w) fun t152 w_ => w_ = (dr w) ∧
    Gd (isB t148 false) (fun K => Stp pg (sIAddr 26 t151 t152) (dr w) K) (dr w) fun t153 w_ => w_ = (dr w) ∧
    Gd (isB t148 false) (fun K => Stp pg (sFAddr 43 t153 0) (dr w) K) (dr w) fun t154 w_ => w_ = (dr w) ∧
    Gd (isB t148 false) (fun K => Stp pg (sLoad 5 t154) (dr w) K) (dr w) fun t155 w_ => w_ = (dr w) ∧
    Gd (isB t148 false) (fun K => K l_8 (dr w)) (dr w) fun t156 w_ => w_ = (dr w) ∧
    Gd (isB t148 false) (fun K => K i_20 (dr w)) (dr w) fun t157 w_ => w_ = (dr w) ∧
    Gd (isB t148 false) (fun K => Stp pg (sIAddr 52 t156 t157) (dr w) K) (dr w) fun t158 w_ => w_ = (dr w) ∧
    Gd (isB t148 false) (fun K => Stp pg (sLoad 5 t158) (dr w) K) (dr w) fun t159 w_ => w_ = (dr w) ∧
    Gd (isB t148 false) (fun K => Stp pg (sBin .neq 5 (.tmp 155) (.tmp 159) t155 t159) (dr w) K) (dr w) fun t160 w_ => w_ = (dr w) ∧
    Stp pg (sPick t148 (.bool true) t160) (dr w) fun t161 w_ => w_ = (dr w) ∧
    Cnd t161
      (R (.bool false) (dr w))
      (Stp pg (sBi .len #[52] 3 [l_8]) (dr w) fun t164 w =>
      Stp pg (sBin .sub 3 (.tmp 164) (.const (.int .i64 1)) t164 (.int .i64 1)) w fun t165 w =>
      Stp pg (sBin .lss 3 (.tmp 162) (.tmp 165) i_20 t165) w fun t166 w =>
      Cnd t166
        (Stp pg (sLoad 28 t6) w fun t167 w =>
        Does pg F_fse_Next #[t167, s_11, r_18] w fun t170 w =>
        kn t6 l_8 t170 r_18 i_20 w)
        (kn t6 l_8 s_11 r_18 i_20 w)))
    (k4 r_18 w)
theorem law07_FseBack_p3_ok (kn : K5) (k4 : K1) (R : K1) (hn : ∀ g w, kn (g 6) (g 8) (g 11) (g 18) (g 20) w → Q .normal g w) (h4 : ∀ g w, k4 (g 18) w → Q (.exit 4) g w) (hr : HR rs_law07_FseBack R Q) (h : law07_FseBack_p3 kn k4 R (g 6) (g 8) (g 11) (g 18) (g 20) w) : den pg ann_law07_FseBack (takeS 2 (bI (bI (dropS 1 (takeS 1 (dropS 4 (dropS 1 (dropS 3 (dropS 1 (dropS 7 code_law07_FseBack)))))))))) Q g w :=
  den_exQ (l := [(4, fun g w => k4 (g 18) w)]) (by kernel_rfl) h hn hr ⟨h4, trivial⟩

def law07_FseBack_p4 (kn : K5) (k4 : K1) (R : K1) (t6 l_8 s_11 r_18 i_20 : Value) (w : World) : Prop :=
  law07_FseBack_p3 (fun t6 l_8 s_11 r_18 i_20 w => law07_FseBack_p2 kn t6 l_8 s_11 r_18 i_20 w) k4 R t6 l_8 s_11 r_18 i_20 w
theorem law07_FseBack_p4_ok (kn : K5) (k4 : K1) (R : K1) (hn : ∀ g w, kn (g 6) (g 8) (g 11) (g 18) (g 20) w → Q .normal g w) (h4 : ∀ g w, k4 (g 18) w → Q (.exit 4) g w) (hr : HR rs_law07_FseBack R Q) (h : law07_FseBack_p4 kn k4 R (g 6) (g 8) (g 11) (g 18) (g 20) w) : den pg ann_law07_FseBack (bI (bI (dropS 1 (takeS 1 (dropS 4 (dropS 1 (dropS 3 (dropS 1 (dropS 7 code_law07_FseBack))))))))) Q g w :=
  den_seqs 2 _ g w (by kernel_rfl) (law07_FseBack_p3_ok (thenE (fun g w => den pg ann_law07_FseBack (dropS 2 (bI (bI (dropS 1 (takeS 1 (dropS 4 (dropS 1 (dropS 3 (dropS 1 (dropS 7 code_law07_FseBack)))))))))) Q g w) Q) g w (fun t6 l_8 s_11 r_18 i_20 w => law07_FseBack_p2 kn t6 l_8 s_11 r_18 i_20 w) k4 R (fun g w h => thenE_n (K := fun g w => den pg ann_law07_FseBack (dropS 2 (bI (bI (dropS 1 (takeS 1 (dropS 4 (dropS 1 (dropS 3 (dropS 1 (dropS 7 code_law07_FseBack)))))))))) Q g w) (law07_FseBack_p2_ok Q g w kn hn h)) h4 hr h)

def law07_FseBack_p5 (k4 : K1) (R : K1) (t6 l_8 s_11 r_18 i_20 : Value) (w : World) : Prop :=
  LoopD (fun (X : (Value × Value) → K0) (t : Value × Value) (w : World) => law07_FseBack_p4 (fun _ _ s_11 _ i_20 w => X (s_11, i_20) w) k4 R t6 l_8 t.1 r_18 t.2 w) (s_11, i_20) w
theorem law07_FseBack_p5_ok (k4 : K1) (R : K1) (h4 : ∀ g w, k4 (g 18) w → Q (.exit 4) g w) (hr : HR rs_law07_FseBack R Q) (h : law07_FseBack_p5 k4 R (g 6) (g 8) (g 11) (g 18) (g 20) w) : den pg ann_law07_FseBack (bI (dropS 1 (takeS 1 (dropS 4 (dropS 1 (dropS 3 (dropS 1 (dropS 7 code_law07_FseBack)))))))) Q g w := by
  refine den_loops (T := Value × Value) (fun g : Env => (g 11, g 20)) (fun X t w => law07_FseBack_p4 (fun _ _ s_11 _ i_20 w => X (s_11, i_20) w) k4 R (g 6) (g 8) t.1 (g 18) t.2 w) _ (by kernel_rfl) h (fun X g1 w1 ha h1 => ?_)
  rw [← agree_at (s := 6) ha (by kernel_rfl)] at h1
  rw [← agree_at (s := 8) ha (by kernel_rfl)] at h1
  rw [← agree_at (s := 18) ha (by kernel_rfl)] at h1
  exact (law07_FseBack_p4_ok (thenE (fun g2 w2 => X ((fun g : Env => (g 11, g 20)) g2) w2) Q) g1 w1 (fun _ _ s_11 _ i_20 w => X (s_11, i_20) w) k4 R (fun _ _ h => h) h4 hr h1)

def law07_FseBack_p6 (kn : K1) (R : K1) (t6 l_8 s_11 r_18 i_20 : Value) (w : World) : Prop :=
  law07_FseBack_p5 kn R t6 l_8 s_11 r_18 i_20 w
theorem law07_FseBack_p6_ok (kn : K1) (R : K1) (hn : ∀ g w, kn (g 18) w → Q .normal g w) (hr : HR rs_law07_FseBack R Q) (h : law07_FseBack_p6 kn R (g 6) (g 8) (g 11) (g 18) (g 20) w) : den pg ann_law07_FseBack (dropS 1 (takeS 1 (dropS 4 (dropS 1 (dropS 3 (dropS 1 (dropS 7 code_law07_FseBack))))))) Q g w :=
  den_blk 4 _ g w (by kernel_rfl) (law07_FseBack_p5_ok (blk 4 Q) g w kn R hn hr h)

def law07_FseBack_p7 (kn : K5) (t6 l_8 s_11 r_18 : Value) (w : World) : Prop :=
  kn t6 l_8 s_11 r_18 (.int .i64 0) w
theorem law07_FseBack_p7_ok (kn : K5) (hn : ∀ g w, kn (g 6) (g 8) (g 11) (g 18) (g 20) w → Q .normal g w) (h : law07_FseBack_p7 kn (g 6) (g 8) (g 11) (g 18) w) : den pg ann_law07_FseBack (takeS 1 (takeS 1 (dropS 4 (dropS 1 (dropS 3 (dropS 1 (dropS 7 code_law07_FseBack))))))) Q g w :=
  den_exQ (kr := no) (l := []) (by kernel_rfl) h hn noE trivial

def law07_FseBack_p8 (kn : K1) (R : K1) (t6 l_8 s_11 r_18 : Value) (w : World) : Prop :=
  law07_FseBack_p7 (fun t6 l_8 s_11 r_18 i_20 w => law07_FseBack_p6 kn R t6 l_8 s_11 r_18 i_20 w) t6 l_8 s_11 r_18 w
theorem law07_FseBack_p8_ok (kn : K1) (R : K1) (hn : ∀ g w, kn (g 18) w → Q .normal g w) (hr : HR rs_law07_FseBack R Q) (h : law07_FseBack_p8 kn R (g 6) (g 8) (g 11) (g 18) w) : den pg ann_law07_FseBack (takeS 1 (dropS 4 (dropS 1 (dropS 3 (dropS 1 (dropS 7 code_law07_FseBack)))))) Q g w :=
  den_seqs 1 _ g w (by kernel_rfl) (law07_FseBack_p7_ok (thenE (fun g w => den pg ann_law07_FseBack (dropS 1 (takeS 1 (dropS 4 (dropS 1 (dropS 3 (dropS 1 (dropS 7 code_law07_FseBack))))))) Q g w) Q) g w (fun t6 l_8 s_11 r_18 i_20 w => law07_FseBack_p6 kn R t6 l_8 s_11 r_18 i_20 w) (fun g w h => thenE_n (K := fun g w => den pg ann_law07_FseBack (dropS 1 (takeS 1 (dropS 4 (dropS 1 (dropS 3 (dropS 1 (dropS 7 code_law07_FseBack))))))) Q g w) (law07_FseBack_p6_ok Q g w kn R hn hr h)) h)

def law07_FseBack_p9 (R : K1) (t6 l_8 s_11 r_18 : Value) (w : World) : Prop :=
  law07_FseBack_p8 (fun r_18 w => law07_FseBack_p1 R r_18 w) R t6 l_8 s_11 r_18 w
theorem law07_FseBack_p9_ok (R : K1) (hr : HR rs_law07_FseBack R Q) (h : law07_FseBack_p9 R (g 6) (g 8) (g 11) (g 18) w) : den pg ann_law07_FseBack (dropS 4 (dropS 1 (dropS 3 (dropS 1 (dropS 7 code_law07_FseBack))))) Q g w :=
  den_seqs 1 _ g w (by kernel_rfl) (law07_FseBack_p8_ok (thenE (fun g w => den pg ann_law07_FseBack (dropS 1 (dropS 4 (dropS 1 (dropS 3 (dropS 1 (dropS 7 code_law07_FseBack)))))) Q g w) Q) g w (fun r_18 w => law07_FseBack_p1 R r_18 w) R (fun g w h => thenE_n (K := fun g w => den pg ann_law07_FseBack (dropS 1 (dropS 4 (dropS 1 (dropS 3 (dropS 1 (dropS 7 code_law07_FseBack)))))) Q g w) (law07_FseBack_p1_ok Q g w R hr h)) hr h)

def law07_FseBack_p10 (kn : K4) (R : K1) (t6 l_8 w_10 s_11 : Value) (w : World) : Prop :=
  Stp pg (sCvt 3 45 s_11) w fun t119 w =>
  Stp pg (sFAddr 28 t6 0) w fun t120 w =>
  Stp pg (sLoad 3 t120) w fun t121 w =>
  Does pg F_bits_Writer_Write #[w_10, t119, t121] w fun t122 w =>
  Does pg F_bits_Writer_Closed #[w_10] w fun t125 w =>
  Does pg F_bits_NewBackward #[t125] w fun t126 w =>
  Stp pg (sExtr t126 0) w fun t127 w =>
  Stp pg (sExtr t126 1) w fun t128 w =>
  Stp pg (sBin .neq 29 (.tmp 129) (.const (.int .i64 0)) t128 (.int .i64 0)) w fun t130 w =>
  Cnd t130
    (R (.bool false) w)
    (Stp pg (sLoad 28 t6) w fun t131 w =>
    Does pg F_fse_Start #[t131, t127] w fun t133 w =>
    kn t6 l_8 t133 t127 w)
theorem law07_FseBack_p10_ok (kn : K4) (R : K1) (hn : ∀ g w, kn (g 6) (g 8) (g 11) (g 18) w → Q .normal g w) (hr : HR rs_law07_FseBack R Q) (h : law07_FseBack_p10 kn R (g 6) (g 8) (g 10) (g 11) w) : den pg ann_law07_FseBack (takeS 4 (dropS 1 (dropS 3 (dropS 1 (dropS 7 code_law07_FseBack))))) Q g w :=
  den_exQ (l := []) (by kernel_rfl) h hn hr trivial

def law07_FseBack_p11 (R : K1) (t6 l_8 w_10 s_11 : Value) (w : World) : Prop :=
  law07_FseBack_p10 (fun t6 l_8 s_11 r_18 w => law07_FseBack_p9 R t6 l_8 s_11 r_18 w) R t6 l_8 w_10 s_11 w
theorem law07_FseBack_p11_ok (R : K1) (hr : HR rs_law07_FseBack R Q) (h : law07_FseBack_p11 R (g 6) (g 8) (g 10) (g 11) w) : den pg ann_law07_FseBack (dropS 1 (dropS 3 (dropS 1 (dropS 7 code_law07_FseBack)))) Q g w :=
  den_seqs 4 _ g w (by kernel_rfl) (law07_FseBack_p10_ok (thenE (fun g w => den pg ann_law07_FseBack (dropS 4 (dropS 1 (dropS 3 (dropS 1 (dropS 7 code_law07_FseBack))))) Q g w) Q) g w (fun t6 l_8 s_11 r_18 w => law07_FseBack_p9 R t6 l_8 s_11 r_18 w) R (fun g w h => thenE_n (K := fun g w => den pg ann_law07_FseBack (dropS 4 (dropS 1 (dropS 3 (dropS 1 (dropS 7 code_law07_FseBack))))) Q g w) (law07_FseBack_p9_ok Q g w R hr h)) hr h)

def law07_FseBack_p12 (kn : K5) (k2 : K4) (R : K1) (t6 l_8 w_10 s_11 i_13 : Value) (w : World) : Prop :=
  Stp pg (sBin .geq 3 (.tmp 94) (.const (.int .i64 0)) i_13 (.int .i64 0)) w fun t95 w =>
  Cnd t95
    (Stp pg (sLoad 28 t6) (dr w) fun t99 w_ => w_ = (dr w) ∧
    (dr w) = (dr w) ∧
    (dr w) = (dr w) ∧
    (dr w) = (dr w) ∧
    Stp pg (sIAddr 52 l_8 i_13) (dr w) fun t103 w_ => w_ = (dr w) ∧
    Stp pg (sLoad 5 t103) (dr w) fun t104 w_ => w_ = (dr w) ∧
    Does pg F_fse_Before #[t99, s_11, t104] (dr w) fun t105 w21_6 =>
    w21_6 = w21_6 ∧
    Stp pg (sExtr t105 0) w21_6 fun t106 w_ => w_ = w21_6 ∧
    Stp pg (sExtr t105 1) w21_6 fun t107 w_ => w_ = w21_6 ∧
    Stp pg (sExtr t105 2) w21_6 fun t108 w_ => w_ = w21_6 ∧
    Stp pg (sExtr t105 3) w21_6 fun t109 w_ => w_ = w21_6 ∧
    w21_6 = w21_6 ∧
    w21_6 = w21_6 ∧
    w21_6 = w21_6 ∧
    w21_6 = w21_6 ∧
    Stp pg (sBin .neq 29 (.tmp 110) (.const (.int .i64 0)) t109 (.int .i64 0)) w21_6 fun t111 w =>
    Cnd t111
      (R (.bool false) w)
      (Does pg F_bits_Writer_Write #[w_10, t107, t108] w fun t115 w =>
      Stp pg (sBin .sub 3 (.tmp 96) (.const (.int .i64 1)) i_13 (.int .i64 1)) w fun t97 w =>
      kn t6 l_8 w_10 t106 t97 w))
    (k2 t6 l_8 w_10 s_11 w)
theorem law07_FseBack_p12_ok (kn : K5) (k2 : K4) (R : K1) (hn : ∀ g w, kn (g 6) (g 8) (g 10) (g 11) (g 13) w → Q .normal g w) (h2 : ∀ g w, k2 (g 6) (g 8) (g 10) (g 11) w → Q (.exit 2) g w) (hr : HR rs_law07_FseBack R Q) (h : law07_FseBack_p12 kn k2 R (g 6) (g 8) (g 10) (g 11) (g 13) w) : den pg ann_law07_FseBack (bI (bI (dropS 1 (takeS 1 (dropS 3 (dropS 1 (dropS 7 code_law07_FseBack))))))) Q g w :=
  den_exQ (l := [(2, fun g w => k2 (g 6) (g 8) (g 10) (g 11) w)]) (by kernel_rfl) h hn hr ⟨h2, trivial⟩

def law07_FseBack_p13 (k2 : K4) (R : K1) (t6 l_8 w_10 s_11 i_13 : Value) (w : World) : Prop :=
  LoopD (fun (X : (Value × Value) → K0) (t : Value × Value) (w : World) => law07_FseBack_p12 (fun _ _ _ s_11 i_13 w => X (s_11, i_13) w) k2 R t6 l_8 w_10 t.1 t.2 w) (s_11, i_13) w
theorem law07_FseBack_p13_ok (k2 : K4) (R : K1) (h2 : ∀ g w, k2 (g 6) (g 8) (g 10) (g 11) w → Q (.exit 2) g w) (hr : HR rs_law07_FseBack R Q) (h : law07_FseBack_p13 k2 R (g 6) (g 8) (g 10) (g 11) (g 13) w) : den pg ann_law07_FseBack (bI (dropS 1 (takeS 1 (dropS 3 (dropS 1 (dropS 7 code_law07_FseBack)))))) Q g w := by
  refine den_loops (T := Value × Value) (fun g : Env => (g 11, g 13)) (fun X t w => law07_FseBack_p12 (fun _ _ _ s_11 i_13 w => X (s_11, i_13) w) k2 R (g 6) (g 8) (g 10) t.1 t.2 w) _ (by kernel_rfl) h (fun X g1 w1 ha h1 => ?_)
  rw [← agree_at (s := 6) ha (by kernel_rfl)] at h1
  rw [← agree_at (s := 8) ha (by kernel_rfl)] at h1
  rw [← agree_at (s := 10) ha (by kernel_rfl)] at h1
  exact (law07_FseBack_p12_ok (thenE (fun g2 w2 => X ((fun g : Env => (g 11, g 13)) g2) w2) Q) g1 w1 (fun _ _ _ s_11 i_13 w => X (s_11, i_13) w) k2 R (fun _ _ h => h) h2 hr h1)

def law07_FseBack_p14 (kn : K4) (R : K1) (t6 l_8 w_10 s_11 i_13 : Value) (w : World) : Prop :=
  law07_FseBack_p13 kn R t6 l_8 w_10 s_11 i_13 w
theorem law07_FseBack_p14_ok (kn : K4) (R : K1) (hn : ∀ g w, kn (g 6) (g 8) (g 10) (g 11) w → Q .normal g w) (hr : HR rs_law07_FseBack R Q) (h : law07_FseBack_p14 kn R (g 6) (g 8) (g 10) (g 11) (g 13) w) : den pg ann_law07_FseBack (dropS 1 (takeS 1 (dropS 3 (dropS 1 (dropS 7 code_law07_FseBack))))) Q g w :=
  den_blk 2 _ g w (by kernel_rfl) (law07_FseBack_p13_ok (blk 2 Q) g w kn R hn hr h)

def law07_FseBack_p15 (kn : K5) (t6 l_8 w_10 s_11 : Value) (w : World) : Prop :=
  Stp pg (sBi .len #[52] 3 [l_8]) w fun t92 w =>
  Stp pg (sBin .sub 3 (.tmp 92) (.const (.int .i64 2)) t92 (.int .i64 2)) w fun t93 w =>
  kn t6 l_8 w_10 s_11 t93 w
theorem law07_FseBack_p15_ok (kn : K5) (hn : ∀ g w, kn (g 6) (g 8) (g 10) (g 11) (g 13) w → Q .normal g w) (h : law07_FseBack_p15 kn (g 6) (g 8) (g 10) (g 11) w) : den pg ann_law07_FseBack (takeS 1 (takeS 1 (dropS 3 (dropS 1 (dropS 7 code_law07_FseBack))))) Q g w :=
  den_exQ (kr := no) (l := []) (by kernel_rfl) h hn noE trivial

def law07_FseBack_p16 (kn : K4) (R : K1) (t6 l_8 w_10 s_11 : Value) (w : World) : Prop :=
  law07_FseBack_p15 (fun t6 l_8 w_10 s_11 i_13 w => law07_FseBack_p14 kn R t6 l_8 w_10 s_11 i_13 w) t6 l_8 w_10 s_11 w
theorem law07_FseBack_p16_ok (kn : K4) (R : K1) (hn : ∀ g w, kn (g 6) (g 8) (g 10) (g 11) w → Q .normal g w) (hr : HR rs_law07_FseBack R Q) (h : law07_FseBack_p16 kn R (g 6) (g 8) (g 10) (g 11) w) : den pg ann_law07_FseBack (takeS 1 (dropS 3 (dropS 1 (dropS 7 code_law07_FseBack)))) Q g w :=
  den_seqs 1 _ g w (by kernel_rfl) (law07_FseBack_p15_ok (thenE (fun g w => den pg ann_law07_FseBack (dropS 1 (takeS 1 (dropS 3 (dropS 1 (dropS 7 code_law07_FseBack))))) Q g w) Q) g w (fun t6 l_8 w_10 s_11 i_13 w => law07_FseBack_p14 kn R t6 l_8 w_10 s_11 i_13 w) (fun g w h => thenE_n (K := fun g w => den pg ann_law07_FseBack (dropS 1 (takeS 1 (dropS 3 (dropS 1 (dropS 7 code_law07_FseBack))))) Q g w) (law07_FseBack_p14_ok Q g w kn R hn hr h)) h)

def law07_FseBack_p17 (R : K1) (t6 l_8 w_10 s_11 : Value) (w : World) : Prop :=
  law07_FseBack_p16 (fun t6 l_8 w_10 s_11 w => law07_FseBack_p11 R t6 l_8 w_10 s_11 w) R t6 l_8 w_10 s_11 w
theorem law07_FseBack_p17_ok (R : K1) (hr : HR rs_law07_FseBack R Q) (h : law07_FseBack_p17 R (g 6) (g 8) (g 10) (g 11) w) : den pg ann_law07_FseBack (dropS 3 (dropS 1 (dropS 7 code_law07_FseBack))) Q g w :=
  den_seqs 1 _ g w (by kernel_rfl) (law07_FseBack_p16_ok (thenE (fun g w => den pg ann_law07_FseBack (dropS 1 (dropS 3 (dropS 1 (dropS 7 code_law07_FseBack)))) Q g w) Q) g w (fun t6 l_8 w_10 s_11 w => law07_FseBack_p11 R t6 l_8 w_10 s_11 w) R (fun g w h => thenE_n (K := fun g w => den pg ann_law07_FseBack (dropS 1 (dropS 3 (dropS 1 (dropS 7 code_law07_FseBack)))) Q g w) (law07_FseBack_p11_ok Q g w R hr h)) hr h)

def law07_FseBack_p18 (kn : K4) (R : K1) (t6 l_8 : Value) (w : World) : Prop :=
  Does pg F_bits_NewWriter #[] w fun t77 w =>
  Stp pg (sLoad 28 t6) (dr w) fun t79 w_ => w_ = (dr w) ∧
  (dr w) = (dr w) ∧
  (dr w) = (dr w) ∧
  Stp pg (sBi .len #[52] 3 [l_8]) (dr w) fun t82 w_ => w_ = (dr w) ∧
  Stp pg (sBin .sub 3 (.tmp 82) (.const (.int .i64 1)) t82 (.int .i64 1)) (dr w) fun t83 w_ => w_ = (dr w) ∧
  Stp pg (sIAddr 52 l_8 t83) (dr w) fun t84 w_ => w_ = (dr w) ∧
  Stp pg (sLoad 5 t84) (dr w) fun t85 w_ => w_ = (dr w) ∧
  Does pg F_fse_First #[t79, t85] (dr w) fun t86 w15_7 =>
  w15_7 = w15_7 ∧
  Stp pg (sExtr t86 0) w15_7 fun t87 w_ => w_ = w15_7 ∧
  Stp pg (sExtr t86 1) w15_7 fun t88 w_ => w_ = w15_7 ∧
  w15_7 = w15_7 ∧
  w15_7 = w15_7 ∧
  Stp pg (sBin .neq 29 (.tmp 89) (.const (.int .i64 0)) t88 (.int .i64 0)) w15_7 fun t90 w =>
  Cnd t90
    (R (.bool false) w)
    (kn t6 l_8 t77 t87 w)
theorem law07_FseBack_p18_ok (kn : K4) (R : K1) (hn : ∀ g w, kn (g 6) (g 8) (g 10) (g 11) w → Q .normal g w) (hr : HR rs_law07_FseBack R Q) (h : law07_FseBack_p18 kn R (g 6) (g 8) w) : den pg ann_law07_FseBack (takeS 3 (dropS 1 (dropS 7 code_law07_FseBack))) Q g w :=
  den_exQ (l := []) (by kernel_rfl) h hn hr trivial

def law07_FseBack_p19 (R : K1) (t6 l_8 : Value) (w : World) : Prop :=
  law07_FseBack_p18 (fun t6 l_8 w_10 s_11 w => law07_FseBack_p17 R t6 l_8 w_10 s_11 w) R t6 l_8 w
theorem law07_FseBack_p19_ok (R : K1) (hr : HR rs_law07_FseBack R Q) (h : law07_FseBack_p19 R (g 6) (g 8) w) : den pg ann_law07_FseBack (dropS 1 (dropS 7 code_law07_FseBack)) Q g w :=
  den_seqs 3 _ g w (by kernel_rfl) (law07_FseBack_p18_ok (thenE (fun g w => den pg ann_law07_FseBack (dropS 3 (dropS 1 (dropS 7 code_law07_FseBack))) Q g w) Q) g w (fun t6 l_8 w_10 s_11 w => law07_FseBack_p17 R t6 l_8 w_10 s_11 w) R (fun g w h => thenE_n (K := fun g w => den pg ann_law07_FseBack (dropS 3 (dropS 1 (dropS 7 code_law07_FseBack))) Q g w) (law07_FseBack_p17_ok Q g w R hr h)) hr h)

def law07_FseBack_p20 (kn : K4) (k0 : K2) (picks_1 t6 l_8 i_9 : Value) (w : World) : Prop :=
  Stp pg (sBi .len #[71] 3 [picks_1]) w fun t56 w =>
  Stp pg (sBin .lss 3 (.tmp 54) (.tmp 56) i_9 t56) w fun t57 w =>
  Cnd t57
    ((dr w) = (dr w) ∧
    Stp pg (sFAddr 28 t6 1) (dr w) fun t61 w_ => w_ = (dr w) ∧
    Stp pg (sLoad 26 t61) (dr w) fun t62 w_ => w_ = (dr w) ∧
    (dr w) = (dr w) ∧
    (dr w) = (dr w) ∧
    Stp pg (sIAddr 71 picks_1 i_9) (dr w) fun t65 w_ => w_ = (dr w) ∧
    Stp pg (sLoad 44 t65) (dr w) fun t66 w_ => w_ = (dr w) ∧
    Stp pg (sCvt 44 3 t66) (dr w) fun t67 w_ => w_ = (dr w) ∧
    Stp pg (sFAddr 28 t6 1) (dr w) fun t68 w_ => w_ = (dr w) ∧
    Stp pg (sLoad 26 t68) (dr w) fun t69 w_ => w_ = (dr w) ∧
    Stp pg (sBi .len #[26] 3 [t69]) (dr w) fun t70 w_ => w_ = (dr w) ∧
    Stp pg (sBin .rem 3 (.tmp 67) (.tmp 70) t67 t70) (dr w) fun t71 w_ => w_ = (dr w) ∧
    Stp pg (sIAddr 26 t62 t71) (dr w) fun t72 w_ => w_ = (dr w) ∧
    Stp pg (sFAddr 43 t72 0) (dr w) fun t73 w_ => w_ = (dr w) ∧
    Stp pg (sLoad 5 t73) (dr w) fun t74 w_ => w_ = (dr w) ∧
    Stp pg (sBuildSlice 52 1 [(0, t74)]) (dr w) fun t75 w13_15 =>
    Stp pg (sBi .append #[52, 52] 52 [l_8, t75]) w13_15 fun t76 w13_16 =>
    w13_16 = w13_16 ∧
    Stp pg (sBin .add 3 (.tmp 58) (.const (.int .i64 1)) i_9 (.int .i64 1)) w13_16 fun t59 w =>
    kn picks_1 t6 t76 t59 w)
    (k0 t6 l_8 w)
theorem law07_FseBack_p20_ok (kn : K4) (k0 : K2) (hn : ∀ g w, kn (g 1) (g 6) (g 8) (g 9) w → Q .normal g w) (h0 : ∀ g w, k0 (g 6) (g 8) w → Q (.exit 0) g w) (h : law07_FseBack_p20 kn k0 (g 1) (g 6) (g 8) (g 9) w) : den pg ann_law07_FseBack (bI (bI (dropS 1 (takeS 1 (dropS 7 code_law07_FseBack))))) Q g w :=
  den_exQ (kr := no) (l := [(0, fun g w => k0 (g 6) (g 8) w)]) (by kernel_rfl) h hn noE ⟨h0, trivial⟩

def law07_FseBack_p21 (k0 : K2) (picks_1 t6 l_8 i_9 : Value) (w : World) : Prop :=
  LoopD (fun (X : (Value × Value) → K0) (t : Value × Value) (w : World) => law07_FseBack_p20 (fun _ _ l_8 i_9 w => X (l_8, i_9) w) k0 picks_1 t6 t.1 t.2 w) (l_8, i_9) w
theorem law07_FseBack_p21_ok (k0 : K2) (h0 : ∀ g w, k0 (g 6) (g 8) w → Q (.exit 0) g w) (h : law07_FseBack_p21 k0 (g 1) (g 6) (g 8) (g 9) w) : den pg ann_law07_FseBack (bI (dropS 1 (takeS 1 (dropS 7 code_law07_FseBack)))) Q g w := by
  refine den_loops (T := Value × Value) (fun g : Env => (g 8, g 9)) (fun X t w => law07_FseBack_p20 (fun _ _ l_8 i_9 w => X (l_8, i_9) w) k0 (g 1) (g 6) t.1 t.2 w) _ (by kernel_rfl) h (fun X g1 w1 ha h1 => ?_)
  rw [← agree_at (s := 1) ha (by kernel_rfl)] at h1
  rw [← agree_at (s := 6) ha (by kernel_rfl)] at h1
  exact (law07_FseBack_p20_ok (thenE (fun g2 w2 => X ((fun g : Env => (g 8, g 9)) g2) w2) Q) g1 w1 (fun _ _ l_8 i_9 w => X (l_8, i_9) w) k0 (fun _ _ h => h) h0 h1)

def law07_FseBack_p22 (kn : K2) (picks_1 t6 l_8 i_9 : Value) (w : World) : Prop :=
  law07_FseBack_p21 kn picks_1 t6 l_8 i_9 w
theorem law07_FseBack_p22_ok (kn : K2) (hn : ∀ g w, kn (g 6) (g 8) w → Q .normal g w) (h : law07_FseBack_p22 kn (g 1) (g 6) (g 8) (g 9) w) : den pg ann_law07_FseBack (dropS 1 (takeS 1 (dropS 7 code_law07_FseBack))) Q g w :=
  den_blk 0 _ g w (by kernel_rfl) (law07_FseBack_p21_ok (blk 0 Q) g w kn hn h)

def law07_FseBack_p23 (kn : K4) (picks_1 t6 l_8 : Value) (w : World) : Prop :=
  kn picks_1 t6 l_8 (.int .i64 0) w
theorem law07_FseBack_p23_ok (kn : K4) (hn : ∀ g w, kn (g 1) (g 6) (g 8) (g 9) w → Q .normal g w) (h : law07_FseBack_p23 kn (g 1) (g 6) (g 8) w) : den pg ann_law07_FseBack (takeS 1 (takeS 1 (dropS 7 code_law07_FseBack))) Q g w :=
  den_exQ (kr := no) (l := []) (by kernel_rfl) h hn noE trivial

def law07_FseBack_p24 (kn : K2) (picks_1 t6 l_8 : Value) (w : World) : Prop :=
  law07_FseBack_p23 (fun picks_1 t6 l_8 i_9 w => law07_FseBack_p22 kn picks_1 t6 l_8 i_9 w) picks_1 t6 l_8 w
theorem law07_FseBack_p24_ok (kn : K2) (hn : ∀ g w, kn (g 6) (g 8) w → Q .normal g w) (h : law07_FseBack_p24 kn (g 1) (g 6) (g 8) w) : den pg ann_law07_FseBack (takeS 1 (dropS 7 code_law07_FseBack)) Q g w :=
  den_seqs 1 _ g w (by kernel_rfl) (law07_FseBack_p23_ok (thenE (fun g w => den pg ann_law07_FseBack (dropS 1 (takeS 1 (dropS 7 code_law07_FseBack))) Q g w) Q) g w (fun picks_1 t6 l_8 i_9 w => law07_FseBack_p22 kn picks_1 t6 l_8 i_9 w) (fun g w h => thenE_n (K := fun g w => den pg ann_law07_FseBack (dropS 1 (takeS 1 (dropS 7 code_law07_FseBack))) Q g w) (law07_FseBack_p22_ok Q g w kn hn h)) h)

def law07_FseBack_p25 (R : K1) (picks_1 t6 l_8 : Value) (w : World) : Prop :=
  law07_FseBack_p24 (fun t6 l_8 w => law07_FseBack_p19 R t6 l_8 w) picks_1 t6 l_8 w
theorem law07_FseBack_p25_ok (R : K1) (hr : HR rs_law07_FseBack R Q) (h : law07_FseBack_p25 R (g 1) (g 6) (g 8) w) : den pg ann_law07_FseBack (dropS 7 code_law07_FseBack) Q g w :=
  den_seqs 1 _ g w (by kernel_rfl) (law07_FseBack_p24_ok (thenE (fun g w => den pg ann_law07_FseBack (dropS 1 (dropS 7 code_law07_FseBack)) Q g w) Q) g w (fun t6 l_8 w => law07_FseBack_p19 R t6 l_8 w) (fun g w h => thenE_n (K := fun g w => den pg ann_law07_FseBack (dropS 1 (dropS 7 code_law07_FseBack)) Q g w) (law07_FseBack_p19_ok Q g w R hr h)) h)

def law07_FseBack_p26 (kn : K3) (R : K1) (c_0 picks_1 : Value) (w : World) : Prop :=
  Stp pg (sBox 24 c_0) w fun c_2 w =>
  Does pg F_law07_awake #[] w fun t21 w =>
  Stp pg (sUn .not t21) w fun t23 w =>
  Cnd t23
    (R (.bool false) w)
    (Stp pg (sFAddr 24 c_2 1) w fun t24 w =>
    Stp pg (sLoad 22 t24) w fun t25 w =>
    Stp pg (sBi .len #[22] 3 [t25]) w fun t26 w =>
    Stp pg (sBin .gtr 3 (.tmp 26) (.const (.int .i64 300)) t26 (.int .i64 300)) w fun t27 w =>
    Gd (isB t27 false) (fun K => Stp pg (sFAddr 24 c_2 0) w K) w fun t29 w =>
    Gd (isB t27 false) (fun K => Stp pg (sLoad 3 t29) w K) w fun t30 w =>
    Gd (isB t27 false) (fun K => Stp pg (sBin .gtr 3 (.tmp 30) (.const (.int .i64 10)) t30 (.int .i64 10)) w K) w fun t31 w =>
    Stp pg (sPick t27 (.bool true) t31) w fun t32 w =>
    Gd (isB t32 false) (fun K => K picks_1 w) w fun t34 w =>
    Gd (isB t32 false) (fun K => Stp pg (sBi .len #[71] 3 [t34]) w K) w fun t35 w =>
    Gd (isB t32 false) (fun K => Stp pg (sBin .eql 3 (.tmp 35) (.const (.int .i64 0)) t35 (.int .i64 0)) w K) w fun t36 w =>
    Stp pg (sPick t32 (.bool true) t36) w fun t37 w =>
    Gd (isB t37 false) (fun K => K picks_1 w) w fun t39 w =>
    Gd (isB t37 false) (fun K => Stp pg (sBi .len #[71] 3 [t39]) w K) w fun t40 w =>
    Gd (isB t37 false) (fun K => Stp pg (sBin .gtr 3 (.tmp 40) (.const (.int .i64 60)) t40 (.int .i64 60)) w K) w fun t41 w =>
    Stp pg (sPick t37 (.bool true) t41) w fun t42 w =>
    Cnd t42
      (R (.bool true) w)
      (Stp pg (sLoad 24 c_2) w fun t44 w =>
      Does pg F_fse_Build #[t44] w fun t45 w =>
      Stp pg (sExtr t45 0) w fun t46 w =>
      Stp pg (sExtr t45 1) w fun t47 w =>
      Stp pg (sAlloc 28) w fun t6 w =>
      Stp pg (sStore 28 t6 t46) w fun _u w =>
      Stp pg (sBin .neq 29 (.tmp 48) (.const (.int .i64 0)) t47 (.int .i64 0)) w fun t49 w =>
      Cnd t49
        (Stp pg (sFAddr 28 t6 1) w fun t50 w =>
        Stp pg (sLoad 26 t50) w fun t51 w =>
        Stp pg (sBi .len #[26] 3 [t51]) w fun t52 w =>
        Stp pg (sBin .eql 3 (.tmp 52) (.const (.int .i64 0)) t52 (.int .i64 0)) w fun t53 w =>
        R t53 w)
        (kn picks_1 t6 (.slice none 0 0) w)))
theorem law07_FseBack_p26_ok (kn : K3) (R : K1) (hn : ∀ g w, kn (g 1) (g 6) (g 8) w → Q .normal g w) (hr : HR rs_law07_FseBack R Q) (h : law07_FseBack_p26 kn R (g 0) (g 1) w) : den pg ann_law07_FseBack (takeS 7 code_law07_FseBack) Q g w :=
  den_exQ (l := []) (by kernel_rfl) h hn hr trivial

def law07_FseBack_p27 (R : K1) (c_0 picks_1 : Value) (w : World) : Prop :=
  law07_FseBack_p26 (fun picks_1 t6 l_8 w => law07_FseBack_p25 R picks_1 t6 l_8 w) R c_0 picks_1 w
theorem law07_FseBack_p27_ok (R : K1) (hr : HR rs_law07_FseBack R Q) (h : law07_FseBack_p27 R (g 0) (g 1) w) : den pg ann_law07_FseBack code_law07_FseBack Q g w :=
  den_seqs 7 _ g w (by kernel_rfl) (law07_FseBack_p26_ok (thenE (fun g w => den pg ann_law07_FseBack (dropS 7 code_law07_FseBack) Q g w) Q) g w (fun picks_1 t6 l_8 w => law07_FseBack_p25 R picks_1 t6 l_8 w) R (fun g w h => thenE_n (K := fun g w => den pg ann_law07_FseBack (dropS 7 code_law07_FseBack) Q g w) (law07_FseBack_p25_ok Q g w R hr h)) hr h)

def law07_FseBack (a0 a1 : Value) (w : World) (R : K1) : Prop :=
  law07_FseBack_p27 R a0 a1 w
theorem law07_FseBack_does {a0 a1 : Value} {w : World} {R : K1} (h : law07_FseBack a0 a1 w R) : Does pg F_law07_FseBack #[a0, a1] w R := by
  refine does_of_den (ann := ann_law07_FseBack) (fn := Try.f7) (c := code_law07_FseBack) (args := [a0, a1]) (rs := rs_law07_FseBack) (N := 174) TryM.mixed (by kernel_rfl) Try.func7 (by kernel_rfl) (by kernel_rfl) (by kernel_rfl) (of_decide_eq_true (by kernel_rfl)) (by kernel_rfl) ?_
  exact (law07_FseBack_p27_ok (retQ pg rs_law07_FseBack R) (envOf [a0, a1]) w R (fun _ _ h => h) h)
-- PIECES law07_FseBack/0 law07_FseBack_p1 law07_FseBack_p5 law07_FseBack_p6 law07_FseBack_p7 law07_FseBack_p8 law07_FseBack_p9 law07_FseBack_p10 law07_FseBack_p11 law07_FseBack_p13 law07_FseBack_p14 law07_FseBack_p15 law07_FseBack_p16 law07_FseBack_p17 law07_FseBack_p18 law07_FseBack_p19 law07_FseBack_p21 law07_FseBack_p22 law07_FseBack_p23 law07_FseBack_p24 law07_FseBack_p25 law07_FseBack_p26 law07_FseBack_p27
-- PIECES law07_FseBack/1 law07_FseBack_p2 law07_FseBack_p3 law07_FseBack_p4
-- PIECES law07_FseBack/2 law07_FseBack_p12
-- PIECES law07_FseBack/3 law07_FseBack_p20

/- lighterman/bits.NewWriter -/
def ann_bits_NewWriter : FA := ⟨F_bits_NewWriter, fun i => .leaf ([], []) []⟩
def rs_bits_NewWriter : List ResultVar := [.tmp 0]
noncomputable def code_bits_NewWriter : Code := bodyOf Try.f30
def bits_NewWriter_p1 (R : K1)  (w : World) : Prop :=
  Stp pg (sBuild 111 []) w fun t1 w =>
  Stp pg (sBox 111 t1) w fun t2 w =>
  R t2 w
theorem bits_NewWriter_p1_ok (R : K1) (hr : HR rs_bits_NewWriter R Q) (h : bits_NewWriter_p1 R w) : den pg ann_bits_NewWriter code_bits_NewWriter Q g w :=
  den_exQ (kn := no) (l := []) (by kernel_rfl) h noE hr trivial

def bits_NewWriter (w : World) (R : K1) : Prop :=
  bits_NewWriter_p1 R w
theorem bits_NewWriter_does {w : World} {R : K1} (h : bits_NewWriter w R) : Does pg F_bits_NewWriter #[] w R := by
  refine does_of_den (ann := ann_bits_NewWriter) (fn := Try.f30) (c := code_bits_NewWriter) (args := []) (rs := rs_bits_NewWriter) (N := 3) TryM.mixed (by kernel_rfl) Try.func30 (by kernel_rfl) (by kernel_rfl) (by kernel_rfl) (of_decide_eq_true (by kernel_rfl)) (by kernel_rfl) ?_
  exact (bits_NewWriter_p1_ok (retQ pg rs_bits_NewWriter R) (envOf []) w R (fun _ _ h => h) h)
-- PIECES bits_NewWriter/0 bits_NewWriter_p1

/- (*lighterman/bits.Writer).Write -/
def ann_bits_Writer_Write : FA := ⟨F_bits_Writer_Write, fun i => match Nat.beq i 6 with | true => .leaf ([25], []) [(false, []), (false, []), (false, []), (false, []), (false, []), (false, []), (false, []), (false, []), (false, []), (false, []), (false, []), (false, []), (false, []), (false, []), (false, []), (false, []), (false, []), (false, []), (false, []), (false, []), (false, []), (false, []), (false, []), (false, []), (false, []), (true, [])] | false => .leaf ([], []) []⟩
def rs_bits_Writer_Write : List ResultVar := []
noncomputable def code_bits_Writer_Write : Code := bodyOf Try.f31
def bits_Writer_Write_p1 (kn : K4) (w_0 x_1 t17 t18 : Value) (w : World) : Prop :=
  Stp pg (sBin .add 3 (.tmp 18) (.const (.int .i64 1)) t18 (.int .i64 1)) w fun t68 w =>
  kn w_0 x_1 t17 t68 w
theorem bits_Writer_Write_p1_ok (kn : K4) (hn : ∀ g w, kn (g 0) (g 1) (g 17) (g 18) w → Q .normal g w) (h : bits_Writer_Write_p1 kn (g 0) (g 1) (g 17) (g 18) w) : den pg ann_bits_Writer_Write (dropS 1 (dropS 2 (bI (bI (dropS 2 code_bits_Writer_Write))))) Q g w :=
  den_exQ (kr := no) (l := []) (by kernel_rfl) h hn noE trivial

def bits_Writer_Write_p2 (kn : K4) (w_0 x_1 i_6 t17 t18 : Value) (w : World) : Prop :=
  (dr w) = (dr w) ∧
  Stp pg (sNil w_0) (dr w) fun t37 w_ => w_ = (dr w) ∧
  Stp pg (sFAddr 111 t37 0) (dr w) fun t38 w_ => w_ = (dr w) ∧
  Stp pg (sLoad 52 t38) (dr w) fun t39 w_ => w_ = (dr w) ∧
  (dr w) = (dr w) ∧
  Stp pg (sNil w_0) (dr w) fun t41 w_ => w_ = (dr w) ∧
  Stp pg (sFAddr 111 t41 1) (dr w) fun t42 w_ => w_ = (dr w) ∧
  Stp pg (sLoad 3 t42) (dr w) fun t43 w_ => w_ = (dr w) ∧
  Stp pg (sBin .quo 3 (.tmp 43) (.const (.int .i64 8)) t43 (.int .i64 8)) (dr w) fun t44 w_ => w_ = (dr w) ∧
  Stp pg (sIAddr 52 t39 t44) (dr w) fun t45 w_ => w_ = (dr w) ∧
  Stp pg (sLoad 5 t45) (dr w) fun t46 w_ => w_ = (dr w) ∧
  (dr w) = (dr w) ∧
  (dr w) = (dr w) ∧
  Stp pg (sCvt 3 50 i_6) (dr w) fun t49 w_ => w_ = (dr w) ∧
  Stp pg (sBin .shr 45 (.tmp 47) (.tmp 49) x_1 t49) (dr w) fun t50 w_ => w_ = (dr w) ∧
  Stp pg (sBin .and 45 (.tmp 50) (.const (.int .u64 1)) t50 (.int .u64 1)) (dr w) fun t51 w_ => w_ = (dr w) ∧
  Stp pg (sCvt 45 5 t51) (dr w) fun t52 w_ => w_ = (dr w) ∧
  (dr w) = (dr w) ∧
  Stp pg (sNil w_0) (dr w) fun t54 w_ => w_ = (dr w) ∧
  Stp pg (sFAddr 111 t54 1) (dr w) fun t55 w_ => w_ = (dr w) ∧
  Stp pg (sLoad 3 t55) (dr w) fun t56 w_ => w_ = (dr w) ∧
  Stp pg (sBin .rem 3 (.tmp 56) (.const (.int .i64 8)) t56 (.int .i64 8)) (dr w) fun t57 w_ => w_ = (dr w) ∧
  Stp pg (sBin .shl 5 (.tmp 52) (.tmp 57) t52 t57) (dr w) fun t58 w_ => w_ = (dr w) ∧
  Stp pg (sBin .or 5 (.tmp 46) (.tmp 58) t46 t58) (dr w) fun t59 w_ => w_ = (dr w) ∧
  Stp pg (sIAddr 52 t39 t44) (dr w) fun t60 w_ => w_ = (dr w) ∧
  Stp pg (sStore 5 t60 t59) (dr w) fun _u25 w6_25 =>
  Stp pg (sNil w_0) w6_25 fun t62 w =>
  Stp pg (sFAddr 111 t62 1) w fun t63 w =>
  Stp pg (sLoad 3 t63) w fun t64 w =>
  Stp pg (sBin .add 3 (.tmp 64) (.const (.int .i64 1)) t64 (.int .i64 1)) w fun t65 w =>
  Stp pg (sNil w_0) w fun t66 w =>
  Stp pg (sFAddr 111 t66 1) w fun t67 w =>
  Stp pg (sStore 3 t67 t65) w fun _u w =>
  kn w_0 x_1 t17 t18 w
theorem bits_Writer_Write_p2_ok (kn : K4) (hn : ∀ g w, kn (g 0) (g 1) (g 17) (g 18) w → Q .normal g w) (h : bits_Writer_Write_p2 kn (g 0) (g 1) (g 6) (g 17) (g 18) w) : den pg ann_bits_Writer_Write (dropS 2 (bI (takeS 1 (dropS 2 (bI (bI (dropS 2 code_bits_Writer_Write))))))) Q g w :=
  den_exQ (kr := no) (l := []) (by kernel_rfl) h hn noE trivial

def bits_Writer_Write_p3 (kn : K5) (w_0 x_1 t17 t18 : Value) (w : World) : Prop :=
  Stp pg (sNil w_0) w fun t22 w =>
  Stp pg (sFAddr 111 t22 1) w fun t23 w =>
  Stp pg (sLoad 3 t23) w fun t24 w =>
  Stp pg (sBin .rem 3 (.tmp 24) (.const (.int .i64 8)) t24 (.int .i64 8)) w fun t25 w =>
  Stp pg (sBin .eql 3 (.tmp 25) (.const (.int .i64 0)) t25 (.int .i64 0)) w fun t26 w =>
  Cnd t26
    (Stp pg (sNil w_0) w fun t29 w =>
    Stp pg (sFAddr 111 t29 0) w fun t30 w =>
    Stp pg (sLoad 52 t30) w fun t31 w =>
    Stp pg (sBuildSlice 52 1 [(0, (.int .u8 0))]) w fun t32 w =>
    Stp pg (sBi .append #[52, 52] 52 [t31, t32]) w fun t33 w =>
    Stp pg (sNil w_0) w fun t34 w =>
    Stp pg (sFAddr 111 t34 0) w fun t35 w =>
    Stp pg (sStore 52 t35 t33) w fun _u w =>
    kn w_0 x_1 t18 t17 t18 w)
    (kn w_0 x_1 t18 t17 t18 w)
theorem bits_Writer_Write_p3_ok (kn : K5) (hn : ∀ g w, kn (g 0) (g 1) (g 6) (g 17) (g 18) w → Q .normal g w) (h : bits_Writer_Write_p3 kn (g 0) (g 1) (g 17) (g 18) w) : den pg ann_bits_Writer_Write (takeS 2 (bI (takeS 1 (dropS 2 (bI (bI (dropS 2 code_bits_Writer_Write))))))) Q g w :=
  den_exQ (kr := no) (l := []) (by kernel_rfl) h hn noE trivial

def bits_Writer_Write_p4 (kn : K4) (w_0 x_1 t17 t18 : Value) (w : World) : Prop :=
  bits_Writer_Write_p3 (fun w_0 x_1 i_6 t17 t18 w => bits_Writer_Write_p2 kn w_0 x_1 i_6 t17 t18 w) w_0 x_1 t17 t18 w
theorem bits_Writer_Write_p4_ok (kn : K4) (hn : ∀ g w, kn (g 0) (g 1) (g 17) (g 18) w → Q .normal g w) (h : bits_Writer_Write_p4 kn (g 0) (g 1) (g 17) (g 18) w) : den pg ann_bits_Writer_Write (bI (takeS 1 (dropS 2 (bI (bI (dropS 2 code_bits_Writer_Write)))))) Q g w :=
  den_seqs 2 _ g w (by kernel_rfl) (bits_Writer_Write_p3_ok (thenE (fun g w => den pg ann_bits_Writer_Write (dropS 2 (bI (takeS 1 (dropS 2 (bI (bI (dropS 2 code_bits_Writer_Write))))))) Q g w) Q) g w (fun w_0 x_1 i_6 t17 t18 w => bits_Writer_Write_p2 kn w_0 x_1 i_6 t17 t18 w) (fun g w h => thenE_n (K := fun g w => den pg ann_bits_Writer_Write (dropS 2 (bI (takeS 1 (dropS 2 (bI (bI (dropS 2 code_bits_Writer_Write))))))) Q g w) (bits_Writer_Write_p2_ok Q g w kn hn h)) h)

def bits_Writer_Write_p5 (kn : K4) (w_0 x_1 t17 t18 : Value) (w : World) : Prop :=
  bits_Writer_Write_p4 kn w_0 x_1 t17 t18 w
theorem bits_Writer_Write_p5_ok (kn : K4) (hn : ∀ g w, kn (g 0) (g 1) (g 17) (g 18) w → Q .normal g w) (h : bits_Writer_Write_p5 kn (g 0) (g 1) (g 17) (g 18) w) : den pg ann_bits_Writer_Write (takeS 1 (dropS 2 (bI (bI (dropS 2 code_bits_Writer_Write))))) Q g w :=
  den_blk 1 _ g w (by kernel_rfl) (bits_Writer_Write_p4_ok (blk 1 Q) g w kn hn h)

def bits_Writer_Write_p6 (kn : K4) (w_0 x_1 t17 t18 : Value) (w : World) : Prop :=
  bits_Writer_Write_p5 (fun w_0 x_1 t17 t18 w => bits_Writer_Write_p1 kn w_0 x_1 t17 t18 w) w_0 x_1 t17 t18 w
theorem bits_Writer_Write_p6_ok (kn : K4) (hn : ∀ g w, kn (g 0) (g 1) (g 17) (g 18) w → Q .normal g w) (h : bits_Writer_Write_p6 kn (g 0) (g 1) (g 17) (g 18) w) : den pg ann_bits_Writer_Write (dropS 2 (bI (bI (dropS 2 code_bits_Writer_Write)))) Q g w :=
  den_seqs 1 _ g w (by kernel_rfl) (bits_Writer_Write_p5_ok (thenE (fun g w => den pg ann_bits_Writer_Write (dropS 1 (dropS 2 (bI (bI (dropS 2 code_bits_Writer_Write))))) Q g w) Q) g w (fun w_0 x_1 t17 t18 w => bits_Writer_Write_p1 kn w_0 x_1 t17 t18 w) (fun g w h => thenE_n (K := fun g w => den pg ann_bits_Writer_Write (dropS 1 (dropS 2 (bI (bI (dropS 2 code_bits_Writer_Write))))) Q g w) (bits_Writer_Write_p1_ok Q g w kn hn h)) h)

def bits_Writer_Write_p7 (kn : K4) (k0 : K0) (w_0 x_1 t17 t18 : Value) (w : World) : Prop :=
  Stp pg (sBin .lss 3 (.tmp 18) (.tmp 17) t18 t17) w fun t19 w =>
  Cnd t19
    (kn w_0 x_1 t17 t18 w)
    (k0 w)
theorem bits_Writer_Write_p7_ok (kn : K4) (k0 : K0) (hn : ∀ g w, kn (g 0) (g 1) (g 17) (g 18) w → Q .normal g w) (h0 : ∀ g w, k0 w → Q (.exit 0) g w) (h : bits_Writer_Write_p7 kn k0 (g 0) (g 1) (g 17) (g 18) w) : den pg ann_bits_Writer_Write (takeS 2 (bI (bI (dropS 2 code_bits_Writer_Write)))) Q g w :=
  den_exQ (kr := no) (l := [(0, fun g w => k0 w)]) (by kernel_rfl) h hn noE ⟨h0, trivial⟩

def bits_Writer_Write_p8 (kn : K4) (k0 : K0) (w_0 x_1 t17 t18 : Value) (w : World) : Prop :=
  bits_Writer_Write_p7 (fun w_0 x_1 t17 t18 w => bits_Writer_Write_p6 kn w_0 x_1 t17 t18 w) k0 w_0 x_1 t17 t18 w
theorem bits_Writer_Write_p8_ok (kn : K4) (k0 : K0) (hn : ∀ g w, kn (g 0) (g 1) (g 17) (g 18) w → Q .normal g w) (h0 : ∀ g w, k0 w → Q (.exit 0) g w) (h : bits_Writer_Write_p8 kn k0 (g 0) (g 1) (g 17) (g 18) w) : den pg ann_bits_Writer_Write (bI (bI (dropS 2 code_bits_Writer_Write))) Q g w :=
  den_seqs 2 _ g w (by kernel_rfl) (bits_Writer_Write_p7_ok (thenE (fun g w => den pg ann_bits_Writer_Write (dropS 2 (bI (bI (dropS 2 code_bits_Writer_Write)))) Q g w) Q) g w (fun w_0 x_1 t17 t18 w => bits_Writer_Write_p6 kn w_0 x_1 t17 t18 w) k0 (fun g w h => thenE_n (K := fun g w => den pg ann_bits_Writer_Write (dropS 2 (bI (bI (dropS 2 code_bits_Writer_Write)))) Q g w) (bits_Writer_Write_p6_ok Q g w kn hn h)) h0 h)

def bits_Writer_Write_p9 (k0 : K0) (w_0 x_1 t17 t18 : Value) (w : World) : Prop :=
  LoopD (fun (X : Value → K0) (t : Value) (w : World) => bits_Writer_Write_p8 (fun _ _ _ t18 w => X t18 w) k0 w_0 x_1 t17 t w) t18 w
theorem bits_Writer_Write_p9_ok (k0 : K0) (h0 : ∀ g w, k0 w → Q (.exit 0) g w) (h : bits_Writer_Write_p9 k0 (g 0) (g 1) (g 17) (g 18) w) : den pg ann_bits_Writer_Write (bI (dropS 2 code_bits_Writer_Write)) Q g w := by
  refine den_loops (T := Value) (fun g : Env => g 18) (fun X t w => bits_Writer_Write_p8 (fun _ _ _ t18 w => X t18 w) k0 (g 0) (g 1) (g 17) t w) _ (by kernel_rfl) h (fun X g1 w1 ha h1 => ?_)
  rw [← agree_at (s := 0) ha (by kernel_rfl)] at h1
  rw [← agree_at (s := 1) ha (by kernel_rfl)] at h1
  rw [← agree_at (s := 17) ha (by kernel_rfl)] at h1
  exact (bits_Writer_Write_p8_ok (thenE (fun g2 w2 => X ((fun g : Env => g 18) g2) w2) Q) g1 w1 (fun _ _ _ t18 w => X t18 w) k0 (fun _ _ h => h) h0 h1)

def bits_Writer_Write_p10 (kn : K0) (w_0 x_1 t17 t18 : Value) (w : World) : Prop :=
  bits_Writer_Write_p9 kn w_0 x_1 t17 t18 w
theorem bits_Writer_Write_p10_ok (kn : K0) (hn : ∀ g w, kn w → Q .normal g w) (h : bits_Writer_Write_p10 kn (g 0) (g 1) (g 17) (g 18) w) : den pg ann_bits_Writer_Write (dropS 2 code_bits_Writer_Write) Q g w :=
  den_blk 0 _ g w (by kernel_rfl) (bits_Writer_Write_p9_ok (blk 0 Q) g w kn hn h)

def bits_Writer_Write_p11 (kn : K4) (R : K1) (w_0 x_1 n_2 : Value) (w : World) : Prop :=
  Stp pg (sBin .eql 72 (.tmp 7) (.const (.pointer none)) w_0 (.pointer none)) w fun t8 w =>
  Gd (isB t8 false) (fun K => K n_2 w) w fun t10 w =>
  Gd (isB t8 false) (fun K => Stp pg (sBin .lss 3 (.tmp 10) (.const (.int .i64 1)) t10 (.int .i64 1)) w K) w fun t11 w =>
  Stp pg (sPick t8 (.bool true) t11) w fun t12 w =>
  Gd (isB t12 false) (fun K => K n_2 w) w fun t14 w =>
  Gd (isB t12 false) (fun K => Stp pg (sBin .gtr 3 (.tmp 14) (.const (.int .i64 56)) t14 (.int .i64 56)) w K) w fun t15 w =>
  Stp pg (sPick t12 (.bool true) t15) w fun t16 w =>
  Cnd t16
    (R (.tuple #[]) w)
    (kn w_0 x_1 n_2 (.int .i64 0) w)
theorem bits_Writer_Write_p11_ok (kn : K4) (R : K1) (hn : ∀ g w, kn (g 0) (g 1) (g 17) (g 18) w → Q .normal g w) (hr : HR rs_bits_Writer_Write R Q) (h : bits_Writer_Write_p11 kn R (g 0) (g 1) (g 2) w) : den pg ann_bits_Writer_Write (takeS 2 code_bits_Writer_Write) Q g w :=
  den_exQ (l := []) (by kernel_rfl) h hn hr trivial

def bits_Writer_Write_p12 (kn : K0) (R : K1) (w_0 x_1 n_2 : Value) (w : World) : Prop :=
  bits_Writer_Write_p11 (fun w_0 x_1 t17 t18 w => bits_Writer_Write_p10 kn w_0 x_1 t17 t18 w) R w_0 x_1 n_2 w
theorem bits_Writer_Write_p12_ok (kn : K0) (R : K1) (hn : ∀ g w, kn w → Q .normal g w) (hr : HR rs_bits_Writer_Write R Q) (h : bits_Writer_Write_p12 kn R (g 0) (g 1) (g 2) w) : den pg ann_bits_Writer_Write code_bits_Writer_Write Q g w :=
  den_seqs 2 _ g w (by kernel_rfl) (bits_Writer_Write_p11_ok (thenE (fun g w => den pg ann_bits_Writer_Write (dropS 2 code_bits_Writer_Write) Q g w) Q) g w (fun w_0 x_1 t17 t18 w => bits_Writer_Write_p10 kn w_0 x_1 t17 t18 w) R (fun g w h => thenE_n (K := fun g w => den pg ann_bits_Writer_Write (dropS 2 code_bits_Writer_Write) Q g w) (bits_Writer_Write_p10_ok Q g w kn hn h)) hr h)

def bits_Writer_Write (a0 a1 a2 : Value) (w : World) (R : K1) : Prop :=
  bits_Writer_Write_p12 (fun  w => R (.tuple #[]) w) R a0 a1 a2 w
theorem bits_Writer_Write_does {a0 a1 a2 : Value} {w : World} {R : K1} (h : bits_Writer_Write a0 a1 a2 w R) : Does pg F_bits_Writer_Write #[a0, a1, a2] w R := by
  refine does_of_den (ann := ann_bits_Writer_Write) (fn := Try.f31) (c := code_bits_Writer_Write) (args := [a0, a1, a2]) (rs := rs_bits_Writer_Write) (N := 69) TryM.mixed (by kernel_rfl) Try.func31 (by kernel_rfl) (by kernel_rfl) (by kernel_rfl) (of_decide_eq_true (by kernel_rfl)) (by kernel_rfl) ?_
  exact (bits_Writer_Write_p12_ok (retQ pg rs_bits_Writer_Write R) (envOf [a0, a1, a2]) w (fun  w => R (.tuple #[]) w) R (fun _ _ h => h) (fun _ _ h => h) h)
-- PIECES bits_Writer_Write/0 bits_Writer_Write_p9 bits_Writer_Write_p10 bits_Writer_Write_p11 bits_Writer_Write_p12
-- PIECES bits_Writer_Write/1 bits_Writer_Write_p1 bits_Writer_Write_p2 bits_Writer_Write_p3 bits_Writer_Write_p4 bits_Writer_Write_p5 bits_Writer_Write_p6 bits_Writer_Write_p7 bits_Writer_Write_p8

/- (*lighterman/bits.Writer).Closed -/
def ann_bits_Writer_Closed : FA := ⟨F_bits_Writer_Closed, fun i => match Nat.beq i 3 with | true => .leaf ([4, 10], [(4, 6), (4, 7), (4, 8)]) [(false, []), (false, []), (false, []), (false, []), (true, []), (false, []), (false, [1]), (false, [2]), (false, [3]), (false, []), (true, []), (false, [])] | false => .leaf ([], []) []⟩
def rs_bits_Writer_Closed : List ResultVar := [.tmp 2]
noncomputable def code_bits_Writer_Closed : Code := bodyOf Try.f32
def bits_Writer_Closed_p1 (R : K1) (w_0 : Value) (w : World) : Prop :=
  Stp pg (sBin .eql 72 (.tmp 4) (.const (.pointer none)) w_0 (.pointer none)) w fun t5 w =>
  Cnd t5
    (R (.slice none 0 0) w)
    ((dr w) = (dr w) ∧
    Stp pg (sNil w_0) (dr w) fun t7 w_ => w_ = (dr w) ∧
    Stp pg (sFAddr 111 t7 0) (dr w) fun t8 w_ => w_ = (dr w) ∧
    Stp pg (sLoad 52 t8) (dr w) fun t9 w_ => w_ = (dr w) ∧
    Does pg F_slices_Clone_inst #[t9] (dr w) fun t10 w3_4 =>
    w3_4 = w3_4 ∧
    Stp pg (sNil w_0) w3_4 fun t12 w_ => w_ = w3_4 ∧
    (Same pg (sNil w_0) t12 (dr w) ∧ True) ∧
    Stp pg (sFAddr 111 t12 1) w3_4 fun t13 w_ => w_ = w3_4 ∧
    (Same pg (sFAddr 111 t12 1) t13 (dr w) ∧ True) ∧
    Stp pg (sLoad 3 t13) w3_4 fun t14 w_ => w_ = w3_4 ∧
    (Same pg (sLoad 3 t13) t14 (dr w) ∧ True) ∧
    Stp pg (sBuild 111 [(0, t10), (1, t14)]) w3_4 fun t15 w_ => w_ = w3_4 ∧
    Stp pg (sBox 111 t15) w3_4 fun t16 w3_10 =>
    w3_10 = w3_10 ∧
    Does pg F_bits_Writer_Write #[t16, (.int .u64 1), (.int .i64 1)] w3_10 fun t18 w =>
    Stp pg (sNil t16) w fun t20 w =>
    Stp pg (sFAddr 111 t20 0) w fun t21 w =>
    Stp pg (sLoad 52 t21) w fun t22 w =>
    R t22 w)
theorem bits_Writer_Closed_p1_ok (R : K1) (hr : HR rs_bits_Writer_Closed R Q) (h : bits_Writer_Closed_p1 R (g 0) w) : den pg ann_bits_Writer_Closed code_bits_Writer_Closed Q g w :=
  den_exQ (kn := no) (l := []) (by kernel_rfl) h noE hr trivial

def bits_Writer_Closed (a0 : Value) (w : World) (R : K1) : Prop :=
  bits_Writer_Closed_p1 R a0 w
theorem bits_Writer_Closed_does {a0 : Value} {w : World} {R : K1} (h : bits_Writer_Closed a0 w R) : Does pg F_bits_Writer_Closed #[a0] w R := by
  refine does_of_den (ann := ann_bits_Writer_Closed) (fn := Try.f32) (c := code_bits_Writer_Closed) (args := [a0]) (rs := rs_bits_Writer_Closed) (N := 23) TryM.mixed (by kernel_rfl) Try.func32 (by kernel_rfl) (by kernel_rfl) (by kernel_rfl) (of_decide_eq_true (by kernel_rfl)) (by kernel_rfl) ?_
  exact (bits_Writer_Closed_p1_ok (retQ pg rs_bits_Writer_Closed R) (envOf [a0]) w R (fun _ _ h => h) h)
-- PIECES bits_Writer_Closed/0 bits_Writer_Closed_p1

/- (*lighterman/bits.Writer).Out -/
def ann_bits_Writer_Out : FA := ⟨F_bits_Writer_Out, fun i => .leaf ([], []) []⟩
def rs_bits_Writer_Out : List ResultVar := [.tmp 2]
noncomputable def code_bits_Writer_Out : Code := bodyOf Try.f61
def bits_Writer_Out_p1 (R : K1) (w_0 : Value) (w : World) : Prop :=
  Stp pg (sBin .eql 72 (.tmp 3) (.const (.pointer none)) w_0 (.pointer none)) w fun t4 w =>
  Cnd t4
    (R (.slice none 0 0) w)
    (Stp pg (sNil w_0) w fun t6 w =>
    Stp pg (sFAddr 111 t6 0) w fun t7 w =>
    Stp pg (sLoad 52 t7) w fun t8 w =>
    Does pg F_slices_Clone_inst #[t8] w fun t9 w =>
    R t9 w)
theorem bits_Writer_Out_p1_ok (R : K1) (hr : HR rs_bits_Writer_Out R Q) (h : bits_Writer_Out_p1 R (g 0) w) : den pg ann_bits_Writer_Out code_bits_Writer_Out Q g w :=
  den_exQ (kn := no) (l := []) (by kernel_rfl) h noE hr trivial

def bits_Writer_Out (a0 : Value) (w : World) (R : K1) : Prop :=
  bits_Writer_Out_p1 R a0 w
theorem bits_Writer_Out_does {a0 : Value} {w : World} {R : K1} (h : bits_Writer_Out a0 w R) : Does pg F_bits_Writer_Out #[a0] w R := by
  refine does_of_den (ann := ann_bits_Writer_Out) (fn := Try.f61) (c := code_bits_Writer_Out) (args := [a0]) (rs := rs_bits_Writer_Out) (N := 10) TryM.mixed (by kernel_rfl) Try.func61 (by kernel_rfl) (by kernel_rfl) (by kernel_rfl) (of_decide_eq_true (by kernel_rfl)) (by kernel_rfl) ?_
  exact (bits_Writer_Out_p1_ok (retQ pg rs_bits_Writer_Out R) (envOf [a0]) w R (fun _ _ h => h) h)
-- PIECES bits_Writer_Out/0 bits_Writer_Out_p1

end Go.Proofs.Ytcbkdccobhkbpaa

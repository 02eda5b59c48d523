/- The pieces of bodies, written by a program of ours off the loaded code, each with its proof. -/
import Derived.Test.YtoepfjgekpdddaaF
namespace Go.Proofs.Ytoepfjgekpdddaa
open Go Go.En
set_option linter.unusedVariables false
set_option maxRecDepth 20000
attribute [local irreducible] Go.En.den
variable (Q : Exit → Env → World → Prop) (g : Env) (w : World)
/- lighterman/weights.lengths -/
def ann_weights_lengths : FA := ⟨F_weights_lengths, fun i => match Nat.beq i 15 with | true => .leaf ([], []) [(false, []), (false, []), (false, []), (false, []), (false, []), (false, []), (false, []), (false, []), (false, []), (false, []), (false, []), (false, []), (false, []), (false, []), (false, []), (false, []), (false, []), (false, []), (false, []), (false, []), (false, []), (false, []), (false, []), (false, []), (false, []), (false, []), (false, []), (false, []), (false, []), (false, []), (false, []), (false, []), (false, []), (false, []), (false, []), (false, []), (false, []), (false, []), (false, []), (false, []), (false, []), (false, []), (false, [])] | false => match Nat.beq i 25 with | true => .leaf ([], []) [(false, []), (false, []), (false, []), (false, []), (false, []), (false, []), (false, []), (false, []), (false, []), (false, []), (false, []), (false, []), (false, []), (false, []), (false, []), (false, []), (false, []), (false, []), (false, []), (false, []), (false, []), (false, []), (false, []), (false, []), (false, []), (false, []), (false, []), (false, []), (false, []), (false, []), (false, []), (false, []), (false, []), (false, []), (false, []), (false, []), (false, []), (false, []), (false, []), (false, []), (false, []), (false, []), (false, []), (false, []), (false, []), (false, [])] | false => .leaf ([], []) []⟩
def rs_weights_lengths : List ResultVar := [.tmp 4]
noncomputable def code_weights_lengths : Code := bodyOf Try.f32
def weights_lengths_p1 (R : K1) (out_5 : Value) (w : World) : Prop :=
  R out_5 w
theorem weights_lengths_p1_ok (R : K1) (hr : HR rs_weights_lengths R Q) (h : weights_lengths_p1 R (g 5) w) : den pg ann_weights_lengths (dropS 1 (dropS 1 (dropS 1 (dropS 3 code_weights_lengths)))) Q g w :=
  den_exQ (kn := no) (l := []) (by kernel_rfl) h noE hr trivial

def weights_lengths_p2 (kn : K3) (often_0 out_5 room_6 at_12 : Value) (w : World) : Prop :=
  Stp pg (sIAddr 62 out_5 at_12) w fun t176 w =>
  Stp pg (sLoad 3 t176) w fun t177 w =>
  Stp pg (sBin .sub 3 (.const (.int .i64 11)) (.tmp 177) (.int .i64 11) t177) w fun t178 w =>
  Stp pg (sBin .shl 3 (.const (.int .i64 1)) (.tmp 178) (.int .i64 1) t178) w fun t179 w =>
  Stp pg (sBin .sub 3 (.tmp 173) (.tmp 179) room_6 t179) w fun t180 w =>
  Stp pg (sIAddr 62 out_5 at_12) w fun t183 w =>
  Stp pg (sLoad 3 t183) w fun t184 w =>
  Stp pg (sBin .sub 3 (.tmp 184) (.const (.int .i64 1)) t184 (.int .i64 1)) w fun t185 w =>
  Stp pg (sIAddr 62 out_5 at_12) w fun t186 w =>
  Stp pg (sStore 3 t186 t185) w fun _u w =>
  kn often_0 out_5 t180 w
theorem weights_lengths_p2_ok (kn : K3) (hn : ∀ g w, kn (g 0) (g 5) (g 6) w → Q .normal g w) (h : weights_lengths_p2 kn (g 0) (g 5) (g 6) (g 12) w) : den pg ann_weights_lengths (dropS 1 (dropS 1 (bI (dropS 1 (bI (bI (takeS 1 (dropS 1 (dropS 1 (dropS 3 code_weights_lengths)))))))))) Q g w :=
  den_exQ (kr := no) (l := []) (by kernel_rfl) h hn noE trivial

def weights_lengths_p3 (kn : K7) (often_0 out_5 room_6 at_12 t118 t119 t120 : Value) (w : World) : Prop :=
  Stp pg (sBin .add 3 (.tmp 120) (.const (.int .i64 1)) t120 (.int .i64 1)) w fun t172 w =>
  kn often_0 out_5 room_6 at_12 t118 t119 t172 w
theorem weights_lengths_p3_ok (kn : K7) (hn : ∀ g w, kn (g 0) (g 5) (g 6) (g 12) (g 118) (g 119) (g 120) w → Q .normal g w) (h : weights_lengths_p3 kn (g 0) (g 5) (g 6) (g 12) (g 118) (g 119) (g 120) w) : den pg ann_weights_lengths (dropS 3 (bI (bI (dropS 1 (takeS 1 (dropS 1 (bI (dropS 1 (bI (bI (takeS 1 (dropS 1 (dropS 1 (dropS 3 code_weights_lengths)))))))))))))) Q g w :=
  den_exQ (kr := no) (l := []) (by kernel_rfl) h hn noE trivial

def weights_lengths_p4 (kn : K7) (k8 : K4) (often_0 out_5 room_6 at_12 t118 t119 t120 : Value) (w : World) : Prop :=
  Stp pg (sBin .lss 3 (.tmp 120) (.tmp 119) t120 t119) w fun t121 w =>
  Cnd t121
    (Stp pg (sIAddr 43 t118 t120) w fun t123 w =>
    Stp pg (sLoad 45 t123) w fun t124 w =>
    (dr w) = (dr w) ∧
    Stp pg (sBin .gtr 45 (.tmp 125) (.const (.int .u32 0)) t124 (.int .u32 0)) (dr w) fun t126 w_ => w_ = (dr w) ∧
    (dr w) = (dr w) ∧
    Gd (isB t126 true) (fun K => K out_5 (dr w)) (dr w) fun t128 w_ => w_ = (dr w) ∧
    Gd (isB t126 true) (fun K => K t120 (dr w)) (dr w) fun t129 w_ => w_ = (dr w) ∧
    Gd (isB t126 true) (fun K => Stp pg (sIAddr 62 t128 t129) (dr w) K) (dr w) fun t130 w_ => w_ = (dr w) ∧
    Gd (isB t126 true) (fun K => Stp pg (sLoad 3 t130) (dr w) K) (dr w) fun t131 w_ => w_ = (dr w) ∧
    Gd (isB t126 true) (fun K => Stp pg (sBin .sub 3 (.const (.int .i64 11)) (.tmp 131) (.int .i64 11) t131) (dr w) K) (dr w) fun t132 w_ => w_ = (dr w) ∧
    Gd (isB t126 true) (fun K => Stp pg (sBin .shl 3 (.const (.int .i64 1)) (.tmp 132) (.int .i64 1) t132) (dr w) K) (dr w) fun t133 w_ => w_ = (dr w) ∧
    Gd (isB t126 true) (fun K => K room_6 (dr w)) (dr w) fun t134 w_ => w_ = (dr w) ∧
    Gd (isB t126 true) (fun K => Stp pg (sBin .leq 3 (.tmp 133) (.tmp 134) t133 t134) (dr w) K) (dr w) fun t135 w_ => w_ = (dr w) ∧
    Stp pg (sPick t126 t135 (.bool false)) (dr w) fun t136 w_ => w_ = (dr w) ∧
    (dr w) = (dr w) ∧
    Gd (isB t136 true) (fun K => K at_12 (dr w)) (dr w) fun t138 w_ => w_ = (dr w) ∧
    Gd (isB t136 true) (fun K => Stp pg (sBin .lss 3 (.tmp 138) (.const (.int .i64 0)) t138 (.int .i64 0)) (dr w) K) (dr w) fun t139 w_ => w_ = (dr w) ∧
    Gd (isB t136 true) (fun K => K t139 (dr w)) (dr w) fun t140 w_ => w_ = (dr w) ∧
    Gd (isB t140 false) (fun K => K out_5 (dr w)) (dr w) fun t141 w_ => w_ = (dr w) ∧
    Gd (isB t140 false) (fun K => K t120 (dr w)) (dr w) fun t142 w_ => w_ = (dr w) ∧
    Gd (isB t140 false) (fun K => Stp pg (sIAddr 62 t141 t142) (dr w) K) (dr w) fun t143 w_ => w_ = (dr w) ∧
    Gd (isB t140 false) (fun K => Stp pg (sLoad 3 t143) (dr w) K) (dr w) fun t144 w_ => w_ = (dr w) ∧
    Gd (isB t140 false) (fun K => K out_5 (dr w)) (dr w) fun t145 w_ => w_ = (dr w) ∧
    Gd (isB t140 false) (fun K => K at_12 (dr w)) (dr w) fun t146 w_ => w_ = (dr w) ∧
    Gd (isB t140 false) (fun K => Stp pg (sIAddr 62 t145 t146) (dr w) K) (dr w) fun t147 w_ => w_ = (dr w) ∧
    Gd (isB t140 false) (fun K => Stp pg (sLoad 3 t147) (dr w) K) (dr w) fun t148 w_ => w_ = (dr w) ∧
    Gd (isB t140 false) (fun K => Stp pg (sBin .gtr 3 (.tmp 144) (.tmp 148) t144 t148) (dr w) K) (dr w) fun t149 w_ => w_ = (dr w) ∧
    Gd (isB t136 true) (fun K => Stp pg (sPick t140 (.bool true) t149) (dr w) K) (dr w) fun t150 w_ => w_ = (dr w) ∧
    Gd (isB t136 true) (fun K => K t150 (dr w)) (dr w) fun t151 w_ => w_ = (dr w) ∧
    Gd (isB t151 false) (fun K => K out_5 (dr w)) (dr w) fun t152 w_ => w_ = (dr w) ∧
    Gd (isB t151 false) (fun K => K t120 (dr w)) (dr w) fun t153 w_ => w_ = (dr w) ∧
    Gd (isB t151 false) (fun K => Stp pg (sIAddr 62 t152 t153) (dr w) K) (dr w) fun t154 w_ => w_ = (dr w) ∧
    Gd (isB t151 false) (fun K => Stp pg (sLoad 3 t154) (dr w) K) (dr w) fun t155 w_ => w_ = (dr w) ∧
    Gd (isB t151 false) (fun K => K out_5 (dr w)) (dr w) fun t156 w_ => w_ = (dr w) ∧
    Gd (isB t151 false) (fun K => K at_12 (dr w)) (dr w) fun t157 w_ => w_ = (dr w) ∧
    Gd (isB t151 false) (fun K => Stp pg (sIAddr 62 t156 t157) (dr w) K) (dr w) fun t158 w_ => w_ = (dr w) ∧
    Gd (isB t151 false) (fun K => Stp pg (sLoad 3 t158) (dr w) K) (dr w) fun t159 w_ => w_ = (dr w) ∧
    Gd (isB t151 false) (fun K => Stp pg (sBin .eql 3 (.tmp 155) (.tmp 159) t155 t159) (dr w) K) (dr w) fun t160 w_ => w_ = (dr w) ∧
    Gd (isB t151 false) (fun K => K t160 (dr w)) (dr w) fun t161 w_ => w_ = (dr w) ∧
    Gd (isB t161 true) (fun K => K t124 (dr w)) (dr w) fun t162 w_ => w_ = (dr w) ∧
    Gd (isB t161 true) (fun K => K often_0 (dr w)) (dr w) fun t163 w_ => w_ = (dr w) ∧
    Gd (isB t161 true) (fun K => K at_12 (dr w)) (dr w) fun t164 w_ => w_ = (dr w) ∧
    Gd (isB t161 true) (fun K => Stp pg (sIAddr 43 t163 t164) (dr w) K) (dr w) fun t165 w_ => w_ = (dr w) ∧
    Gd (isB t161 true) (fun K => Stp pg (sLoad 45 t165) (dr w) K) (dr w) fun t166 w_ => w_ = (dr w) ∧
    Gd (isB t161 true) (fun K => Stp pg (sBin .gtr 45 (.tmp 162) (.tmp 166) t162 t166) (dr w) K) (dr w) fun t167 w_ => w_ = (dr w) ∧
    Gd (isB t151 false) (fun K => Stp pg (sPick t161 t167 (.bool false)) (dr w) K) (dr w) fun t168 w_ => w_ = (dr w) ∧
    Gd (isB t136 true) (fun K => Stp pg (sPick t151 (.bool true) t168) (dr w) K) (dr w) fun t169 w_ => w_ = (dr w) ∧
    Stp pg (sPick t136 t169 (.bool false)) (dr w) fun t170 w_ => w_ = (dr w) ∧
    Cnd t170
      (kn often_0 out_5 room_6 t120 t118 t119 t120 (dr w))
      (kn often_0 out_5 room_6 at_12 t118 t119 t120 (dr w)))
    (k8 often_0 out_5 room_6 at_12 w)
theorem weights_lengths_p4_ok (kn : K7) (k8 : K4) (hn : ∀ g w, kn (g 0) (g 5) (g 6) (g 12) (g 118) (g 119) (g 120) w → Q .normal g w) (h8 : ∀ g w, k8 (g 0) (g 5) (g 6) (g 12) w → Q (.exit 8) g w) (h : weights_lengths_p4 kn k8 (g 0) (g 5) (g 6) (g 12) (g 118) (g 119) (g 120) w) : den pg ann_weights_lengths (takeS 3 (bI (bI (dropS 1 (takeS 1 (dropS 1 (bI (dropS 1 (bI (bI (takeS 1 (dropS 1 (dropS 1 (dropS 3 code_weights_lengths)))))))))))))) Q g w :=
  den_exQ (kr := no) (l := [(8, fun g w => k8 (g 0) (g 5) (g 6) (g 12) w)]) (by kernel_rfl) h hn noE ⟨h8, trivial⟩

def weights_lengths_p5 (kn : K7) (k8 : K4) (often_0 out_5 room_6 at_12 t118 t119 t120 : Value) (w : World) : Prop :=
  weights_lengths_p4 (fun often_0 out_5 room_6 at_12 t118 t119 t120 w => weights_lengths_p3 kn often_0 out_5 room_6 at_12 t118 t119 t120 w) k8 often_0 out_5 room_6 at_12 t118 t119 t120 w
theorem weights_lengths_p5_ok (kn : K7) (k8 : K4) (hn : ∀ g w, kn (g 0) (g 5) (g 6) (g 12) (g 118) (g 119) (g 120) w → Q .normal g w) (h8 : ∀ g w, k8 (g 0) (g 5) (g 6) (g 12) w → Q (.exit 8) g w) (h : weights_lengths_p5 kn k8 (g 0) (g 5) (g 6) (g 12) (g 118) (g 119) (g 120) w) : den pg ann_weights_lengths (bI (bI (dropS 1 (takeS 1 (dropS 1 (bI (dropS 1 (bI (bI (takeS 1 (dropS 1 (dropS 1 (dropS 3 code_weights_lengths))))))))))))) Q g w :=
  den_seqs 3 _ g w (by kernel_rfl) (weights_lengths_p4_ok (thenE (fun g w => den pg ann_weights_lengths (dropS 3 (bI (bI (dropS 1 (takeS 1 (dropS 1 (bI (dropS 1 (bI (bI (takeS 1 (dropS 1 (dropS 1 (dropS 3 code_weights_lengths)))))))))))))) Q g w) Q) g w (fun often_0 out_5 room_6 at_12 t118 t119 t120 w => weights_lengths_p3 kn often_0 out_5 room_6 at_12 t118 t119 t120 w) k8 (fun g w h => thenE_n (K := fun g w => den pg ann_weights_lengths (dropS 3 (bI (bI (dropS 1 (takeS 1 (dropS 1 (bI (dropS 1 (bI (bI (takeS 1 (dropS 1 (dropS 1 (dropS 3 code_weights_lengths)))))))))))))) Q g w) (weights_lengths_p3_ok Q g w kn hn h)) h8 h)

def weights_lengths_p6 (k8 : K4) (often_0 out_5 room_6 at_12 t118 t119 t120 : Value) (w : World) : Prop :=
  LoopD (fun (X : (Value × Value) → K0) (t : Value × Value) (w : World) => weights_lengths_p5 (fun _ _ _ at_12 _ _ t120 w => X (at_12, t120) w) k8 often_0 out_5 room_6 t.1 t118 t119 t.2 w) (at_12, t120) w
theorem weights_lengths_p6_ok (k8 : K4) (h8 : ∀ g w, k8 (g 0) (g 5) (g 6) (g 12) w → Q (.exit 8) g w) (h : weights_lengths_p6 k8 (g 0) (g 5) (g 6) (g 12) (g 118) (g 119) (g 120) w) : den pg ann_weights_lengths (bI (dropS 1 (takeS 1 (dropS 1 (bI (dropS 1 (bI (bI (takeS 1 (dropS 1 (dropS 1 (dropS 3 code_weights_lengths)))))))))))) Q g w := by
  refine den_loops (T := Value × Value) (fun g : Env => (g 12, g 120)) (fun X t w => weights_lengths_p5 (fun _ _ _ at_12 _ _ t120 w => X (at_12, t120) w) k8 (g 0) (g 5) (g 6) t.1 (g 118) (g 119) t.2 w) _ (by kernel_rfl) h (fun X g1 w1 ha hL => ?_)
  rw [← agree_at (s := 0) ha (by kernel_rfl)] at hL
  rw [← agree_at (s := 5) ha (by kernel_rfl)] at hL
  rw [← agree_at (s := 6) ha (by kernel_rfl)] at hL
  rw [← agree_at (s := 118) ha (by kernel_rfl)] at hL
  rw [← agree_at (s := 119) ha (by kernel_rfl)] at hL
  exact (weights_lengths_p5_ok (thenE (fun g2 w2 => X ((fun g : Env => (g 12, g 120)) g2) w2) Q) g1 w1 (fun _ _ _ at_12 _ _ t120 w => X (at_12, t120) w) k8 (fun _ _ h => h) h8 hL)

def weights_lengths_p7 (kn : K4) (often_0 out_5 room_6 at_12 t118 t119 t120 : Value) (w : World) : Prop :=
  weights_lengths_p6 kn often_0 out_5 room_6 at_12 t118 t119 t120 w
theorem weights_lengths_p7_ok (kn : K4) (hn : ∀ g w, kn (g 0) (g 5) (g 6) (g 12) w → Q .normal g w) (h : weights_lengths_p7 kn (g 0) (g 5) (g 6) (g 12) (g 118) (g 119) (g 120) w) : den pg ann_weights_lengths (dropS 1 (takeS 1 (dropS 1 (bI (dropS 1 (bI (bI (takeS 1 (dropS 1 (dropS 1 (dropS 3 code_weights_lengths))))))))))) Q g w :=
  den_blk 8 _ g w (by kernel_rfl) (weights_lengths_p6_ok (blk 8 Q) g w kn hn h)

def weights_lengths_p8 (kn : K7) (often_0 out_5 room_6 at_12 : Value) (w : World) : Prop :=
  Stp pg (sBi .len #[43] 3 [often_0]) w fun t119 w =>
  kn often_0 out_5 room_6 at_12 often_0 t119 (.int .i64 0) w
theorem weights_lengths_p8_ok (kn : K7) (hn : ∀ g w, kn (g 0) (g 5) (g 6) (g 12) (g 118) (g 119) (g 120) w → Q .normal g w) (h : weights_lengths_p8 kn (g 0) (g 5) (g 6) (g 12) w) : den pg ann_weights_lengths (takeS 1 (takeS 1 (dropS 1 (bI (dropS 1 (bI (bI (takeS 1 (dropS 1 (dropS 1 (dropS 3 code_weights_lengths))))))))))) Q g w :=
  den_exQ (kr := no) (l := []) (by kernel_rfl) h hn noE trivial

def weights_lengths_p9 (kn : K4) (often_0 out_5 room_6 at_12 : Value) (w : World) : Prop :=
  weights_lengths_p8 (fun often_0 out_5 room_6 at_12 t118 t119 t120 w => weights_lengths_p7 kn often_0 out_5 room_6 at_12 t118 t119 t120 w) often_0 out_5 room_6 at_12 w
theorem weights_lengths_p9_ok (kn : K4) (hn : ∀ g w, kn (g 0) (g 5) (g 6) (g 12) w → Q .normal g w) (h : weights_lengths_p9 kn (g 0) (g 5) (g 6) (g 12) w) : den pg ann_weights_lengths (takeS 1 (dropS 1 (bI (dropS 1 (bI (bI (takeS 1 (dropS 1 (dropS 1 (dropS 3 code_weights_lengths)))))))))) Q g w :=
  den_seqs 1 _ g w (by kernel_rfl) (weights_lengths_p8_ok (thenE (fun g w => den pg ann_weights_lengths (dropS 1 (takeS 1 (dropS 1 (bI (dropS 1 (bI (bI (takeS 1 (dropS 1 (dropS 1 (dropS 3 code_weights_lengths))))))))))) Q g w) Q) g w (fun often_0 out_5 room_6 at_12 t118 t119 t120 w => weights_lengths_p7 kn often_0 out_5 room_6 at_12 t118 t119 t120 w) (fun g w h => thenE_n (K := fun g w => den pg ann_weights_lengths (dropS 1 (takeS 1 (dropS 1 (bI (dropS 1 (bI (bI (takeS 1 (dropS 1 (dropS 1 (dropS 3 code_weights_lengths))))))))))) Q g w) (weights_lengths_p7_ok Q g w kn hn h)) h)

def weights_lengths_p10 (kn : K3) (often_0 out_5 room_6 at_12 : Value) (w : World) : Prop :=
  weights_lengths_p9 (fun often_0 out_5 room_6 at_12 w => weights_lengths_p2 kn often_0 out_5 room_6 at_12 w) often_0 out_5 room_6 at_12 w
theorem weights_lengths_p10_ok (kn : K3) (hn : ∀ g w, kn (g 0) (g 5) (g 6) w → Q .normal g w) (h : weights_lengths_p10 kn (g 0) (g 5) (g 6) (g 12) w) : den pg ann_weights_lengths (dropS 1 (bI (dropS 1 (bI (bI (takeS 1 (dropS 1 (dropS 1 (dropS 3 code_weights_lengths))))))))) Q g w :=
  den_seqs 1 _ g w (by kernel_rfl) (weights_lengths_p9_ok (thenE (fun g w => den pg ann_weights_lengths (dropS 1 (dropS 1 (bI (dropS 1 (bI (bI (takeS 1 (dropS 1 (dropS 1 (dropS 3 code_weights_lengths)))))))))) Q g w) Q) g w (fun often_0 out_5 room_6 at_12 w => weights_lengths_p2 kn often_0 out_5 room_6 at_12 w) (fun g w h => thenE_n (K := fun g w => den pg ann_weights_lengths (dropS 1 (dropS 1 (bI (dropS 1 (bI (bI (takeS 1 (dropS 1 (dropS 1 (dropS 3 code_weights_lengths)))))))))) Q g w) (weights_lengths_p2_ok Q g w kn hn h)) h)

def weights_lengths_p11 (kn : K4) (often_0 out_5 room_6 : Value) (w : World) : Prop :=
  kn often_0 out_5 room_6 (.int .i64 (-1)) w
theorem weights_lengths_p11_ok (kn : K4) (hn : ∀ g w, kn (g 0) (g 5) (g 6) (g 12) w → Q .normal g w) (h : weights_lengths_p11 kn (g 0) (g 5) (g 6) w) : den pg ann_weights_lengths (takeS 1 (bI (dropS 1 (bI (bI (takeS 1 (dropS 1 (dropS 1 (dropS 3 code_weights_lengths))))))))) Q g w :=
  den_exQ (kr := no) (l := []) (by kernel_rfl) h hn noE trivial

def weights_lengths_p12 (kn : K3) (often_0 out_5 room_6 : Value) (w : World) : Prop :=
  weights_lengths_p11 (fun often_0 out_5 room_6 at_12 w => weights_lengths_p10 kn often_0 out_5 room_6 at_12 w) often_0 out_5 room_6 w
theorem weights_lengths_p12_ok (kn : K3) (hn : ∀ g w, kn (g 0) (g 5) (g 6) w → Q .normal g w) (h : weights_lengths_p12 kn (g 0) (g 5) (g 6) w) : den pg ann_weights_lengths (bI (dropS 1 (bI (bI (takeS 1 (dropS 1 (dropS 1 (dropS 3 code_weights_lengths)))))))) Q g w :=
  den_seqs 1 _ g w (by kernel_rfl) (weights_lengths_p11_ok (thenE (fun g w => den pg ann_weights_lengths (dropS 1 (bI (dropS 1 (bI (bI (takeS 1 (dropS 1 (dropS 1 (dropS 3 code_weights_lengths))))))))) Q g w) Q) g w (fun often_0 out_5 room_6 at_12 w => weights_lengths_p10 kn often_0 out_5 room_6 at_12 w) (fun g w h => thenE_n (K := fun g w => den pg ann_weights_lengths (dropS 1 (bI (dropS 1 (bI (bI (takeS 1 (dropS 1 (dropS 1 (dropS 3 code_weights_lengths))))))))) Q g w) (weights_lengths_p10_ok Q g w kn hn h)) h)

def weights_lengths_p13 (kn : K3) (often_0 out_5 room_6 : Value) (w : World) : Prop :=
  weights_lengths_p12 kn often_0 out_5 room_6 w
theorem weights_lengths_p13_ok (kn : K3) (hn : ∀ g w, kn (g 0) (g 5) (g 6) w → Q .normal g w) (h : weights_lengths_p13 kn (g 0) (g 5) (g 6) w) : den pg ann_weights_lengths (dropS 1 (bI (bI (takeS 1 (dropS 1 (dropS 1 (dropS 3 code_weights_lengths))))))) Q g w :=
  den_blk 7 _ g w (by kernel_rfl) (weights_lengths_p12_ok (blk 7 Q) g w kn hn h)

def weights_lengths_p14 (kn : K3) (k6 : K1) (often_0 out_5 room_6 : Value) (w : World) : Prop :=
  Stp pg (sBin .gtr 3 (.tmp 116) (.const (.int .i64 0)) room_6 (.int .i64 0)) w fun t117 w =>
  Cnd t117
    (kn often_0 out_5 room_6 w)
    (k6 out_5 w)
theorem weights_lengths_p14_ok (kn : K3) (k6 : K1) (hn : ∀ g w, kn (g 0) (g 5) (g 6) w → Q .normal g w) (h6 : ∀ g w, k6 (g 5) w → Q (.exit 6) g w) (h : weights_lengths_p14 kn k6 (g 0) (g 5) (g 6) w) : den pg ann_weights_lengths (takeS 1 (bI (bI (takeS 1 (dropS 1 (dropS 1 (dropS 3 code_weights_lengths))))))) Q g w :=
  den_exQ (kr := no) (l := [(6, fun g w => k6 (g 5) w)]) (by kernel_rfl) h hn noE ⟨h6, trivial⟩

def weights_lengths_p15 (kn : K3) (k6 : K1) (often_0 out_5 room_6 : Value) (w : World) : Prop :=
  weights_lengths_p14 (fun often_0 out_5 room_6 w => weights_lengths_p13 kn often_0 out_5 room_6 w) k6 often_0 out_5 room_6 w
theorem weights_lengths_p15_ok (kn : K3) (k6 : K1) (hn : ∀ g w, kn (g 0) (g 5) (g 6) w → Q .normal g w) (h6 : ∀ g w, k6 (g 5) w → Q (.exit 6) g w) (h : weights_lengths_p15 kn k6 (g 0) (g 5) (g 6) w) : den pg ann_weights_lengths (bI (bI (takeS 1 (dropS 1 (dropS 1 (dropS 3 code_weights_lengths)))))) Q g w :=
  den_seqs 1 _ g w (by kernel_rfl) (weights_lengths_p14_ok (thenE (fun g w => den pg ann_weights_lengths (dropS 1 (bI (bI (takeS 1 (dropS 1 (dropS 1 (dropS 3 code_weights_lengths))))))) Q g w) Q) g w (fun often_0 out_5 room_6 w => weights_lengths_p13 kn often_0 out_5 room_6 w) k6 (fun g w h => thenE_n (K := fun g w => den pg ann_weights_lengths (dropS 1 (bI (bI (takeS 1 (dropS 1 (dropS 1 (dropS 3 code_weights_lengths))))))) Q g w) (weights_lengths_p13_ok Q g w kn hn h)) h6 h)

def weights_lengths_p16 (k6 : K1) (often_0 out_5 room_6 : Value) (w : World) : Prop :=
  LoopD (fun (X : Value → K0) (t : Value) (w : World) => weights_lengths_p15 (fun _ _ room_6 w => X room_6 w) k6 often_0 out_5 t w) room_6 w
theorem weights_lengths_p16_ok (k6 : K1) (h6 : ∀ g w, k6 (g 5) w → Q (.exit 6) g w) (h : weights_lengths_p16 k6 (g 0) (g 5) (g 6) w) : den pg ann_weights_lengths (bI (takeS 1 (dropS 1 (dropS 1 (dropS 3 code_weights_lengths))))) Q g w := by
  refine den_loops (T := Value) (fun g : Env => g 6) (fun X t w => weights_lengths_p15 (fun _ _ room_6 w => X room_6 w) k6 (g 0) (g 5) t w) _ (by kernel_rfl) h (fun X g1 w1 ha hL => ?_)
  rw [← agree_at (s := 0) ha (by kernel_rfl)] at hL
  rw [← agree_at (s := 5) ha (by kernel_rfl)] at hL
  exact (weights_lengths_p15_ok (thenE (fun g2 w2 => X ((fun g : Env => g 6) g2) w2) Q) g1 w1 (fun _ _ room_6 w => X room_6 w) k6 (fun _ _ h => h) h6 hL)

def weights_lengths_p17 (kn : K1) (often_0 out_5 room_6 : Value) (w : World) : Prop :=
  weights_lengths_p16 kn often_0 out_5 room_6 w
theorem weights_lengths_p17_ok (kn : K1) (hn : ∀ g w, kn (g 5) w → Q .normal g w) (h : weights_lengths_p17 kn (g 0) (g 5) (g 6) w) : den pg ann_weights_lengths (takeS 1 (dropS 1 (dropS 1 (dropS 3 code_weights_lengths)))) Q g w :=
  den_blk 6 _ g w (by kernel_rfl) (weights_lengths_p16_ok (blk 6 Q) g w kn hn h)

def weights_lengths_p18 (R : K1) (often_0 out_5 room_6 : Value) (w : World) : Prop :=
  weights_lengths_p17 (fun out_5 w => weights_lengths_p1 R out_5 w) often_0 out_5 room_6 w
theorem weights_lengths_p18_ok (R : K1) (hr : HR rs_weights_lengths R Q) (h : weights_lengths_p18 R (g 0) (g 5) (g 6) w) : den pg ann_weights_lengths (dropS 1 (dropS 1 (dropS 3 code_weights_lengths))) Q g w :=
  den_seqs 1 _ g w (by kernel_rfl) (weights_lengths_p17_ok (thenE (fun g w => den pg ann_weights_lengths (dropS 1 (dropS 1 (dropS 1 (dropS 3 code_weights_lengths)))) Q g w) Q) g w (fun out_5 w => weights_lengths_p1 R out_5 w) (fun g w h => thenE_n (K := fun g w => den pg ann_weights_lengths (dropS 1 (dropS 1 (dropS 1 (dropS 3 code_weights_lengths)))) Q g w) (weights_lengths_p1_ok Q g w R hr h)) h)

def weights_lengths_p19 (kn : K3) (often_0 out_5 room_6 at_9 : Value) (w : World) : Prop :=
  Stp pg (sIAddr 62 out_5 at_9) w fun t104 w =>
  Stp pg (sLoad 3 t104) w fun t105 w =>
  Stp pg (sBin .sub 3 (.const (.int .i64 11)) (.tmp 105) (.int .i64 11) t105) w fun t106 w =>
  Stp pg (sBin .sub 3 (.tmp 106) (.const (.int .i64 1)) t106 (.int .i64 1)) w fun t107 w =>
  Stp pg (sBin .shl 3 (.const (.int .i64 1)) (.tmp 107) (.int .i64 1) t107) w fun t108 w =>
  Stp pg (sBin .add 3 (.tmp 101) (.tmp 108) room_6 t108) w fun t109 w =>
  Stp pg (sIAddr 62 out_5 at_9) w fun t112 w =>
  Stp pg (sLoad 3 t112) w fun t113 w =>
  Stp pg (sBin .add 3 (.tmp 113) (.const (.int .i64 1)) t113 (.int .i64 1)) w fun t114 w =>
  Stp pg (sIAddr 62 out_5 at_9) w fun t115 w =>
  Stp pg (sStore 3 t115 t114) w fun _u w =>
  kn often_0 out_5 t109 w
theorem weights_lengths_p19_ok (kn : K3) (hn : ∀ g w, kn (g 0) (g 5) (g 6) w → Q .normal g w) (h : weights_lengths_p19 kn (g 0) (g 5) (g 6) (g 9) w) : den pg ann_weights_lengths (dropS 1 (dropS 1 (bI (dropS 1 (bI (bI (takeS 1 (dropS 1 (dropS 3 code_weights_lengths))))))))) Q g w :=
  den_exQ (kr := no) (l := []) (by kernel_rfl) h hn noE trivial

def weights_lengths_p20 (kn : K7) (often_0 out_5 room_6 at_9 t49 t50 t51 : Value) (w : World) : Prop :=
  Stp pg (sBin .add 3 (.tmp 51) (.const (.int .i64 1)) t51 (.int .i64 1)) w fun t100 w =>
  kn often_0 out_5 room_6 at_9 t49 t50 t100 w
theorem weights_lengths_p20_ok (kn : K7) (hn : ∀ g w, kn (g 0) (g 5) (g 6) (g 9) (g 49) (g 50) (g 51) w → Q .normal g w) (h : weights_lengths_p20 kn (g 0) (g 5) (g 6) (g 9) (g 49) (g 50) (g 51) w) : den pg ann_weights_lengths (dropS 3 (bI (bI (dropS 1 (takeS 1 (dropS 1 (bI (dropS 1 (bI (bI (takeS 1 (dropS 1 (dropS 3 code_weights_lengths))))))))))))) Q g w :=
  den_exQ (kr := no) (l := []) (by kernel_rfl) h hn noE trivial

def weights_lengths_p21 (kn : K7) (k4 : K4) (often_0 out_5 room_6 at_9 t49 t50 t51 : Value) (w : World) : Prop :=
  Stp pg (sBin .lss 3 (.tmp 51) (.tmp 50) t51 t50) w fun t52 w =>
  Cnd t52
    (Stp pg (sIAddr 43 t49 t51) w fun t54 w =>
    Stp pg (sLoad 45 t54) w fun t55 w =>
    (dr w) = (dr w) ∧
    Stp pg (sBin .gtr 45 (.tmp 56) (.const (.int .u32 0)) t55 (.int .u32 0)) (dr w) fun t57 w_ => w_ = (dr w) ∧
    (dr w) = (dr w) ∧
    Gd (isB t57 true) (fun K => K out_5 (dr w)) (dr w) fun t59 w_ => w_ = (dr w) ∧
    Gd (isB t57 true) (fun K => K t51 (dr w)) (dr w) fun t60 w_ => w_ = (dr w) ∧
    Gd (isB t57 true) (fun K => Stp pg (sIAddr 62 t59 t60) (dr w) K) (dr w) fun t61 w_ => w_ = (dr w) ∧
    Gd (isB t57 true) (fun K => Stp pg (sLoad 3 t61) (dr w) K) (dr w) fun t62 w_ => w_ = (dr w) ∧
    Gd (isB t57 true) (fun K => Stp pg (sBin .lss 3 (.tmp 62) (.const (.int .i64 11)) t62 (.int .i64 11)) (dr w) K) (dr w) fun t63 w_ => w_ = (dr w) ∧
    Stp pg (sPick t57 t63 (.bool false)) (dr w) fun t64 w_ => w_ = (dr w) ∧
    (dr w) = (dr w) ∧
    Gd (isB t64 true) (fun K => K at_9 (dr w)) (dr w) fun t66 w_ => w_ = (dr w) ∧
    Gd (isB t64 true) (fun K => Stp pg (sBin .lss 3 (.tmp 66) (.const (.int .i64 0)) t66 (.int .i64 0)) (dr w) K) (dr w) fun t67 w_ => w_ = (dr w) ∧
    Gd (isB t64 true) (fun K => K t67 (dr w)) (dr w) fun t68 w_ => w_ = (dr w) ∧
    Gd (isB t68 false) (fun K => K out_5 (dr w)) (dr w) fun t69 w_ => w_ = (dr w) ∧
    Gd (isB t68 false) (fun K => K t51 (dr w)) (dr w) fun t70 w_ => w_ = (dr w) ∧
    Gd (isB t68 false) (fun K => Stp pg (sIAddr 62 t69 t70) (dr w) K) (dr w) fun t71 w_ => w_ = (dr w) ∧
    Gd (isB t68 false) (fun K => Stp pg (sLoad 3 t71) (dr w) K) (dr w) fun t72 w_ => w_ = (dr w) ∧
    Gd (isB t68 false) (fun K => K out_5 (dr w)) (dr w) fun t73 w_ => w_ = (dr w) ∧
    Gd (isB t68 false) (fun K => K at_9 (dr w)) (dr w) fun t74 w_ => w_ = (dr w) ∧
    Gd (isB t68 false) (fun K => Stp pg (sIAddr 62 t73 t74) (dr w) K) (dr w) fun t75 w_ => w_ = (dr w) ∧
    Gd (isB t68 false) (fun K => Stp pg (sLoad 3 t75) (dr w) K) (dr w) fun t76 w_ => w_ = (dr w) ∧
    Gd (isB t68 false) (fun K => Stp pg (sBin .gtr 3 (.tmp 72) (.tmp 76) t72 t76) (dr w) K) (dr w) fun t77 w_ => w_ = (dr w) ∧
    Gd (isB t64 true) (fun K => Stp pg (sPick t68 (.bool true) t77) (dr w) K) (dr w) fun t78 w_ => w_ = (dr w) ∧
    Gd (isB t64 true) (fun K => K t78 (dr w)) (dr w) fun t79 w_ => w_ = (dr w) ∧
    Gd (isB t79 false) (fun K => K out_5 (dr w)) (dr w) fun t80 w_ => w_ = (dr w) ∧
    Gd (isB t79 false) (fun K => K t51 (dr w)) (dr w) fun t81 w_ => w_ = (dr w) ∧
    Gd (isB t79 false) (fun K => Stp pg (sIAddr 62 t80 t81) (dr w) K) (dr w) fun t82 w_ => w_ = (dr w) ∧
    Gd (isB t79 false) (fun K => Stp pg (sLoad 3 t82) (dr w) K) (dr w) fun t83 w_ => w_ = (dr w) ∧
    Gd (isB t79 false) (fun K => K out_5 (dr w)) (dr w) fun t84 w_ => w_ = (dr w) ∧
    Gd (isB t79 false) (fun K => K at_9 (dr w)) (dr w) fun t85 w_ => w_ = (dr w) ∧
    Gd (isB t79 false) (fun K => Stp pg (sIAddr 62 t84 t85) (dr w) K) (dr w) fun t86 w_ => w_ = (dr w) ∧
    Gd (isB t79 false) (fun K => Stp pg (sLoad 3 t86) (dr w) K) (dr w) fun t87 w_ => w_ = (dr w) ∧
    Gd (isB t79 false) (fun K => Stp pg (sBin .eql 3 (.tmp 83) (.tmp 87) t83 t87) (dr w) K) (dr w) fun t88 w_ => w_ = (dr w) ∧
    Gd (isB t79 false) (fun K => K t88 (dr w)) (dr w) fun t89 w_ => w_ = (dr w) ∧
    Gd (isB t89 true) (fun K => K t55 (dr w)) (dr w) fun t90 w_ => w_ = (dr w) ∧
    Gd (isB t89 true) (fun K => K often_0 (dr w)) (dr w) fun t91 w_ => w_ = (dr w) ∧
    Gd (isB t89 true) (fun K => K at_9 (dr w)) (dr w) fun t92 w_ => w_ = (dr w) ∧
    Gd (isB t89 true) (fun K => Stp pg (sIAddr 43 t91 t92) (dr w) K) (dr w) fun t93 w_ => w_ = (dr w) ∧
    Gd (isB t89 true) (fun K => Stp pg (sLoad 45 t93) (dr w) K) (dr w) fun t94 w_ => w_ = (dr w) ∧
    Gd (isB t89 true) (fun K => Stp pg (sBin .lss 45 (.tmp 90) (.tmp 94) t90 t94) (dr w) K) (dr w) fun t95 w_ => w_ = (dr w) ∧
    Gd (isB t79 false) (fun K => Stp pg (sPick t89 t95 (.bool false)) (dr w) K) (dr w) fun t96 w_ => w_ = (dr w) ∧
    Gd (isB t64 true) (fun K => Stp pg (sPick t79 (.bool true) t96) (dr w) K) (dr w) fun t97 w_ => w_ = (dr w) ∧
    Stp pg (sPick t64 t97 (.bool false)) (dr w) fun t98 w_ => w_ = (dr w) ∧
    Cnd t98
      (kn often_0 out_5 room_6 t51 t49 t50 t51 (dr w))
      (kn often_0 out_5 room_6 at_9 t49 t50 t51 (dr w)))
    (k4 often_0 out_5 room_6 at_9 w)
theorem weights_lengths_p21_ok (kn : K7) (k4 : K4) (hn : ∀ g w, kn (g 0) (g 5) (g 6) (g 9) (g 49) (g 50) (g 51) w → Q .normal g w) (h4 : ∀ g w, k4 (g 0) (g 5) (g 6) (g 9) w → Q (.exit 4) g w) (h : weights_lengths_p21 kn k4 (g 0) (g 5) (g 6) (g 9) (g 49) (g 50) (g 51) w) : den pg ann_weights_lengths (takeS 3 (bI (bI (dropS 1 (takeS 1 (dropS 1 (bI (dropS 1 (bI (bI (takeS 1 (dropS 1 (dropS 3 code_weights_lengths))))))))))))) Q g w :=
  den_exQ (kr := no) (l := [(4, fun g w => k4 (g 0) (g 5) (g 6) (g 9) w)]) (by kernel_rfl) h hn noE ⟨h4, trivial⟩

def weights_lengths_p22 (kn : K7) (k4 : K4) (often_0 out_5 room_6 at_9 t49 t50 t51 : Value) (w : World) : Prop :=
  weights_lengths_p21 (fun often_0 out_5 room_6 at_9 t49 t50 t51 w => weights_lengths_p20 kn often_0 out_5 room_6 at_9 t49 t50 t51 w) k4 often_0 out_5 room_6 at_9 t49 t50 t51 w
theorem weights_lengths_p22_ok (kn : K7) (k4 : K4) (hn : ∀ g w, kn (g 0) (g 5) (g 6) (g 9) (g 49) (g 50) (g 51) w → Q .normal g w) (h4 : ∀ g w, k4 (g 0) (g 5) (g 6) (g 9) w → Q (.exit 4) g w) (h : weights_lengths_p22 kn k4 (g 0) (g 5) (g 6) (g 9) (g 49) (g 50) (g 51) w) : den pg ann_weights_lengths (bI (bI (dropS 1 (takeS 1 (dropS 1 (bI (dropS 1 (bI (bI (takeS 1 (dropS 1 (dropS 3 code_weights_lengths)))))))))))) Q g w :=
  den_seqs 3 _ g w (by kernel_rfl) (weights_lengths_p21_ok (thenE (fun g w => den pg ann_weights_lengths (dropS 3 (bI (bI (dropS 1 (takeS 1 (dropS 1 (bI (dropS 1 (bI (bI (takeS 1 (dropS 1 (dropS 3 code_weights_lengths))))))))))))) Q g w) Q) g w (fun often_0 out_5 room_6 at_9 t49 t50 t51 w => weights_lengths_p20 kn often_0 out_5 room_6 at_9 t49 t50 t51 w) k4 (fun g w h => thenE_n (K := fun g w => den pg ann_weights_lengths (dropS 3 (bI (bI (dropS 1 (takeS 1 (dropS 1 (bI (dropS 1 (bI (bI (takeS 1 (dropS 1 (dropS 3 code_weights_lengths))))))))))))) Q g w) (weights_lengths_p20_ok Q g w kn hn h)) h4 h)

def weights_lengths_p23 (k4 : K4) (often_0 out_5 room_6 at_9 t49 t50 t51 : Value) (w : World) : Prop :=
  LoopD (fun (X : (Value × Value) → K0) (t : Value × Value) (w : World) => weights_lengths_p22 (fun _ _ _ at_9 _ _ t51 w => X (at_9, t51) w) k4 often_0 out_5 room_6 t.1 t49 t50 t.2 w) (at_9, t51) w
theorem weights_lengths_p23_ok (k4 : K4) (h4 : ∀ g w, k4 (g 0) (g 5) (g 6) (g 9) w → Q (.exit 4) g w) (h : weights_lengths_p23 k4 (g 0) (g 5) (g 6) (g 9) (g 49) (g 50) (g 51) w) : den pg ann_weights_lengths (bI (dropS 1 (takeS 1 (dropS 1 (bI (dropS 1 (bI (bI (takeS 1 (dropS 1 (dropS 3 code_weights_lengths))))))))))) Q g w := by
  refine den_loops (T := Value × Value) (fun g : Env => (g 9, g 51)) (fun X t w => weights_lengths_p22 (fun _ _ _ at_9 _ _ t51 w => X (at_9, t51) w) k4 (g 0) (g 5) (g 6) t.1 (g 49) (g 50) t.2 w) _ (by kernel_rfl) h (fun X g1 w1 ha hL => ?_)
  rw [← agree_at (s := 0) ha (by kernel_rfl)] at hL
  rw [← agree_at (s := 5) ha (by kernel_rfl)] at hL
  rw [← agree_at (s := 6) ha (by kernel_rfl)] at hL
  rw [← agree_at (s := 49) ha (by kernel_rfl)] at hL
  rw [← agree_at (s := 50) ha (by kernel_rfl)] at hL
  exact (weights_lengths_p22_ok (thenE (fun g2 w2 => X ((fun g : Env => (g 9, g 51)) g2) w2) Q) g1 w1 (fun _ _ _ at_9 _ _ t51 w => X (at_9, t51) w) k4 (fun _ _ h => h) h4 hL)

def weights_lengths_p24 (kn : K4) (often_0 out_5 room_6 at_9 t49 t50 t51 : Value) (w : World) : Prop :=
  weights_lengths_p23 kn often_0 out_5 room_6 at_9 t49 t50 t51 w
theorem weights_lengths_p24_ok (kn : K4) (hn : ∀ g w, kn (g 0) (g 5) (g 6) (g 9) w → Q .normal g w) (h : weights_lengths_p24 kn (g 0) (g 5) (g 6) (g 9) (g 49) (g 50) (g 51) w) : den pg ann_weights_lengths (dropS 1 (takeS 1 (dropS 1 (bI (dropS 1 (bI (bI (takeS 1 (dropS 1 (dropS 3 code_weights_lengths)))))))))) Q g w :=
  den_blk 4 _ g w (by kernel_rfl) (weights_lengths_p23_ok (blk 4 Q) g w kn hn h)

def weights_lengths_p25 (kn : K7) (often_0 out_5 room_6 at_9 : Value) (w : World) : Prop :=
  Stp pg (sBi .len #[43] 3 [often_0]) w fun t50 w =>
  kn often_0 out_5 room_6 at_9 often_0 t50 (.int .i64 0) w
theorem weights_lengths_p25_ok (kn : K7) (hn : ∀ g w, kn (g 0) (g 5) (g 6) (g 9) (g 49) (g 50) (g 51) w → Q .normal g w) (h : weights_lengths_p25 kn (g 0) (g 5) (g 6) (g 9) w) : den pg ann_weights_lengths (takeS 1 (takeS 1 (dropS 1 (bI (dropS 1 (bI (bI (takeS 1 (dropS 1 (dropS 3 code_weights_lengths)))))))))) Q g w :=
  den_exQ (kr := no) (l := []) (by kernel_rfl) h hn noE trivial

def weights_lengths_p26 (kn : K4) (often_0 out_5 room_6 at_9 : Value) (w : World) : Prop :=
  weights_lengths_p25 (fun often_0 out_5 room_6 at_9 t49 t50 t51 w => weights_lengths_p24 kn often_0 out_5 room_6 at_9 t49 t50 t51 w) often_0 out_5 room_6 at_9 w
theorem weights_lengths_p26_ok (kn : K4) (hn : ∀ g w, kn (g 0) (g 5) (g 6) (g 9) w → Q .normal g w) (h : weights_lengths_p26 kn (g 0) (g 5) (g 6) (g 9) w) : den pg ann_weights_lengths (takeS 1 (dropS 1 (bI (dropS 1 (bI (bI (takeS 1 (dropS 1 (dropS 3 code_weights_lengths))))))))) Q g w :=
  den_seqs 1 _ g w (by kernel_rfl) (weights_lengths_p25_ok (thenE (fun g w => den pg ann_weights_lengths (dropS 1 (takeS 1 (dropS 1 (bI (dropS 1 (bI (bI (takeS 1 (dropS 1 (dropS 3 code_weights_lengths)))))))))) Q g w) Q) g w (fun often_0 out_5 room_6 at_9 t49 t50 t51 w => weights_lengths_p24 kn often_0 out_5 room_6 at_9 t49 t50 t51 w) (fun g w h => thenE_n (K := fun g w => den pg ann_weights_lengths (dropS 1 (takeS 1 (dropS 1 (bI (dropS 1 (bI (bI (takeS 1 (dropS 1 (dropS 3 code_weights_lengths)))))))))) Q g w) (weights_lengths_p24_ok Q g w kn hn h)) h)

def weights_lengths_p27 (kn : K3) (often_0 out_5 room_6 at_9 : Value) (w : World) : Prop :=
  weights_lengths_p26 (fun often_0 out_5 room_6 at_9 w => weights_lengths_p19 kn often_0 out_5 room_6 at_9 w) often_0 out_5 room_6 at_9 w
theorem weights_lengths_p27_ok (kn : K3) (hn : ∀ g w, kn (g 0) (g 5) (g 6) w → Q .normal g w) (h : weights_lengths_p27 kn (g 0) (g 5) (g 6) (g 9) w) : den pg ann_weights_lengths (dropS 1 (bI (dropS 1 (bI (bI (takeS 1 (dropS 1 (dropS 3 code_weights_lengths)))))))) Q g w :=
  den_seqs 1 _ g w (by kernel_rfl) (weights_lengths_p26_ok (thenE (fun g w => den pg ann_weights_lengths (dropS 1 (dropS 1 (bI (dropS 1 (bI (bI (takeS 1 (dropS 1 (dropS 3 code_weights_lengths))))))))) Q g w) Q) g w (fun often_0 out_5 room_6 at_9 w => weights_lengths_p19 kn often_0 out_5 room_6 at_9 w) (fun g w h => thenE_n (K := fun g w => den pg ann_weights_lengths (dropS 1 (dropS 1 (bI (dropS 1 (bI (bI (takeS 1 (dropS 1 (dropS 3 code_weights_lengths))))))))) Q g w) (weights_lengths_p19_ok Q g w kn hn h)) h)

def weights_lengths_p28 (kn : K4) (often_0 out_5 room_6 : Value) (w : World) : Prop :=
  kn often_0 out_5 room_6 (.int .i64 (-1)) w
theorem weights_lengths_p28_ok (kn : K4) (hn : ∀ g w, kn (g 0) (g 5) (g 6) (g 9) w → Q .normal g w) (h : weights_lengths_p28 kn (g 0) (g 5) (g 6) w) : den pg ann_weights_lengths (takeS 1 (bI (dropS 1 (bI (bI (takeS 1 (dropS 1 (dropS 3 code_weights_lengths)))))))) Q g w :=
  den_exQ (kr := no) (l := []) (by kernel_rfl) h hn noE trivial

def weights_lengths_p29 (kn : K3) (often_0 out_5 room_6 : Value) (w : World) : Prop :=
  weights_lengths_p28 (fun often_0 out_5 room_6 at_9 w => weights_lengths_p27 kn often_0 out_5 room_6 at_9 w) often_0 out_5 room_6 w
theorem weights_lengths_p29_ok (kn : K3) (hn : ∀ g w, kn (g 0) (g 5) (g 6) w → Q .normal g w) (h : weights_lengths_p29 kn (g 0) (g 5) (g 6) w) : den pg ann_weights_lengths (bI (dropS 1 (bI (bI (takeS 1 (dropS 1 (dropS 3 code_weights_lengths))))))) Q g w :=
  den_seqs 1 _ g w (by kernel_rfl) (weights_lengths_p28_ok (thenE (fun g w => den pg ann_weights_lengths (dropS 1 (bI (dropS 1 (bI (bI (takeS 1 (dropS 1 (dropS 3 code_weights_lengths)))))))) Q g w) Q) g w (fun often_0 out_5 room_6 at_9 w => weights_lengths_p27 kn often_0 out_5 room_6 at_9 w) (fun g w h => thenE_n (K := fun g w => den pg ann_weights_lengths (dropS 1 (bI (dropS 1 (bI (bI (takeS 1 (dropS 1 (dropS 3 code_weights_lengths)))))))) Q g w) (weights_lengths_p27_ok Q g w kn hn h)) h)

def weights_lengths_p30 (kn : K3) (often_0 out_5 room_6 : Value) (w : World) : Prop :=
  weights_lengths_p29 kn often_0 out_5 room_6 w
theorem weights_lengths_p30_ok (kn : K3) (hn : ∀ g w, kn (g 0) (g 5) (g 6) w → Q .normal g w) (h : weights_lengths_p30 kn (g 0) (g 5) (g 6) w) : den pg ann_weights_lengths (dropS 1 (bI (bI (takeS 1 (dropS 1 (dropS 3 code_weights_lengths)))))) Q g w :=
  den_blk 3 _ g w (by kernel_rfl) (weights_lengths_p29_ok (blk 3 Q) g w kn hn h)

def weights_lengths_p31 (kn : K3) (k2 : K3) (often_0 out_5 room_6 : Value) (w : World) : Prop :=
  Stp pg (sBin .lss 3 (.tmp 47) (.const (.int .i64 0)) room_6 (.int .i64 0)) w fun t48 w =>
  Cnd t48
    (kn often_0 out_5 room_6 w)
    (k2 often_0 out_5 room_6 w)
theorem weights_lengths_p31_ok (kn : K3) (k2 : K3) (hn : ∀ g w, kn (g 0) (g 5) (g 6) w → Q .normal g w) (h2 : ∀ g w, k2 (g 0) (g 5) (g 6) w → Q (.exit 2) g w) (h : weights_lengths_p31 kn k2 (g 0) (g 5) (g 6) w) : den pg ann_weights_lengths (takeS 1 (bI (bI (takeS 1 (dropS 1 (dropS 3 code_weights_lengths)))))) Q g w :=
  den_exQ (kr := no) (l := [(2, fun g w => k2 (g 0) (g 5) (g 6) w)]) (by kernel_rfl) h hn noE ⟨h2, trivial⟩

def weights_lengths_p32 (kn : K3) (k2 : K3) (often_0 out_5 room_6 : Value) (w : World) : Prop :=
  weights_lengths_p31 (fun often_0 out_5 room_6 w => weights_lengths_p30 kn often_0 out_5 room_6 w) k2 often_0 out_5 room_6 w
theorem weights_lengths_p32_ok (kn : K3) (k2 : K3) (hn : ∀ g w, kn (g 0) (g 5) (g 6) w → Q .normal g w) (h2 : ∀ g w, k2 (g 0) (g 5) (g 6) w → Q (.exit 2) g w) (h : weights_lengths_p32 kn k2 (g 0) (g 5) (g 6) w) : den pg ann_weights_lengths (bI (bI (takeS 1 (dropS 1 (dropS 3 code_weights_lengths))))) Q g w :=
  den_seqs 1 _ g w (by kernel_rfl) (weights_lengths_p31_ok (thenE (fun g w => den pg ann_weights_lengths (dropS 1 (bI (bI (takeS 1 (dropS 1 (dropS 3 code_weights_lengths)))))) Q g w) Q) g w (fun often_0 out_5 room_6 w => weights_lengths_p30 kn often_0 out_5 room_6 w) k2 (fun g w h => thenE_n (K := fun g w => den pg ann_weights_lengths (dropS 1 (bI (bI (takeS 1 (dropS 1 (dropS 3 code_weights_lengths)))))) Q g w) (weights_lengths_p30_ok Q g w kn hn h)) h2 h)

def weights_lengths_p33 (k2 : K3) (often_0 out_5 room_6 : Value) (w : World) : Prop :=
  LoopD (fun (X : Value → K0) (t : Value) (w : World) => weights_lengths_p32 (fun _ _ room_6 w => X room_6 w) k2 often_0 out_5 t w) room_6 w
theorem weights_lengths_p33_ok (k2 : K3) (h2 : ∀ g w, k2 (g 0) (g 5) (g 6) w → Q (.exit 2) g w) (h : weights_lengths_p33 k2 (g 0) (g 5) (g 6) w) : den pg ann_weights_lengths (bI (takeS 1 (dropS 1 (dropS 3 code_weights_lengths)))) Q g w := by
  refine den_loops (T := Value) (fun g : Env => g 6) (fun X t w => weights_lengths_p32 (fun _ _ room_6 w => X room_6 w) k2 (g 0) (g 5) t w) _ (by kernel_rfl) h (fun X g1 w1 ha hL => ?_)
  rw [← agree_at (s := 0) ha (by kernel_rfl)] at hL
  rw [← agree_at (s := 5) ha (by kernel_rfl)] at hL
  exact (weights_lengths_p32_ok (thenE (fun g2 w2 => X ((fun g : Env => g 6) g2) w2) Q) g1 w1 (fun _ _ room_6 w => X room_6 w) k2 (fun _ _ h => h) h2 hL)

def weights_lengths_p34 (kn : K3) (often_0 out_5 room_6 : Value) (w : World) : Prop :=
  weights_lengths_p33 kn often_0 out_5 room_6 w
theorem weights_lengths_p34_ok (kn : K3) (hn : ∀ g w, kn (g 0) (g 5) (g 6) w → Q .normal g w) (h : weights_lengths_p34 kn (g 0) (g 5) (g 6) w) : den pg ann_weights_lengths (takeS 1 (dropS 1 (dropS 3 code_weights_lengths))) Q g w :=
  den_blk 2 _ g w (by kernel_rfl) (weights_lengths_p33_ok (blk 2 Q) g w kn hn h)

def weights_lengths_p35 (R : K1) (often_0 out_5 room_6 : Value) (w : World) : Prop :=
  weights_lengths_p34 (fun often_0 out_5 room_6 w => weights_lengths_p18 R often_0 out_5 room_6 w) often_0 out_5 room_6 w
theorem weights_lengths_p35_ok (R : K1) (hr : HR rs_weights_lengths R Q) (h : weights_lengths_p35 R (g 0) (g 5) (g 6) w) : den pg ann_weights_lengths (dropS 1 (dropS 3 code_weights_lengths)) Q g w :=
  den_seqs 1 _ g w (by kernel_rfl) (weights_lengths_p34_ok (thenE (fun g w => den pg ann_weights_lengths (dropS 1 (dropS 1 (dropS 3 code_weights_lengths))) Q g w) Q) g w (fun often_0 out_5 room_6 w => weights_lengths_p18 R often_0 out_5 room_6 w) (fun g w h => thenE_n (K := fun g w => den pg ann_weights_lengths (dropS 1 (dropS 1 (dropS 3 code_weights_lengths))) Q g w) (weights_lengths_p18_ok Q g w R hr h)) h)

def weights_lengths_p36 (kn : K7) (often_0 sum_1 out_5 room_6 t18 t19 t20 : Value) (w : World) : Prop :=
  Stp pg (sBin .add 3 (.tmp 20) (.const (.int .i64 1)) t20 (.int .i64 1)) w fun t46 w =>
  kn often_0 sum_1 out_5 room_6 t18 t19 t46 w
theorem weights_lengths_p36_ok (kn : K7) (hn : ∀ g w, kn (g 0) (g 1) (g 5) (g 6) (g 18) (g 19) (g 20) w → Q .normal g w) (h : weights_lengths_p36 kn (g 0) (g 1) (g 5) (g 6) (g 18) (g 19) (g 20) w) : den pg ann_weights_lengths (dropS 3 (bI (bI (dropS 1 (takeS 1 (dropS 3 code_weights_lengths)))))) Q g w :=
  den_exQ (kr := no) (l := []) (by kernel_rfl) h hn noE trivial

def weights_lengths_p37 (kn : K7) (k0 : K3) (often_0 sum_1 out_5 room_6 t18 t19 t20 : Value) (w : World) : Prop :=
  Stp pg (sBin .lss 3 (.tmp 20) (.tmp 19) t20 t19) w fun t21 w =>
  Cnd t21
    (Stp pg (sIAddr 43 t18 t20) w fun t23 w =>
    Stp pg (sLoad 45 t23) w fun t24 w =>
    Stp pg (sBin .gtr 45 (.tmp 25) (.const (.int .u32 0)) t24 (.int .u32 0)) w fun t26 w =>
    Cnd t26
      (Stp pg (sBin .sub 44 (.tmp 29) (.const (.int .u64 1)) sum_1 (.int .u64 1)) w fun t30 w =>
      Stp pg (sCvt 45 44 t24) w fun t32 w =>
      Stp pg (sBin .quo 44 (.tmp 30) (.tmp 32) t30 t32) w fun t33 w =>
      Does pg F_math_bits_Len64 #[t33] w fun t34 w =>
      Stp pg (sBi .max #[3, 3] 3 [t34, (.int .i64 1)]) w fun t35 w =>
      Stp pg (sBi .min #[3, 3] 3 [t35, (.int .i64 11)]) w fun t36 w =>
      Stp pg (sIAddr 62 out_5 t20) w fun t37 w =>
      Stp pg (sStore 3 t37 t36) w fun _u w =>
      Stp pg (sIAddr 62 out_5 t20) w fun t41 w =>
      Stp pg (sLoad 3 t41) w fun t42 w =>
      Stp pg (sBin .sub 3 (.const (.int .i64 11)) (.tmp 42) (.int .i64 11) t42) w fun t43 w =>
      Stp pg (sBin .shl 3 (.const (.int .i64 1)) (.tmp 43) (.int .i64 1) t43) w fun t44 w =>
      Stp pg (sBin .sub 3 (.tmp 38) (.tmp 44) room_6 t44) w fun t45 w =>
      kn often_0 sum_1 out_5 t45 t18 t19 t20 w)
      (kn often_0 sum_1 out_5 room_6 t18 t19 t20 w))
    (k0 often_0 out_5 room_6 w)
theorem weights_lengths_p37_ok (kn : K7) (k0 : K3) (hn : ∀ g w, kn (g 0) (g 1) (g 5) (g 6) (g 18) (g 19) (g 20) w → Q .normal g w) (h0 : ∀ g w, k0 (g 0) (g 5) (g 6) w → Q (.exit 0) g w) (h : weights_lengths_p37 kn k0 (g 0) (g 1) (g 5) (g 6) (g 18) (g 19) (g 20) w) : den pg ann_weights_lengths (takeS 3 (bI (bI (dropS 1 (takeS 1 (dropS 3 code_weights_lengths)))))) Q g w :=
  den_exQ (kr := no) (l := [(0, fun g w => k0 (g 0) (g 5) (g 6) w)]) (by kernel_rfl) h hn noE ⟨h0, trivial⟩

def weights_lengths_p38 (kn : K7) (k0 : K3) (often_0 sum_1 out_5 room_6 t18 t19 t20 : Value) (w : World) : Prop :=
  weights_lengths_p37 (fun often_0 sum_1 out_5 room_6 t18 t19 t20 w => weights_lengths_p36 kn often_0 sum_1 out_5 room_6 t18 t19 t20 w) k0 often_0 sum_1 out_5 room_6 t18 t19 t20 w
theorem weights_lengths_p38_ok (kn : K7) (k0 : K3) (hn : ∀ g w, kn (g 0) (g 1) (g 5) (g 6) (g 18) (g 19) (g 20) w → Q .normal g w) (h0 : ∀ g w, k0 (g 0) (g 5) (g 6) w → Q (.exit 0) g w) (h : weights_lengths_p38 kn k0 (g 0) (g 1) (g 5) (g 6) (g 18) (g 19) (g 20) w) : den pg ann_weights_lengths (bI (bI (dropS 1 (takeS 1 (dropS 3 code_weights_lengths))))) Q g w :=
  den_seqs 3 _ g w (by kernel_rfl) (weights_lengths_p37_ok (thenE (fun g w => den pg ann_weights_lengths (dropS 3 (bI (bI (dropS 1 (takeS 1 (dropS 3 code_weights_lengths)))))) Q g w) Q) g w (fun often_0 sum_1 out_5 room_6 t18 t19 t20 w => weights_lengths_p36 kn often_0 sum_1 out_5 room_6 t18 t19 t20 w) k0 (fun g w h => thenE_n (K := fun g w => den pg ann_weights_lengths (dropS 3 (bI (bI (dropS 1 (takeS 1 (dropS 3 code_weights_lengths)))))) Q g w) (weights_lengths_p36_ok Q g w kn hn h)) h0 h)

def weights_lengths_p39 (k0 : K3) (often_0 sum_1 out_5 room_6 t18 t19 t20 : Value) (w : World) : Prop :=
  LoopD (fun (X : (Value × Value) → K0) (t : Value × Value) (w : World) => weights_lengths_p38 (fun _ _ _ room_6 _ _ t20 w => X (room_6, t20) w) k0 often_0 sum_1 out_5 t.1 t18 t19 t.2 w) (room_6, t20) w
theorem weights_lengths_p39_ok (k0 : K3) (h0 : ∀ g w, k0 (g 0) (g 5) (g 6) w → Q (.exit 0) g w) (h : weights_lengths_p39 k0 (g 0) (g 1) (g 5) (g 6) (g 18) (g 19) (g 20) w) : den pg ann_weights_lengths (bI (dropS 1 (takeS 1 (dropS 3 code_weights_lengths)))) Q g w := by
  refine den_loops (T := Value × Value) (fun g : Env => (g 6, g 20)) (fun X t w => weights_lengths_p38 (fun _ _ _ room_6 _ _ t20 w => X (room_6, t20) w) k0 (g 0) (g 1) (g 5) t.1 (g 18) (g 19) t.2 w) _ (by kernel_rfl) h (fun X g1 w1 ha hL => ?_)
  rw [← agree_at (s := 0) ha (by kernel_rfl)] at hL
  rw [← agree_at (s := 1) ha (by kernel_rfl)] at hL
  rw [← agree_at (s := 5) ha (by kernel_rfl)] at hL
  rw [← agree_at (s := 18) ha (by kernel_rfl)] at hL
  rw [← agree_at (s := 19) ha (by kernel_rfl)] at hL
  exact (weights_lengths_p38_ok (thenE (fun g2 w2 => X ((fun g : Env => (g 6, g 20)) g2) w2) Q) g1 w1 (fun _ _ _ room_6 _ _ t20 w => X (room_6, t20) w) k0 (fun _ _ h => h) h0 hL)

def weights_lengths_p40 (kn : K3) (often_0 sum_1 out_5 room_6 t18 t19 t20 : Value) (w : World) : Prop :=
  weights_lengths_p39 kn often_0 sum_1 out_5 room_6 t18 t19 t20 w
theorem weights_lengths_p40_ok (kn : K3) (hn : ∀ g w, kn (g 0) (g 5) (g 6) w → Q .normal g w) (h : weights_lengths_p40 kn (g 0) (g 1) (g 5) (g 6) (g 18) (g 19) (g 20) w) : den pg ann_weights_lengths (dropS 1 (takeS 1 (dropS 3 code_weights_lengths))) Q g w :=
  den_blk 0 _ g w (by kernel_rfl) (weights_lengths_p39_ok (blk 0 Q) g w kn hn h)

def weights_lengths_p41 (kn : K7) (often_0 sum_1 out_5 room_6 : Value) (w : World) : Prop :=
  Stp pg (sBi .len #[43] 3 [often_0]) w fun t19 w =>
  kn often_0 sum_1 out_5 room_6 often_0 t19 (.int .i64 0) w
theorem weights_lengths_p41_ok (kn : K7) (hn : ∀ g w, kn (g 0) (g 1) (g 5) (g 6) (g 18) (g 19) (g 20) w → Q .normal g w) (h : weights_lengths_p41 kn (g 0) (g 1) (g 5) (g 6) w) : den pg ann_weights_lengths (takeS 1 (takeS 1 (dropS 3 code_weights_lengths))) Q g w :=
  den_exQ (kr := no) (l := []) (by kernel_rfl) h hn noE trivial

def weights_lengths_p42 (kn : K3) (often_0 sum_1 out_5 room_6 : Value) (w : World) : Prop :=
  weights_lengths_p41 (fun often_0 sum_1 out_5 room_6 t18 t19 t20 w => weights_lengths_p40 kn often_0 sum_1 out_5 room_6 t18 t19 t20 w) often_0 sum_1 out_5 room_6 w
theorem weights_lengths_p42_ok (kn : K3) (hn : ∀ g w, kn (g 0) (g 5) (g 6) w → Q .normal g w) (h : weights_lengths_p42 kn (g 0) (g 1) (g 5) (g 6) w) : den pg ann_weights_lengths (takeS 1 (dropS 3 code_weights_lengths)) Q g w :=
  den_seqs 1 _ g w (by kernel_rfl) (weights_lengths_p41_ok (thenE (fun g w => den pg ann_weights_lengths (dropS 1 (takeS 1 (dropS 3 code_weights_lengths))) Q g w) Q) g w (fun often_0 sum_1 out_5 room_6 t18 t19 t20 w => weights_lengths_p40 kn often_0 sum_1 out_5 room_6 t18 t19 t20 w) (fun g w h => thenE_n (K := fun g w => den pg ann_weights_lengths (dropS 1 (takeS 1 (dropS 3 code_weights_lengths))) Q g w) (weights_lengths_p40_ok Q g w kn hn h)) h)

def weights_lengths_p43 (R : K1) (often_0 sum_1 out_5 room_6 : Value) (w : World) : Prop :=
  weights_lengths_p42 (fun often_0 out_5 room_6 w => weights_lengths_p35 R often_0 out_5 room_6 w) often_0 sum_1 out_5 room_6 w
theorem weights_lengths_p43_ok (R : K1) (hr : HR rs_weights_lengths R Q) (h : weights_lengths_p43 R (g 0) (g 1) (g 5) (g 6) w) : den pg ann_weights_lengths (dropS 3 code_weights_lengths) Q g w :=
  den_seqs 1 _ g w (by kernel_rfl) (weights_lengths_p42_ok (thenE (fun g w => den pg ann_weights_lengths (dropS 1 (dropS 3 code_weights_lengths)) Q g w) Q) g w (fun often_0 out_5 room_6 w => weights_lengths_p35 R often_0 out_5 room_6 w) (fun g w h => thenE_n (K := fun g w => den pg ann_weights_lengths (dropS 1 (dropS 3 code_weights_lengths)) Q g w) (weights_lengths_p35_ok Q g w R hr h)) h)

def weights_lengths_p44 (kn : K4) (often_0 sum_1 : Value) (w : World) : Prop :=
  Stp pg (sBi .len #[43] 3 [often_0]) w fun t16 w =>
  Stp pg (sMkSlice 62 t16 t16) w fun t17 w =>
  kn often_0 sum_1 t17 (.int .i64 2048) w
theorem weights_lengths_p44_ok (kn : K4) (hn : ∀ g w, kn (g 0) (g 1) (g 5) (g 6) w → Q .normal g w) (h : weights_lengths_p44 kn (g 0) (g 1) w) : den pg ann_weights_lengths (takeS 3 code_weights_lengths) Q g w :=
  den_exQ (kr := no) (l := []) (by kernel_rfl) h hn noE trivial

def weights_lengths_p45 (R : K1) (often_0 sum_1 : Value) (w : World) : Prop :=
  weights_lengths_p44 (fun often_0 sum_1 out_5 room_6 w => weights_lengths_p43 R often_0 sum_1 out_5 room_6 w) often_0 sum_1 w
theorem weights_lengths_p45_ok (R : K1) (hr : HR rs_weights_lengths R Q) (h : weights_lengths_p45 R (g 0) (g 1) w) : den pg ann_weights_lengths code_weights_lengths Q g w :=
  den_seqs 3 _ g w (by kernel_rfl) (weights_lengths_p44_ok (thenE (fun g w => den pg ann_weights_lengths (dropS 3 code_weights_lengths) Q g w) Q) g w (fun often_0 sum_1 out_5 room_6 w => weights_lengths_p43 R often_0 sum_1 out_5 room_6 w) (fun g w h => thenE_n (K := fun g w => den pg ann_weights_lengths (dropS 3 code_weights_lengths) Q g w) (weights_lengths_p43_ok Q g w R hr h)) h)

def weights_lengths (a0 a1 : Value) (w : World) (R : K1) : Prop :=
  weights_lengths_p45 R a0 a1 w
theorem weights_lengths_does {a0 a1 : Value} {w : World} {R : K1} (h : weights_lengths a0 a1 w R) : Does pg F_weights_lengths #[a0, a1] w R := by
  refine does_of_den (ann := ann_weights_lengths) (fn := Try.f32) (c := code_weights_lengths) (args := [a0, a1]) (rs := rs_weights_lengths) (N := 188) TryM.mixed (by kernel_rfl) Try.func32 (by kernel_rfl) (by kernel_rfl) (by kernel_rfl) (of_decide_eq_true (by kernel_rfl)) (by kernel_rfl) ?_
  exact (weights_lengths_p45_ok (retQ pg rs_weights_lengths R) (envOf [a0, a1]) w R (fun _ _ h => h) h)
-- PIECES weights_lengths/0 weights_lengths_p1 weights_lengths_p16 weights_lengths_p17 weights_lengths_p18 weights_lengths_p33 weights_lengths_p34 weights_lengths_p35 weights_lengths_p39 weights_lengths_p40 weights_lengths_p41 weights_lengths_p42 weights_lengths_p43 weights_lengths_p44 weights_lengths_p45
-- PIECES weights_lengths/1 weights_lengths_p2 weights_lengths_p6 weights_lengths_p7 weights_lengths_p8 weights_lengths_p9 weights_lengths_p10 weights_lengths_p11 weights_lengths_p12 weights_lengths_p13 weights_lengths_p14 weights_lengths_p15
-- PIECES weights_lengths/2 weights_lengths_p3 weights_lengths_p4 weights_lengths_p5
-- PIECES weights_lengths/3 weights_lengths_p19 weights_lengths_p23 weights_lengths_p24 weights_lengths_p25 weights_lengths_p26 weights_lengths_p27 weights_lengths_p28 weights_lengths_p29 weights_lengths_p30 weights_lengths_p31 weights_lengths_p32
-- PIECES weights_lengths/4 weights_lengths_p20 weights_lengths_p21 weights_lengths_p22
-- PIECES weights_lengths/5 weights_lengths_p36 weights_lengths_p37 weights_lengths_p38

/- slices.Max[[]int,int] -/
def ann_slices_Max_inst : FA := ⟨F_slices_Max_inst, fun i => .leaf ([], []) []⟩
def rs_slices_Max_inst : List ResultVar := [.tmp 2]
noncomputable def code_slices_Max_inst : Code := bodyOf Try.f33
def slices_Max_inst_p1 (R : K1) (m_3 : Value) (w : World) : Prop :=
  R m_3 w
theorem slices_Max_inst_p1_ok (R : K1) (hr : HR rs_slices_Max_inst R Q) (h : slices_Max_inst_p1 R (g 3) w) : den pg ann_slices_Max_inst (dropS 1 (dropS 1 (dropS 2 code_slices_Max_inst))) Q g w :=
  den_exQ (kn := no) (l := []) (by kernel_rfl) h noE hr trivial

def slices_Max_inst_p2 (kn : K3) (k0 : K1) (x_0 m_3 i_4 : Value) (w : World) : Prop :=
  Stp pg (sBi .len #[62] 3 [x_0]) w fun t14 w =>
  Stp pg (sBin .lss 3 (.tmp 12) (.tmp 14) i_4 t14) w fun t15 w =>
  Cnd t15
    (Stp pg (sIAddr 62 x_0 i_4) w fun t21 w =>
    Stp pg (sLoad 3 t21) w fun t22 w =>
    Stp pg (sBi .max #[3, 3] 3 [m_3, t22]) w fun t23 w =>
    Stp pg (sBin .add 3 (.tmp 16) (.const (.int .i64 1)) i_4 (.int .i64 1)) w fun t17 w =>
    kn x_0 t23 t17 w)
    (k0 m_3 w)
theorem slices_Max_inst_p2_ok (kn : K3) (k0 : K1) (hn : ∀ g w, kn (g 0) (g 3) (g 4) w → Q .normal g w) (h0 : ∀ g w, k0 (g 3) w → Q (.exit 0) g w) (h : slices_Max_inst_p2 kn k0 (g 0) (g 3) (g 4) w) : den pg ann_slices_Max_inst (bI (bI (dropS 1 (takeS 1 (dropS 1 (dropS 2 code_slices_Max_inst)))))) Q g w :=
  den_exQ (kr := no) (l := [(0, fun g w => k0 (g 3) w)]) (by kernel_rfl) h hn noE ⟨h0, trivial⟩

def slices_Max_inst_p3 (k0 : K1) (x_0 m_3 i_4 : Value) (w : World) : Prop :=
  LoopD (fun (X : (Value × Value) → K0) (t : Value × Value) (w : World) => slices_Max_inst_p2 (fun _ m_3 i_4 w => X (m_3, i_4) w) k0 x_0 t.1 t.2 w) (m_3, i_4) w
theorem slices_Max_inst_p3_ok (k0 : K1) (h0 : ∀ g w, k0 (g 3) w → Q (.exit 0) g w) (h : slices_Max_inst_p3 k0 (g 0) (g 3) (g 4) w) : den pg ann_slices_Max_inst (bI (dropS 1 (takeS 1 (dropS 1 (dropS 2 code_slices_Max_inst))))) Q g w := by
  refine den_loops (T := Value × Value) (fun g : Env => (g 3, g 4)) (fun X t w => slices_Max_inst_p2 (fun _ m_3 i_4 w => X (m_3, i_4) w) k0 (g 0) t.1 t.2 w) _ (by kernel_rfl) h (fun X g1 w1 ha hL => ?_)
  rw [← agree_at (s := 0) ha (by kernel_rfl)] at hL
  exact (slices_Max_inst_p2_ok (thenE (fun g2 w2 => X ((fun g : Env => (g 3, g 4)) g2) w2) Q) g1 w1 (fun _ m_3 i_4 w => X (m_3, i_4) w) k0 (fun _ _ h => h) h0 hL)

def slices_Max_inst_p4 (kn : K1) (x_0 m_3 i_4 : Value) (w : World) : Prop :=
  slices_Max_inst_p3 kn x_0 m_3 i_4 w
theorem slices_Max_inst_p4_ok (kn : K1) (hn : ∀ g w, kn (g 3) w → Q .normal g w) (h : slices_Max_inst_p4 kn (g 0) (g 3) (g 4) w) : den pg ann_slices_Max_inst (dropS 1 (takeS 1 (dropS 1 (dropS 2 code_slices_Max_inst)))) Q g w :=
  den_blk 0 _ g w (by kernel_rfl) (slices_Max_inst_p3_ok (blk 0 Q) g w kn hn h)

def slices_Max_inst_p5 (kn : K3) (x_0 m_3 : Value) (w : World) : Prop :=
  kn x_0 m_3 (.int .i64 1) w
theorem slices_Max_inst_p5_ok (kn : K3) (hn : ∀ g w, kn (g 0) (g 3) (g 4) w → Q .normal g w) (h : slices_Max_inst_p5 kn (g 0) (g 3) w) : den pg ann_slices_Max_inst (takeS 1 (takeS 1 (dropS 1 (dropS 2 code_slices_Max_inst)))) Q g w :=
  den_exQ (kr := no) (l := []) (by kernel_rfl) h hn noE trivial

def slices_Max_inst_p6 (kn : K1) (x_0 m_3 : Value) (w : World) : Prop :=
  slices_Max_inst_p5 (fun x_0 m_3 i_4 w => slices_Max_inst_p4 kn x_0 m_3 i_4 w) x_0 m_3 w
theorem slices_Max_inst_p6_ok (kn : K1) (hn : ∀ g w, kn (g 3) w → Q .normal g w) (h : slices_Max_inst_p6 kn (g 0) (g 3) w) : den pg ann_slices_Max_inst (takeS 1 (dropS 1 (dropS 2 code_slices_Max_inst))) Q g w :=
  den_seqs 1 _ g w (by kernel_rfl) (slices_Max_inst_p5_ok (thenE (fun g w => den pg ann_slices_Max_inst (dropS 1 (takeS 1 (dropS 1 (dropS 2 code_slices_Max_inst)))) Q g w) Q) g w (fun x_0 m_3 i_4 w => slices_Max_inst_p4 kn x_0 m_3 i_4 w) (fun g w h => thenE_n (K := fun g w => den pg ann_slices_Max_inst (dropS 1 (takeS 1 (dropS 1 (dropS 2 code_slices_Max_inst)))) Q g w) (slices_Max_inst_p4_ok Q g w kn hn h)) h)

def slices_Max_inst_p7 (R : K1) (x_0 m_3 : Value) (w : World) : Prop :=
  slices_Max_inst_p6 (fun m_3 w => slices_Max_inst_p1 R m_3 w) x_0 m_3 w
theorem slices_Max_inst_p7_ok (R : K1) (hr : HR rs_slices_Max_inst R Q) (h : slices_Max_inst_p7 R (g 0) (g 3) w) : den pg ann_slices_Max_inst (dropS 1 (dropS 2 code_slices_Max_inst)) Q g w :=
  den_seqs 1 _ g w (by kernel_rfl) (slices_Max_inst_p6_ok (thenE (fun g w => den pg ann_slices_Max_inst (dropS 1 (dropS 1 (dropS 2 code_slices_Max_inst))) Q g w) Q) g w (fun m_3 w => slices_Max_inst_p1 R m_3 w) (fun g w h => thenE_n (K := fun g w => den pg ann_slices_Max_inst (dropS 1 (dropS 1 (dropS 2 code_slices_Max_inst))) Q g w) (slices_Max_inst_p1_ok Q g w R hr h)) h)

def slices_Max_inst_p8 (kn : K2) (x_0 : Value) (w : World) : Prop :=
  Stp pg (sIAddr 62 x_0 (.int .i64 0)) w fun t10 w =>
  Stp pg (sLoad 3 t10) w fun t11 w =>
  kn x_0 t11 w
theorem slices_Max_inst_p8_ok (kn : K2) (hn : ∀ g w, kn (g 0) (g 3) w → Q .normal g w) (h : slices_Max_inst_p8 kn (g 0) w) : den pg ann_slices_Max_inst (takeS 1 (dropS 2 code_slices_Max_inst)) Q g w :=
  den_exQ (kr := no) (l := []) (by kernel_rfl) h hn noE trivial

def slices_Max_inst_p9 (R : K1) (x_0 : Value) (w : World) : Prop :=
  slices_Max_inst_p8 (fun x_0 m_3 w => slices_Max_inst_p7 R x_0 m_3 w) x_0 w
theorem slices_Max_inst_p9_ok (R : K1) (hr : HR rs_slices_Max_inst R Q) (h : slices_Max_inst_p9 R (g 0) w) : den pg ann_slices_Max_inst (dropS 2 code_slices_Max_inst) Q g w :=
  den_seqs 1 _ g w (by kernel_rfl) (slices_Max_inst_p8_ok (thenE (fun g w => den pg ann_slices_Max_inst (dropS 1 (dropS 2 code_slices_Max_inst)) Q g w) Q) g w (fun x_0 m_3 w => slices_Max_inst_p7 R x_0 m_3 w) (fun g w h => thenE_n (K := fun g w => den pg ann_slices_Max_inst (dropS 1 (dropS 2 code_slices_Max_inst)) Q g w) (slices_Max_inst_p7_ok Q g w R hr h)) h)

def slices_Max_inst_p10 (kn : K1) (x_0 : Value) (w : World) : Prop :=
  Stp pg (sBi .len #[62] 3 [x_0]) w fun t6 w =>
  Stp pg (sBin .lss 3 (.tmp 6) (.const (.int .i64 1)) t6 (.int .i64 1)) w fun t7 w =>
  Cnd t7
    (Stp pg (sIface 9 (.string ⟨#[115, 108, 105, 99, 101, 115, 46, 77, 97, 120, 58, 32, 101, 109, 112, 116, 121, 32, 108, 105, 115, 116]⟩)) w fun t8 w =>
    Stp pg (V (Instr.panic t8)) w fun _u w =>
    kn x_0 w)
    (kn x_0 w)
theorem slices_Max_inst_p10_ok (kn : K1) (hn : ∀ g w, kn (g 0) w → Q .normal g w) (h : slices_Max_inst_p10 kn (g 0) w) : den pg ann_slices_Max_inst (takeS 2 code_slices_Max_inst) Q g w :=
  den_exQ (kr := no) (l := []) (by kernel_rfl) h hn noE trivial

def slices_Max_inst_p11 (R : K1) (x_0 : Value) (w : World) : Prop :=
  slices_Max_inst_p10 (fun x_0 w => slices_Max_inst_p9 R x_0 w) x_0 w
theorem slices_Max_inst_p11_ok (R : K1) (hr : HR rs_slices_Max_inst R Q) (h : slices_Max_inst_p11 R (g 0) w) : den pg ann_slices_Max_inst code_slices_Max_inst Q g w :=
  den_seqs 2 _ g w (by kernel_rfl) (slices_Max_inst_p10_ok (thenE (fun g w => den pg ann_slices_Max_inst (dropS 2 code_slices_Max_inst) Q g w) Q) g w (fun x_0 w => slices_Max_inst_p9 R x_0 w) (fun g w h => thenE_n (K := fun g w => den pg ann_slices_Max_inst (dropS 2 code_slices_Max_inst) Q g w) (slices_Max_inst_p9_ok Q g w R hr h)) h)

def slices_Max_inst (a0 : Value) (w : World) (R : K1) : Prop :=
  slices_Max_inst_p11 R a0 w
theorem slices_Max_inst_does {a0 : Value} {w : World} {R : K1} (h : slices_Max_inst a0 w R) : Does pg F_slices_Max_inst #[a0] w R := by
  refine does_of_den (ann := ann_slices_Max_inst) (fn := Try.f33) (c := code_slices_Max_inst) (args := [a0]) (rs := rs_slices_Max_inst) (N := 25) TryM.mixed (by kernel_rfl) Try.func33 (by kernel_rfl) (by kernel_rfl) (by kernel_rfl) (of_decide_eq_true (by kernel_rfl)) (by kernel_rfl) ?_
  exact (slices_Max_inst_p11_ok (retQ pg rs_slices_Max_inst R) (envOf [a0]) w R (fun _ _ h => h) h)
-- PIECES slices_Max_inst/0 slices_Max_inst_p1 slices_Max_inst_p3 slices_Max_inst_p4 slices_Max_inst_p5 slices_Max_inst_p6 slices_Max_inst_p7 slices_Max_inst_p8 slices_Max_inst_p9 slices_Max_inst_p10 slices_Max_inst_p11
-- PIECES slices_Max_inst/1 slices_Max_inst_p2

/- math/bits.Len32 -/
def ann_math_bits_Len32 : FA := ⟨F_math_bits_Len32, fun i => .leaf ([], []) []⟩
def rs_math_bits_Len32 : List ResultVar := [.tmp 2]
noncomputable def code_math_bits_Len32 : Code := bodyOf Try.f34
def math_bits_Len32_p1 (R : K1) (x_0 n_2 : Value) (w : World) : Prop :=
  Stp pg (sCvt 45 5 x_0) w fun t15 w =>
  Stp pg (sIdx 9 (.string ⟨#[0, 1, 2, 2, 3, 3, 3, 3, 4, 4, 4, 4, 4, 4, 4, 4, 5, 5, 5, 5, 5, 5, 5, 5, 5, 5, 5, 5, 5, 5, 5, 5, 6, 6, 6, 6, 6, 6, 6, 6, 6, 6, 6, 6, 6, 6, 6, 6, 6, 6, 6, 6, 6, 6, 6, 6, 6, 6, 6, 6, 6, 6, 6, 6, 7, 7, 7, 7, 7, 7, 7, 7, 7, 7, 7, 7, 7, 7, 7, 7, 7, 7, 7, 7, 7, 7, 7, 7, 7, 7, 7, 7, 7, 7, 7, 7, 7, 7, 7, 7, 7, 7, 7, 7, 7, 7, 7, 7, 7, 7, 7, 7, 7, 7, 7, 7, 7, 7, 7, 7, 7, 7, 7, 7, 7, 7, 7, 7, 8, 8, 8, 8, 8, 8, 8, 8, 8, 8, 8, 8, 8, 8, 8, 8, 8, 8, 8, 8, 8, 8, 8, 8, 8, 8, 8, 8, 8, 8, 8, 8, 8, 8, 8, 8, 8, 8, 8, 8, 8, 8, 8, 8, 8, 8, 8, 8, 8, 8, 8, 8, 8, 8, 8, 8, 8, 8, 8, 8, 8, 8, 8, 8, 8, 8, 8, 8, 8, 8, 8, 8, 8, 8, 8, 8, 8, 8, 8, 8, 8, 8, 8, 8, 8, 8, 8, 8, 8, 8, 8, 8, 8, 8, 8, 8, 8, 8, 8, 8, 8, 8, 8, 8, 8, 8, 8, 8, 8, 8, 8, 8, 8, 8, 8, 8, 8, 8, 8, 8, 8, 8, 8, 8, 8, 8, 8, 8]⟩) t15) w fun t16 w =>
  Stp pg (sCvt 5 3 t16) w fun t17 w =>
  Stp pg (sBin .add 3 (.tmp 13) (.tmp 17) n_2 t17) w fun t18 w =>
  R t18 w
theorem math_bits_Len32_p1_ok (R : K1) (hr : HR rs_math_bits_Len32 R Q) (h : math_bits_Len32_p1 R (g 0) (g 2) w) : den pg ann_math_bits_Len32 (dropS 1 (dropS 2 code_math_bits_Len32)) Q g w :=
  den_exQ (kn := no) (l := []) (by kernel_rfl) h noE hr trivial

def math_bits_Len32_p2 (kn : K2) (x_0 n_2 : Value) (w : World) : Prop :=
  Stp pg (sBin .geq 45 (.tmp 7) (.const (.int .u32 256)) x_0 (.int .u32 256)) w fun t8 w =>
  Cnd t8
    (Stp pg (sBin .shr 45 (.tmp 9) (.const (.int .u64 8)) x_0 (.int .u64 8)) w fun t10 w =>
    Stp pg (sBin .add 3 (.tmp 11) (.const (.int .i64 8)) n_2 (.int .i64 8)) w fun t12 w =>
    kn t10 t12 w)
    (kn x_0 n_2 w)
theorem math_bits_Len32_p2_ok (kn : K2) (hn : ∀ g w, kn (g 0) (g 2) w → Q .normal g w) (h : math_bits_Len32_p2 kn (g 0) (g 2) w) : den pg ann_math_bits_Len32 (takeS 1 (dropS 2 code_math_bits_Len32)) Q g w :=
  den_exQ (kr := no) (l := []) (by kernel_rfl) h hn noE trivial

def math_bits_Len32_p3 (R : K1) (x_0 n_2 : Value) (w : World) : Prop :=
  math_bits_Len32_p2 (fun x_0 n_2 w => math_bits_Len32_p1 R x_0 n_2 w) x_0 n_2 w
theorem math_bits_Len32_p3_ok (R : K1) (hr : HR rs_math_bits_Len32 R Q) (h : math_bits_Len32_p3 R (g 0) (g 2) w) : den pg ann_math_bits_Len32 (dropS 2 code_math_bits_Len32) Q g w :=
  den_seqs 1 _ g w (by kernel_rfl) (math_bits_Len32_p2_ok (thenE (fun g w => den pg ann_math_bits_Len32 (dropS 1 (dropS 2 code_math_bits_Len32)) Q g w) Q) g w (fun x_0 n_2 w => math_bits_Len32_p1 R x_0 n_2 w) (fun g w h => thenE_n (K := fun g w => den pg ann_math_bits_Len32 (dropS 1 (dropS 2 code_math_bits_Len32)) Q g w) (math_bits_Len32_p1_ok Q g w R hr h)) h)

def math_bits_Len32_p4 (kn : K2) (x_0 : Value) (w : World) : Prop :=
  Stp pg (sBin .geq 45 (.tmp 3) (.const (.int .u32 65536)) x_0 (.int .u32 65536)) w fun t4 w =>
  Cnd t4
    (Stp pg (sBin .shr 45 (.tmp 5) (.const (.int .u64 16)) x_0 (.int .u64 16)) w fun t6 w =>
    kn t6 (.int .i64 16) w)
    (kn x_0 (.int .i64 0) w)
theorem math_bits_Len32_p4_ok (kn : K2) (hn : ∀ g w, kn (g 0) (g 2) w → Q .normal g w) (h : math_bits_Len32_p4 kn (g 0) w) : den pg ann_math_bits_Len32 (takeS 2 code_math_bits_Len32) Q g w :=
  den_exQ (kr := no) (l := []) (by kernel_rfl) h hn noE trivial

def math_bits_Len32_p5 (R : K1) (x_0 : Value) (w : World) : Prop :=
  math_bits_Len32_p4 (fun x_0 n_2 w => math_bits_Len32_p3 R x_0 n_2 w) x_0 w
theorem math_bits_Len32_p5_ok (R : K1) (hr : HR rs_math_bits_Len32 R Q) (h : math_bits_Len32_p5 R (g 0) w) : den pg ann_math_bits_Len32 code_math_bits_Len32 Q g w :=
  den_seqs 2 _ g w (by kernel_rfl) (math_bits_Len32_p4_ok (thenE (fun g w => den pg ann_math_bits_Len32 (dropS 2 code_math_bits_Len32) Q g w) Q) g w (fun x_0 n_2 w => math_bits_Len32_p3 R x_0 n_2 w) (fun g w h => thenE_n (K := fun g w => den pg ann_math_bits_Len32 (dropS 2 code_math_bits_Len32) Q g w) (math_bits_Len32_p3_ok Q g w R hr h)) h)

def math_bits_Len32 (a0 : Value) (w : World) (R : K1) : Prop :=
  math_bits_Len32_p5 R a0 w
theorem math_bits_Len32_does {a0 : Value} {w : World} {R : K1} (h : math_bits_Len32 a0 w R) : Does pg F_math_bits_Len32 #[a0] w R := by
  refine does_of_den (ann := ann_math_bits_Len32) (fn := Try.f34) (c := code_math_bits_Len32) (args := [a0]) (rs := rs_math_bits_Len32) (N := 19) TryM.mixed (by kernel_rfl) Try.func34 (by kernel_rfl) (by kernel_rfl) (by kernel_rfl) (of_decide_eq_true (by kernel_rfl)) (by kernel_rfl) ?_
  exact (math_bits_Len32_p5_ok (retQ pg rs_math_bits_Len32 R) (envOf [a0]) w R (fun _ _ h => h) h)
-- PIECES math_bits_Len32/0 math_bits_Len32_p1 math_bits_Len32_p2 math_bits_Len32_p3 math_bits_Len32_p4 math_bits_Len32_p5

/- math/bits.Len64 -/
def ann_math_bits_Len64 : FA := ⟨F_math_bits_Len64, fun i => .leaf ([], []) []⟩
def rs_math_bits_Len64 : List ResultVar := [.tmp 2]
noncomputable def code_math_bits_Len64 : Code := bodyOf Try.f35
def math_bits_Len64_p1 (R : K1) (x_0 n_2 : Value) (w : World) : Prop :=
  Stp pg (sCvt 44 5 x_0) w fun t21 w =>
  Stp pg (sIdx 9 (.string ⟨#[0, 1, 2, 2, 3, 3, 3, 3, 4, 4, 4, 4, 4, 4, 4, 4, 5, 5, 5, 5, 5, 5, 5, 5, 5, 5, 5, 5, 5, 5, 5, 5, 6, 6, 6, 6, 6, 6, 6, 6, 6, 6, 6, 6, 6, 6, 6, 6, 6, 6, 6, 6, 6, 6, 6, 6, 6, 6, 6, 6, 6, 6, 6, 6, 7, 7, 7, 7, 7, 7, 7, 7, 7, 7, 7, 7, 7, 7, 7, 7, 7, 7, 7, 7, 7, 7, 7, 7, 7, 7, 7, 7, 7, 7, 7, 7, 7, 7, 7, 7, 7, 7, 7, 7, 7, 7, 7, 7, 7, 7, 7, 7, 7, 7, 7, 7, 7, 7, 7, 7, 7, 7, 7, 7, 7, 7, 7, 7, 8, 8, 8, 8, 8, 8, 8, 8, 8, 8, 8, 8, 8, 8, 8, 8, 8, 8, 8, 8, 8, 8, 8, 8, 8, 8, 8, 8, 8, 8, 8, 8, 8, 8, 8, 8, 8, 8, 8, 8, 8, 8, 8, 8, 8, 8, 8, 8, 8, 8, 8, 8, 8, 8, 8, 8, 8, 8, 8, 8, 8, 8, 8, 8, 8, 8, 8, 8, 8, 8, 8, 8, 8, 8, 8, 8, 8, 8, 8, 8, 8, 8, 8, 8, 8, 8, 8, 8, 8, 8, 8, 8, 8, 8, 8, 8, 8, 8, 8, 8, 8, 8, 8, 8, 8, 8, 8, 8, 8, 8, 8, 8, 8, 8, 8, 8, 8, 8, 8, 8, 8, 8, 8, 8, 8, 8, 8, 8]⟩) t21) w fun t22 w =>
  Stp pg (sCvt 5 3 t22) w fun t23 w =>
  Stp pg (sBin .add 3 (.tmp 19) (.tmp 23) n_2 t23) w fun t24 w =>
  R t24 w
theorem math_bits_Len64_p1_ok (R : K1) (hr : HR rs_math_bits_Len64 R Q) (h : math_bits_Len64_p1 R (g 0) (g 2) w) : den pg ann_math_bits_Len64 (dropS 1 (dropS 1 (dropS 2 code_math_bits_Len64))) Q g w :=
  den_exQ (kn := no) (l := []) (by kernel_rfl) h noE hr trivial

def math_bits_Len64_p2 (kn : K2) (x_0 n_2 : Value) (w : World) : Prop :=
  Stp pg (sBin .geq 44 (.tmp 13) (.const (.int .u64 256)) x_0 (.int .u64 256)) w fun t14 w =>
  Cnd t14
    (Stp pg (sBin .shr 44 (.tmp 15) (.const (.int .u64 8)) x_0 (.int .u64 8)) w fun t16 w =>
    Stp pg (sBin .add 3 (.tmp 17) (.const (.int .i64 8)) n_2 (.int .i64 8)) w fun t18 w =>
    kn t16 t18 w)
    (kn x_0 n_2 w)
theorem math_bits_Len64_p2_ok (kn : K2) (hn : ∀ g w, kn (g 0) (g 2) w → Q .normal g w) (h : math_bits_Len64_p2 kn (g 0) (g 2) w) : den pg ann_math_bits_Len64 (takeS 1 (dropS 1 (dropS 2 code_math_bits_Len64))) Q g w :=
  den_exQ (kr := no) (l := []) (by kernel_rfl) h hn noE trivial

def math_bits_Len64_p3 (R : K1) (x_0 n_2 : Value) (w : World) : Prop :=
  math_bits_Len64_p2 (fun x_0 n_2 w => math_bits_Len64_p1 R x_0 n_2 w) x_0 n_2 w
theorem math_bits_Len64_p3_ok (R : K1) (hr : HR rs_math_bits_Len64 R Q) (h : math_bits_Len64_p3 R (g 0) (g 2) w) : den pg ann_math_bits_Len64 (dropS 1 (dropS 2 code_math_bits_Len64)) Q g w :=
  den_seqs 1 _ g w (by kernel_rfl) (math_bits_Len64_p2_ok (thenE (fun g w => den pg ann_math_bits_Len64 (dropS 1 (dropS 1 (dropS 2 code_math_bits_Len64))) Q g w) Q) g w (fun x_0 n_2 w => math_bits_Len64_p1 R x_0 n_2 w) (fun g w h => thenE_n (K := fun g w => den pg ann_math_bits_Len64 (dropS 1 (dropS 1 (dropS 2 code_math_bits_Len64))) Q g w) (math_bits_Len64_p1_ok Q g w R hr h)) h)

def math_bits_Len64_p4 (kn : K2) (x_0 n_2 : Value) (w : World) : Prop :=
  Stp pg (sBin .geq 44 (.tmp 7) (.const (.int .u64 65536)) x_0 (.int .u64 65536)) w fun t8 w =>
  Cnd t8
    (Stp pg (sBin .shr 44 (.tmp 9) (.const (.int .u64 16)) x_0 (.int .u64 16)) w fun t10 w =>
    Stp pg (sBin .add 3 (.tmp 11) (.const (.int .i64 16)) n_2 (.int .i64 16)) w fun t12 w =>
    kn t10 t12 w)
    (kn x_0 n_2 w)
theorem math_bits_Len64_p4_ok (kn : K2) (hn : ∀ g w, kn (g 0) (g 2) w → Q .normal g w) (h : math_bits_Len64_p4 kn (g 0) (g 2) w) : den pg ann_math_bits_Len64 (takeS 1 (dropS 2 code_math_bits_Len64)) Q g w :=
  den_exQ (kr := no) (l := []) (by kernel_rfl) h hn noE trivial

def math_bits_Len64_p5 (R : K1) (x_0 n_2 : Value) (w : World) : Prop :=
  math_bits_Len64_p4 (fun x_0 n_2 w => math_bits_Len64_p3 R x_0 n_2 w) x_0 n_2 w
theorem math_bits_Len64_p5_ok (R : K1) (hr : HR rs_math_bits_Len64 R Q) (h : math_bits_Len64_p5 R (g 0) (g 2) w) : den pg ann_math_bits_Len64 (dropS 2 code_math_bits_Len64) Q g w :=
  den_seqs 1 _ g w (by kernel_rfl) (math_bits_Len64_p4_ok (thenE (fun g w => den pg ann_math_bits_Len64 (dropS 1 (dropS 2 code_math_bits_Len64)) Q g w) Q) g w (fun x_0 n_2 w => math_bits_Len64_p3 R x_0 n_2 w) (fun g w h => thenE_n (K := fun g w => den pg ann_math_bits_Len64 (dropS 1 (dropS 2 code_math_bits_Len64)) Q g w) (math_bits_Len64_p3_ok Q g w R hr h)) h)

def math_bits_Len64_p6 (kn : K2) (x_0 : Value) (w : World) : Prop :=
  Stp pg (sBin .geq 44 (.tmp 3) (.const (.int .u64 4294967296)) x_0 (.int .u64 4294967296)) w fun t4 w =>
  Cnd t4
    (Stp pg (sBin .shr 44 (.tmp 5) (.const (.int .u64 32)) x_0 (.int .u64 32)) w fun t6 w =>
    kn t6 (.int .i64 32) w)
    (kn x_0 (.int .i64 0) w)
theorem math_bits_Len64_p6_ok (kn : K2) (hn : ∀ g w, kn (g 0) (g 2) w → Q .normal g w) (h : math_bits_Len64_p6 kn (g 0) w) : den pg ann_math_bits_Len64 (takeS 2 code_math_bits_Len64) Q g w :=
  den_exQ (kr := no) (l := []) (by kernel_rfl) h hn noE trivial

def math_bits_Len64_p7 (R : K1) (x_0 : Value) (w : World) : Prop :=
  math_bits_Len64_p6 (fun x_0 n_2 w => math_bits_Len64_p5 R x_0 n_2 w) x_0 w
theorem math_bits_Len64_p7_ok (R : K1) (hr : HR rs_math_bits_Len64 R Q) (h : math_bits_Len64_p7 R (g 0) w) : den pg ann_math_bits_Len64 code_math_bits_Len64 Q g w :=
  den_seqs 2 _ g w (by kernel_rfl) (math_bits_Len64_p6_ok (thenE (fun g w => den pg ann_math_bits_Len64 (dropS 2 code_math_bits_Len64) Q g w) Q) g w (fun x_0 n_2 w => math_bits_Len64_p5 R x_0 n_2 w) (fun g w h => thenE_n (K := fun g w => den pg ann_math_bits_Len64 (dropS 2 code_math_bits_Len64) Q g w) (math_bits_Len64_p5_ok Q g w R hr h)) h)

def math_bits_Len64 (a0 : Value) (w : World) (R : K1) : Prop :=
  math_bits_Len64_p7 R a0 w
theorem math_bits_Len64_does {a0 : Value} {w : World} {R : K1} (h : math_bits_Len64 a0 w R) : Does pg F_math_bits_Len64 #[a0] w R := by
  refine does_of_den (ann := ann_math_bits_Len64) (fn := Try.f35) (c := code_math_bits_Len64) (args := [a0]) (rs := rs_math_bits_Len64) (N := 25) TryM.mixed (by kernel_rfl) Try.func35 (by kernel_rfl) (by kernel_rfl) (by kernel_rfl) (of_decide_eq_true (by kernel_rfl)) (by kernel_rfl) ?_
  exact (math_bits_Len64_p7_ok (retQ pg rs_math_bits_Len64 R) (envOf [a0]) w R (fun _ _ h => h) h)
-- PIECES math_bits_Len64/0 math_bits_Len64_p1 math_bits_Len64_p2 math_bits_Len64_p3 math_bits_Len64_p4 math_bits_Len64_p5 math_bits_Len64_p6 math_bits_Len64_p7

/- slices.Max[[]byte,byte] -/
def ann_slices_Max_inst_36 : FA := ⟨F_slices_Max_inst_36, fun i => .leaf ([], []) []⟩
def rs_slices_Max_inst_36 : List ResultVar := [.tmp 2]
noncomputable def code_slices_Max_inst_36 : Code := bodyOf Try.f36
def slices_Max_inst_36_p1 (R : K1) (m_3 : Value) (w : World) : Prop :=
  R m_3 w
theorem slices_Max_inst_36_p1_ok (R : K1) (hr : HR rs_slices_Max_inst_36 R Q) (h : slices_Max_inst_36_p1 R (g 3) w) : den pg ann_slices_Max_inst_36 (dropS 1 (dropS 1 (dropS 2 code_slices_Max_inst_36))) Q g w :=
  den_exQ (kn := no) (l := []) (by kernel_rfl) h noE hr trivial

def slices_Max_inst_36_p2 (kn : K3) (k0 : K1) (x_0 m_3 i_4 : Value) (w : World) : Prop :=
  Stp pg (sBi .len #[22] 3 [x_0]) w fun t14 w =>
  Stp pg (sBin .lss 3 (.tmp 12) (.tmp 14) i_4 t14) w fun t15 w =>
  Cnd t15
    (Stp pg (sIAddr 22 x_0 i_4) w fun t21 w =>
    Stp pg (sLoad 5 t21) w fun t22 w =>
    Stp pg (sBi .max #[5, 5] 5 [m_3, t22]) w fun t23 w =>
    Stp pg (sBin .add 3 (.tmp 16) (.const (.int .i64 1)) i_4 (.int .i64 1)) w fun t17 w =>
    kn x_0 t23 t17 w)
    (k0 m_3 w)
theorem slices_Max_inst_36_p2_ok (kn : K3) (k0 : K1) (hn : ∀ g w, kn (g 0) (g 3) (g 4) w → Q .normal g w) (h0 : ∀ g w, k0 (g 3) w → Q (.exit 0) g w) (h : slices_Max_inst_36_p2 kn k0 (g 0) (g 3) (g 4) w) : den pg ann_slices_Max_inst_36 (bI (bI (dropS 1 (takeS 1 (dropS 1 (dropS 2 code_slices_Max_inst_36)))))) Q g w :=
  den_exQ (kr := no) (l := [(0, fun g w => k0 (g 3) w)]) (by kernel_rfl) h hn noE ⟨h0, trivial⟩

def slices_Max_inst_36_p3 (k0 : K1) (x_0 m_3 i_4 : Value) (w : World) : Prop :=
  LoopD (fun (X : (Value × Value) → K0) (t : Value × Value) (w : World) => slices_Max_inst_36_p2 (fun _ m_3 i_4 w => X (m_3, i_4) w) k0 x_0 t.1 t.2 w) (m_3, i_4) w
theorem slices_Max_inst_36_p3_ok (k0 : K1) (h0 : ∀ g w, k0 (g 3) w → Q (.exit 0) g w) (h : slices_Max_inst_36_p3 k0 (g 0) (g 3) (g 4) w) : den pg ann_slices_Max_inst_36 (bI (dropS 1 (takeS 1 (dropS 1 (dropS 2 code_slices_Max_inst_36))))) Q g w := by
  refine den_loops (T := Value × Value) (fun g : Env => (g 3, g 4)) (fun X t w => slices_Max_inst_36_p2 (fun _ m_3 i_4 w => X (m_3, i_4) w) k0 (g 0) t.1 t.2 w) _ (by kernel_rfl) h (fun X g1 w1 ha hL => ?_)
  rw [← agree_at (s := 0) ha (by kernel_rfl)] at hL
  exact (slices_Max_inst_36_p2_ok (thenE (fun g2 w2 => X ((fun g : Env => (g 3, g 4)) g2) w2) Q) g1 w1 (fun _ m_3 i_4 w => X (m_3, i_4) w) k0 (fun _ _ h => h) h0 hL)

def slices_Max_inst_36_p4 (kn : K1) (x_0 m_3 i_4 : Value) (w : World) : Prop :=
  slices_Max_inst_36_p3 kn x_0 m_3 i_4 w
theorem slices_Max_inst_36_p4_ok (kn : K1) (hn : ∀ g w, kn (g 3) w → Q .normal g w) (h : slices_Max_inst_36_p4 kn (g 0) (g 3) (g 4) w) : den pg ann_slices_Max_inst_36 (dropS 1 (takeS 1 (dropS 1 (dropS 2 code_slices_Max_inst_36)))) Q g w :=
  den_blk 0 _ g w (by kernel_rfl) (slices_Max_inst_36_p3_ok (blk 0 Q) g w kn hn h)

def slices_Max_inst_36_p5 (kn : K3) (x_0 m_3 : Value) (w : World) : Prop :=
  kn x_0 m_3 (.int .i64 1) w
theorem slices_Max_inst_36_p5_ok (kn : K3) (hn : ∀ g w, kn (g 0) (g 3) (g 4) w → Q .normal g w) (h : slices_Max_inst_36_p5 kn (g 0) (g 3) w) : den pg ann_slices_Max_inst_36 (takeS 1 (takeS 1 (dropS 1 (dropS 2 code_slices_Max_inst_36)))) Q g w :=
  den_exQ (kr := no) (l := []) (by kernel_rfl) h hn noE trivial

def slices_Max_inst_36_p6 (kn : K1) (x_0 m_3 : Value) (w : World) : Prop :=
  slices_Max_inst_36_p5 (fun x_0 m_3 i_4 w => slices_Max_inst_36_p4 kn x_0 m_3 i_4 w) x_0 m_3 w
theorem slices_Max_inst_36_p6_ok (kn : K1) (hn : ∀ g w, kn (g 3) w → Q .normal g w) (h : slices_Max_inst_36_p6 kn (g 0) (g 3) w) : den pg ann_slices_Max_inst_36 (takeS 1 (dropS 1 (dropS 2 code_slices_Max_inst_36))) Q g w :=
  den_seqs 1 _ g w (by kernel_rfl) (slices_Max_inst_36_p5_ok (thenE (fun g w => den pg ann_slices_Max_inst_36 (dropS 1 (takeS 1 (dropS 1 (dropS 2 code_slices_Max_inst_36)))) Q g w) Q) g w (fun x_0 m_3 i_4 w => slices_Max_inst_36_p4 kn x_0 m_3 i_4 w) (fun g w h => thenE_n (K := fun g w => den pg ann_slices_Max_inst_36 (dropS 1 (takeS 1 (dropS 1 (dropS 2 code_slices_Max_inst_36)))) Q g w) (slices_Max_inst_36_p4_ok Q g w kn hn h)) h)

def slices_Max_inst_36_p7 (R : K1) (x_0 m_3 : Value) (w : World) : Prop :=
  slices_Max_inst_36_p6 (fun m_3 w => slices_Max_inst_36_p1 R m_3 w) x_0 m_3 w
theorem slices_Max_inst_36_p7_ok (R : K1) (hr : HR rs_slices_Max_inst_36 R Q) (h : slices_Max_inst_36_p7 R (g 0) (g 3) w) : den pg ann_slices_Max_inst_36 (dropS 1 (dropS 2 code_slices_Max_inst_36)) Q g w :=
  den_seqs 1 _ g w (by kernel_rfl) (slices_Max_inst_36_p6_ok (thenE (fun g w => den pg ann_slices_Max_inst_36 (dropS 1 (dropS 1 (dropS 2 code_slices_Max_inst_36))) Q g w) Q) g w (fun m_3 w => slices_Max_inst_36_p1 R m_3 w) (fun g w h => thenE_n (K := fun g w => den pg ann_slices_Max_inst_36 (dropS 1 (dropS 1 (dropS 2 code_slices_Max_inst_36))) Q g w) (slices_Max_inst_36_p1_ok Q g w R hr h)) h)

def slices_Max_inst_36_p8 (kn : K2) (x_0 : Value) (w : World) : Prop :=
  Stp pg (sIAddr 22 x_0 (.int .i64 0)) w fun t10 w =>
  Stp pg (sLoad 5 t10) w fun t11 w =>
  kn x_0 t11 w
theorem slices_Max_inst_36_p8_ok (kn : K2) (hn : ∀ g w, kn (g 0) (g 3) w → Q .normal g w) (h : slices_Max_inst_36_p8 kn (g 0) w) : den pg ann_slices_Max_inst_36 (takeS 1 (dropS 2 code_slices_Max_inst_36)) Q g w :=
  den_exQ (kr := no) (l := []) (by kernel_rfl) h hn noE trivial

def slices_Max_inst_36_p9 (R : K1) (x_0 : Value) (w : World) : Prop :=
  slices_Max_inst_36_p8 (fun x_0 m_3 w => slices_Max_inst_36_p7 R x_0 m_3 w) x_0 w
theorem slices_Max_inst_36_p9_ok (R : K1) (hr : HR rs_slices_Max_inst_36 R Q) (h : slices_Max_inst_36_p9 R (g 0) w) : den pg ann_slices_Max_inst_36 (dropS 2 code_slices_Max_inst_36) Q g w :=
  den_seqs 1 _ g w (by kernel_rfl) (slices_Max_inst_36_p8_ok (thenE (fun g w => den pg ann_slices_Max_inst_36 (dropS 1 (dropS 2 code_slices_Max_inst_36)) Q g w) Q) g w (fun x_0 m_3 w => slices_Max_inst_36_p7 R x_0 m_3 w) (fun g w h => thenE_n (K := fun g w => den pg ann_slices_Max_inst_36 (dropS 1 (dropS 2 code_slices_Max_inst_36)) Q g w) (slices_Max_inst_36_p7_ok Q g w R hr h)) h)

def slices_Max_inst_36_p10 (kn : K1) (x_0 : Value) (w : World) : Prop :=
  Stp pg (sBi .len #[22] 3 [x_0]) w fun t6 w =>
  Stp pg (sBin .lss 3 (.tmp 6) (.const (.int .i64 1)) t6 (.int .i64 1)) w fun t7 w =>
  Cnd t7
    (Stp pg (sIface 9 (.string ⟨#[115, 108, 105, 99, 101, 115, 46, 77, 97, 120, 58, 32, 101, 109, 112, 116, 121, 32, 108, 105, 115, 116]⟩)) w fun t8 w =>
    Stp pg (V (Instr.panic t8)) w fun _u w =>
    kn x_0 w)
    (kn x_0 w)
theorem slices_Max_inst_36_p10_ok (kn : K1) (hn : ∀ g w, kn (g 0) w → Q .normal g w) (h : slices_Max_inst_36_p10 kn (g 0) w) : den pg ann_slices_Max_inst_36 (takeS 2 code_slices_Max_inst_36) Q g w :=
  den_exQ (kr := no) (l := []) (by kernel_rfl) h hn noE trivial

def slices_Max_inst_36_p11 (R : K1) (x_0 : Value) (w : World) : Prop :=
  slices_Max_inst_36_p10 (fun x_0 w => slices_Max_inst_36_p9 R x_0 w) x_0 w
theorem slices_Max_inst_36_p11_ok (R : K1) (hr : HR rs_slices_Max_inst_36 R Q) (h : slices_Max_inst_36_p11 R (g 0) w) : den pg ann_slices_Max_inst_36 code_slices_Max_inst_36 Q g w :=
  den_seqs 2 _ g w (by kernel_rfl) (slices_Max_inst_36_p10_ok (thenE (fun g w => den pg ann_slices_Max_inst_36 (dropS 2 code_slices_Max_inst_36) Q g w) Q) g w (fun x_0 w => slices_Max_inst_36_p9 R x_0 w) (fun g w h => thenE_n (K := fun g w => den pg ann_slices_Max_inst_36 (dropS 2 code_slices_Max_inst_36) Q g w) (slices_Max_inst_36_p9_ok Q g w R hr h)) h)

def slices_Max_inst_36 (a0 : Value) (w : World) (R : K1) : Prop :=
  slices_Max_inst_36_p11 R a0 w
theorem slices_Max_inst_36_does {a0 : Value} {w : World} {R : K1} (h : slices_Max_inst_36 a0 w R) : Does pg F_slices_Max_inst_36 #[a0] w R := by
  refine does_of_den (ann := ann_slices_Max_inst_36) (fn := Try.f36) (c := code_slices_Max_inst_36) (args := [a0]) (rs := rs_slices_Max_inst_36) (N := 25) TryM.mixed (by kernel_rfl) Try.func36 (by kernel_rfl) (by kernel_rfl) (by kernel_rfl) (of_decide_eq_true (by kernel_rfl)) (by kernel_rfl) ?_
  exact (slices_Max_inst_36_p11_ok (retQ pg rs_slices_Max_inst_36 R) (envOf [a0]) w R (fun _ _ h => h) h)
-- PIECES slices_Max_inst_36/0 slices_Max_inst_36_p1 slices_Max_inst_36_p3 slices_Max_inst_36_p4 slices_Max_inst_36_p5 slices_Max_inst_36_p6 slices_Max_inst_36_p7 slices_Max_inst_36_p8 slices_Max_inst_36_p9 slices_Max_inst_36_p10 slices_Max_inst_36_p11
-- PIECES slices_Max_inst_36/1 slices_Max_inst_36_p2

end Go.Proofs.Ytoepfjgekpdddaa

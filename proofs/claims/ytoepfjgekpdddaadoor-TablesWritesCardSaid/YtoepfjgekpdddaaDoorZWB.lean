/- Parts of the proof of TablesWrites: merged and given short names by a program of ours. -/
import Derived.Laws.IdiomStrings
import Derived.Test.YtoepfjgekpdddaaDoorZWA
namespace Go.Proofs.YtoepfjgekpdddaaDoor
open Go Go.En
set_option linter.unusedVariables false
set_option maxRecDepth 20000
attribute [local irreducible] Go.En.eK
variable (Q : Exit → jT → World → Prop) (g : jT) (w : World)
def fI : FA := ⟨CB, fun i => match Nat.beq i 30 with | true => .leaf ([2, 3], [(0, 2)]) [(false, []), (false, []), (true, [1]), (true, []), (false, []), (false, [])] | false => .leaf ([], []) []⟩
def jN : List ResultVar := [.cell 6 65, .tmp 7, .tmp 8]
noncomputable def fE : Code := kJ Tryd.f24
def A4 (R : K1) (t6 lX iG : Value) (w : World) : Prop :=
  cO pg (eQ 65 iG) (dr w) fun t111 w_ => w_ = (dr w) ∧
  cO pg (eQ 99 lX) (dr w) fun t112 w_ => w_ = (dr w) ∧
  hJ pg CG #[t112] (dr w) fun t113 Y9 =>
  (gY pg (eQ 65 iG) t111 Y9 ∧ True) ∧
  cO pg (fG 65 t6 t111) Y9 fun _u3 SV =>
  SV = SV ∧
  SV = SV ∧
  qB pg 65 t6 SV fun r0 => R (.tuple #[r0, t113, (.int .i64 0)]) SV
theorem O5 (R : K1) (hr : HR jN R Q) (h : A4 R (g 6) (g 9) (g 12) w) : eK pg fI (aA 1 (aA 7 fE)) Q g w :=
  dU (kn := no) (l := []) (by kernel_rfl) h kT hr trivial
def Bg (kn : K5) (R : K1) (dY t6 lX iG fA : Value) (w : World) : Prop :=
  cO pg (fF 65 iG 1) w fun t101 w =>
  cO pg (eQ 30 t101) w fun t102 w =>
  cO pg (nA .len #[30] 3 [t102]) w fun t103 w =>
  cO pg (eF .gtr 3 (.tmp 103) (.tmp 104) t103 dY) w fun t105 w =>
  Gd (kA t105 false) (fun K => K fA w) w fun t107 w =>
  Gd (kA t105 false) (fun K => cO pg (eF .lss 3 (.tmp 107) (.const (.int .i64 0)) t107 (.int .i64 0)) w K) w fun t108 w =>
  cO pg (kL t105 (.bool true) t108) w fun t109 w =>
  lM t109
    (cO pg (iH 65 []) w fun t110 w =>
    cO pg (fG 65 t6 t110) w fun _u w =>
    qB pg 65 t6 w fun r0 => R (.tuple #[r0, (.int .i64 0), (.int .i64 11)]) w)
    (kn dY t6 lX iG fA w)
theorem PD (kn : K5) (R : K1) (hn : ∀ g w, kn (g 2) (g 6) (g 9) (g 12) (g 13) w → Q .normal g w) (hr : HR jN R Q) (h : Bg kn R (g 2) (g 6) (g 9) (g 12) (g 13) w) : eK pg fI (aA 1 (aA 1 (aA 5 (bI (aA 1 (bI (bI (bJ 1 (aA 7 fE))))))))) Q g w :=
  dU (l := []) (by kernel_rfl) h hn hr trivial
def AP (kn : K6) (dY t6 lX AI iG fA : Value) (w : World) : Prop :=
  cO pg (eF .eql 83 (.tmp 99) (.const (.int .u64 3)) AI (.int .u64 3)) w fun t100 w =>
  kn dY t6 lX iG fA t100 w
theorem OX (kn : K6) (hn : ∀ g w, kn (g 2) (g 6) (g 9) (g 12) (g 13) (g 15) w → Q .normal g w) (h : AP kn (g 2) (g 6) (g 9) (g 10) (g 12) (g 13) w) : eK pg fI (aA 1 (aA 2 (bI (aA 1 (bI (bI (bJ 1 (aA 1 (aA 5 (bI (aA 1 (bI (bI (bJ 1 (aA 7 fE))))))))))))))) Q g w :=
  dU (kr := no) (l := []) (by kernel_rfl) h hn kT trivial
def AS (kn : K7) (k4 : K6) (dY t6 lX AI iG fA I5 : Value) (w : World) : Prop :=
  cO pg (mL 83 3 AI) w fun t90 w =>
  cO pg (eF .lss 3 (.tmp 88) (.tmp 90) I5 t90) w fun t91 w =>
  lM t91
    (cO pg (fF 65 iG 1) w fun t94 w =>
    cO pg (eQ 30 t94) w fun t95 w =>
    cO pg (iE 30 1 [(0, (.int .i64 0))]) w fun t96 w =>
    cO pg (nA .append #[30, 30] 30 [t95, t96]) w fun t97 w =>
    cO pg (fF 65 iG 1) w fun t98 w =>
    cO pg (fG 30 t98 t97) w fun _u w =>
    cO pg (eF .add 3 (.tmp 92) (.const (.int .i64 1)) I5 (.int .i64 1)) w fun t93 w =>
    kn dY t6 lX AI iG fA t93 w)
    (k4 dY t6 lX AI iG fA w)
theorem OJ (kn : K7) (k4 : K6) (hn : ∀ g w, kn (g 2) (g 6) (g 9) (g 10) (g 12) (g 13) (g 16) w → Q .normal g w) (h4 : ∀ g w, k4 (g 2) (g 6) (g 9) (g 10) (g 12) (g 13) w → Q (.exit 4) g w) (h : AS kn k4 (g 2) (g 6) (g 9) (g 10) (g 12) (g 13) (g 16) w) : eK pg fI (bI (bI (aA 1 (bJ 1 (aA 2 (bI (aA 1 (bI (bI (bJ 1 (aA 1 (aA 5 (bI (aA 1 (bI (bI (bJ 1 (aA 7 fE)))))))))))))))))) Q g w :=
  dU (kr := no) (l := [(4, fun g w => k4 (g 2) (g 6) (g 9) (g 10) (g 12) (g 13) w)]) (by kernel_rfl) h hn kT ⟨h4, trivial⟩
def F9 (k4 : K6) (dY t6 lX AI iG fA I5 : Value) (w : World) : Prop :=
  iY (fun (X : Value → K0) (t : Value) (w : World) => AS (fun _ _ _ _ _ _ I5 w => X I5 w) k4 dY t6 lX AI iG fA t w) I5 w
theorem OH (k4 : K6) (h4 : ∀ g w, k4 (g 2) (g 6) (g 9) (g 10) (g 12) (g 13) w → Q (.exit 4) g w) (h : F9 k4 (g 2) (g 6) (g 9) (g 10) (g 12) (g 13) (g 16) w) : eK pg fI (bI (aA 1 (bJ 1 (aA 2 (bI (aA 1 (bI (bI (bJ 1 (aA 1 (aA 5 (bI (aA 1 (bI (bI (bJ 1 (aA 7 fE))))))))))))))))) Q g w := by
  refine iV (T := Value) (fun g : jT => g 16) (fun X t w => AS (fun _ _ _ _ _ _ I5 w => X I5 w) k4 (g 2) (g 6) (g 9) (g 10) (g 12) (g 13) t w) _ (by kernel_rfl) h (fun X g1 w1 ha hL => ?_)
  rw [← dW (s := 2) ha (by kernel_rfl)] at hL
  rw [← dW (s := 6) ha (by kernel_rfl)] at hL
  rw [← dW (s := 9) ha (by kernel_rfl)] at hL
  rw [← dW (s := 10) ha (by kernel_rfl)] at hL
  rw [← dW (s := 12) ha (by kernel_rfl)] at hL
  rw [← dW (s := 13) ha (by kernel_rfl)] at hL
  exact (OJ (fH (fun g2 w2 => X ((fun g : jT => g 16) g2) w2) Q) g1 w1 (fun _ _ _ _ _ _ I5 w => X I5 w) k4 (fun _ _ h => h) h4 hL)
def A7 (kn : K6) (dY t6 lX AI iG fA I5 : Value) (w : World) : Prop :=
  F9 kn dY t6 lX AI iG fA I5 w
theorem Pq (kn : K6) (hn : ∀ g w, kn (g 2) (g 6) (g 9) (g 10) (g 12) (g 13) w → Q .normal g w) (h : A7 kn (g 2) (g 6) (g 9) (g 10) (g 12) (g 13) (g 16) w) : eK pg fI (aA 1 (bJ 1 (aA 2 (bI (aA 1 (bI (bI (bJ 1 (aA 1 (aA 5 (bI (aA 1 (bI (bI (bJ 1 (aA 7 fE)))))))))))))))) Q g w :=
  iU 4 _ g w (by kernel_rfl) (OH (vI 4 Q) g w kn hn h)
def Fx (kn : K7) (dY t6 lX AI iG fA : Value) (w : World) : Prop :=
  kn dY t6 lX AI iG fA (.int .i64 0) w
theorem Ps (kn : K7) (hn : ∀ g w, kn (g 2) (g 6) (g 9) (g 10) (g 12) (g 13) (g 16) w → Q .normal g w) (h : Fx kn (g 2) (g 6) (g 9) (g 10) (g 12) (g 13) w) : eK pg fI (bJ 1 (bJ 1 (aA 2 (bI (aA 1 (bI (bI (bJ 1 (aA 1 (aA 5 (bI (aA 1 (bI (bI (bJ 1 (aA 7 fE)))))))))))))))) Q g w :=
  dU (kr := no) (l := []) (by kernel_rfl) h hn kT trivial
def Fb (kn : K6) (dY t6 lX AI iG fA : Value) (w : World) : Prop :=
  Fx (fun dY t6 lX AI iG fA I5 w => A7 kn dY t6 lX AI iG fA I5 w) dY t6 lX AI iG fA w
theorem PN (kn : K6) (hn : ∀ g w, kn (g 2) (g 6) (g 9) (g 10) (g 12) (g 13) w → Q .normal g w) (h : Fb kn (g 2) (g 6) (g 9) (g 10) (g 12) (g 13) w) : eK pg fI (bJ 1 (aA 2 (bI (aA 1 (bI (bI (bJ 1 (aA 1 (aA 5 (bI (aA 1 (bI (bI (bJ 1 (aA 7 fE))))))))))))))) Q g w :=
  dX 1 _ g w (by kernel_rfl) (Ps (fH (fun g w => eK pg fI (aA 1 (bJ 1 (aA 2 (bI (aA 1 (bI (bI (bJ 1 (aA 1 (aA 5 (bI (aA 1 (bI (bI (bJ 1 (aA 7 fE)))))))))))))))) Q g w) Q) g w (fun dY t6 lX AI iG fA I5 w => A7 kn dY t6 lX AI iG fA I5 w) (fun g w h => eN (K := fun g w => eK pg fI (aA 1 (bJ 1 (aA 2 (bI (aA 1 (bI (bI (bJ 1 (aA 1 (aA 5 (bI (aA 1 (bI (bI (bJ 1 (aA 7 fE)))))))))))))))) Q g w) (Pq Q g w kn hn h)) h)
def uL (kn : K6) (dY t6 lX AI iG fA : Value) (w : World) : Prop :=
  Fb (fun dY t6 lX AI iG fA w => AP kn dY t6 lX AI iG fA w) dY t6 lX AI iG fA w
theorem O6 (kn : K6) (hn : ∀ g w, kn (g 2) (g 6) (g 9) (g 12) (g 13) (g 15) w → Q .normal g w) (h : uL kn (g 2) (g 6) (g 9) (g 10) (g 12) (g 13) w) : eK pg fI (aA 2 (bI (aA 1 (bI (bI (bJ 1 (aA 1 (aA 5 (bI (aA 1 (bI (bI (bJ 1 (aA 7 fE)))))))))))))) Q g w :=
  dX 1 _ g w (by kernel_rfl) (PN (fH (fun g w => eK pg fI (aA 1 (aA 2 (bI (aA 1 (bI (bI (bJ 1 (aA 1 (aA 5 (bI (aA 1 (bI (bI (bJ 1 (aA 7 fE))))))))))))))) Q g w) Q) g w (fun dY t6 lX AI iG fA w => AP kn dY t6 lX AI iG fA w) (fun g w h => eN (K := fun g w => eK pg fI (aA 1 (aA 2 (bI (aA 1 (bI (bI (bJ 1 (aA 1 (aA 5 (bI (aA 1 (bI (bI (bJ 1 (aA 7 fE))))))))))))))) Q g w) (OX Q g w kn hn h)) h)
def D3 (kn : K6) (R : K1) (dY t6 lX iG fA : Value) (w : World) : Prop :=
  cO pg (eQ 99 lX) w fun t79 w =>
  hJ pg qE #[t79, (.int .i64 2)] w fun t80 w =>
  cO pg (jC t80 0) w fun t81 w =>
  cO pg (jC t80 1) w fun t82 w =>
  cO pg (jC t80 2) w fun t83 w =>
  cO pg (fG 99 lX t81) w fun _u w =>
  cO pg (eF .neq 27 (.tmp 84) (.const (.int .i64 0)) t83 (.int .i64 0)) w fun t85 w =>
  lM t85
    (cO pg (iH 65 []) w fun t86 w =>
    cO pg (fG 65 t6 t86) w fun _u w =>
    qB pg 65 t6 w fun r0 => R (.tuple #[r0, (.int .i64 0), t83]) w)
    (kn dY t6 lX t82 iG fA w)
theorem Nb (kn : K6) (R : K1) (hn : ∀ g w, kn (g 2) (g 6) (g 9) (g 10) (g 12) (g 13) w → Q .normal g w) (hr : HR jN R Q) (h : D3 kn R (g 2) (g 6) (g 9) (g 12) (g 13) w) : eK pg fI (bJ 2 (bI (aA 1 (bI (bI (bJ 1 (aA 1 (aA 5 (bI (aA 1 (bI (bI (bJ 1 (aA 7 fE)))))))))))))) Q g w :=
  dU (l := []) (by kernel_rfl) h hn hr trivial
def Db (kn : K6) (R : K1) (dY t6 lX iG fA : Value) (w : World) : Prop :=
  D3 (fun dY t6 lX AI iG fA w => uL kn dY t6 lX AI iG fA w) R dY t6 lX iG fA w
theorem Mk (kn : K6) (R : K1) (hn : ∀ g w, kn (g 2) (g 6) (g 9) (g 12) (g 13) (g 15) w → Q .normal g w) (hr : HR jN R Q) (h : Db kn R (g 2) (g 6) (g 9) (g 12) (g 13) w) : eK pg fI (bI (aA 1 (bI (bI (bJ 1 (aA 1 (aA 5 (bI (aA 1 (bI (bI (bJ 1 (aA 7 fE))))))))))))) Q g w :=
  dX 2 _ g w (by kernel_rfl) (Nb (fH (fun g w => eK pg fI (aA 2 (bI (aA 1 (bI (bI (bJ 1 (aA 1 (aA 5 (bI (aA 1 (bI (bI (bJ 1 (aA 7 fE)))))))))))))) Q g w) Q) g w (fun dY t6 lX AI iG fA w => uL kn dY t6 lX AI iG fA w) R (fun g w h => eN (K := fun g w => eK pg fI (aA 2 (bI (aA 1 (bI (bI (bJ 1 (aA 1 (aA 5 (bI (aA 1 (bI (bI (bJ 1 (aA 7 fE)))))))))))))) Q g w) (O6 Q g w kn hn h)) hr h)
def xM (kn : K6) (R : K1) (dY t6 lX iG fA : Value) (w : World) : Prop :=
  Db kn R dY t6 lX iG fA w
theorem Od (kn : K6) (R : K1) (hn : ∀ g w, kn (g 2) (g 6) (g 9) (g 12) (g 13) (g 15) w → Q .normal g w) (hr : HR jN R Q) (h : xM kn R (g 2) (g 6) (g 9) (g 12) (g 13) w) : eK pg fI (aA 1 (bI (bI (bJ 1 (aA 1 (aA 5 (bI (aA 1 (bI (bI (bJ 1 (aA 7 fE)))))))))))) Q g w :=
  iU 3 _ g w (by kernel_rfl) (Mk (vI 3 Q) g w kn R hn hr h)
def Df (kn : K5) (k2 : K5) (dY t6 lX iG fA t15 : Value) (w : World) : Prop :=
  lM t15
    (kn dY t6 lX iG fA w)
    (k2 dY t6 lX iG fA w)
theorem Nd (kn : K5) (k2 : K5) (hn : ∀ g w, kn (g 2) (g 6) (g 9) (g 12) (g 13) w → Q .normal g w) (h2 : ∀ g w, k2 (g 2) (g 6) (g 9) (g 12) (g 13) w → Q (.exit 2) g w) (h : Df kn k2 (g 2) (g 6) (g 9) (g 12) (g 13) (g 15) w) : eK pg fI (bJ 1 (bI (bI (bJ 1 (aA 1 (aA 5 (bI (aA 1 (bI (bI (bJ 1 (aA 7 fE)))))))))))) Q g w :=
  dU (kr := no) (l := [(2, fun g w => k2 (g 2) (g 6) (g 9) (g 12) (g 13) w)]) (by kernel_rfl) h hn kT ⟨h2, trivial⟩
def xR (kn : K6) (k2 : K5) (R : K1) (dY t6 lX iG fA t15 : Value) (w : World) : Prop :=
  Df (fun dY t6 lX iG fA w => xM kn R dY t6 lX iG fA w) k2 dY t6 lX iG fA t15 w
theorem M6 (kn : K6) (k2 : K5) (R : K1) (hn : ∀ g w, kn (g 2) (g 6) (g 9) (g 12) (g 13) (g 15) w → Q .normal g w) (h2 : ∀ g w, k2 (g 2) (g 6) (g 9) (g 12) (g 13) w → Q (.exit 2) g w) (hr : HR jN R Q) (h : xR kn k2 R (g 2) (g 6) (g 9) (g 12) (g 13) (g 15) w) : eK pg fI (bI (bI (bJ 1 (aA 1 (aA 5 (bI (aA 1 (bI (bI (bJ 1 (aA 7 fE))))))))))) Q g w :=
  dX 1 _ g w (by kernel_rfl) (Nd (fH (fun g w => eK pg fI (aA 1 (bI (bI (bJ 1 (aA 1 (aA 5 (bI (aA 1 (bI (bI (bJ 1 (aA 7 fE)))))))))))) Q g w) Q) g w (fun dY t6 lX iG fA w => xM kn R dY t6 lX iG fA w) k2 (fun g w h => eN (K := fun g w => eK pg fI (aA 1 (bI (bI (bJ 1 (aA 1 (aA 5 (bI (aA 1 (bI (bI (bJ 1 (aA 7 fE)))))))))))) Q g w) (Od Q g w kn R hn hr h)) h2 h)
def DG (k2 : K5) (R : K1) (dY t6 lX iG fA t15 : Value) (w : World) : Prop :=
  iY (fun (X : Value → K0) (t : Value) (w : World) => xR (fun _ _ _ _ _ t15 w => X t15 w) k2 R dY t6 lX iG fA t w) t15 w
theorem N4 (k2 : K5) (R : K1) (h2 : ∀ g w, k2 (g 2) (g 6) (g 9) (g 12) (g 13) w → Q (.exit 2) g w) (hr : HR jN R Q) (h : DG k2 R (g 2) (g 6) (g 9) (g 12) (g 13) (g 15) w) : eK pg fI (bI (bJ 1 (aA 1 (aA 5 (bI (aA 1 (bI (bI (bJ 1 (aA 7 fE)))))))))) Q g w := by
  refine iV (T := Value) (fun g : jT => g 15) (fun X t w => xR (fun _ _ _ _ _ t15 w => X t15 w) k2 R (g 2) (g 6) (g 9) (g 12) (g 13) t w) _ (by kernel_rfl) h (fun X g1 w1 ha hL => ?_)
  rw [← dW (s := 2) ha (by kernel_rfl)] at hL
  rw [← dW (s := 6) ha (by kernel_rfl)] at hL
  rw [← dW (s := 9) ha (by kernel_rfl)] at hL
  rw [← dW (s := 12) ha (by kernel_rfl)] at hL
  rw [← dW (s := 13) ha (by kernel_rfl)] at hL
  exact (M6 (fH (fun g2 w2 => X ((fun g : jT => g 15) g2) w2) Q) g1 w1 (fun _ _ _ _ _ t15 w => X t15 w) k2 R (fun _ _ h => h) h2 hr hL)
def Ea (kn : K5) (R : K1) (dY t6 lX iG fA t15 : Value) (w : World) : Prop :=
  DG kn R dY t6 lX iG fA t15 w
theorem NJ (kn : K5) (R : K1) (hn : ∀ g w, kn (g 2) (g 6) (g 9) (g 12) (g 13) w → Q .normal g w) (hr : HR jN R Q) (h : Ea kn R (g 2) (g 6) (g 9) (g 12) (g 13) (g 15) w) : eK pg fI (bJ 1 (aA 1 (aA 5 (bI (aA 1 (bI (bI (bJ 1 (aA 7 fE))))))))) Q g w :=
  iU 2 _ g w (by kernel_rfl) (N4 (vI 2 Q) g w kn R hn hr h)
def xC (kn : K5) (R : K1) (dY t6 lX iG fA t15 : Value) (w : World) : Prop :=
  Ea (fun dY t6 lX iG fA w => Bg kn R dY t6 lX iG fA w) R dY t6 lX iG fA t15 w
theorem MB (kn : K5) (R : K1) (hn : ∀ g w, kn (g 2) (g 6) (g 9) (g 12) (g 13) w → Q .normal g w) (hr : HR jN R Q) (h : xC kn R (g 2) (g 6) (g 9) (g 12) (g 13) (g 15) w) : eK pg fI (aA 1 (aA 5 (bI (aA 1 (bI (bI (bJ 1 (aA 7 fE)))))))) Q g w :=
  dX 1 _ g w (by kernel_rfl) (NJ (fH (fun g w => eK pg fI (aA 1 (aA 1 (aA 5 (bI (aA 1 (bI (bI (bJ 1 (aA 7 fE))))))))) Q g w) Q) g w (fun dY t6 lX iG fA w => Bg kn R dY t6 lX iG fA w) R (fun g w h => eN (K := fun g w => eK pg fI (aA 1 (aA 1 (aA 5 (bI (aA 1 (bI (bI (bJ 1 (aA 7 fE))))))))) Q g w) (PD Q g w kn R hn hr h)) hr h)
def C9 (kn : K6) (dY t6 lX iG fA Ve : Value) (w : World) : Prop :=
  cO pg (eF .eql 3 (.tmp 75) (.const (.int .i64 1)) Ve (.int .i64 1)) w fun t76 w =>
  kn dY t6 lX iG fA t76 w
theorem MN (kn : K6) (hn : ∀ g w, kn (g 2) (g 6) (g 9) (g 12) (g 13) (g 15) w → Q .normal g w) (h : C9 kn (g 2) (g 6) (g 9) (g 12) (g 13) (g 14) w) : eK pg fI (bJ 1 (aA 5 (bI (aA 1 (bI (bI (bJ 1 (aA 7 fE)))))))) Q g w :=
  dU (kr := no) (l := []) (by kernel_rfl) h hn kT trivial
def pZ (kn : K5) (R : K1) (dY t6 lX iG fA Ve : Value) (w : World) : Prop :=
  C9 (fun dY t6 lX iG fA t15 w => xC kn R dY t6 lX iG fA t15 w) dY t6 lX iG fA Ve w
theorem Mr (kn : K5) (R : K1) (hn : ∀ g w, kn (g 2) (g 6) (g 9) (g 12) (g 13) w → Q .normal g w) (hr : HR jN R Q) (h : pZ kn R (g 2) (g 6) (g 9) (g 12) (g 13) (g 14) w) : eK pg fI (aA 5 (bI (aA 1 (bI (bI (bJ 1 (aA 7 fE))))))) Q g w :=
  dX 1 _ g w (by kernel_rfl) (MN (fH (fun g w => eK pg fI (aA 1 (aA 5 (bI (aA 1 (bI (bI (bJ 1 (aA 7 fE)))))))) Q g w) Q) g w (fun dY t6 lX iG fA t15 w => xC kn R dY t6 lX iG fA t15 w) (fun g w h => eN (K := fun g w => eK pg fI (aA 1 (aA 5 (bI (aA 1 (bI (bI (bJ 1 (aA 7 fE)))))))) Q g w) (MB Q g w kn R hn hr h)) h)
def Eg (kn : K6) (R : K1) (dY t6 lX iG fA : Value) (w : World) : Prop :=
  cO pg (eQ 99 lX) w fun t50 w =>
  hJ pg CV #[t50, fA] w fun t52 w =>
  cO pg (jC t52 0) w fun t53 w =>
  cO pg (jC t52 1) w fun t54 w =>
  cO pg (jC t52 2) w fun t55 w =>
  cO pg (fG 99 lX t53) w fun _u w =>
  cO pg (eF .neq 27 (.tmp 56) (.const (.int .i64 0)) t55 (.int .i64 0)) w fun t57 w =>
  lM t57
    (cO pg (iH 65 []) w fun t58 w =>
    cO pg (fG 65 t6 t58) w fun _u w =>
    qB pg 65 t6 w fun r0 => R (.tuple #[r0, (.int .i64 0), t55]) w)
    (cO pg (fF 65 iG 1) w fun t60 w =>
    cO pg (eQ 30 t60) w fun t61 w =>
    cO pg (eF .sub 3 (.tmp 62) (.const (.int .i64 1)) t54 (.int .i64 1)) w fun t63 w =>
    cO pg (iE 30 1 [(0, t63)]) w fun t64 w =>
    cO pg (nA .append #[30, 30] 30 [t61, t64]) w fun t65 w =>
    cO pg (fF 65 iG 1) w fun t66 w =>
    cO pg (fG 30 t66 t65) w fun _u w =>
    cO pg (eF .eql 3 (.tmp 67) (.const (.int .i64 0)) t54 (.int .i64 0)) w fun t68 w =>
    lM t68
      (cO pg (eF .sub 3 (.tmp 69) (.const (.int .i64 1)) fA (.int .i64 1)) w fun t70 w =>
      kn dY t6 lX iG t70 t54 w)
      (cO pg (eF .sub 3 (.tmp 72) (.const (.int .i64 1)) t54 (.int .i64 1)) w fun t73 w =>
      cO pg (eF .sub 3 (.tmp 71) (.tmp 73) fA t73) w fun t74 w =>
      kn dY t6 lX iG t74 t54 w))
theorem MD (kn : K6) (R : K1) (hn : ∀ g w, kn (g 2) (g 6) (g 9) (g 12) (g 13) (g 14) w → Q .normal g w) (hr : HR jN R Q) (h : Eg kn R (g 2) (g 6) (g 9) (g 12) (g 13) w) : eK pg fI (bJ 5 (bI (aA 1 (bI (bI (bJ 1 (aA 7 fE))))))) Q g w :=
  dU (l := []) (by kernel_rfl) h hn hr trivial
def DM (kn : K5) (R : K1) (dY t6 lX iG fA : Value) (w : World) : Prop :=
  Eg (fun dY t6 lX iG fA Ve w => pZ kn R dY t6 lX iG fA Ve w) R dY t6 lX iG fA w
theorem NH (kn : K5) (R : K1) (hn : ∀ g w, kn (g 2) (g 6) (g 9) (g 12) (g 13) w → Q .normal g w) (hr : HR jN R Q) (h : DM kn R (g 2) (g 6) (g 9) (g 12) (g 13) w) : eK pg fI (bI (aA 1 (bI (bI (bJ 1 (aA 7 fE)))))) Q g w :=
  dX 5 _ g w (by kernel_rfl) (MD (fH (fun g w => eK pg fI (aA 5 (bI (aA 1 (bI (bI (bJ 1 (aA 7 fE))))))) Q g w) Q) g w (fun dY t6 lX iG fA Ve w => pZ kn R dY t6 lX iG fA Ve w) R (fun g w h => eN (K := fun g w => eK pg fI (aA 5 (bI (aA 1 (bI (bI (bJ 1 (aA 7 fE))))))) Q g w) (Mr Q g w kn R hn hr h)) hr h)
def yT (kn : K5) (R : K1) (dY t6 lX iG fA : Value) (w : World) : Prop :=
  DM kn R dY t6 lX iG fA w
theorem MO (kn : K5) (R : K1) (hn : ∀ g w, kn (g 2) (g 6) (g 9) (g 12) (g 13) w → Q .normal g w) (hr : HR jN R Q) (h : yT kn R (g 2) (g 6) (g 9) (g 12) (g 13) w) : eK pg fI (aA 1 (bI (bI (bJ 1 (aA 7 fE))))) Q g w :=
  iU 1 _ g w (by kernel_rfl) (NH (vI 1 Q) g w kn R hn hr h)
def Dl (kn : K5) (k0 : K3) (dY t6 lX iG fA : Value) (w : World) : Prop :=
  cO pg (eF .gtr 3 (.tmp 47) (.const (.int .i64 0)) fA (.int .i64 0)) w fun t48 w =>
  lM t48
    (kn dY t6 lX iG fA w)
    (k0 t6 lX iG w)
theorem Mi (kn : K5) (k0 : K3) (hn : ∀ g w, kn (g 2) (g 6) (g 9) (g 12) (g 13) w → Q .normal g w) (h0 : ∀ g w, k0 (g 6) (g 9) (g 12) w → Q (.exit 0) g w) (h : Dl kn k0 (g 2) (g 6) (g 9) (g 12) (g 13) w) : eK pg fI (bJ 1 (bI (bI (bJ 1 (aA 7 fE))))) Q g w :=
  dU (kr := no) (l := [(0, fun g w => k0 (g 6) (g 9) (g 12) w)]) (by kernel_rfl) h hn kT ⟨h0, trivial⟩
def yH (kn : K5) (k0 : K3) (R : K1) (dY t6 lX iG fA : Value) (w : World) : Prop :=
  Dl (fun dY t6 lX iG fA w => yT kn R dY t6 lX iG fA w) k0 dY t6 lX iG fA w
theorem MS (kn : K5) (k0 : K3) (R : K1) (hn : ∀ g w, kn (g 2) (g 6) (g 9) (g 12) (g 13) w → Q .normal g w) (h0 : ∀ g w, k0 (g 6) (g 9) (g 12) w → Q (.exit 0) g w) (hr : HR jN R Q) (h : yH kn k0 R (g 2) (g 6) (g 9) (g 12) (g 13) w) : eK pg fI (bI (bI (bJ 1 (aA 7 fE)))) Q g w :=
  dX 1 _ g w (by kernel_rfl) (Mi (fH (fun g w => eK pg fI (aA 1 (bI (bI (bJ 1 (aA 7 fE))))) Q g w) Q) g w (fun dY t6 lX iG fA w => yT kn R dY t6 lX iG fA w) k0 (fun g w h => eN (K := fun g w => eK pg fI (aA 1 (bI (bI (bJ 1 (aA 7 fE))))) Q g w) (MO Q g w kn R hn hr h)) h0 h)
def C5 (k0 : K3) (R : K1) (dY t6 lX iG fA : Value) (w : World) : Prop :=
  iY (fun (X : Value → K0) (t : Value) (w : World) => yH (fun _ _ _ _ fA w => X fA w) k0 R dY t6 lX iG t w) fA w
theorem ML (k0 : K3) (R : K1) (h0 : ∀ g w, k0 (g 6) (g 9) (g 12) w → Q (.exit 0) g w) (hr : HR jN R Q) (h : C5 k0 R (g 2) (g 6) (g 9) (g 12) (g 13) w) : eK pg fI (bI (bJ 1 (aA 7 fE))) Q g w := by
  refine iV (T := Value) (fun g : jT => g 13) (fun X t w => yH (fun _ _ _ _ fA w => X fA w) k0 R (g 2) (g 6) (g 9) (g 12) t w) _ (by kernel_rfl) h (fun X g1 w1 ha hL => ?_)
  rw [← dW (s := 2) ha (by kernel_rfl)] at hL
  rw [← dW (s := 6) ha (by kernel_rfl)] at hL
  rw [← dW (s := 9) ha (by kernel_rfl)] at hL
  rw [← dW (s := 12) ha (by kernel_rfl)] at hL
  exact (MS (fH (fun g2 w2 => X ((fun g : jT => g 13) g2) w2) Q) g1 w1 (fun _ _ _ _ fA w => X fA w) k0 R (fun _ _ h => h) h0 hr hL)
def DJ (kn : K3) (R : K1) (dY t6 lX iG fA : Value) (w : World) : Prop :=
  C5 kn R dY t6 lX iG fA w
theorem MV (kn : K3) (R : K1) (hn : ∀ g w, kn (g 6) (g 9) (g 12) w → Q .normal g w) (hr : HR jN R Q) (h : DJ kn R (g 2) (g 6) (g 9) (g 12) (g 13) w) : eK pg fI (bJ 1 (aA 7 fE)) Q g w :=
  iU 0 _ g w (by kernel_rfl) (ML (vI 0 Q) g w kn R hn hr h)
def sB (R : K1) (dY t6 lX iG fA : Value) (w : World) : Prop :=
  DJ (fun t6 lX iG w => A4 R t6 lX iG w) R dY t6 lX iG fA w
theorem Oj (R : K1) (hr : HR jN R Q) (h : sB R (g 2) (g 6) (g 9) (g 12) (g 13) w) : eK pg fI (aA 7 fE) Q g w :=
  dX 1 _ g w (by kernel_rfl) (MV (fH (fun g w => eK pg fI (aA 1 (aA 7 fE)) Q g w) Q) g w (fun t6 lX iG w => A4 R t6 lX iG w) R (fun g w h => eN (K := fun g w => eK pg fI (aA 1 (aA 7 fE)) Q g w) (O5 Q g w R hr h)) hr h)
def D7 (kn : K5) (R : K1) (IK C2 dY : Value) (w : World) : Prop :=
  cO pg (jB 65) w fun t6 w =>
  hJ pg CQ #[IK] w fun t18 w =>
  cO pg (iH 99 [(0, t18)]) w fun t19 w =>
  cO pg (jB 99) w fun lX w =>
  cO pg (fG 99 lX t19) w fun _u w =>
  cO pg (eQ 99 lX) w fun t21 w =>
  hJ pg qE #[t21, (.int .i64 4)] w fun t22 w =>
  cO pg (jC t22 0) w fun t23 w =>
  cO pg (jC t22 1) w fun t24 w =>
  cO pg (jC t22 2) w fun t25 w =>
  cO pg (fG 99 lX t23) w fun _u w =>
  cO pg (eF .neq 27 (.tmp 26) (.const (.int .i64 0)) t25 (.int .i64 0)) w fun t27 w =>
  lM t27
    (cO pg (iH 65 []) w fun t28 w =>
    cO pg (fG 65 t6 t28) w fun _u w =>
    qB pg 65 t6 w fun r0 => R (.tuple #[r0, (.int .i64 0), t25]) w)
    (cO pg (mL 83 3 t24) w fun t31 w =>
    cO pg (eF .add 3 (.tmp 31) (.const (.int .i64 5)) t31 (.int .i64 5)) w fun t32 w =>
    cO pg (iH 65 [(0, t32)]) w fun t33 w =>
    cO pg (jB 65) w fun iG w =>
    cO pg (fG 65 iG t33) w fun _u w =>
    cO pg (fF 65 iG 0) w fun t34 w =>
    cO pg (eQ 3 t34) w fun t35 w =>
    cO pg (eF .gtr 3 (.tmp 35) (.tmp 36) t35 C2) w fun t37 w =>
    Gd (kA t37 false) (fun K => cO pg (fF 65 iG 0) w K) w fun t39 w =>
    Gd (kA t37 false) (fun K => cO pg (eQ 3 t39) w K) w fun t40 w =>
    Gd (kA t37 false) (fun K => cO pg (eF .gtr 3 (.tmp 40) (.const (.int .i64 15)) t40 (.int .i64 15)) w K) w fun t41 w =>
    cO pg (kL t37 (.bool true) t41) w fun t42 w =>
    lM t42
      (cO pg (iH 65 []) w fun t43 w =>
      cO pg (fG 65 t6 t43) w fun _u w =>
      qB pg 65 t6 w fun r0 => R (.tuple #[r0, (.int .i64 0), (.int .i64 12)]) w)
      (cO pg (fF 65 iG 0) w fun t44 w =>
      cO pg (eQ 3 t44) w fun t45 w =>
      hJ pg nC #[t45] w fun t46 w =>
      kn dY t6 lX iG t46 w))
theorem Ng (kn : K5) (R : K1) (hn : ∀ g w, kn (g 2) (g 6) (g 9) (g 12) (g 13) w → Q .normal g w) (hr : HR jN R Q) (h : D7 kn R (g 0) (g 1) (g 2) w) : eK pg fI (bJ 7 fE) Q g w :=
  dU (l := []) (by kernel_rfl) h hn hr trivial
def Dz (R : K1) (IK C2 dY : Value) (w : World) : Prop :=
  D7 (fun dY t6 lX iG fA w => sB R dY t6 lX iG fA w) R IK C2 dY w
theorem MY (R : K1) (hr : HR jN R Q) (h : Dz R (g 0) (g 1) (g 2) w) : eK pg fI fE Q g w :=
  dX 7 _ g w (by kernel_rfl) (Ng (fH (fun g w => eK pg fI (aA 7 fE) Q g w) Q) g w (fun dY t6 lX iG fA w => sB R dY t6 lX iG fA w) R (fun g w h => eN (K := fun g w => eK pg fI (aA 7 fE) Q g w) (Oj Q g w R hr h)) hr h)
def Sk (a0 a1 a2 : Value) (w : World) (R : K1) : Prop :=
  Dz R a0 a1 a2 w
theorem Rj {a0 a1 a2 : Value} {w : World} {R : K1} (h : Sk a0 a1 a2 w R) : hJ pg CB #[a0, a1, a2] w R := by
  refine gJ (ann := fI) (fn := Tryd.f24) (c := fE) (args := [a0, a1, a2]) (rs := jN) (N := 114) TrydM.mixed (by kernel_rfl) Tryd.func24 (by kernel_rfl) (by kernel_rfl) (by kernel_rfl) (of_decide_eq_true (by kernel_rfl)) (by kernel_rfl) ?_
  exact (MY (nK pg jN R) (lI [a0, a1, a2]) w R (fun _ _ h => h) h)
def Ih : FA := ⟨CX, fun i => .leaf ([], []) []⟩
def FO : List ResultVar := [.tmp 2]
noncomputable def Ht : Code := kJ Tryd.f25
def FN (R : K1) (eM : Value) (w : World) : Prop :=
  cO pg (eF .eql 3 (.tmp 3) (.const (.int .i64 0)) eM (.int .i64 0)) w fun t4 w =>
  Gd (kA t4 false) (fun K => K eM w) w fun t6 w =>
  Gd (kA t4 false) (fun K => cO pg (eF .eql 3 (.tmp 6) (.const (.int .i64 2)) t6 (.int .i64 2)) w K) w fun t7 w =>
  cO pg (kL t4 (.bool true) t7) w fun t8 w =>
  lM t8
    (R (.int .i64 9) w)
    (cO pg (eF .eql 3 (.tmp 9) (.const (.int .i64 1)) eM (.int .i64 1)) w fun t10 w =>
    lM t10
      (R (.int .i64 8) w)
      (R (.int .i64 0) w))
theorem P9 (R : K1) (hr : HR FO R Q) (h : FN R (g 0) w) : eK pg Ih Ht Q g w :=
  dU (kn := no) (l := []) (by kernel_rfl) h kT hr trivial
def SD (a0 : Value) (w : World) (R : K1) : Prop :=
  FN R a0 w
theorem Q6 {a0 : Value} {w : World} {R : K1} (h : SD a0 w R) : hJ pg CX #[a0] w R := by
  refine gJ (ann := Ih) (fn := Tryd.f25) (c := Ht) (args := [a0]) (rs := FO) (N := 11) TrydM.mixed (by kernel_rfl) Tryd.func25 (by kernel_rfl) (by kernel_rfl) (by kernel_rfl) (of_decide_eq_true (by kernel_rfl)) (by kernel_rfl) ?_
  exact (P9 (nK pg FO R) (lI [a0]) w R (fun _ _ h => h) h)
def cW : FA := ⟨uK, fun i => match Nat.beq i 46 with | true => .leaf ([5, 11], [(0, 5), (1, 5)]) [(false, []), (false, []), (false, []), (false, []), (false, []), (true, [3, 4]), (false, []), (false, []), (false, []), (false, []), (false, []), (true, [])] | false => .leaf ([], []) []⟩
def jI : List ResultVar := [.cell 2 42, .tmp 3]
noncomputable def cR : Code := kJ Tryd.f26
def xS (R : K1) (t2 t6 : Value) (w : World) : Prop :=
  cO pg (eQ 42 t6) w fun t184 w =>
  cO pg (fG 42 t2 t184) w fun _u w =>
  qB pg 42 t2 w fun r0 => R (.tuple #[r0, (.int .i64 0)]) w
theorem NL (R : K1) (hr : HR jI R Q) (h : xS R (g 2) (g 6) w) : eK pg cW (aA 1 (aA 1 (aA 1 (aA 1 (aA 1 (aA 1 (aA 1 (aA 5 cR)))))))) Q g w :=
  dU (kn := no) (l := []) (by kernel_rfl) h kT hr trivial
def sK (kn : K6) (fO t2 jK t6 gW lP : Value) (w : World) : Prop :=
  cO pg (eF .add 3 (.tmp 120) (.const (.int .i64 1)) lP (.int .i64 1)) w fun t121 w =>
  kn fO t2 jK t6 gW t121 w
theorem M8 (kn : K6) (hn : ∀ g w, kn (g 1) (g 2) (g 5) (g 6) (g 14) (g 15) w → Q .normal g w) (h : sK kn (g 1) (g 2) (g 5) (g 6) (g 14) (g 15) w) : eK pg cW (aA 1 (aA 1 (bI (bI (aA 1 (bJ 1 (aA 1 (aA 1 (aA 1 (aA 1 (aA 1 (aA 1 (aA 5 cR))))))))))))) Q g w :=
  dU (kr := no) (l := []) (by kernel_rfl) h hn kT trivial
def yA (kn : K6) (fO t2 jK t6 gW lP G1 mF : Value) (w : World) : Prop :=
  cO pg (fF 42 t6 1) w fun t167 w =>
  cO pg (eQ 40 t167) w fun t168 w =>
  cO pg (iF 40 t168 lP) w fun t171 w =>
  cO pg (fF 70 t171 1) w fun t172 w =>
  cO pg (fG 3 t172 mF) w fun _u w =>
  cO pg (fF 42 t6 1) (dr w) fun t173 w_ => w_ = (dr w) ∧
  cO pg (eQ 40 t173) (dr w) fun t174 w_ => w_ = (dr w) ∧
  (dr w) = (dr w) ∧
  (dr w) = (dr w) ∧
  (dr w) = (dr w) ∧
  hJ pg nC #[mF] (dr w) fun t178 Gm =>
  (gY pg (eQ 40 t173) t174 Gm ∧ gY pg (fF 42 t6 1) t173 Gm ∧ True) ∧
  cO pg (eF .mul 3 (.tmp 176) (.tmp 178) G1 t178) Gm fun t179 w_ => w_ = Gm ∧
  Gm = Gm ∧
  cO pg (eF .sub 3 (.tmp 179) (.tmp 180) t179 jK) Gm fun t181 w_ => w_ = Gm ∧
  cO pg (iF 40 t174 lP) Gm fun t182 w_ => w_ = Gm ∧
  cO pg (fF 70 t182 2) Gm fun t183 w_ => w_ = Gm ∧
  cO pg (fG 3 t183 t181) Gm fun _u11 ZH =>
  kn fO t2 jK t6 gW lP ZH
theorem Og (kn : K6) (hn : ∀ g w, kn (g 1) (g 2) (g 5) (g 6) (g 14) (g 15) w → Q .normal g w) (h : yA kn (g 1) (g 2) (g 5) (g 6) (g 14) (g 15) (g 18) (g 19) w) : eK pg cW (aA 1 (aA 3 (aA 2 (aA 2 (bI (bJ 1 (aA 1 (bI (bI (aA 1 (bJ 1 (aA 1 (aA 1 (aA 1 (aA 1 (aA 1 (aA 1 (aA 5 cR)))))))))))))))))) Q g w :=
  dU (kr := no) (l := []) (by kernel_rfl) h hn kT trivial
def yO (kn : K8) (k12 : K8) (fO t2 jK t6 gW lP G1 mF : Value) (w : World) : Prop :=
  cO pg (fF 65 fO 0) w fun t157 w =>
  cO pg (eQ 3 t157) w fun t158 w =>
  cO pg (eF .sub 3 (.tmp 158) (.tmp 159) t158 mF) w fun t160 w =>
  cO pg (eF .add 3 (.tmp 160) (.const (.int .i64 1)) t160 (.int .i64 1)) w fun t161 w =>
  hJ pg nC #[t161] w fun t162 w =>
  cO pg (eF .leq 3 (.tmp 162) (.tmp 163) t162 G1) w fun t164 w =>
  lM t164
    (cO pg (eF .sub 3 (.tmp 165) (.const (.int .i64 1)) mF (.int .i64 1)) w fun t166 w =>
    kn fO t2 jK t6 gW lP G1 t166 w)
    (k12 fO t2 jK t6 gW lP G1 mF w)
theorem Oe (kn : K8) (k12 : K8) (hn : ∀ g w, kn (g 1) (g 2) (g 5) (g 6) (g 14) (g 15) (g 18) (g 19) w → Q .normal g w) (h12 : ∀ g w, k12 (g 1) (g 2) (g 5) (g 6) (g 14) (g 15) (g 18) (g 19) w → Q (.exit 12) g w) (h : yO kn k12 (g 1) (g 2) (g 5) (g 6) (g 14) (g 15) (g 18) (g 19) w) : eK pg cW (bI (bI (bJ 1 (aA 3 (aA 2 (aA 2 (bI (bJ 1 (aA 1 (bI (bI (aA 1 (bJ 1 (aA 1 (aA 1 (aA 1 (aA 1 (aA 1 (aA 1 (aA 5 cR)))))))))))))))))))) Q g w :=
  dU (kr := no) (l := [(12, fun g w => k12 (g 1) (g 2) (g 5) (g 6) (g 14) (g 15) (g 18) (g 19) w)]) (by kernel_rfl) h hn kT ⟨h12, trivial⟩
def zR (k12 : K8) (fO t2 jK t6 gW lP G1 mF : Value) (w : World) : Prop :=
  iY (fun (X : Value → K0) (t : Value) (w : World) => yO (fun _ _ _ _ _ _ _ mF w => X mF w) k12 fO t2 jK t6 gW lP G1 t w) mF w
theorem Oc (k12 : K8) (h12 : ∀ g w, k12 (g 1) (g 2) (g 5) (g 6) (g 14) (g 15) (g 18) (g 19) w → Q (.exit 12) g w) (h : zR k12 (g 1) (g 2) (g 5) (g 6) (g 14) (g 15) (g 18) (g 19) w) : eK pg cW (bI (bJ 1 (aA 3 (aA 2 (aA 2 (bI (bJ 1 (aA 1 (bI (bI (aA 1 (bJ 1 (aA 1 (aA 1 (aA 1 (aA 1 (aA 1 (aA 1 (aA 5 cR))))))))))))))))))) Q g w := by
  refine iV (T := Value) (fun g : jT => g 19) (fun X t w => yO (fun _ _ _ _ _ _ _ mF w => X mF w) k12 (g 1) (g 2) (g 5) (g 6) (g 14) (g 15) (g 18) t w) _ (by kernel_rfl) h (fun X g1 w1 ha hL => ?_)
  rw [← dW (s := 1) ha (by kernel_rfl)] at hL
  rw [← dW (s := 2) ha (by kernel_rfl)] at hL
  rw [← dW (s := 5) ha (by kernel_rfl)] at hL
  rw [← dW (s := 6) ha (by kernel_rfl)] at hL
  rw [← dW (s := 14) ha (by kernel_rfl)] at hL
  rw [← dW (s := 15) ha (by kernel_rfl)] at hL
  rw [← dW (s := 18) ha (by kernel_rfl)] at hL
  exact (Oe (fH (fun g2 w2 => X ((fun g : jT => g 19) g2) w2) Q) g1 w1 (fun _ _ _ _ _ _ _ mF w => X mF w) k12 (fun _ _ h => h) h12 hL)
def D5 (kn : K8) (fO t2 jK t6 gW lP G1 mF : Value) (w : World) : Prop :=
  zR kn fO t2 jK t6 gW lP G1 mF w
theorem NN (kn : K8) (hn : ∀ g w, kn (g 1) (g 2) (g 5) (g 6) (g 14) (g 15) (g 18) (g 19) w → Q .normal g w) (h : D5 kn (g 1) (g 2) (g 5) (g 6) (g 14) (g 15) (g 18) (g 19) w) : eK pg cW (bJ 1 (aA 3 (aA 2 (aA 2 (bI (bJ 1 (aA 1 (bI (bI (aA 1 (bJ 1 (aA 1 (aA 1 (aA 1 (aA 1 (aA 1 (aA 1 (aA 5 cR)))))))))))))))))) Q g w :=
  iU 12 _ g w (by kernel_rfl) (Oc (vI 12 Q) g w kn hn h)
def xY (kn : K6) (fO t2 jK t6 gW lP G1 mF : Value) (w : World) : Prop :=
  D5 (fun fO t2 jK t6 gW lP G1 mF w => yA kn fO t2 jK t6 gW lP G1 mF w) fO t2 jK t6 gW lP G1 mF w
theorem Ni (kn : K6) (hn : ∀ g w, kn (g 1) (g 2) (g 5) (g 6) (g 14) (g 15) w → Q .normal g w) (h : xY kn (g 1) (g 2) (g 5) (g 6) (g 14) (g 15) (g 18) (g 19) w) : eK pg cW (aA 3 (aA 2 (aA 2 (bI (bJ 1 (aA 1 (bI (bI (aA 1 (bJ 1 (aA 1 (aA 1 (aA 1 (aA 1 (aA 1 (aA 1 (aA 5 cR))))))))))))))))) Q g w :=
  dX 1 _ g w (by kernel_rfl) (NN (fH (fun g w => eK pg cW (aA 1 (aA 3 (aA 2 (aA 2 (bI (bJ 1 (aA 1 (bI (bI (aA 1 (bJ 1 (aA 1 (aA 1 (aA 1 (aA 1 (aA 1 (aA 1 (aA 5 cR)))))))))))))))))) Q g w) Q) g w (fun fO t2 jK t6 gW lP G1 mF w => yA kn fO t2 jK t6 gW lP G1 mF w) (fun g w h => eN (K := fun g w => eK pg cW (aA 1 (aA 3 (aA 2 (aA 2 (bI (bJ 1 (aA 1 (bI (bI (aA 1 (bJ 1 (aA 1 (aA 1 (aA 1 (aA 1 (aA 1 (aA 1 (aA 5 cR)))))))))))))))))) Q g w) (Og Q g w kn hn h)) h)
def Dv (kn : K8) (fO t2 jK t6 gW lP GO U2 : Value) (w : World) : Prop :=
  cO pg (iF 106 gW GO) w fun t146 w =>
  cO pg (eQ 3 t146) w fun t147 w =>
  cO pg (eF .add 3 (.tmp 147) (.tmp 148) t147 U2) w fun t149 w =>
  cO pg (iF 106 gW GO) w fun t151 w =>
  cO pg (eQ 3 t151) w fun t152 w =>
  cO pg (eF .add 3 (.tmp 152) (.const (.int .i64 1)) t152 (.int .i64 1)) w fun t153 w =>
  cO pg (iF 106 gW GO) w fun t154 w =>
  cO pg (fG 3 t154 t153) w fun _u w =>
  cO pg (fF 65 fO 0) w fun t155 w =>
  cO pg (eQ 3 t155) w fun t156 w =>
  kn fO t2 jK t6 gW lP t149 t156 w
theorem M0 (kn : K8) (hn : ∀ g w, kn (g 1) (g 2) (g 5) (g 6) (g 14) (g 15) (g 18) (g 19) w → Q .normal g w) (h : Dv kn (g 1) (g 2) (g 5) (g 6) (g 14) (g 15) (g 16) (g 17) w) : eK pg cW (bJ 3 (aA 2 (aA 2 (bI (bJ 1 (aA 1 (bI (bI (aA 1 (bJ 1 (aA 1 (aA 1 (aA 1 (aA 1 (aA 1 (aA 1 (aA 5 cR))))))))))))))))) Q g w :=
  dU (kr := no) (l := []) (by kernel_rfl) h hn kT trivial
def rY (kn : K6) (fO t2 jK t6 gW lP GO U2 : Value) (w : World) : Prop :=
  Dv (fun fO t2 jK t6 gW lP G1 mF w => xY kn fO t2 jK t6 gW lP G1 mF w) fO t2 jK t6 gW lP GO U2 w
theorem NM (kn : K6) (hn : ∀ g w, kn (g 1) (g 2) (g 5) (g 6) (g 14) (g 15) w → Q .normal g w) (h : rY kn (g 1) (g 2) (g 5) (g 6) (g 14) (g 15) (g 16) (g 17) w) : eK pg cW (aA 2 (aA 2 (bI (bJ 1 (aA 1 (bI (bI (aA 1 (bJ 1 (aA 1 (aA 1 (aA 1 (aA 1 (aA 1 (aA 1 (aA 5 cR)))))))))))))))) Q g w :=
  dX 3 _ g w (by kernel_rfl) (M0 (fH (fun g w => eK pg cW (aA 3 (aA 2 (aA 2 (bI (bJ 1 (aA 1 (bI (bI (aA 1 (bJ 1 (aA 1 (aA 1 (aA 1 (aA 1 (aA 1 (aA 1 (aA 5 cR))))))))))))))))) Q g w) Q) g w (fun fO t2 jK t6 gW lP G1 mF w => xY kn fO t2 jK t6 gW lP G1 mF w) (fun g w h => eN (K := fun g w => eK pg cW (aA 3 (aA 2 (aA 2 (bI (bJ 1 (aA 1 (bI (bI (aA 1 (bJ 1 (aA 1 (aA 1 (aA 1 (aA 1 (aA 1 (aA 1 (aA 5 cR))))))))))))))))) Q g w) (Ni Q g w kn hn h)) h)
def BB (kn : K8) (fO t2 jK t6 gW lP GO : Value) (w : World) : Prop :=
  cO pg (fF 65 fO 1) w fun t138 w =>
  cO pg (eQ 30 t138) w fun t139 w =>
  cO pg (iF 30 t139 GO) w fun t141 w =>
  cO pg (eQ 3 t141) w fun t142 w =>
  cO pg (eF .lss 3 (.tmp 143) (.const (.int .i64 0)) t142 (.int .i64 0)) w fun t144 w =>
  lM t144
    (kn fO t2 jK t6 gW lP GO (.int .i64 1) w)
    (kn fO t2 jK t6 gW lP GO t142 w)
theorem Lv (kn : K8) (hn : ∀ g w, kn (g 1) (g 2) (g 5) (g 6) (g 14) (g 15) (g 16) (g 17) w → Q .normal g w) (h : BB kn (g 1) (g 2) (g 5) (g 6) (g 14) (g 15) (g 16) w) : eK pg cW (bJ 2 (aA 2 (bI (bJ 1 (aA 1 (bI (bI (aA 1 (bJ 1 (aA 1 (aA 1 (aA 1 (aA 1 (aA 1 (aA 1 (aA 5 cR)))))))))))))))) Q g w :=
  dU (kr := no) (l := []) (by kernel_rfl) h hn kT trivial
def uU (kn : K6) (fO t2 jK t6 gW lP GO : Value) (w : World) : Prop :=
  BB (fun fO t2 jK t6 gW lP GO U2 w => rY kn fO t2 jK t6 gW lP GO U2 w) fO t2 jK t6 gW lP GO w
theorem J8 (kn : K6) (hn : ∀ g w, kn (g 1) (g 2) (g 5) (g 6) (g 14) (g 15) w → Q .normal g w) (h : uU kn (g 1) (g 2) (g 5) (g 6) (g 14) (g 15) (g 16) w) : eK pg cW (aA 2 (bI (bJ 1 (aA 1 (bI (bI (aA 1 (bJ 1 (aA 1 (aA 1 (aA 1 (aA 1 (aA 1 (aA 1 (aA 5 cR))))))))))))))) Q g w :=
  dX 2 _ g w (by kernel_rfl) (Lv (fH (fun g w => eK pg cW (aA 2 (aA 2 (bI (bJ 1 (aA 1 (bI (bI (aA 1 (bJ 1 (aA 1 (aA 1 (aA 1 (aA 1 (aA 1 (aA 1 (aA 5 cR)))))))))))))))) Q g w) Q) g w (fun fO t2 jK t6 gW lP GO U2 w => rY kn fO t2 jK t6 gW lP GO U2 w) (fun g w h => eN (K := fun g w => eK pg cW (aA 2 (aA 2 (bI (bJ 1 (aA 1 (bI (bI (aA 1 (bJ 1 (aA 1 (aA 1 (aA 1 (aA 1 (aA 1 (aA 1 (aA 5 cR)))))))))))))))) Q g w) (NM Q g w kn hn h)) h)
def BC (kn : K7) (R : K1) (fO t2 jK t6 gW lP : Value) (w : World) : Prop :=
  cO pg (fF 42 t6 1) w fun t122 w =>
  cO pg (eQ 40 t122) w fun t123 w =>
  cO pg (iF 40 t123 lP) w fun t125 w =>
  cO pg (fF 70 t125 0) w fun t126 w =>
  cO pg (eQ 3 t126) w fun t127 w =>
  cO pg (eF .lss 3 (.tmp 128) (.const (.int .i64 0)) t127 (.int .i64 0)) w fun t129 w =>
  Gd (kA t129 false) (fun K => K t127 w) w fun t131 w =>
  Gd (kA t129 false) (fun K => cO pg (fF 65 fO 1) w K) w fun t132 w =>
  Gd (kA t129 false) (fun K => cO pg (eQ 30 t132) w K) w fun t133 w =>
  Gd (kA t129 false) (fun K => cO pg (nA .len #[30] 3 [t133]) w K) w fun t134 w =>
  Gd (kA t129 false) (fun K => cO pg (eF .geq 3 (.tmp 131) (.tmp 134) t131 t134) w K) w fun t135 w =>
  cO pg (kL t129 (.bool true) t135) w fun t136 w =>
  lM t136
    (cO pg (iH 42 []) w fun t137 w =>
    cO pg (fG 42 t2 t137) w fun _u w =>
    qB pg 42 t2 w fun r0 => R (.tuple #[r0, (.int .i64 1)]) w)
    (kn fO t2 jK t6 gW lP t127 w)
theorem KJ (kn : K7) (R : K1) (hn : ∀ g w, kn (g 1) (g 2) (g 5) (g 6) (g 14) (g 15) (g 16) w → Q .normal g w) (hr : HR jI R Q) (h : BC kn R (g 1) (g 2) (g 5) (g 6) (g 14) (g 15) w) : eK pg cW (bJ 2 (bI (bJ 1 (aA 1 (bI (bI (aA 1 (bJ 1 (aA 1 (aA 1 (aA 1 (aA 1 (aA 1 (aA 1 (aA 5 cR))))))))))))))) Q g w :=
  dU (l := []) (by kernel_rfl) h hn hr trivial
def B2 (kn : K6) (R : K1) (fO t2 jK t6 gW lP : Value) (w : World) : Prop :=
  BC (fun fO t2 jK t6 gW lP GO w => uU kn fO t2 jK t6 gW lP GO w) R fO t2 jK t6 gW lP w
theorem Kl (kn : K6) (R : K1) (hn : ∀ g w, kn (g 1) (g 2) (g 5) (g 6) (g 14) (g 15) w → Q .normal g w) (hr : HR jI R Q) (h : B2 kn R (g 1) (g 2) (g 5) (g 6) (g 14) (g 15) w) : eK pg cW (bI (bJ 1 (aA 1 (bI (bI (aA 1 (bJ 1 (aA 1 (aA 1 (aA 1 (aA 1 (aA 1 (aA 1 (aA 5 cR)))))))))))))) Q g w :=
  dX 2 _ g w (by kernel_rfl) (KJ (fH (fun g w => eK pg cW (aA 2 (bI (bJ 1 (aA 1 (bI (bI (aA 1 (bJ 1 (aA 1 (aA 1 (aA 1 (aA 1 (aA 1 (aA 1 (aA 5 cR))))))))))))))) Q g w) Q) g w (fun fO t2 jK t6 gW lP GO w => uU kn fO t2 jK t6 gW lP GO w) R (fun g w h => eN (K := fun g w => eK pg cW (aA 2 (bI (bJ 1 (aA 1 (bI (bI (aA 1 (bJ 1 (aA 1 (aA 1 (aA 1 (aA 1 (aA 1 (aA 1 (aA 5 cR))))))))))))))) Q g w) (J8 Q g w kn hn h)) hr h)
def BF (kn : K6) (R : K1) (fO t2 jK t6 gW lP : Value) (w : World) : Prop :=
  B2 kn R fO t2 jK t6 gW lP w
theorem Kh (kn : K6) (R : K1) (hn : ∀ g w, kn (g 1) (g 2) (g 5) (g 6) (g 14) (g 15) w → Q .normal g w) (hr : HR jI R Q) (h : BF kn R (g 1) (g 2) (g 5) (g 6) (g 14) (g 15) w) : eK pg cW (bJ 1 (aA 1 (bI (bI (aA 1 (bJ 1 (aA 1 (aA 1 (aA 1 (aA 1 (aA 1 (aA 1 (aA 5 cR))))))))))))) Q g w :=
  iU 11 _ g w (by kernel_rfl) (Kl (vI 11 Q) g w kn R hn hr h)
def rC (kn : K6) (R : K1) (fO t2 jK t6 gW lP : Value) (w : World) : Prop :=
  BF (fun fO t2 jK t6 gW lP w => sK kn fO t2 jK t6 gW lP w) R fO t2 jK t6 gW lP w
theorem Kb (kn : K6) (R : K1) (hn : ∀ g w, kn (g 1) (g 2) (g 5) (g 6) (g 14) (g 15) w → Q .normal g w) (hr : HR jI R Q) (h : rC kn R (g 1) (g 2) (g 5) (g 6) (g 14) (g 15) w) : eK pg cW (aA 1 (bI (bI (aA 1 (bJ 1 (aA 1 (aA 1 (aA 1 (aA 1 (aA 1 (aA 1 (aA 5 cR)))))))))))) Q g w :=
  dX 1 _ g w (by kernel_rfl) (Kh (fH (fun g w => eK pg cW (aA 1 (aA 1 (bI (bI (aA 1 (bJ 1 (aA 1 (aA 1 (aA 1 (aA 1 (aA 1 (aA 1 (aA 5 cR))))))))))))) Q g w) Q) g w (fun fO t2 jK t6 gW lP w => sK kn fO t2 jK t6 gW lP w) R (fun g w h => eN (K := fun g w => eK pg cW (aA 1 (aA 1 (bI (bI (aA 1 (bJ 1 (aA 1 (aA 1 (aA 1 (aA 1 (aA 1 (aA 1 (aA 5 cR))))))))))))) Q g w) (M8 Q g w kn hn h)) hr h)
def BY (kn : K6) (k10 : K2) (fO t2 jK t6 gW lP : Value) (w : World) : Prop :=
  cO pg (eF .lss 3 (.tmp 117) (.tmp 118) lP jK) w fun t119 w =>
  lM t119
    (kn fO t2 jK t6 gW lP w)
    (k10 t2 t6 w)
theorem Kt (kn : K6) (k10 : K2) (hn : ∀ g w, kn (g 1) (g 2) (g 5) (g 6) (g 14) (g 15) w → Q .normal g w) (h10 : ∀ g w, k10 (g 2) (g 6) w → Q (.exit 10) g w) (h : BY kn k10 (g 1) (g 2) (g 5) (g 6) (g 14) (g 15) w) : eK pg cW (bJ 1 (bI (bI (aA 1 (bJ 1 (aA 1 (aA 1 (aA 1 (aA 1 (aA 1 (aA 1 (aA 5 cR)))))))))))) Q g w :=
  dU (kr := no) (l := [(10, fun g w => k10 (g 2) (g 6) w)]) (by kernel_rfl) h hn kT ⟨h10, trivial⟩
def vJ (kn : K6) (k10 : K2) (R : K1) (fO t2 jK t6 gW lP : Value) (w : World) : Prop :=
  BY (fun fO t2 jK t6 gW lP w => rC kn R fO t2 jK t6 gW lP w) k10 fO t2 jK t6 gW lP w
theorem JT (kn : K6) (k10 : K2) (R : K1) (hn : ∀ g w, kn (g 1) (g 2) (g 5) (g 6) (g 14) (g 15) w → Q .normal g w) (h10 : ∀ g w, k10 (g 2) (g 6) w → Q (.exit 10) g w) (hr : HR jI R Q) (h : vJ kn k10 R (g 1) (g 2) (g 5) (g 6) (g 14) (g 15) w) : eK pg cW (bI (bI (aA 1 (bJ 1 (aA 1 (aA 1 (aA 1 (aA 1 (aA 1 (aA 1 (aA 5 cR))))))))))) Q g w :=
  dX 1 _ g w (by kernel_rfl) (Kt (fH (fun g w => eK pg cW (aA 1 (bI (bI (aA 1 (bJ 1 (aA 1 (aA 1 (aA 1 (aA 1 (aA 1 (aA 1 (aA 5 cR)))))))))))) Q g w) Q) g w (fun fO t2 jK t6 gW lP w => rC kn R fO t2 jK t6 gW lP w) k10 (fun g w h => eN (K := fun g w => eK pg cW (aA 1 (bI (bI (aA 1 (bJ 1 (aA 1 (aA 1 (aA 1 (aA 1 (aA 1 (aA 1 (aA 5 cR)))))))))))) Q g w) (Kb Q g w kn R hn hr h)) h10 h)
def Cr (k10 : K2) (R : K1) (fO t2 jK t6 gW lP : Value) (w : World) : Prop :=
  iY (fun (X : Value → K0) (t : Value) (w : World) => vJ (fun _ _ _ _ _ lP w => X lP w) k10 R fO t2 jK t6 gW t w) lP w
theorem Ke (k10 : K2) (R : K1) (h10 : ∀ g w, k10 (g 2) (g 6) w → Q (.exit 10) g w) (hr : HR jI R Q) (h : Cr k10 R (g 1) (g 2) (g 5) (g 6) (g 14) (g 15) w) : eK pg cW (bI (aA 1 (bJ 1 (aA 1 (aA 1 (aA 1 (aA 1 (aA 1 (aA 1 (aA 5 cR)))))))))) Q g w := by
  refine iV (T := Value) (fun g : jT => g 15) (fun X t w => vJ (fun _ _ _ _ _ lP w => X lP w) k10 R (g 1) (g 2) (g 5) (g 6) (g 14) t w) _ (by kernel_rfl) h (fun X g1 w1 ha hL => ?_)
  rw [← dW (s := 1) ha (by kernel_rfl)] at hL
  rw [← dW (s := 2) ha (by kernel_rfl)] at hL
  rw [← dW (s := 5) ha (by kernel_rfl)] at hL
  rw [← dW (s := 6) ha (by kernel_rfl)] at hL
  rw [← dW (s := 14) ha (by kernel_rfl)] at hL
  exact (JT (fH (fun g2 w2 => X ((fun g : jT => g 15) g2) w2) Q) g1 w1 (fun _ _ _ _ _ lP w => X lP w) k10 R (fun _ _ h => h) h10 hr hL)
def vV (kn : K2) (R : K1) (fO t2 jK t6 gW lP : Value) (w : World) : Prop :=
  Cr kn R fO t2 jK t6 gW lP w
theorem LM (kn : K2) (R : K1) (hn : ∀ g w, kn (g 2) (g 6) w → Q .normal g w) (hr : HR jI R Q) (h : vV kn R (g 1) (g 2) (g 5) (g 6) (g 14) (g 15) w) : eK pg cW (aA 1 (bJ 1 (aA 1 (aA 1 (aA 1 (aA 1 (aA 1 (aA 1 (aA 5 cR))))))))) Q g w :=
  iU 10 _ g w (by kernel_rfl) (Ke (vI 10 Q) g w kn R hn hr h)
def BW (kn : K6) (fO t2 jK t6 gW : Value) (w : World) : Prop :=
  kn fO t2 jK t6 gW (.int .i64 0) w
theorem Lg (kn : K6) (hn : ∀ g w, kn (g 1) (g 2) (g 5) (g 6) (g 14) (g 15) w → Q .normal g w) (h : BW kn (g 1) (g 2) (g 5) (g 6) (g 14) w) : eK pg cW (bJ 1 (bJ 1 (aA 1 (aA 1 (aA 1 (aA 1 (aA 1 (aA 1 (aA 5 cR))))))))) Q g w :=
  dU (kr := no) (l := []) (by kernel_rfl) h hn kT trivial
def Cd (kn : K2) (R : K1) (fO t2 jK t6 gW : Value) (w : World) : Prop :=
  BW (fun fO t2 jK t6 gW lP w => vV kn R fO t2 jK t6 gW lP w) fO t2 jK t6 gW w
theorem LV (kn : K2) (R : K1) (hn : ∀ g w, kn (g 2) (g 6) w → Q .normal g w) (hr : HR jI R Q) (h : Cd kn R (g 1) (g 2) (g 5) (g 6) (g 14) w) : eK pg cW (bJ 1 (aA 1 (aA 1 (aA 1 (aA 1 (aA 1 (aA 1 (aA 5 cR)))))))) Q g w :=
  dX 1 _ g w (by kernel_rfl) (Lg (fH (fun g w => eK pg cW (aA 1 (bJ 1 (aA 1 (aA 1 (aA 1 (aA 1 (aA 1 (aA 1 (aA 5 cR))))))))) Q g w) Q) g w (fun fO t2 jK t6 gW lP w => vV kn R fO t2 jK t6 gW lP w) (fun g w h => eN (K := fun g w => eK pg cW (aA 1 (bJ 1 (aA 1 (aA 1 (aA 1 (aA 1 (aA 1 (aA 1 (aA 5 cR))))))))) Q g w) (LM Q g w kn R hn hr h)) h)
def vT (R : K1) (fO t2 jK t6 gW : Value) (w : World) : Prop :=
  Cd (fun t2 t6 w => xS R t2 t6 w) R fO t2 jK t6 gW w
theorem Lx (R : K1) (hr : HR jI R Q) (h : vT R (g 1) (g 2) (g 5) (g 6) (g 14) w) : eK pg cW (aA 1 (aA 1 (aA 1 (aA 1 (aA 1 (aA 1 (aA 5 cR))))))) Q g w :=
  dX 1 _ g w (by kernel_rfl) (LV (fH (fun g w => eK pg cW (aA 1 (aA 1 (aA 1 (aA 1 (aA 1 (aA 1 (aA 1 (aA 5 cR)))))))) Q g w) Q) g w (fun t2 t6 w => xS R t2 t6 w) R (fun g w h => eN (K := fun g w => eK pg cW (aA 1 (aA 1 (aA 1 (aA 1 (aA 1 (aA 1 (aA 1 (aA 5 cR)))))))) Q g w) (NL Q g w R hr h)) hr h)
def BM (kn : K5) (fO t2 jK t6 : Value) (w : World) : Prop :=
  cO pg (jB 106) w fun gW w =>
  kn fO t2 jK t6 gW w
theorem Ly (kn : K5) (hn : ∀ g w, kn (g 1) (g 2) (g 5) (g 6) (g 14) w → Q .normal g w) (h : BM kn (g 1) (g 2) (g 5) (g 6) w) : eK pg cW (bJ 1 (aA 1 (aA 1 (aA 1 (aA 1 (aA 1 (aA 5 cR))))))) Q g w :=
  dU (kr := no) (l := []) (by kernel_rfl) h hn kT trivial
def qX (R : K1) (fO t2 jK t6 : Value) (w : World) : Prop :=
  BM (fun fO t2 jK t6 gW w => vT R fO t2 jK t6 gW w) fO t2 jK t6 w
theorem KN (R : K1) (hr : HR jI R Q) (h : qX R (g 1) (g 2) (g 5) (g 6) w) : eK pg cW (aA 1 (aA 1 (aA 1 (aA 1 (aA 1 (aA 5 cR)))))) Q g w :=
  dX 1 _ g w (by kernel_rfl) (Ly (fH (fun g w => eK pg cW (aA 1 (aA 1 (aA 1 (aA 1 (aA 1 (aA 1 (aA 5 cR))))))) Q g w) Q) g w (fun fO t2 jK t6 gW w => vT R fO t2 jK t6 gW w) (fun g w h => eN (K := fun g w => eK pg cW (aA 1 (aA 1 (aA 1 (aA 1 (aA 1 (aA 1 (aA 5 cR))))))) Q g w) (Lx Q g w R hr h)) h)
def vM (kn : K7) (fO t2 jK t6 t8 iO lG : Value) (w : World) : Prop :=
  cO pg (eF .add 3 (.tmp 70) (.const (.int .i64 1)) lG (.int .i64 1)) w fun t71 w =>
  kn fO t2 jK t6 t8 iO t71 w
theorem J7 (kn : K7) (hn : ∀ g w, kn (g 1) (g 2) (g 5) (g 6) (g 8) (g 10) (g 11) w → Q .normal g w) (h : vM kn (g 1) (g 2) (g 5) (g 6) (g 8) (g 10) (g 11) w) : eK pg cW (aA 1 (aA 1 (bI (bI (aA 1 (bJ 1 (aA 1 (aA 1 (aA 1 (aA 1 (aA 5 cR))))))))))) Q g w :=
  dU (kr := no) (l := []) (by kernel_rfl) h hn kT trivial
def vH (kn : K8) (fO t2 jK t6 t8 iO lG oN : Value) (w : World) : Prop :=
  cO pg (eF .add 3 (.tmp 79) (.const (.int .i64 1)) oN (.int .i64 1)) w fun t80 w =>
  kn fO t2 jK t6 t8 iO lG t80 w
theorem LB (kn : K8) (hn : ∀ g w, kn (g 1) (g 2) (g 5) (g 6) (g 8) (g 10) (g 11) (g 12) w → Q .normal g w) (h : vH kn (g 1) (g 2) (g 5) (g 6) (g 8) (g 10) (g 11) (g 12) w) : eK pg cW (aA 1 (aA 1 (bI (bI (aA 1 (bI (bJ 1 (aA 1 (bI (bI (aA 1 (bJ 1 (aA 1 (aA 1 (aA 1 (aA 1 (aA 5 cR))))))))))))))))) Q g w :=
  dU (kr := no) (l := []) (by kernel_rfl) h hn kT trivial
def wG (kn : K9) (k8 : K8) (fO t2 jK t6 t8 iO lG oN IS : Value) (w : World) : Prop :=
  cO pg (eF .lss 3 (.tmp 97) (.tmp 98) IS jK) w fun t99 w =>
  Gd (kA t99 true) (fun K => K iO w) w fun t101 w =>
  Gd (kA t99 true) (fun K => K t8 w) w fun t102 w =>
  Gd (kA t99 true) (fun K => cO pg (eF .gtr 3 (.tmp 101) (.tmp 102) t101 t102) w K) w fun t103 w =>
  cO pg (kL t99 t103 (.bool false)) w fun t104 w =>
  lM t104
    (cO pg (eF .quo 3 (.tmp 108) (.const (.int .i64 2)) jK (.int .i64 2)) w fun t109 w =>
    cO pg (eF .add 3 (.tmp 107) (.tmp 109) iO t109) w fun t110 w =>
    cO pg (eF .quo 3 (.tmp 111) (.const (.int .i64 8)) jK (.int .i64 8)) w fun t112 w =>
    cO pg (eF .add 3 (.tmp 110) (.tmp 112) t110 t112) w fun t113 w =>
    cO pg (eF .add 3 (.tmp 113) (.const (.int .i64 3)) t113 (.int .i64 3)) w fun t114 w =>
    cO pg (eF .rem 3 (.tmp 114) (.tmp 115) t114 jK) w fun t116 w =>
    cO pg (eF .add 3 (.tmp 105) (.const (.int .i64 1)) IS (.int .i64 1)) w fun t106 w =>
    kn fO t2 jK t6 t8 t116 lG oN t106 w)
    (k8 fO t2 jK t6 t8 iO lG oN w)
theorem KA (kn : K9) (k8 : K8) (hn : ∀ g w, kn (g 1) (g 2) (g 5) (g 6) (g 8) (g 10) (g 11) (g 12) (g 13) w → Q .normal g w) (h8 : ∀ g w, k8 (g 1) (g 2) (g 5) (g 6) (g 8) (g 10) (g 11) (g 12) w → Q (.exit 8) g w) (h : wG kn k8 (g 1) (g 2) (g 5) (g 6) (g 8) (g 10) (g 11) (g 12) (g 13) w) : eK pg cW (bI (bI (aA 3 (bI (bJ 1 (aA 1 (bI (bI (aA 1 (bI (bJ 1 (aA 1 (bI (bI (aA 1 (bJ 1 (aA 1 (aA 1 (aA 1 (aA 1 (aA 5 cR))))))))))))))))))))) Q g w :=
  dU (kr := no) (l := [(8, fun g w => k8 (g 1) (g 2) (g 5) (g 6) (g 8) (g 10) (g 11) (g 12) w)]) (by kernel_rfl) h hn kT ⟨h8, trivial⟩
def uR (k8 : K8) (fO t2 jK t6 t8 iO lG oN IS : Value) (w : World) : Prop :=
  iY (fun (X : (Value × Value) → K0) (t : Value × Value) (w : World) => wG (fun _ _ _ _ _ iO _ _ IS w => X (iO, IS) w) k8 fO t2 jK t6 t8 t.1 lG oN t.2 w) (iO, IS) w
theorem JV (k8 : K8) (h8 : ∀ g w, k8 (g 1) (g 2) (g 5) (g 6) (g 8) (g 10) (g 11) (g 12) w → Q (.exit 8) g w) (h : uR k8 (g 1) (g 2) (g 5) (g 6) (g 8) (g 10) (g 11) (g 12) (g 13) w) : eK pg cW (bI (aA 3 (bI (bJ 1 (aA 1 (bI (bI (aA 1 (bI (bJ 1 (aA 1 (bI (bI (aA 1 (bJ 1 (aA 1 (aA 1 (aA 1 (aA 1 (aA 5 cR)))))))))))))))))))) Q g w := by
  refine iV (T := Value × Value) (fun g : jT => (g 10, g 13)) (fun X t w => wG (fun _ _ _ _ _ iO _ _ IS w => X (iO, IS) w) k8 (g 1) (g 2) (g 5) (g 6) (g 8) t.1 (g 11) (g 12) t.2 w) _ (by kernel_rfl) h (fun X g1 w1 ha hL => ?_)
  rw [← dW (s := 1) ha (by kernel_rfl)] at hL
  rw [← dW (s := 2) ha (by kernel_rfl)] at hL
  rw [← dW (s := 5) ha (by kernel_rfl)] at hL
  rw [← dW (s := 6) ha (by kernel_rfl)] at hL
  rw [← dW (s := 8) ha (by kernel_rfl)] at hL
  rw [← dW (s := 11) ha (by kernel_rfl)] at hL
  rw [← dW (s := 12) ha (by kernel_rfl)] at hL
  exact (KA (fH (fun g2 w2 => X ((fun g : jT => (g 10, g 13)) g2) w2) Q) g1 w1 (fun _ _ _ _ _ iO _ _ IS w => X (iO, IS) w) k8 (fun _ _ h => h) h8 hL)
def uO (kn : K8) (fO t2 jK t6 t8 iO lG oN IS : Value) (w : World) : Prop :=
  uR kn fO t2 jK t6 t8 iO lG oN IS w
theorem Kz (kn : K8) (hn : ∀ g w, kn (g 1) (g 2) (g 5) (g 6) (g 8) (g 10) (g 11) (g 12) w → Q .normal g w) (h : uO kn (g 1) (g 2) (g 5) (g 6) (g 8) (g 10) (g 11) (g 12) (g 13) w) : eK pg cW (aA 3 (bI (bJ 1 (aA 1 (bI (bI (aA 1 (bI (bJ 1 (aA 1 (bI (bI (aA 1 (bJ 1 (aA 1 (aA 1 (aA 1 (aA 1 (aA 5 cR))))))))))))))))))) Q g w :=
  iU 8 _ g w (by kernel_rfl) (JV (vI 8 Q) g w kn hn h)
def BE (kn : K9) (fO t2 jK t6 t8 iO lG oN : Value) (w : World) : Prop :=
  cO pg (fF 42 t6 1) w fun t81 w =>
  cO pg (eQ 40 t81) w fun t82 w =>
  cO pg (iF 40 t82 iO) w fun t85 w =>
  cO pg (fF 70 t85 0) w fun t86 w =>
  cO pg (fG 3 t86 lG) w fun _u w =>
  cO pg (eF .quo 3 (.tmp 88) (.const (.int .i64 2)) jK (.int .i64 2)) w fun t89 w =>
  cO pg (eF .add 3 (.tmp 87) (.tmp 89) iO t89) w fun t90 w =>
  cO pg (eF .quo 3 (.tmp 91) (.const (.int .i64 8)) jK (.int .i64 8)) w fun t92 w =>
  cO pg (eF .add 3 (.tmp 90) (.tmp 92) t90 t92) w fun t93 w =>
  cO pg (eF .add 3 (.tmp 93) (.const (.int .i64 3)) t93 (.int .i64 3)) w fun t94 w =>
  cO pg (eF .rem 3 (.tmp 94) (.tmp 95) t94 jK) w fun t96 w =>
  kn fO t2 jK t6 t8 t96 lG oN (.int .i64 0) w
theorem Kn (kn : K9) (hn : ∀ g w, kn (g 1) (g 2) (g 5) (g 6) (g 8) (g 10) (g 11) (g 12) (g 13) w → Q .normal g w) (h : BE kn (g 1) (g 2) (g 5) (g 6) (g 8) (g 10) (g 11) (g 12) w) : eK pg cW (bJ 3 (bI (bJ 1 (aA 1 (bI (bI (aA 1 (bI (bJ 1 (aA 1 (bI (bI (aA 1 (bJ 1 (aA 1 (aA 1 (aA 1 (aA 1 (aA 5 cR))))))))))))))))))) Q g w :=
  dU (kr := no) (l := []) (by kernel_rfl) h hn kT trivial
def BP (kn : K8) (fO t2 jK t6 t8 iO lG oN : Value) (w : World) : Prop :=
  BE (fun fO t2 jK t6 t8 iO lG oN IS w => uO kn fO t2 jK t6 t8 iO lG oN IS w) fO t2 jK t6 t8 iO lG oN w
theorem KS (kn : K8) (hn : ∀ g w, kn (g 1) (g 2) (g 5) (g 6) (g 8) (g 10) (g 11) (g 12) w → Q .normal g w) (h : BP kn (g 1) (g 2) (g 5) (g 6) (g 8) (g 10) (g 11) (g 12) w) : eK pg cW (bI (bJ 1 (aA 1 (bI (bI (aA 1 (bI (bJ 1 (aA 1 (bI (bI (aA 1 (bJ 1 (aA 1 (aA 1 (aA 1 (aA 1 (aA 5 cR)))))))))))))))))) Q g w :=
  dX 3 _ g w (by kernel_rfl) (Kn (fH (fun g w => eK pg cW (aA 3 (bI (bJ 1 (aA 1 (bI (bI (aA 1 (bI (bJ 1 (aA 1 (bI (bI (aA 1 (bJ 1 (aA 1 (aA 1 (aA 1 (aA 1 (aA 5 cR))))))))))))))))))) Q g w) Q) g w (fun fO t2 jK t6 t8 iO lG oN IS w => uO kn fO t2 jK t6 t8 iO lG oN IS w) (fun g w h => eN (K := fun g w => eK pg cW (aA 3 (bI (bJ 1 (aA 1 (bI (bI (aA 1 (bI (bJ 1 (aA 1 (bI (bI (aA 1 (bJ 1 (aA 1 (aA 1 (aA 1 (aA 1 (aA 5 cR))))))))))))))))))) Q g w) (Kz Q g w kn hn h)) h)
def BL (kn : K8) (fO t2 jK t6 t8 iO lG oN : Value) (w : World) : Prop :=
  BP kn fO t2 jK t6 t8 iO lG oN w
theorem KU (kn : K8) (hn : ∀ g w, kn (g 1) (g 2) (g 5) (g 6) (g 8) (g 10) (g 11) (g 12) w → Q .normal g w) (h : BL kn (g 1) (g 2) (g 5) (g 6) (g 8) (g 10) (g 11) (g 12) w) : eK pg cW (bJ 1 (aA 1 (bI (bI (aA 1 (bI (bJ 1 (aA 1 (bI (bI (aA 1 (bJ 1 (aA 1 (aA 1 (aA 1 (aA 1 (aA 5 cR))))))))))))))))) Q g w :=
  iU 7 _ g w (by kernel_rfl) (KS (vI 7 Q) g w kn hn h)
def vD (kn : K8) (fO t2 jK t6 t8 iO lG oN : Value) (w : World) : Prop :=
  BL (fun fO t2 jK t6 t8 iO lG oN w => vH kn fO t2 jK t6 t8 iO lG oN w) fO t2 jK t6 t8 iO lG oN w
theorem J0 (kn : K8) (hn : ∀ g w, kn (g 1) (g 2) (g 5) (g 6) (g 8) (g 10) (g 11) (g 12) w → Q .normal g w) (h : vD kn (g 1) (g 2) (g 5) (g 6) (g 8) (g 10) (g 11) (g 12) w) : eK pg cW (aA 1 (bI (bI (aA 1 (bI (bJ 1 (aA 1 (bI (bI (aA 1 (bJ 1 (aA 1 (aA 1 (aA 1 (aA 1 (aA 5 cR)))))))))))))))) Q g w :=
  dX 1 _ g w (by kernel_rfl) (KU (fH (fun g w => eK pg cW (aA 1 (aA 1 (bI (bI (aA 1 (bI (bJ 1 (aA 1 (bI (bI (aA 1 (bJ 1 (aA 1 (aA 1 (aA 1 (aA 1 (aA 5 cR))))))))))))))))) Q g w) Q) g w (fun fO t2 jK t6 t8 iO lG oN w => vH kn fO t2 jK t6 t8 iO lG oN w) (fun g w h => eN (K := fun g w => eK pg cW (aA 1 (aA 1 (bI (bI (aA 1 (bI (bJ 1 (aA 1 (bI (bI (aA 1 (bJ 1 (aA 1 (aA 1 (aA 1 (aA 1 (aA 5 cR))))))))))))))))) Q g w) (LB Q g w kn hn h)) h)
def Cn (kn : K8) (k6 : K7) (fO t2 jK t6 t8 iO lG oN : Value) (w : World) : Prop :=
  cO pg (fF 65 fO 1) w fun t73 w =>
  cO pg (eQ 30 t73) w fun t74 w =>
  cO pg (iF 30 t74 lG) w fun t76 w =>
  cO pg (eQ 3 t76) w fun t77 w =>
  cO pg (eF .lss 3 (.tmp 72) (.tmp 77) oN t77) w fun t78 w =>
  lM t78
    (kn fO t2 jK t6 t8 iO lG oN w)
    (k6 fO t2 jK t6 t8 iO lG w)
theorem Lf (kn : K8) (k6 : K7) (hn : ∀ g w, kn (g 1) (g 2) (g 5) (g 6) (g 8) (g 10) (g 11) (g 12) w → Q .normal g w) (h6 : ∀ g w, k6 (g 1) (g 2) (g 5) (g 6) (g 8) (g 10) (g 11) w → Q (.exit 6) g w) (h : Cn kn k6 (g 1) (g 2) (g 5) (g 6) (g 8) (g 10) (g 11) (g 12) w) : eK pg cW (bJ 1 (bI (bI (aA 1 (bI (bJ 1 (aA 1 (bI (bI (aA 1 (bJ 1 (aA 1 (aA 1 (aA 1 (aA 1 (aA 5 cR)))))))))))))))) Q g w :=
  dU (kr := no) (l := [(6, fun g w => k6 (g 1) (g 2) (g 5) (g 6) (g 8) (g 10) (g 11) w)]) (by kernel_rfl) h hn kT ⟨h6, trivial⟩
def vF (kn : K8) (k6 : K7) (fO t2 jK t6 t8 iO lG oN : Value) (w : World) : Prop :=
  Cn (fun fO t2 jK t6 t8 iO lG oN w => vD kn fO t2 jK t6 t8 iO lG oN w) k6 fO t2 jK t6 t8 iO lG oN w
theorem J3 (kn : K8) (k6 : K7) (hn : ∀ g w, kn (g 1) (g 2) (g 5) (g 6) (g 8) (g 10) (g 11) (g 12) w → Q .normal g w) (h6 : ∀ g w, k6 (g 1) (g 2) (g 5) (g 6) (g 8) (g 10) (g 11) w → Q (.exit 6) g w) (h : vF kn k6 (g 1) (g 2) (g 5) (g 6) (g 8) (g 10) (g 11) (g 12) w) : eK pg cW (bI (bI (aA 1 (bI (bJ 1 (aA 1 (bI (bI (aA 1 (bJ 1 (aA 1 (aA 1 (aA 1 (aA 1 (aA 5 cR))))))))))))))) Q g w :=
  dX 1 _ g w (by kernel_rfl) (Lf (fH (fun g w => eK pg cW (aA 1 (bI (bI (aA 1 (bI (bJ 1 (aA 1 (bI (bI (aA 1 (bJ 1 (aA 1 (aA 1 (aA 1 (aA 1 (aA 5 cR)))))))))))))))) Q g w) Q) g w (fun fO t2 jK t6 t8 iO lG oN w => vD kn fO t2 jK t6 t8 iO lG oN w) k6 (fun g w h => eN (K := fun g w => eK pg cW (aA 1 (bI (bI (aA 1 (bI (bJ 1 (aA 1 (bI (bI (aA 1 (bJ 1 (aA 1 (aA 1 (aA 1 (aA 1 (aA 5 cR)))))))))))))))) Q g w) (J0 Q g w kn hn h)) h6 h)
def BG (k6 : K7) (fO t2 jK t6 t8 iO lG oN : Value) (w : World) : Prop :=
  iY (fun (X : (Value × Value) → K0) (t : Value × Value) (w : World) => vF (fun _ _ _ _ _ iO _ oN w => X (iO, oN) w) k6 fO t2 jK t6 t8 t.1 lG t.2 w) (iO, oN) w
theorem Lr (k6 : K7) (h6 : ∀ g w, k6 (g 1) (g 2) (g 5) (g 6) (g 8) (g 10) (g 11) w → Q (.exit 6) g w) (h : BG k6 (g 1) (g 2) (g 5) (g 6) (g 8) (g 10) (g 11) (g 12) w) : eK pg cW (bI (aA 1 (bI (bJ 1 (aA 1 (bI (bI (aA 1 (bJ 1 (aA 1 (aA 1 (aA 1 (aA 1 (aA 5 cR)))))))))))))) Q g w := by
  refine iV (T := Value × Value) (fun g : jT => (g 10, g 12)) (fun X t w => vF (fun _ _ _ _ _ iO _ oN w => X (iO, oN) w) k6 (g 1) (g 2) (g 5) (g 6) (g 8) t.1 (g 11) t.2 w) _ (by kernel_rfl) h (fun X g1 w1 ha hL => ?_)
  rw [← dW (s := 1) ha (by kernel_rfl)] at hL
  rw [← dW (s := 2) ha (by kernel_rfl)] at hL
  rw [← dW (s := 5) ha (by kernel_rfl)] at hL
  rw [← dW (s := 6) ha (by kernel_rfl)] at hL
  rw [← dW (s := 8) ha (by kernel_rfl)] at hL
  rw [← dW (s := 11) ha (by kernel_rfl)] at hL
  exact (J3 (fH (fun g2 w2 => X ((fun g : jT => (g 10, g 12)) g2) w2) Q) g1 w1 (fun _ _ _ _ _ iO _ oN w => X (iO, oN) w) k6 (fun _ _ h => h) h6 hL)
def wF (kn : K7) (fO t2 jK t6 t8 iO lG oN : Value) (w : World) : Prop :=
  BG kn fO t2 jK t6 t8 iO lG oN w
theorem KD (kn : K7) (hn : ∀ g w, kn (g 1) (g 2) (g 5) (g 6) (g 8) (g 10) (g 11) w → Q .normal g w) (h : wF kn (g 1) (g 2) (g 5) (g 6) (g 8) (g 10) (g 11) (g 12) w) : eK pg cW (aA 1 (bI (bJ 1 (aA 1 (bI (bI (aA 1 (bJ 1 (aA 1 (aA 1 (aA 1 (aA 1 (aA 5 cR))))))))))))) Q g w :=
  iU 6 _ g w (by kernel_rfl) (Lr (vI 6 Q) g w kn hn h)
def B3 (kn : K8) (fO t2 jK t6 t8 iO lG : Value) (w : World) : Prop :=
  kn fO t2 jK t6 t8 iO lG (.int .i64 0) w
theorem Ll (kn : K8) (hn : ∀ g w, kn (g 1) (g 2) (g 5) (g 6) (g 8) (g 10) (g 11) (g 12) w → Q .normal g w) (h : B3 kn (g 1) (g 2) (g 5) (g 6) (g 8) (g 10) (g 11) w) : eK pg cW (bJ 1 (bI (bJ 1 (aA 1 (bI (bI (aA 1 (bJ 1 (aA 1 (aA 1 (aA 1 (aA 1 (aA 5 cR))))))))))))) Q g w :=
  dU (kr := no) (l := []) (by kernel_rfl) h hn kT trivial
def BD (kn : K7) (fO t2 jK t6 t8 iO lG : Value) (w : World) : Prop :=
  B3 (fun fO t2 jK t6 t8 iO lG oN w => wF kn fO t2 jK t6 t8 iO lG oN w) fO t2 jK t6 t8 iO lG w
theorem Lm (kn : K7) (hn : ∀ g w, kn (g 1) (g 2) (g 5) (g 6) (g 8) (g 10) (g 11) w → Q .normal g w) (h : BD kn (g 1) (g 2) (g 5) (g 6) (g 8) (g 10) (g 11) w) : eK pg cW (bI (bJ 1 (aA 1 (bI (bI (aA 1 (bJ 1 (aA 1 (aA 1 (aA 1 (aA 1 (aA 5 cR)))))))))))) Q g w :=
  dX 1 _ g w (by kernel_rfl) (Ll (fH (fun g w => eK pg cW (aA 1 (bI (bJ 1 (aA 1 (bI (bI (aA 1 (bJ 1 (aA 1 (aA 1 (aA 1 (aA 1 (aA 5 cR))))))))))))) Q g w) Q) g w (fun fO t2 jK t6 t8 iO lG oN w => wF kn fO t2 jK t6 t8 iO lG oN w) (fun g w h => eN (K := fun g w => eK pg cW (aA 1 (bI (bJ 1 (aA 1 (bI (bI (aA 1 (bJ 1 (aA 1 (aA 1 (aA 1 (aA 1 (aA 5 cR))))))))))))) Q g w) (KD Q g w kn hn h)) h)
def Bz (kn : K7) (fO t2 jK t6 t8 iO lG : Value) (w : World) : Prop :=
  BD kn fO t2 jK t6 t8 iO lG w
theorem Kg (kn : K7) (hn : ∀ g w, kn (g 1) (g 2) (g 5) (g 6) (g 8) (g 10) (g 11) w → Q .normal g w) (h : Bz kn (g 1) (g 2) (g 5) (g 6) (g 8) (g 10) (g 11) w) : eK pg cW (bJ 1 (aA 1 (bI (bI (aA 1 (bJ 1 (aA 1 (aA 1 (aA 1 (aA 1 (aA 5 cR))))))))))) Q g w :=
  iU 5 _ g w (by kernel_rfl) (Lm (vI 5 Q) g w kn hn h)
def uV (kn : K7) (fO t2 jK t6 t8 iO lG : Value) (w : World) : Prop :=
  Bz (fun fO t2 jK t6 t8 iO lG w => vM kn fO t2 jK t6 t8 iO lG w) fO t2 jK t6 t8 iO lG w
theorem Kp (kn : K7) (hn : ∀ g w, kn (g 1) (g 2) (g 5) (g 6) (g 8) (g 10) (g 11) w → Q .normal g w) (h : uV kn (g 1) (g 2) (g 5) (g 6) (g 8) (g 10) (g 11) w) : eK pg cW (aA 1 (bI (bI (aA 1 (bJ 1 (aA 1 (aA 1 (aA 1 (aA 1 (aA 5 cR)))))))))) Q g w :=
  dX 1 _ g w (by kernel_rfl) (Kg (fH (fun g w => eK pg cW (aA 1 (aA 1 (bI (bI (aA 1 (bJ 1 (aA 1 (aA 1 (aA 1 (aA 1 (aA 5 cR))))))))))) Q g w) Q) g w (fun fO t2 jK t6 t8 iO lG w => vM kn fO t2 jK t6 t8 iO lG w) (fun g w h => eN (K := fun g w => eK pg cW (aA 1 (aA 1 (bI (bI (aA 1 (bJ 1 (aA 1 (aA 1 (aA 1 (aA 1 (aA 5 cR))))))))))) Q g w) (J7 Q g w kn hn h)) h)
def B6 (kn : K7) (k4 : K4) (fO t2 jK t6 t8 iO lG : Value) (w : World) : Prop :=
  cO pg (fF 65 fO 1) w fun t66 w =>
  cO pg (eQ 30 t66) w fun t67 w =>
  cO pg (nA .len #[30] 3 [t67]) w fun t68 w =>
  cO pg (eF .lss 3 (.tmp 65) (.tmp 68) lG t68) w fun t69 w =>
  lM t69
    (kn fO t2 jK t6 t8 iO lG w)
    (k4 fO t2 jK t6 w)
theorem LE (kn : K7) (k4 : K4) (hn : ∀ g w, kn (g 1) (g 2) (g 5) (g 6) (g 8) (g 10) (g 11) w → Q .normal g w) (h4 : ∀ g w, k4 (g 1) (g 2) (g 5) (g 6) w → Q (.exit 4) g w) (h : B6 kn k4 (g 1) (g 2) (g 5) (g 6) (g 8) (g 10) (g 11) w) : eK pg cW (bJ 1 (bI (bI (aA 1 (bJ 1 (aA 1 (aA 1 (aA 1 (aA 1 (aA 5 cR)))))))))) Q g w :=
  dU (kr := no) (l := [(4, fun g w => k4 (g 1) (g 2) (g 5) (g 6) w)]) (by kernel_rfl) h hn kT ⟨h4, trivial⟩
def uW (kn : K7) (k4 : K4) (fO t2 jK t6 t8 iO lG : Value) (w : World) : Prop :=
  B6 (fun fO t2 jK t6 t8 iO lG w => uV kn fO t2 jK t6 t8 iO lG w) k4 fO t2 jK t6 t8 iO lG w
theorem Kw (kn : K7) (k4 : K4) (hn : ∀ g w, kn (g 1) (g 2) (g 5) (g 6) (g 8) (g 10) (g 11) w → Q .normal g w) (h4 : ∀ g w, k4 (g 1) (g 2) (g 5) (g 6) w → Q (.exit 4) g w) (h : uW kn k4 (g 1) (g 2) (g 5) (g 6) (g 8) (g 10) (g 11) w) : eK pg cW (bI (bI (aA 1 (bJ 1 (aA 1 (aA 1 (aA 1 (aA 1 (aA 5 cR))))))))) Q g w :=
  dX 1 _ g w (by kernel_rfl) (LE (fH (fun g w => eK pg cW (aA 1 (bI (bI (aA 1 (bJ 1 (aA 1 (aA 1 (aA 1 (aA 1 (aA 5 cR)))))))))) Q g w) Q) g w (fun fO t2 jK t6 t8 iO lG w => uV kn fO t2 jK t6 t8 iO lG w) k4 (fun g w h => eN (K := fun g w => eK pg cW (aA 1 (bI (bI (aA 1 (bJ 1 (aA 1 (aA 1 (aA 1 (aA 1 (aA 5 cR)))))))))) Q g w) (Kp Q g w kn hn h)) h4 h)
def vZ (k4 : K4) (fO t2 jK t6 t8 iO lG : Value) (w : World) : Prop :=
  iY (fun (X : (Value × Value) → K0) (t : Value × Value) (w : World) => uW (fun _ _ _ _ _ iO lG w => X (iO, lG) w) k4 fO t2 jK t6 t8 t.1 t.2 w) (iO, lG) w
theorem Ki (k4 : K4) (h4 : ∀ g w, k4 (g 1) (g 2) (g 5) (g 6) w → Q (.exit 4) g w) (h : vZ k4 (g 1) (g 2) (g 5) (g 6) (g 8) (g 10) (g 11) w) : eK pg cW (bI (aA 1 (bJ 1 (aA 1 (aA 1 (aA 1 (aA 1 (aA 5 cR)))))))) Q g w := by
  refine iV (T := Value × Value) (fun g : jT => (g 10, g 11)) (fun X t w => uW (fun _ _ _ _ _ iO lG w => X (iO, lG) w) k4 (g 1) (g 2) (g 5) (g 6) (g 8) t.1 t.2 w) _ (by kernel_rfl) h (fun X g1 w1 ha hL => ?_)
  rw [← dW (s := 1) ha (by kernel_rfl)] at hL
  rw [← dW (s := 2) ha (by kernel_rfl)] at hL
  rw [← dW (s := 5) ha (by kernel_rfl)] at hL
  rw [← dW (s := 6) ha (by kernel_rfl)] at hL
  rw [← dW (s := 8) ha (by kernel_rfl)] at hL
  exact (Kw (fH (fun g2 w2 => X ((fun g : jT => (g 10, g 11)) g2) w2) Q) g1 w1 (fun _ _ _ _ _ iO lG w => X (iO, lG) w) k4 (fun _ _ h => h) h4 hL)
def uP (kn : K4) (fO t2 jK t6 t8 iO lG : Value) (w : World) : Prop :=
  vZ kn fO t2 jK t6 t8 iO lG w
theorem LC (kn : K4) (hn : ∀ g w, kn (g 1) (g 2) (g 5) (g 6) w → Q .normal g w) (h : uP kn (g 1) (g 2) (g 5) (g 6) (g 8) (g 10) (g 11) w) : eK pg cW (aA 1 (bJ 1 (aA 1 (aA 1 (aA 1 (aA 1 (aA 5 cR))))))) Q g w :=
  iU 4 _ g w (by kernel_rfl) (Ki (vI 4 Q) g w kn hn h)
def BO (kn : K7) (fO t2 jK t6 t8 iO : Value) (w : World) : Prop :=
  kn fO t2 jK t6 t8 iO (.int .i64 0) w
theorem KX (kn : K7) (hn : ∀ g w, kn (g 1) (g 2) (g 5) (g 6) (g 8) (g 10) (g 11) w → Q .normal g w) (h : BO kn (g 1) (g 2) (g 5) (g 6) (g 8) (g 10) w) : eK pg cW (bJ 1 (bJ 1 (aA 1 (aA 1 (aA 1 (aA 1 (aA 5 cR))))))) Q g w :=
  dU (kr := no) (l := []) (by kernel_rfl) h hn kT trivial
def B1 (kn : K4) (fO t2 jK t6 t8 iO : Value) (w : World) : Prop :=
  BO (fun fO t2 jK t6 t8 iO lG w => uP kn fO t2 jK t6 t8 iO lG w) fO t2 jK t6 t8 iO w
theorem Kc (kn : K4) (hn : ∀ g w, kn (g 1) (g 2) (g 5) (g 6) w → Q .normal g w) (h : B1 kn (g 1) (g 2) (g 5) (g 6) (g 8) (g 10) w) : eK pg cW (bJ 1 (aA 1 (aA 1 (aA 1 (aA 1 (aA 5 cR)))))) Q g w :=
  dX 1 _ g w (by kernel_rfl) (KX (fH (fun g w => eK pg cW (aA 1 (bJ 1 (aA 1 (aA 1 (aA 1 (aA 1 (aA 5 cR))))))) Q g w) Q) g w (fun fO t2 jK t6 t8 iO lG w => uP kn fO t2 jK t6 t8 iO lG w) (fun g w h => eN (K := fun g w => eK pg cW (aA 1 (bJ 1 (aA 1 (aA 1 (aA 1 (aA 1 (aA 5 cR))))))) Q g w) (LC Q g w kn hn h)) h)
def vA (R : K1) (fO t2 jK t6 t8 iO : Value) (w : World) : Prop :=
  B1 (fun fO t2 jK t6 w => qX R fO t2 jK t6 w) fO t2 jK t6 t8 iO w
theorem Kr (R : K1) (hr : HR jI R Q) (h : vA R (g 1) (g 2) (g 5) (g 6) (g 8) (g 10) w) : eK pg cW (aA 1 (aA 1 (aA 1 (aA 1 (aA 5 cR))))) Q g w :=
  dX 1 _ g w (by kernel_rfl) (Kc (fH (fun g w => eK pg cW (aA 1 (aA 1 (aA 1 (aA 1 (aA 1 (aA 5 cR)))))) Q g w) Q) g w (fun fO t2 jK t6 w => qX R fO t2 jK t6 w) (fun g w h => eN (K := fun g w => eK pg cW (aA 1 (aA 1 (aA 1 (aA 1 (aA 1 (aA 5 cR)))))) Q g w) (KN Q g w R hr h)) h)
def Cp (kn : K6) (fO t2 jK t6 t8 : Value) (w : World) : Prop :=
  kn fO t2 jK t6 t8 (.int .i64 0) w
theorem JU (kn : K6) (hn : ∀ g w, kn (g 1) (g 2) (g 5) (g 6) (g 8) (g 10) w → Q .normal g w) (h : Cp kn (g 1) (g 2) (g 5) (g 6) (g 8) w) : eK pg cW (bJ 1 (aA 1 (aA 1 (aA 1 (aA 5 cR))))) Q g w :=
  dU (kr := no) (l := []) (by kernel_rfl) h hn kT trivial
def vE (R : K1) (fO t2 jK t6 t8 : Value) (w : World) : Prop :=
  Cp (fun fO t2 jK t6 t8 iO w => vA R fO t2 jK t6 t8 iO w) fO t2 jK t6 t8 w
theorem LF (R : K1) (hr : HR jI R Q) (h : vE R (g 1) (g 2) (g 5) (g 6) (g 8) w) : eK pg cW (aA 1 (aA 1 (aA 1 (aA 5 cR)))) Q g w :=
  dX 1 _ g w (by kernel_rfl) (JU (fH (fun g w => eK pg cW (aA 1 (aA 1 (aA 1 (aA 1 (aA 5 cR))))) Q g w) Q) g w (fun fO t2 jK t6 t8 iO w => vA R fO t2 jK t6 t8 iO w) (fun g w h => eN (K := fun g w => eK pg cW (aA 1 (aA 1 (aA 1 (aA 1 (aA 5 cR))))) Q g w) (Kr Q g w R hr h)) h)
def rG (kn : K6) (fO t2 jK t6 t8 qN : Value) (w : World) : Prop :=
  cO pg (eF .add 3 (.tmp 49) (.const (.int .i64 1)) qN (.int .i64 1)) w fun t50 w =>
  kn fO t2 jK t6 t8 t50 w
theorem J2 (kn : K6) (hn : ∀ g w, kn (g 1) (g 2) (g 5) (g 6) (g 8) (g 9) w → Q .normal g w) (h : rG kn (g 1) (g 2) (g 5) (g 6) (g 8) (g 9) w) : eK pg cW (aA 2 (bI (bI (aA 1 (bJ 1 (aA 1 (aA 1 (aA 5 cR)))))))) Q g w :=
  dU (kr := no) (l := []) (by kernel_rfl) h hn kT trivial
def By (kn : K6) (k2 : K5) (fO t2 jK t6 t8 qN : Value) (w : World) : Prop :=
  cO pg (fF 65 fO 1) w fun t45 w =>
  cO pg (eQ 30 t45) w fun t46 w =>
  cO pg (nA .len #[30] 3 [t46]) w fun t47 w =>
  cO pg (eF .lss 3 (.tmp 44) (.tmp 47) qN t47) w fun t48 w =>
  lM t48
    (cO pg (fF 65 fO 1) w fun t51 w =>
    cO pg (eQ 30 t51) w fun t52 w =>
    cO pg (iF 30 t52 qN) w fun t54 w =>
    cO pg (eQ 3 t54) w fun t55 w =>
    cO pg (eF .lss 3 (.tmp 55) (.const (.int .i64 0)) t55 (.int .i64 0)) w fun t56 w =>
    lM t56
      (cO pg (fF 42 t6 1) w fun t57 w =>
      cO pg (eQ 40 t57) w fun t58 w =>
      cO pg (iF 40 t58 t8) w fun t61 w =>
      cO pg (fF 70 t61 0) w fun t62 w =>
      cO pg (fG 3 t62 qN) w fun _u w =>
      cO pg (eF .sub 3 (.tmp 63) (.const (.int .i64 1)) t8 (.int .i64 1)) w fun t64 w =>
      kn fO t2 jK t6 t64 qN w)
      (kn fO t2 jK t6 t8 qN w))
    (k2 fO t2 jK t6 t8 w)
theorem J5 (kn : K6) (k2 : K5) (hn : ∀ g w, kn (g 1) (g 2) (g 5) (g 6) (g 8) (g 9) w → Q .normal g w) (h2 : ∀ g w, k2 (g 1) (g 2) (g 5) (g 6) (g 8) w → Q (.exit 2) g w) (h : By kn k2 (g 1) (g 2) (g 5) (g 6) (g 8) (g 9) w) : eK pg cW (bJ 2 (bI (bI (aA 1 (bJ 1 (aA 1 (aA 1 (aA 5 cR)))))))) Q g w :=
  dU (kr := no) (l := [(2, fun g w => k2 (g 1) (g 2) (g 5) (g 6) (g 8) w)]) (by kernel_rfl) h hn kT ⟨h2, trivial⟩
def wA (kn : K6) (k2 : K5) (fO t2 jK t6 t8 qN : Value) (w : World) : Prop :=
  By (fun fO t2 jK t6 t8 qN w => rG kn fO t2 jK t6 t8 qN w) k2 fO t2 jK t6 t8 qN w
theorem Lk (kn : K6) (k2 : K5) (hn : ∀ g w, kn (g 1) (g 2) (g 5) (g 6) (g 8) (g 9) w → Q .normal g w) (h2 : ∀ g w, k2 (g 1) (g 2) (g 5) (g 6) (g 8) w → Q (.exit 2) g w) (h : wA kn k2 (g 1) (g 2) (g 5) (g 6) (g 8) (g 9) w) : eK pg cW (bI (bI (aA 1 (bJ 1 (aA 1 (aA 1 (aA 5 cR))))))) Q g w :=
  dX 2 _ g w (by kernel_rfl) (J5 (fH (fun g w => eK pg cW (aA 2 (bI (bI (aA 1 (bJ 1 (aA 1 (aA 1 (aA 5 cR)))))))) Q g w) Q) g w (fun fO t2 jK t6 t8 qN w => rG kn fO t2 jK t6 t8 qN w) k2 (fun g w h => eN (K := fun g w => eK pg cW (aA 2 (bI (bI (aA 1 (bJ 1 (aA 1 (aA 1 (aA 5 cR)))))))) Q g w) (J2 Q g w kn hn h)) h2 h)
def uS (k2 : K5) (fO t2 jK t6 t8 qN : Value) (w : World) : Prop :=
  iY (fun (X : (Value × Value) → K0) (t : Value × Value) (w : World) => wA (fun _ _ _ _ t8 qN w => X (t8, qN) w) k2 fO t2 jK t6 t.1 t.2 w) (t8, qN) w
theorem KR (k2 : K5) (h2 : ∀ g w, k2 (g 1) (g 2) (g 5) (g 6) (g 8) w → Q (.exit 2) g w) (h : uS k2 (g 1) (g 2) (g 5) (g 6) (g 8) (g 9) w) : eK pg cW (bI (aA 1 (bJ 1 (aA 1 (aA 1 (aA 5 cR)))))) Q g w := by
  refine iV (T := Value × Value) (fun g : jT => (g 8, g 9)) (fun X t w => wA (fun _ _ _ _ t8 qN w => X (t8, qN) w) k2 (g 1) (g 2) (g 5) (g 6) t.1 t.2 w) _ (by kernel_rfl) h (fun X g1 w1 ha hL => ?_)
  rw [← dW (s := 1) ha (by kernel_rfl)] at hL
  rw [← dW (s := 2) ha (by kernel_rfl)] at hL
  rw [← dW (s := 5) ha (by kernel_rfl)] at hL
  rw [← dW (s := 6) ha (by kernel_rfl)] at hL
  exact (Lk (fH (fun g2 w2 => X ((fun g : jT => (g 8, g 9)) g2) w2) Q) g1 w1 (fun _ _ _ _ t8 qN w => X (t8, qN) w) k2 (fun _ _ h => h) h2 hL)
def vU (kn : K5) (fO t2 jK t6 t8 qN : Value) (w : World) : Prop :=
  uS kn fO t2 jK t6 t8 qN w
theorem LA (kn : K5) (hn : ∀ g w, kn (g 1) (g 2) (g 5) (g 6) (g 8) w → Q .normal g w) (h : vU kn (g 1) (g 2) (g 5) (g 6) (g 8) (g 9) w) : eK pg cW (aA 1 (bJ 1 (aA 1 (aA 1 (aA 5 cR))))) Q g w :=
  iU 2 _ g w (by kernel_rfl) (KR (vI 2 Q) g w kn hn h)
def BK (kn : K6) (fO t2 jK t6 t8 : Value) (w : World) : Prop :=
  kn fO t2 jK t6 t8 (.int .i64 0) w
theorem LO (kn : K6) (hn : ∀ g w, kn (g 1) (g 2) (g 5) (g 6) (g 8) (g 9) w → Q .normal g w) (h : BK kn (g 1) (g 2) (g 5) (g 6) (g 8) w) : eK pg cW (bJ 1 (bJ 1 (aA 1 (aA 1 (aA 5 cR))))) Q g w :=
  dU (kr := no) (l := []) (by kernel_rfl) h hn kT trivial
def Ct (kn : K5) (fO t2 jK t6 t8 : Value) (w : World) : Prop :=
  BK (fun fO t2 jK t6 t8 qN w => vU kn fO t2 jK t6 t8 qN w) fO t2 jK t6 t8 w
theorem KY (kn : K5) (hn : ∀ g w, kn (g 1) (g 2) (g 5) (g 6) (g 8) w → Q .normal g w) (h : Ct kn (g 1) (g 2) (g 5) (g 6) (g 8) w) : eK pg cW (bJ 1 (aA 1 (aA 1 (aA 5 cR)))) Q g w :=
  dX 1 _ g w (by kernel_rfl) (LO (fH (fun g w => eK pg cW (aA 1 (bJ 1 (aA 1 (aA 1 (aA 5 cR))))) Q g w) Q) g w (fun fO t2 jK t6 t8 qN w => vU kn fO t2 jK t6 t8 qN w) (fun g w h => eN (K := fun g w => eK pg cW (aA 1 (bJ 1 (aA 1 (aA 1 (aA 5 cR))))) Q g w) (LA Q g w kn hn h)) h)
def vO (R : K1) (fO t2 jK t6 t8 : Value) (w : World) : Prop :=
  Ct (fun fO t2 jK t6 t8 w => vE R fO t2 jK t6 t8 w) fO t2 jK t6 t8 w
theorem KQ (R : K1) (hr : HR jI R Q) (h : vO R (g 1) (g 2) (g 5) (g 6) (g 8) w) : eK pg cW (aA 1 (aA 1 (aA 5 cR))) Q g w :=
  dX 1 _ g w (by kernel_rfl) (KY (fH (fun g w => eK pg cW (aA 1 (aA 1 (aA 1 (aA 5 cR)))) Q g w) Q) g w (fun fO t2 jK t6 t8 w => vE R fO t2 jK t6 t8 w) (fun g w h => eN (K := fun g w => eK pg cW (aA 1 (aA 1 (aA 1 (aA 5 cR)))) Q g w) (LF Q g w R hr h)) h)
def B9 (kn : K5) (fO t2 jK t6 : Value) (w : World) : Prop :=
  cO pg (eF .sub 3 (.tmp 42) (.const (.int .i64 1)) jK (.int .i64 1)) w fun t43 w =>
  kn fO t2 jK t6 t43 w
theorem Lt (kn : K5) (hn : ∀ g w, kn (g 1) (g 2) (g 5) (g 6) (g 8) w → Q .normal g w) (h : B9 kn (g 1) (g 2) (g 5) (g 6) w) : eK pg cW (bJ 1 (aA 1 (aA 5 cR))) Q g w :=
  dU (kr := no) (l := []) (by kernel_rfl) h hn kT trivial
def vX (R : K1) (fO t2 jK t6 : Value) (w : World) : Prop :=
  B9 (fun fO t2 jK t6 t8 w => vO R fO t2 jK t6 t8 w) fO t2 jK t6 w
theorem KZ (R : K1) (hr : HR jI R Q) (h : vX R (g 1) (g 2) (g 5) (g 6) w) : eK pg cW (aA 1 (aA 5 cR)) Q g w :=
  dX 1 _ g w (by kernel_rfl) (Lt (fH (fun g w => eK pg cW (aA 1 (aA 1 (aA 5 cR))) Q g w) Q) g w (fun fO t2 jK t6 t8 w => vO R fO t2 jK t6 t8 w) (fun g w h => eN (K := fun g w => eK pg cW (aA 1 (aA 1 (aA 5 cR))) Q g w) (KQ Q g w R hr h)) h)
def wD (kn : K5) (k0 : K4) (fO t2 jK t6 UV : Value) (w : World) : Prop :=
  cO pg (eF .lss 3 (.tmp 31) (.tmp 32) UV jK) w fun t33 w =>
  lM t33
    (cO pg (fF 42 t6 1) w fun t36 w =>
    cO pg (eQ 40 t36) w fun t37 w =>
    cO pg (iH 70 [(0, (.int .i64 (-1)))]) w fun t38 w =>
    cO pg (iE 40 1 [(0, t38)]) w fun t39 w =>
    cO pg (nA .append #[40, 40] 40 [t37, t39]) w fun t40 w =>
    cO pg (fF 42 t6 1) w fun t41 w =>
    cO pg (fG 40 t41 t40) w fun _u w =>
    cO pg (eF .add 3 (.tmp 34) (.const (.int .i64 1)) UV (.int .i64 1)) w fun t35 w =>
    kn fO t2 jK t6 t35 w)
    (k0 fO t2 jK t6 w)
theorem Ls (kn : K5) (k0 : K4) (hn : ∀ g w, kn (g 1) (g 2) (g 5) (g 6) (g 7) w → Q .normal g w) (h0 : ∀ g w, k0 (g 1) (g 2) (g 5) (g 6) w → Q (.exit 0) g w) (h : wD kn k0 (g 1) (g 2) (g 5) (g 6) (g 7) w) : eK pg cW (bI (bI (aA 1 (bJ 1 (aA 5 cR))))) Q g w :=
  dU (kr := no) (l := [(0, fun g w => k0 (g 1) (g 2) (g 5) (g 6) w)]) (by kernel_rfl) h hn kT ⟨h0, trivial⟩
def uZ (k0 : K4) (fO t2 jK t6 UV : Value) (w : World) : Prop :=
  iY (fun (X : Value → K0) (t : Value) (w : World) => wD (fun _ _ _ _ UV w => X UV w) k0 fO t2 jK t6 t w) UV w
theorem LP (k0 : K4) (h0 : ∀ g w, k0 (g 1) (g 2) (g 5) (g 6) w → Q (.exit 0) g w) (h : uZ k0 (g 1) (g 2) (g 5) (g 6) (g 7) w) : eK pg cW (bI (aA 1 (bJ 1 (aA 5 cR)))) Q g w := by
  refine iV (T := Value) (fun g : jT => g 7) (fun X t w => wD (fun _ _ _ _ UV w => X UV w) k0 (g 1) (g 2) (g 5) (g 6) t w) _ (by kernel_rfl) h (fun X g1 w1 ha hL => ?_)
  rw [← dW (s := 1) ha (by kernel_rfl)] at hL
  rw [← dW (s := 2) ha (by kernel_rfl)] at hL
  rw [← dW (s := 5) ha (by kernel_rfl)] at hL
  rw [← dW (s := 6) ha (by kernel_rfl)] at hL
  exact (Ls (fH (fun g2 w2 => X ((fun g : jT => g 7) g2) w2) Q) g1 w1 (fun _ _ _ _ UV w => X UV w) k0 (fun _ _ h => h) h0 hL)
def uT (kn : K4) (fO t2 jK t6 UV : Value) (w : World) : Prop :=
  uZ kn fO t2 jK t6 UV w
theorem KI (kn : K4) (hn : ∀ g w, kn (g 1) (g 2) (g 5) (g 6) w → Q .normal g w) (h : uT kn (g 1) (g 2) (g 5) (g 6) (g 7) w) : eK pg cW (aA 1 (bJ 1 (aA 5 cR))) Q g w :=
  iU 0 _ g w (by kernel_rfl) (LP (vI 0 Q) g w kn hn h)
def BX (kn : K5) (fO t2 jK t6 : Value) (w : World) : Prop :=
  kn fO t2 jK t6 (.int .i64 0) w
theorem KM (kn : K5) (hn : ∀ g w, kn (g 1) (g 2) (g 5) (g 6) (g 7) w → Q .normal g w) (h : BX kn (g 1) (g 2) (g 5) (g 6) w) : eK pg cW (bJ 1 (bJ 1 (aA 5 cR))) Q g w :=
  dU (kr := no) (l := []) (by kernel_rfl) h hn kT trivial
def Ck (kn : K4) (fO t2 jK t6 : Value) (w : World) : Prop :=
  BX (fun fO t2 jK t6 UV w => uT kn fO t2 jK t6 UV w) fO t2 jK t6 w
theorem KO (kn : K4) (hn : ∀ g w, kn (g 1) (g 2) (g 5) (g 6) w → Q .normal g w) (h : Ck kn (g 1) (g 2) (g 5) (g 6) w) : eK pg cW (bJ 1 (aA 5 cR)) Q g w :=
  dX 1 _ g w (by kernel_rfl) (KM (fH (fun g w => eK pg cW (aA 1 (bJ 1 (aA 5 cR))) Q g w) Q) g w (fun fO t2 jK t6 UV w => uT kn fO t2 jK t6 UV w) (fun g w h => eN (K := fun g w => eK pg cW (aA 1 (bJ 1 (aA 5 cR))) Q g w) (KI Q g w kn hn h)) h)
def vL (R : K1) (fO t2 jK t6 : Value) (w : World) : Prop :=
  Ck (fun fO t2 jK t6 w => vX R fO t2 jK t6 w) fO t2 jK t6 w
theorem JW (R : K1) (hr : HR jI R Q) (h : vL R (g 1) (g 2) (g 5) (g 6) w) : eK pg cW (aA 5 cR) Q g w :=
  dX 1 _ g w (by kernel_rfl) (KO (fH (fun g w => eK pg cW (aA 1 (aA 5 cR)) Q g w) Q) g w (fun fO t2 jK t6 w => vX R fO t2 jK t6 w) (fun g w h => eN (K := fun g w => eK pg cW (aA 1 (aA 5 cR)) Q g w) (KZ Q g w R hr h)) h)
def Ci (kn : K4) (R : K1) (Ox : Value) (w : World) : Prop :=
  cO pg (FZ 65 Ox) w fun fO w =>
  cO pg (jB 42) w fun t2 w =>
  cO pg (eQ 65 fO) w fun t20 w =>
  hJ pg AL #[t20, (.int .i64 15)] w fun t21 w =>
  cO pg (eF .neq 27 (.tmp 22) (.const (.int .i64 0)) t21 (.int .i64 0)) w fun t23 w =>
  lM t23
    (cO pg (iH 42 []) w fun t24 w =>
    cO pg (fG 42 t2 t24) w fun _u w =>
    qB pg 42 t2 w fun r0 => R (.tuple #[r0, (.int .i64 1)]) w)
    (cO pg (fF 65 fO 0) w fun t25 w =>
    cO pg (eQ 3 t25) w fun t26 w =>
    hJ pg nC #[t26] w fun t27 w =>
    cO pg (fF 65 fO 0) w fun t28 w =>
    cO pg (eQ 3 t28) w fun t29 w =>
    cO pg (iH 42 [(0, t29)]) w fun t30 w =>
    cO pg (jB 42) w fun t6 w =>
    cO pg (fG 42 t6 t30) w fun _u w =>
    kn fO t2 t27 t6 w)
theorem J6 (kn : K4) (R : K1) (hn : ∀ g w, kn (g 1) (g 2) (g 5) (g 6) w → Q .normal g w) (hr : HR jI R Q) (h : Ci kn R (g 0) w) : eK pg cW (bJ 5 cR) Q g w :=
  dU (l := []) (by kernel_rfl) h hn hr trivial
def BA (R : K1) (Ox : Value) (w : World) : Prop :=
  Ci (fun fO t2 jK t6 w => vL R fO t2 jK t6 w) R Ox w
theorem JS (R : K1) (hr : HR jI R Q) (h : BA R (g 0) w) : eK pg cW cR Q g w :=
  dX 5 _ g w (by kernel_rfl) (J6 (fH (fun g w => eK pg cW (aA 5 cR) Q g w) Q) g w (fun fO t2 jK t6 w => vL R fO t2 jK t6 w) R (fun g w h => eN (K := fun g w => eK pg cW (aA 5 cR) Q g w) (JW Q g w R hr h)) hr h)
def Qn (a0 : Value) (w : World) (R : K1) : Prop :=
  BA R a0 w
theorem O0 {a0 : Value} {w : World} {R : K1} (h : Qn a0 w R) : hJ pg uK #[a0] w R := by
  refine gJ (ann := cW) (fn := Tryd.f26) (c := cR) (args := [a0]) (rs := jI) (N := 185) TrydM.mixed (by kernel_rfl) Tryd.func26 (by kernel_rfl) (by kernel_rfl) (by kernel_rfl) (of_decide_eq_true (by kernel_rfl)) (by kernel_rfl) ?_
  exact (JS (nK pg jI R) (lI [a0]) w R (fun _ _ h => h) h)
def Cw : FA := ⟨rV, fun i => .leaf ([], []) []⟩
def wH : List ResultVar := [.tmp 2]
noncomputable def Bq : Code := kJ Tryd.f31
def wK (R : K1) (IK : Value) (w : World) : Prop :=
  hJ pg nM #[IK] w fun t4 w =>
  cO pg (iH 113 [(0, t4)]) w fun t5 w =>
  cO pg (FZ 113 t5) w fun t6 w =>
  R t6 w
theorem HD (R : K1) (hr : HR wH R Q) (h : wK R (g 0) w) : eK pg Cw Bq Q g w :=
  dU (kn := no) (l := []) (by kernel_rfl) h kT hr trivial
def Hs (a0 : Value) (w : World) (R : K1) : Prop :=
  wK R a0 w
theorem HM {a0 : Value} {w : World} {R : K1} (h : Hs a0 w R) : hJ pg rV #[a0] w R := by
  refine gJ (ann := Cw) (fn := Tryd.f31) (c := Bq) (args := [a0]) (rs := wH) (N := 7) TrydM.mixed (by kernel_rfl) Tryd.func31 (by kernel_rfl) (by kernel_rfl) (by kernel_rfl) (of_decide_eq_true (by kernel_rfl)) (by kernel_rfl) ?_
  exact (HD (nK pg wH R) (lI [a0]) w R (fun _ _ h => h) h)
def zV : FA := ⟨mB, fun i => match Nat.beq i 3 with | true => .leaf ([], []) [(false, []), (false, []), (false, []), (false, []), (false, []), (false, []), (false, []), (false, []), (false, []), (false, []), (false, []), (false, []), (false, []), (false, [])] | false => match Nat.beq i 5 with | true => .leaf ([9], []) [(false, []), (false, []), (false, []), (false, []), (false, []), (false, []), (false, []), (false, []), (false, []), (true, []), (false, [])] | false => .leaf ([], []) []⟩
def sF : List ResultVar := [.tmp 4, .tmp 5]
noncomputable def yU : Code := kJ Tryd.f32
def sC (R : K1) (Ek XW : Value) (w : World) : Prop :=
  cO pg (eF .eql 81 (.tmp 8) (.const (.pointer none)) Ek (.pointer none)) w fun t9 w =>
  Gd (kA t9 false) (fun K => K XW w) w fun t11 w =>
  Gd (kA t9 false) (fun K => cO pg (eF .lss 3 (.tmp 11) (.const (.int .i64 0)) t11 (.int .i64 0)) w K) w fun t12 w =>
  cO pg (kL t9 (.bool true) t12) w fun t13 w =>
  Gd (kA t13 false) (fun K => K XW w) w fun t15 w =>
  Gd (kA t13 false) (fun K => cO pg (eF .gtr 3 (.tmp 15) (.const (.int .i64 32)) t15 (.int .i64 32)) w K) w fun t16 w =>
  cO pg (kL t13 (.bool true) t16) w fun t17 w =>
  lM t17
    (R (.tuple #[(.int .u64 0), (.int .i64 1)]) w)
    ((dr w) = (dr w) ∧
    cO pg (Et Ek) (dr w) fun t20 w_ => w_ = (dr w) ∧
    cO pg (fF 113 t20 0) (dr w) fun t21 w_ => w_ = (dr w) ∧
    cO pg (eQ 22 t21) (dr w) fun t22 w_ => w_ = (dr w) ∧
    cO pg (nA .len #[22] 3 [t22]) (dr w) fun t23 w_ => w_ = (dr w) ∧
    cO pg (eF .mul 3 (.const (.int .i64 8)) (.tmp 23) (.int .i64 8) t23) (dr w) fun t24 w_ => w_ = (dr w) ∧
    (dr w) = (dr w) ∧
    cO pg (Et Ek) (dr w) fun t26 w_ => w_ = (dr w) ∧
    cO pg (fF 113 t26 1) (dr w) fun t27 w_ => w_ = (dr w) ∧
    cO pg (eQ 3 t27) (dr w) fun t28 w_ => w_ = (dr w) ∧
    cO pg (eF .sub 3 (.tmp 24) (.tmp 28) t24 t28) (dr w) fun t29 w_ => w_ = (dr w) ∧
    (dr w) = (dr w) ∧
    cO pg (eF .lss 3 (.tmp 29) (.tmp 30) t29 XW) (dr w) fun t31 w_ => w_ = (dr w) ∧
    (dr w) = (dr w) ∧
    lM t31
      (R (.tuple #[(.int .u64 0), (.int .i64 10)]) (dr w))
      ((dr (dr w)) = (dr (dr w)) ∧
      cO pg (Et Ek) (dr (dr w)) fun t33 w_ => w_ = (dr (dr w)) ∧
      cO pg (fF 113 t33 0) (dr (dr w)) fun t34 w_ => w_ = (dr (dr w)) ∧
      cO pg (eQ 22 t34) (dr (dr w)) fun t35 w_ => w_ = (dr (dr w)) ∧
      (dr (dr w)) = (dr (dr w)) ∧
      cO pg (Et Ek) (dr (dr w)) fun t37 w_ => w_ = (dr (dr w)) ∧
      cO pg (fF 113 t37 1) (dr (dr w)) fun t38 w_ => w_ = (dr (dr w)) ∧
      cO pg (eQ 3 t38) (dr (dr w)) fun t39 w_ => w_ = (dr (dr w)) ∧
      (dr (dr w)) = (dr (dr w)) ∧
      hJ pg ES #[t35, t39, XW] (dr (dr w)) fun t41 Zo =>
      Zo = Zo ∧
      cO pg (Et Ek) Zo fun t43 w =>
      cO pg (fF 113 t43 1) w fun t44 w =>
      cO pg (eQ 3 t44) w fun t45 w =>
      cO pg (eF .add 3 (.tmp 45) (.tmp 46) t45 XW) w fun t47 w =>
      cO pg (Et Ek) w fun t48 w =>
      cO pg (fF 113 t48 1) w fun t49 w =>
      cO pg (fG 3 t49 t47) w fun _u w =>
      R (.tuple #[t41, (.int .i64 0)]) w))
theorem Gk (R : K1) (hr : HR sF R Q) (h : sC R (g 0) (g 1) w) : eK pg zV yU Q g w :=
  dU (kn := no) (l := []) (by kernel_rfl) h kT hr trivial
def ER (a0 a1 : Value) (w : World) (R : K1) : Prop :=
  sC R a0 a1 w
theorem GY {a0 a1 : Value} {w : World} {R : K1} (h : ER a0 a1 w R) : hJ pg mB #[a0, a1] w R := by
  refine gJ (ann := zV) (fn := Tryd.f32) (c := yU) (args := [a0, a1]) (rs := sF) (N := 51) TrydM.mixed (by kernel_rfl) Tryd.func32 (by kernel_rfl) (by kernel_rfl) (by kernel_rfl) (of_decide_eq_true (by kernel_rfl)) (by kernel_rfl) ?_
  exact (Gk (nK pg sF R) (lI [a0, a1]) w R (fun _ _ h => h) h)
def Gl : FA := ⟨zN, fun i => .leaf ([], []) []⟩
def BJ : List ResultVar := [.tmp 4, .tmp 5]
noncomputable def EU : Code := kJ Tryd.f33
def B5 (R : K1) (Ek RS : Value) (w : World) : Prop :=
  cO pg (eF .add 3 (.tmp 11) (.const (.int .i64 1)) RS (.int .i64 1)) w fun t12 w =>
  cO pg (mL 3 75 t12) w fun t13 w =>
  hJ pg pG #[t13] w fun t14 w =>
  cO pg (eF .sub 3 (.tmp 17) (.const (.int .i64 1)) t14 (.int .i64 1)) w fun t18 w =>
  hJ pg mB #[Ek, t18] w fun t19 w =>
  cO pg (jC t19 0) w fun t20 w =>
  cO pg (jC t19 1) w fun t21 w =>
  cO pg (eF .neq 27 (.tmp 22) (.const (.int .i64 0)) t21 (.int .i64 0)) w fun t23 w =>
  lM t23
    (R (.tuple #[(.int .i64 0), t21]) w)
    (cO pg (eF .shl 3 (.const (.int .i64 1)) (.tmp 25) (.int .i64 1) t14) w fun t26 w =>
    cO pg (eF .sub 3 (.tmp 26) (.const (.int .i64 2)) t26 (.int .i64 2)) w fun t27 w =>
    cO pg (eF .sub 3 (.tmp 27) (.tmp 28) t27 RS) w fun t29 w =>
    cO pg (mL 83 3 t20) w fun t31 w =>
    cO pg (eF .lss 3 (.tmp 31) (.tmp 32) t31 t29) w fun t33 w =>
    lM t33
      (cO pg (mL 83 3 t20) w fun t35 w =>
      R (.tuple #[t35, (.int .i64 0)]) w)
      (hJ pg mB #[Ek, (.int .i64 1)] w fun t38 w =>
      cO pg (jC t38 0) w fun t39 w =>
      cO pg (jC t38 1) w fun t40 w =>
      cO pg (eF .neq 27 (.tmp 42) (.const (.int .i64 0)) t40 (.int .i64 0)) w fun t43 w =>
      lM t43
        (R (.tuple #[(.int .i64 0), t40]) w)
        (cO pg (eF .eql 83 (.tmp 46) (.const (.int .u64 0)) t39 (.int .u64 0)) w fun t47 w =>
        lM t47
          (cO pg (mL 83 3 t20) w fun t49 w =>
          R (.tuple #[t49, (.int .i64 0)]) w)
          (cO pg (mL 83 3 t20) w fun t51 w =>
          cO pg (eF .sub 3 (.tmp 52) (.const (.int .i64 1)) t14 (.int .i64 1)) w fun t53 w =>
          cO pg (eF .shl 3 (.const (.int .i64 1)) (.tmp 53) (.int .i64 1) t53) w fun t54 w =>
          cO pg (eF .add 3 (.tmp 51) (.tmp 54) t51 t54) w fun t55 w =>
          cO pg (eF .sub 3 (.tmp 55) (.tmp 56) t55 t29) w fun t57 w =>
          R (.tuple #[t57, (.int .i64 0)]) w))))
theorem Lb (R : K1) (hr : HR BJ R Q) (h : B5 R (g 0) (g 1) w) : eK pg Gl EU Q g w :=
  dU (kn := no) (l := []) (by kernel_rfl) h kT hr trivial
def Nf (a0 a1 : Value) (w : World) (R : K1) : Prop :=
  B5 R a0 a1 w
theorem NF {a0 a1 : Value} {w : World} {R : K1} (h : Nf a0 a1 w R) : hJ pg zN #[a0, a1] w R := by
  refine gJ (ann := Gl) (fn := Tryd.f33) (c := EU) (args := [a0, a1]) (rs := BJ) (N := 58) TrydM.mixed (by kernel_rfl) Tryd.func33 (by kernel_rfl) (by kernel_rfl) (by kernel_rfl) (of_decide_eq_true (by kernel_rfl)) (by kernel_rfl) ?_
  exact (Lb (nK pg BJ R) (lI [a0, a1]) w R (fun _ _ h => h) h)
def iS : FA := ⟨tJ, fun i => .leaf ([], []) []⟩
def lD : List ResultVar := [.tmp 2, .tmp 3]
noncomputable def iN : Code := kJ Tryd.f35
def rR (R : K1) (Sq : Value) (w : World) : Prop :=
  R (.tuple #[Sq, (.int .i64 0)]) w
theorem Id (R : K1) (hr : HR lD R Q) (h : rR R (g 4) w) : eK pg iS (aA 1 (aA 2 (bI (aA 1 iN)))) Q g w :=
  dU (kn := no) (l := []) (by kernel_rfl) h kT hr trivial
def rU (kn : K2) (k0 : K1) (R : K1) (Ek Sq : Value) (w : World) : Prop :=
  hJ pg mB #[Ek, (.int .i64 2)] w fun t9 w =>
  cO pg (jC t9 0) w fun t10 w =>
  cO pg (jC t9 1) w fun t11 w =>
  cO pg (eF .neq 27 (.tmp 12) (.const (.int .i64 0)) t11 (.int .i64 0)) w fun t13 w =>
  lM t13
    (R (.tuple #[(.int .i64 0), t11]) w)
    (cO pg (mL 83 3 t10) w fun t17 w =>
    cO pg (eF .add 3 (.tmp 15) (.tmp 17) Sq t17) w fun t18 w =>
    cO pg (eF .lss 83 (.tmp 19) (.const (.int .u64 3)) t10 (.int .u64 3)) w fun t20 w =>
    lM t20
      (k0 t18 w)
      (kn Ek t18 w))
theorem Ic (kn : K2) (k0 : K1) (R : K1) (hn : ∀ g w, kn (g 0) (g 4) w → Q .normal g w) (h0 : ∀ g w, k0 (g 4) w → Q (.exit 0) g w) (hr : HR lD R Q) (h : rU kn k0 R (g 0) (g 4) w) : eK pg iS (bI (bI (bJ 1 (aA 2 (bI (aA 1 iN)))))) Q g w :=
  dU (l := [(0, fun g w => k0 (g 4) w)]) (by kernel_rfl) h hn hr ⟨h0, trivial⟩
def xT (k0 : K1) (R : K1) (Ek Sq : Value) (w : World) : Prop :=
  iY (fun (X : Value → K0) (t : Value) (w : World) => rU (fun _ Sq w => X Sq w) k0 R Ek t w) Sq w
theorem HO (k0 : K1) (R : K1) (h0 : ∀ g w, k0 (g 4) w → Q (.exit 0) g w) (hr : HR lD R Q) (h : xT k0 R (g 0) (g 4) w) : eK pg iS (bI (bJ 1 (aA 2 (bI (aA 1 iN))))) Q g w := by
  refine iV (T := Value) (fun g : jT => g 4) (fun X t w => rU (fun _ Sq w => X Sq w) k0 R (g 0) t w) _ (by kernel_rfl) h (fun X g1 w1 ha hL => ?_)
  rw [← dW (s := 0) ha (by kernel_rfl)] at hL
  exact (Ic (fH (fun g2 w2 => X ((fun g : jT => g 4) g2) w2) Q) g1 w1 (fun _ Sq w => X Sq w) k0 R (fun _ _ h => h) h0 hr hL)
def xW (kn : K1) (R : K1) (Ek Sq : Value) (w : World) : Prop :=
  xT kn R Ek Sq w
theorem Ik (kn : K1) (R : K1) (hn : ∀ g w, kn (g 4) w → Q .normal g w) (hr : HR lD R Q) (h : xW kn R (g 0) (g 4) w) : eK pg iS (bJ 1 (aA 2 (bI (aA 1 iN)))) Q g w :=
  iU 0 _ g w (by kernel_rfl) (HO (vI 0 Q) g w kn R hn hr h)
def rP (R : K1) (Ek Sq : Value) (w : World) : Prop :=
  xW (fun Sq w => rR R Sq w) R Ek Sq w
theorem H3 (R : K1) (hr : HR lD R Q) (h : rP R (g 0) (g 4) w) : eK pg iS (aA 2 (bI (aA 1 iN))) Q g w :=
  dX 1 _ g w (by kernel_rfl) (Ik (fH (fun g w => eK pg iS (aA 1 (aA 2 (bI (aA 1 iN)))) Q g w) Q) g w (fun Sq w => rR R Sq w) R (fun g w h => eN (K := fun g w => eK pg iS (aA 1 (aA 2 (bI (aA 1 iN)))) Q g w) (Id Q g w R hr h)) hr h)
def xA (kn : K2) (Ek : Value) (w : World) : Prop :=
  kn Ek (.int .i64 0) w
theorem Il (kn : K2) (hn : ∀ g w, kn (g 0) (g 4) w → Q .normal g w) (h : xA kn (g 0) w) : eK pg iS (bJ 2 (bI (aA 1 iN))) Q g w :=
  dU (kr := no) (l := []) (by kernel_rfl) h hn kT trivial
def yD (R : K1) (Ek : Value) (w : World) : Prop :=
  xA (fun Ek Sq w => rP R Ek Sq w) Ek w
theorem H6 (R : K1) (hr : HR lD R Q) (h : yD R (g 0) w) : eK pg iS (bI (aA 1 iN)) Q g w :=
  dX 2 _ g w (by kernel_rfl) (Il (fH (fun g w => eK pg iS (aA 2 (bI (aA 1 iN))) Q g w) Q) g w (fun Ek Sq w => rP R Ek Sq w) (fun g w h => eN (K := fun g w => eK pg iS (aA 2 (bI (aA 1 iN))) Q g w) (H3 Q g w R hr h)) h)
def rS (R : K1) (Ek : Value) (w : World) : Prop :=
  yD R Ek w
theorem Ix (R : K1) (hr : HR lD R Q) (h : rS R (g 0) w) : eK pg iS (aA 1 iN) Q g w :=
  VW _ g w (by kernel_rfl) (H6 Q g w R hr h)
def zO (kn : K1) (Ek : Value) (w : World) : Prop :=
  kn Ek w
theorem Iu (kn : K1) (hn : ∀ g w, kn (g 0) w → Q .normal g w) (h : zO kn (g 0) w) : eK pg iS (bJ 1 iN) Q g w :=
  dU (kr := no) (l := []) (by kernel_rfl) h hn kT trivial
def wN (R : K1) (Ek : Value) (w : World) : Prop :=
  zO (fun Ek w => rS R Ek w) Ek w
theorem HF (R : K1) (hr : HR lD R Q) (h : wN R (g 0) w) : eK pg iS iN Q g w :=
  dX 1 _ g w (by kernel_rfl) (Iu (fH (fun g w => eK pg iS (aA 1 iN) Q g w) Q) g w (fun Ek w => rS R Ek w) (fun g w h => eN (K := fun g w => eK pg iS (aA 1 iN) Q g w) (Ix Q g w R hr h)) h)
def H7 (a0 : Value) (w : World) (R : K1) : Prop :=
  wN R a0 w
theorem Je {a0 : Value} {w : World} {R : K1} (h : H7 a0 w R) : hJ pg tJ #[a0] w R := by
  refine gJ (ann := iS) (fn := Tryd.f35) (c := iN) (args := [a0]) (rs := lD) (N := 22) TrydM.mixed (by kernel_rfl) Tryd.func35 (by kernel_rfl) (by kernel_rfl) (by kernel_rfl) (of_decide_eq_true (by kernel_rfl)) (by kernel_rfl) ?_
  exact (HF (nK pg lD R) (lI [a0]) w R (fun _ _ h => h) h)
def zU : FA := ⟨pW, fun i => .leaf ([], []) []⟩
def sW : List ResultVar := [.tmp 2]
noncomputable def zH : Code := kJ Tryd.f36
def sY (R : K1) (Ek : Value) (w : World) : Prop :=
  cO pg (eF .eql 81 (.tmp 3) (.const (.pointer none)) Ek (.pointer none)) w fun t4 w =>
  lM t4
    (R (.int .i64 0) w)
    (cO pg (Et Ek) w fun t6 w =>
    cO pg (fF 113 t6 1) w fun t7 w =>
    cO pg (eQ 3 t7) w fun t8 w =>
    cO pg (eF .add 3 (.tmp 8) (.const (.int .i64 7)) t8 (.int .i64 7)) w fun t9 w =>
    cO pg (eF .quo 3 (.tmp 9) (.const (.int .i64 8)) t9 (.int .i64 8)) w fun t10 w =>
    R t10 w)
theorem Gt (R : K1) (hr : HR sW R Q) (h : sY R (g 0) w) : eK pg zU zH Q g w :=
  dU (kn := no) (l := []) (by kernel_rfl) h kT hr trivial
def E0 (a0 : Value) (w : World) (R : K1) : Prop :=
  sY R a0 w
theorem Hl {a0 : Value} {w : World} {R : K1} (h : E0 a0 w R) : hJ pg pW #[a0] w R := by
  refine gJ (ann := zU) (fn := Tryd.f36) (c := zH) (args := [a0]) (rs := sW) (N := 11) TrydM.mixed (by kernel_rfl) Tryd.func36 (by kernel_rfl) (by kernel_rfl) (by kernel_rfl) (of_decide_eq_true (by kernel_rfl)) (by kernel_rfl) ?_
  exact (Gt (nK pg sW R) (lI [a0]) w R (fun _ _ h => h) h)
def Da : FA := ⟨tP, fun i => .leaf ([], []) []⟩
def xI : List ResultVar := [.tmp 0]
noncomputable def Cz : Code := kJ Tryd.f38
def xV (R : K1)  (w : World) : Prop :=
  cO pg (iH 116 []) w fun t1 w =>
  cO pg (FZ 116 t1) w fun t2 w =>
  R t2 w
theorem HZ (R : K1) (hr : HR xI R Q) (h : xV R w) : eK pg Da Cz Q g w :=
  dU (kn := no) (l := []) (by kernel_rfl) h kT hr trivial
def H1 (w : World) (R : K1) : Prop :=
  xV R w
theorem I2 {w : World} {R : K1} (h : H1 w R) : hJ pg tP #[] w R := by
  refine gJ (ann := Da) (fn := Tryd.f38) (c := Cz) (args := []) (rs := xI) (N := 3) TrydM.mixed (by kernel_rfl) Tryd.func38 (by kernel_rfl) (by kernel_rfl) (by kernel_rfl) (of_decide_eq_true (by kernel_rfl)) (by kernel_rfl) ?_
  exact (HZ (nK pg xI R) (lI []) w R (fun _ _ h => h) h)
def gT : FA := ⟨kW, fun i => match Nat.beq i 6 with | true => .leaf ([25], []) [(false, []), (false, []), (false, []), (false, []), (false, []), (false, []), (false, []), (false, []), (false, []), (false, []), (false, []), (false, []), (false, []), (false, []), (false, []), (false, []), (false, []), (false, []), (false, []), (false, []), (false, []), (false, []), (false, []), (false, []), (false, []), (true, [])] | false => .leaf ([], []) []⟩
def pM : List ResultVar := []
noncomputable def gQ : Code := kJ Tryd.f39
def pK (kn : K4) (Bx Gy t17 t18 : Value) (w : World) : Prop :=
  cO pg (eF .add 3 (.tmp 18) (.const (.int .i64 1)) t18 (.int .i64 1)) w fun t68 w =>
  kn Bx Gy t17 t68 w
theorem Gu (kn : K4) (hn : ∀ g w, kn (g 0) (g 1) (g 17) (g 18) w → Q .normal g w) (h : pK kn (g 0) (g 1) (g 17) (g 18) w) : eK pg gT (aA 1 (aA 2 (bI (bI (aA 2 gQ))))) Q g w :=
  dU (kr := no) (l := []) (by kernel_rfl) h hn kT trivial
def nG (kn : K4) (Bx Gy oD t17 t18 : Value) (w : World) : Prop :=
  (dr w) = (dr w) ∧
  cO pg (Et Bx) (dr w) fun t37 w_ => w_ = (dr w) ∧
  cO pg (fF 116 t37 0) (dr w) fun t38 w_ => w_ = (dr w) ∧
  cO pg (eQ 22 t38) (dr w) fun t39 w_ => w_ = (dr w) ∧
  (dr w) = (dr w) ∧
  cO pg (Et Bx) (dr w) fun t41 w_ => w_ = (dr w) ∧
  cO pg (fF 116 t41 1) (dr w) fun t42 w_ => w_ = (dr w) ∧
  cO pg (eQ 3 t42) (dr w) fun t43 w_ => w_ = (dr w) ∧
  cO pg (eF .quo 3 (.tmp 43) (.const (.int .i64 8)) t43 (.int .i64 8)) (dr w) fun t44 w_ => w_ = (dr w) ∧
  cO pg (iF 22 t39 t44) (dr w) fun t45 w_ => w_ = (dr w) ∧
  cO pg (eQ 5 t45) (dr w) fun t46 w_ => w_ = (dr w) ∧
  (dr w) = (dr w) ∧
  (dr w) = (dr w) ∧
  cO pg (mL 3 75 oD) (dr w) fun t49 w_ => w_ = (dr w) ∧
  cO pg (eF .shr 83 (.tmp 47) (.tmp 49) Gy t49) (dr w) fun t50 w_ => w_ = (dr w) ∧
  cO pg (eF .and 83 (.tmp 50) (.const (.int .u64 1)) t50 (.int .u64 1)) (dr w) fun t51 w_ => w_ = (dr w) ∧
  cO pg (mL 83 5 t51) (dr w) fun t52 w_ => w_ = (dr w) ∧
  (dr w) = (dr w) ∧
  cO pg (Et Bx) (dr w) fun t54 w_ => w_ = (dr w) ∧
  cO pg (fF 116 t54 1) (dr w) fun t55 w_ => w_ = (dr w) ∧
  cO pg (eQ 3 t55) (dr w) fun t56 w_ => w_ = (dr w) ∧
  cO pg (eF .rem 3 (.tmp 56) (.const (.int .i64 8)) t56 (.int .i64 8)) (dr w) fun t57 w_ => w_ = (dr w) ∧
  cO pg (eF .shl 5 (.tmp 52) (.tmp 57) t52 t57) (dr w) fun t58 w_ => w_ = (dr w) ∧
  cO pg (eF .or 5 (.tmp 46) (.tmp 58) t46 t58) (dr w) fun t59 w_ => w_ = (dr w) ∧
  cO pg (iF 22 t39 t44) (dr w) fun t60 w_ => w_ = (dr w) ∧
  cO pg (fG 5 t60 t59) (dr w) fun _u25 aaA =>
  cO pg (Et Bx) aaA fun t62 w =>
  cO pg (fF 116 t62 1) w fun t63 w =>
  cO pg (eQ 3 t63) w fun t64 w =>
  cO pg (eF .add 3 (.tmp 64) (.const (.int .i64 1)) t64 (.int .i64 1)) w fun t65 w =>
  cO pg (Et Bx) w fun t66 w =>
  cO pg (fF 116 t66 1) w fun t67 w =>
  cO pg (fG 3 t67 t65) w fun _u w =>
  kn Bx Gy t17 t18 w
theorem Gr (kn : K4) (hn : ∀ g w, kn (g 0) (g 1) (g 17) (g 18) w → Q .normal g w) (h : nG kn (g 0) (g 1) (g 6) (g 17) (g 18) w) : eK pg gT (aA 2 (bI (bJ 1 (aA 2 (bI (bI (aA 2 gQ))))))) Q g w :=
  dU (kr := no) (l := []) (by kernel_rfl) h hn kT trivial
def sT (kn : K5) (Bx Gy t17 t18 : Value) (w : World) : Prop :=
  cO pg (Et Bx) w fun t22 w =>
  cO pg (fF 116 t22 1) w fun t23 w =>
  cO pg (eQ 3 t23) w fun t24 w =>
  cO pg (eF .rem 3 (.tmp 24) (.const (.int .i64 8)) t24 (.int .i64 8)) w fun t25 w =>
  cO pg (eF .eql 3 (.tmp 25) (.const (.int .i64 0)) t25 (.int .i64 0)) w fun t26 w =>
  lM t26
    (cO pg (Et Bx) w fun t29 w =>
    cO pg (fF 116 t29 0) w fun t30 w =>
    cO pg (eQ 22 t30) w fun t31 w =>
    cO pg (iE 22 1 [(0, (.int .u8 0))]) w fun t32 w =>
    cO pg (nA .append #[22, 22] 22 [t31, t32]) w fun t33 w =>
    cO pg (Et Bx) w fun t34 w =>
    cO pg (fF 116 t34 0) w fun t35 w =>
    cO pg (fG 22 t35 t33) w fun _u w =>
    kn Bx Gy t18 t17 t18 w)
    (kn Bx Gy t18 t17 t18 w)
theorem GB (kn : K5) (hn : ∀ g w, kn (g 0) (g 1) (g 6) (g 17) (g 18) w → Q .normal g w) (h : sT kn (g 0) (g 1) (g 17) (g 18) w) : eK pg gT (bJ 2 (bI (bJ 1 (aA 2 (bI (bI (aA 2 gQ))))))) Q g w :=
  dU (kr := no) (l := []) (by kernel_rfl) h hn kT trivial
def pQ (kn : K4) (Bx Gy t17 t18 : Value) (w : World) : Prop :=
  sT (fun Bx Gy oD t17 t18 w => nG kn Bx Gy oD t17 t18 w) Bx Gy t17 t18 w
theorem GD (kn : K4) (hn : ∀ g w, kn (g 0) (g 1) (g 17) (g 18) w → Q .normal g w) (h : pQ kn (g 0) (g 1) (g 17) (g 18) w) : eK pg gT (bI (bJ 1 (aA 2 (bI (bI (aA 2 gQ)))))) Q g w :=
  dX 2 _ g w (by kernel_rfl) (GB (fH (fun g w => eK pg gT (aA 2 (bI (bJ 1 (aA 2 (bI (bI (aA 2 gQ))))))) Q g w) Q) g w (fun Bx Gy oD t17 t18 w => nG kn Bx Gy oD t17 t18 w) (fun g w h => eN (K := fun g w => eK pg gT (aA 2 (bI (bJ 1 (aA 2 (bI (bI (aA 2 gQ))))))) Q g w) (Gr Q g w kn hn h)) h)
def sJ (kn : K4) (Bx Gy t17 t18 : Value) (w : World) : Prop :=
  pQ kn Bx Gy t17 t18 w
theorem Ge (kn : K4) (hn : ∀ g w, kn (g 0) (g 1) (g 17) (g 18) w → Q .normal g w) (h : sJ kn (g 0) (g 1) (g 17) (g 18) w) : eK pg gT (bJ 1 (aA 2 (bI (bI (aA 2 gQ))))) Q g w :=
  iU 1 _ g w (by kernel_rfl) (GD (vI 1 Q) g w kn hn h)
def pI (kn : K4) (Bx Gy t17 t18 : Value) (w : World) : Prop :=
  sJ (fun Bx Gy t17 t18 w => pK kn Bx Gy t17 t18 w) Bx Gy t17 t18 w
theorem GA (kn : K4) (hn : ∀ g w, kn (g 0) (g 1) (g 17) (g 18) w → Q .normal g w) (h : pI kn (g 0) (g 1) (g 17) (g 18) w) : eK pg gT (aA 2 (bI (bI (aA 2 gQ)))) Q g w :=
  dX 1 _ g w (by kernel_rfl) (Ge (fH (fun g w => eK pg gT (aA 1 (aA 2 (bI (bI (aA 2 gQ))))) Q g w) Q) g w (fun Bx Gy t17 t18 w => pK kn Bx Gy t17 t18 w) (fun g w h => eN (K := fun g w => eK pg gT (aA 1 (aA 2 (bI (bI (aA 2 gQ))))) Q g w) (Gu Q g w kn hn h)) h)
def sR (kn : K4) (k0 : K0) (Bx Gy t17 t18 : Value) (w : World) : Prop :=
  cO pg (eF .lss 3 (.tmp 18) (.tmp 17) t18 t17) w fun t19 w =>
  lM t19
    (kn Bx Gy t17 t18 w)
    (k0 w)
theorem Gc (kn : K4) (k0 : K0) (hn : ∀ g w, kn (g 0) (g 1) (g 17) (g 18) w → Q .normal g w) (h0 : ∀ g w, k0 w → Q (.exit 0) g w) (h : sR kn k0 (g 0) (g 1) (g 17) (g 18) w) : eK pg gT (bJ 2 (bI (bI (aA 2 gQ)))) Q g w :=
  dU (kr := no) (l := [(0, fun g w => k0 w)]) (by kernel_rfl) h hn kT ⟨h0, trivial⟩
def pP (kn : K4) (k0 : K0) (Bx Gy t17 t18 : Value) (w : World) : Prop :=
  sR (fun Bx Gy t17 t18 w => pI kn Bx Gy t17 t18 w) k0 Bx Gy t17 t18 w
theorem GH (kn : K4) (k0 : K0) (hn : ∀ g w, kn (g 0) (g 1) (g 17) (g 18) w → Q .normal g w) (h0 : ∀ g w, k0 w → Q (.exit 0) g w) (h : pP kn k0 (g 0) (g 1) (g 17) (g 18) w) : eK pg gT (bI (bI (aA 2 gQ))) Q g w :=
  dX 2 _ g w (by kernel_rfl) (Gc (fH (fun g w => eK pg gT (aA 2 (bI (bI (aA 2 gQ)))) Q g w) Q) g w (fun Bx Gy t17 t18 w => pI kn Bx Gy t17 t18 w) k0 (fun g w h => eN (K := fun g w => eK pg gT (aA 2 (bI (bI (aA 2 gQ)))) Q g w) (GA Q g w kn hn h)) h0 h)
def sZ (k0 : K0) (Bx Gy t17 t18 : Value) (w : World) : Prop :=
  iY (fun (X : Value → K0) (t : Value) (w : World) => pP (fun _ _ _ t18 w => X t18 w) k0 Bx Gy t17 t w) t18 w
theorem Gq (k0 : K0) (h0 : ∀ g w, k0 w → Q (.exit 0) g w) (h : sZ k0 (g 0) (g 1) (g 17) (g 18) w) : eK pg gT (bI (aA 2 gQ)) Q g w := by
  refine iV (T := Value) (fun g : jT => g 18) (fun X t w => pP (fun _ _ _ t18 w => X t18 w) k0 (g 0) (g 1) (g 17) t w) _ (by kernel_rfl) h (fun X g1 w1 ha hL => ?_)
  rw [← dW (s := 0) ha (by kernel_rfl)] at hL
  rw [← dW (s := 1) ha (by kernel_rfl)] at hL
  rw [← dW (s := 17) ha (by kernel_rfl)] at hL
  exact (GH (fH (fun g2 w2 => X ((fun g : jT => g 18) g2) w2) Q) g1 w1 (fun _ _ _ t18 w => X t18 w) k0 (fun _ _ h => h) h0 hL)
def oX (kn : K0) (Bx Gy t17 t18 : Value) (w : World) : Prop :=
  sZ kn Bx Gy t17 t18 w
theorem Fg (kn : K0) (hn : ∀ g w, kn w → Q .normal g w) (h : oX kn (g 0) (g 1) (g 17) (g 18) w) : eK pg gT (aA 2 gQ) Q g w :=
  iU 0 _ g w (by kernel_rfl) (Gq (vI 0 Q) g w kn hn h)
def rL (kn : K4) (R : K1) (Bx Gy Ch : Value) (w : World) : Prop :=
  cO pg (eF .eql 91 (.tmp 7) (.const (.pointer none)) Bx (.pointer none)) w fun t8 w =>
  Gd (kA t8 false) (fun K => K Ch w) w fun t10 w =>
  Gd (kA t8 false) (fun K => cO pg (eF .lss 3 (.tmp 10) (.const (.int .i64 1)) t10 (.int .i64 1)) w K) w fun t11 w =>
  cO pg (kL t8 (.bool true) t11) w fun t12 w =>
  Gd (kA t12 false) (fun K => K Ch w) w fun t14 w =>
  Gd (kA t12 false) (fun K => cO pg (eF .gtr 3 (.tmp 14) (.const (.int .i64 56)) t14 (.int .i64 56)) w K) w fun t15 w =>
  cO pg (kL t12 (.bool true) t15) w fun t16 w =>
  lM t16
    (R (.tuple #[]) w)
    (kn Bx Gy Ch (.int .i64 0) w)
theorem Fa (kn : K4) (R : K1) (hn : ∀ g w, kn (g 0) (g 1) (g 17) (g 18) w → Q .normal g w) (hr : HR pM R Q) (h : rL kn R (g 0) (g 1) (g 2) w) : eK pg gT (bJ 2 gQ) Q g w :=
  dU (l := []) (by kernel_rfl) h hn hr trivial
def rM (kn : K0) (R : K1) (Bx Gy Ch : Value) (w : World) : Prop :=
  rL (fun Bx Gy t17 t18 w => oX kn Bx Gy t17 t18 w) R Bx Gy Ch w
theorem Fk (kn : K0) (R : K1) (hn : ∀ g w, kn w → Q .normal g w) (hr : HR pM R Q) (h : rM kn R (g 0) (g 1) (g 2) w) : eK pg gT gQ Q g w :=
  dX 2 _ g w (by kernel_rfl) (Fa (fH (fun g w => eK pg gT (aA 2 gQ) Q g w) Q) g w (fun Bx Gy t17 t18 w => oX kn Bx Gy t17 t18 w) R (fun g w h => eN (K := fun g w => eK pg gT (aA 2 gQ) Q g w) (Fg Q g w kn hn h)) hr h)
def EO (a0 a1 a2 : Value) (w : World) (R : K1) : Prop :=
  rM (fun  w => R (.tuple #[]) w) R a0 a1 a2 w
theorem G7 {a0 a1 a2 : Value} {w : World} {R : K1} (h : EO a0 a1 a2 w R) : hJ pg kW #[a0, a1, a2] w R := by
  refine gJ (ann := gT) (fn := Tryd.f39) (c := gQ) (args := [a0, a1, a2]) (rs := pM) (N := 69) TrydM.mixed (by kernel_rfl) Tryd.func39 (by kernel_rfl) (by kernel_rfl) (by kernel_rfl) (of_decide_eq_true (by kernel_rfl)) (by kernel_rfl) ?_
  exact (Fk (nK pg pM R) (lI [a0, a1, a2]) w (fun  w => R (.tuple #[]) w) R (fun _ _ h => h) (fun _ _ h => h) h)
def Cx : FA := ⟨rT, fun i => .leaf ([], []) []⟩
def wJ : List ResultVar := [.tmp 2]
noncomputable def Bu : Code := kJ Tryd.f40
def wO (R : K1) (Bx : Value) (w : World) : Prop :=
  cO pg (eF .eql 91 (.tmp 3) (.const (.pointer none)) Bx (.pointer none)) w fun t4 w =>
  lM t4
    (R (.slice none 0 0) w)
    (cO pg (Et Bx) w fun t6 w =>
    cO pg (fF 116 t6 0) w fun t7 w =>
    cO pg (eQ 22 t7) w fun t8 w =>
    hJ pg nM #[t8] w fun t9 w =>
    R t9 w)
theorem HC (R : K1) (hr : HR wJ R Q) (h : wO R (g 0) w) : eK pg Cx Bu Q g w :=
  dU (kn := no) (l := []) (by kernel_rfl) h kT hr trivial
def Hq (a0 : Value) (w : World) (R : K1) : Prop :=
  wO R a0 w
theorem H2 {a0 : Value} {w : World} {R : K1} (h : Hq a0 w R) : hJ pg rT #[a0] w R := by
  refine gJ (ann := Cx) (fn := Tryd.f40) (c := Bu) (args := [a0]) (rs := wJ) (N := 10) TrydM.mixed (by kernel_rfl) Tryd.func40 (by kernel_rfl) (by kernel_rfl) (by kernel_rfl) (of_decide_eq_true (by kernel_rfl)) (by kernel_rfl) ?_
  exact (HC (nK pg wJ R) (lI [a0]) w R (fun _ _ h => h) h)
def Hx : FA := ⟨Bo, fun i => .leaf ([], []) []⟩
def D4 : List ResultVar := [.cell 2 65]
noncomputable def GC : Code := kJ Tryd.f41
def Dd (R : K1) (eM : Value) (w : World) : Prop :=
  cO pg (jB 65) w fun t2 w =>
  cO pg (eF .eql 3 (.tmp 3) (.const (.int .i64 0)) eM (.int .i64 0)) w fun t4 w =>
  lM t4
    (cO pg (iE 30 36 [(0, (.int .i64 4)), (1, (.int .i64 3)), (2, (.int .i64 2)), (3, (.int .i64 2)), (4, (.int .i64 2)), (5, (.int .i64 2)), (6, (.int .i64 2)), (7, (.int .i64 2)), (8, (.int .i64 2)), (9, (.int .i64 2)), (10, (.int .i64 2)), (11, (.int .i64 2)), (12, (.int .i64 2)), (13, (.int .i64 1)), (14, (.int .i64 1)), (15, (.int .i64 1)), (16, (.int .i64 2)), (17, (.int .i64 2)), (18, (.int .i64 2)), (19, (.int .i64 2)), (20, (.int .i64 2)), (21, (.int .i64 2)), (22, (.int .i64 2)), (23, (.int .i64 2)), (24, (.int .i64 2)), (25, (.int .i64 3)), (26, (.int .i64 2)), (27, (.int .i64 1)), (28, (.int .i64 1)), (29, (.int .i64 1)), (30, (.int .i64 1)), (31, (.int .i64 1)), (32, (.int .i64 (-1))), (33, (.int .i64 (-1))), (34, (.int .i64 (-1))), (35, (.int .i64 (-1)))]) w fun t5 w =>
    cO pg (iH 65 [(0, (.int .i64 6)), (1, t5)]) w fun t6 w =>
    cO pg (fG 65 t2 t6) w fun _u w =>
    qB pg 65 t2 w fun r0 => R r0 w)
    (cO pg (eF .eql 3 (.tmp 7) (.const (.int .i64 1)) eM (.int .i64 1)) w fun t8 w =>
    lM t8
      (cO pg (iE 30 29 [(0, (.int .i64 1)), (1, (.int .i64 1)), (2, (.int .i64 1)), (3, (.int .i64 1)), (4, (.int .i64 1)), (5, (.int .i64 1)), (6, (.int .i64 2)), (7, (.int .i64 2)), (8, (.int .i64 2)), (9, (.int .i64 1)), (10, (.int .i64 1)), (11, (.int .i64 1)), (12, (.int .i64 1)), (13, (.int .i64 1)), (14, (.int .i64 1)), (15, (.int .i64 1)), (16, (.int .i64 1)), (17, (.int .i64 1)), (18, (.int .i64 1)), (19, (.int .i64 1)), (20, (.int .i64 1)), (21, (.int .i64 1)), (22, (.int .i64 1)), (23, (.int .i64 1)), (24, (.int .i64 (-1))), (25, (.int .i64 (-1))), (26, (.int .i64 (-1))), (27, (.int .i64 (-1))), (28, (.int .i64 (-1)))]) w fun t9 w =>
      cO pg (iH 65 [(0, (.int .i64 5)), (1, t9)]) w fun t10 w =>
      cO pg (fG 65 t2 t10) w fun _u w =>
      qB pg 65 t2 w fun r0 => R r0 w)
      (cO pg (iE 30 53 [(0, (.int .i64 1)), (1, (.int .i64 4)), (2, (.int .i64 3)), (3, (.int .i64 2)), (4, (.int .i64 2)), (5, (.int .i64 2)), (6, (.int .i64 2)), (7, (.int .i64 2)), (8, (.int .i64 2)), (9, (.int .i64 1)), (10, (.int .i64 1)), (11, (.int .i64 1)), (12, (.int .i64 1)), (13, (.int .i64 1)), (14, (.int .i64 1)), (15, (.int .i64 1)), (16, (.int .i64 1)), (17, (.int .i64 1)), (18, (.int .i64 1)), (19, (.int .i64 1)), (20, (.int .i64 1)), (21, (.int .i64 1)), (22, (.int .i64 1)), (23, (.int .i64 1)), (24, (.int .i64 1)), (25, (.int .i64 1)), (26, (.int .i64 1)), (27, (.int .i64 1)), (28, (.int .i64 1)), (29, (.int .i64 1)), (30, (.int .i64 1)), (31, (.int .i64 1)), (32, (.int .i64 1)), (33, (.int .i64 1)), (34, (.int .i64 1)), (35, (.int .i64 1)), (36, (.int .i64 1)), (37, (.int .i64 1)), (38, (.int .i64 1)), (39, (.int .i64 1)), (40, (.int .i64 1)), (41, (.int .i64 1)), (42, (.int .i64 1)), (43, (.int .i64 1)), (44, (.int .i64 1)), (45, (.int .i64 1)), (46, (.int .i64 (-1))), (47, (.int .i64 (-1))), (48, (.int .i64 (-1))), (49, (.int .i64 (-1))), (50, (.int .i64 (-1))), (51, (.int .i64 (-1))), (52, (.int .i64 (-1)))]) w fun t11 w =>
      cO pg (iH 65 [(0, (.int .i64 6)), (1, t11)]) w fun t12 w =>
      cO pg (fG 65 t2 t12) w fun _u w =>
      qB pg 65 t2 w fun r0 => R r0 w))
theorem M7 (R : K1) (hr : HR D4 R Q) (h : Dd R (g 0) w) : eK pg Hx GC Q g w :=
  dU (kn := no) (l := []) (by kernel_rfl) h kT hr trivial
def Qr (a0 : Value) (w : World) (R : K1) : Prop :=
  Dd R a0 w
theorem Ov {a0 : Value} {w : World} {R : K1} (h : Qr a0 w R) : hJ pg Bo #[a0] w R := by
  refine gJ (ann := Hx) (fn := Tryd.f41) (c := GC) (args := [a0]) (rs := D4) (N := 13) TrydM.mixed (by kernel_rfl) Tryd.func41 (by kernel_rfl) (by kernel_rfl) (by kernel_rfl) (of_decide_eq_true (by kernel_rfl)) (by kernel_rfl) ?_
  exact (M7 (nK pg D4 R) (lI [a0]) w R (fun _ _ h => h) h)
def hY : FA := ⟨CQ, fun i => .leaf ([], []) []⟩
def uH : List ResultVar := [.tmp 2]
noncomputable def gV : Code := kJ Tryd.f42
def AT (R : K1) (gZ : Value) (w : World) : Prop :=
  R gZ w
theorem OB (R : K1) (hr : HR uH R Q) (h : AT R (g 3) w) : eK pg hY (aA 1 (aA 2 gV)) Q g w :=
  dU (kn := no) (l := []) (by kernel_rfl) h kT hr trivial
def Bk (kn : K3) (yC gZ lO : Value) (w : World) : Prop :=
  cO pg (eF .add 3 (.tmp 11) (.const (.int .i64 1)) lO (.int .i64 1)) w fun t12 w =>
  kn yC gZ t12 w
theorem PP (kn : K3) (hn : ∀ g w, kn (g 0) (g 3) (g 4) w → Q .normal g w) (h : Bk kn (g 0) (g 3) (g 4) w) : eK pg hY (aA 1 (aA 1 (bI (bI (aA 1 (bJ 1 (aA 2 gV))))))) Q g w :=
  dU (kr := no) (l := []) (by kernel_rfl) h hn kT trivial
def AM (kn : K5) (k2 : K3) (yC gZ lO UT UQ : Value) (w : World) : Prop :=
  cO pg (eF .lss 3 (.tmp 16) (.const (.int .i64 8)) UQ (.int .i64 8)) w fun t17 w =>
  lM t17
    (cO pg (eF .rem 5 (.tmp 21) (.const (.int .u8 2)) UT (.int .u8 2)) w fun t22 w =>
    cO pg (eF .eql 5 (.tmp 22) (.const (.int .u8 1)) t22 (.int .u8 1)) w fun t23 w =>
    cO pg (iE 96 1 [(0, t23)]) w fun t24 w =>
    cO pg (nA .append #[96, 96] 96 [gZ, t24]) w fun t25 w =>
    cO pg (eF .quo 5 (.tmp 26) (.const (.int .u8 2)) UT (.int .u8 2)) w fun t27 w =>
    cO pg (eF .add 3 (.tmp 18) (.const (.int .i64 1)) UQ (.int .i64 1)) w fun t19 w =>
    kn yC t25 lO t27 t19 w)
    (k2 yC gZ lO w)
theorem P0 (kn : K5) (k2 : K3) (hn : ∀ g w, kn (g 0) (g 3) (g 4) (g 5) (g 6) w → Q .normal g w) (h2 : ∀ g w, k2 (g 0) (g 3) (g 4) w → Q (.exit 2) g w) (h : AM kn k2 (g 0) (g 3) (g 4) (g 5) (g 6) w) : eK pg hY (bI (bI (aA 2 (bI (bJ 1 (aA 1 (bI (bI (aA 1 (bJ 1 (aA 2 gV))))))))))) Q g w :=
  dU (kr := no) (l := [(2, fun g w => k2 (g 0) (g 3) (g 4) w)]) (by kernel_rfl) h hn kT ⟨h2, trivial⟩
def E4 (k2 : K3) (yC gZ lO UT UQ : Value) (w : World) : Prop :=
  iY (fun (X : (Value × Value × Value) → K0) (t : Value × Value × Value) (w : World) => AM (fun _ gZ _ UT UQ w => X (gZ, UT, UQ) w) k2 yC t.1 lO t.2.1 t.2.2 w) (gZ, UT, UQ) w
theorem PT (k2 : K3) (h2 : ∀ g w, k2 (g 0) (g 3) (g 4) w → Q (.exit 2) g w) (h : E4 k2 (g 0) (g 3) (g 4) (g 5) (g 6) w) : eK pg hY (bI (aA 2 (bI (bJ 1 (aA 1 (bI (bI (aA 1 (bJ 1 (aA 2 gV)))))))))) Q g w := by
  refine iV (T := Value × Value × Value) (fun g : jT => (g 3, g 5, g 6)) (fun X t w => AM (fun _ gZ _ UT UQ w => X (gZ, UT, UQ) w) k2 (g 0) t.1 (g 4) t.2.1 t.2.2 w) _ (by kernel_rfl) h (fun X g1 w1 ha hL => ?_)
  rw [← dW (s := 0) ha (by kernel_rfl)] at hL
  rw [← dW (s := 4) ha (by kernel_rfl)] at hL
  exact (P0 (fH (fun g2 w2 => X ((fun g : jT => (g 3, g 5, g 6)) g2) w2) Q) g1 w1 (fun _ gZ _ UT UQ w => X (gZ, UT, UQ) w) k2 (fun _ _ h => h) h2 hL)
def AW (kn : K3) (yC gZ lO UT UQ : Value) (w : World) : Prop :=
  E4 kn yC gZ lO UT UQ w
theorem Qf (kn : K3) (hn : ∀ g w, kn (g 0) (g 3) (g 4) w → Q .normal g w) (h : AW kn (g 0) (g 3) (g 4) (g 5) (g 6) w) : eK pg hY (aA 2 (bI (bJ 1 (aA 1 (bI (bI (aA 1 (bJ 1 (aA 2 gV))))))))) Q g w :=
  iU 2 _ g w (by kernel_rfl) (PT (vI 2 Q) g w kn hn h)
def FJ (kn : K5) (yC gZ lO : Value) (w : World) : Prop :=
  cO pg (UO 9 yC lO) w fun t15 w =>
  kn yC gZ lO t15 (.int .i64 0) w
theorem OZ (kn : K5) (hn : ∀ g w, kn (g 0) (g 3) (g 4) (g 5) (g 6) w → Q .normal g w) (h : FJ kn (g 0) (g 3) (g 4) w) : eK pg hY (bJ 2 (bI (bJ 1 (aA 1 (bI (bI (aA 1 (bJ 1 (aA 2 gV))))))))) Q g w :=
  dU (kr := no) (l := []) (by kernel_rfl) h hn kT trivial
def E5 (kn : K3) (yC gZ lO : Value) (w : World) : Prop :=
  FJ (fun yC gZ lO UT UQ w => AW kn yC gZ lO UT UQ w) yC gZ lO w
theorem PW (kn : K3) (hn : ∀ g w, kn (g 0) (g 3) (g 4) w → Q .normal g w) (h : E5 kn (g 0) (g 3) (g 4) w) : eK pg hY (bI (bJ 1 (aA 1 (bI (bI (aA 1 (bJ 1 (aA 2 gV)))))))) Q g w :=
  dX 2 _ g w (by kernel_rfl) (OZ (fH (fun g w => eK pg hY (aA 2 (bI (bJ 1 (aA 1 (bI (bI (aA 1 (bJ 1 (aA 2 gV))))))))) Q g w) Q) g w (fun yC gZ lO UT UQ w => AW kn yC gZ lO UT UQ w) (fun g w h => eN (K := fun g w => eK pg hY (aA 2 (bI (bJ 1 (aA 1 (bI (bI (aA 1 (bJ 1 (aA 2 gV))))))))) Q g w) (Qf Q g w kn hn h)) h)
def Fh (kn : K3) (yC gZ lO : Value) (w : World) : Prop :=
  E5 kn yC gZ lO w
theorem P7 (kn : K3) (hn : ∀ g w, kn (g 0) (g 3) (g 4) w → Q .normal g w) (h : Fh kn (g 0) (g 3) (g 4) w) : eK pg hY (bJ 1 (aA 1 (bI (bI (aA 1 (bJ 1 (aA 2 gV))))))) Q g w :=
  iU 1 _ g w (by kernel_rfl) (PW (vI 1 Q) g w kn hn h)
def A6 (kn : K3) (yC gZ lO : Value) (w : World) : Prop :=
  Fh (fun yC gZ lO w => Bk kn yC gZ lO w) yC gZ lO w
theorem PH (kn : K3) (hn : ∀ g w, kn (g 0) (g 3) (g 4) w → Q .normal g w) (h : A6 kn (g 0) (g 3) (g 4) w) : eK pg hY (aA 1 (bI (bI (aA 1 (bJ 1 (aA 2 gV)))))) Q g w :=
  dX 1 _ g w (by kernel_rfl) (P7 (fH (fun g w => eK pg hY (aA 1 (aA 1 (bI (bI (aA 1 (bJ 1 (aA 2 gV))))))) Q g w) Q) g w (fun yC gZ lO w => Bk kn yC gZ lO w) (fun g w h => eN (K := fun g w => eK pg hY (aA 1 (aA 1 (bI (bI (aA 1 (bJ 1 (aA 2 gV))))))) Q g w) (PP Q g w kn hn h)) h)
def DH (kn : K3) (k0 : K1) (yC gZ lO : Value) (w : World) : Prop :=
  cO pg (nA .len #[9] 3 [yC]) w fun t9 w =>
  cO pg (eF .lss 3 (.tmp 7) (.tmp 9) lO t9) w fun t10 w =>
  lM t10
    (kn yC gZ lO w)
    (k0 gZ w)
theorem Mu (kn : K3) (k0 : K1) (hn : ∀ g w, kn (g 0) (g 3) (g 4) w → Q .normal g w) (h0 : ∀ g w, k0 (g 3) w → Q (.exit 0) g w) (h : DH kn k0 (g 0) (g 3) (g 4) w) : eK pg hY (bJ 1 (bI (bI (aA 1 (bJ 1 (aA 2 gV)))))) Q g w :=
  dU (kr := no) (l := [(0, fun g w => k0 (g 3) w)]) (by kernel_rfl) h hn kT ⟨h0, trivial⟩
def yV (kn : K3) (k0 : K1) (yC gZ lO : Value) (w : World) : Prop :=
  DH (fun yC gZ lO w => A6 kn yC gZ lO w) k0 yC gZ lO w
theorem Mv (kn : K3) (k0 : K1) (hn : ∀ g w, kn (g 0) (g 3) (g 4) w → Q .normal g w) (h0 : ∀ g w, k0 (g 3) w → Q (.exit 0) g w) (h : yV kn k0 (g 0) (g 3) (g 4) w) : eK pg hY (bI (bI (aA 1 (bJ 1 (aA 2 gV))))) Q g w :=
  dX 1 _ g w (by kernel_rfl) (Mu (fH (fun g w => eK pg hY (aA 1 (bI (bI (aA 1 (bJ 1 (aA 2 gV)))))) Q g w) Q) g w (fun yC gZ lO w => A6 kn yC gZ lO w) k0 (fun g w h => eN (K := fun g w => eK pg hY (aA 1 (bI (bI (aA 1 (bJ 1 (aA 2 gV)))))) Q g w) (PH Q g w kn hn h)) h0 h)
def DQ (k0 : K1) (yC gZ lO : Value) (w : World) : Prop :=
  iY (fun (X : (Value × Value) → K0) (t : Value × Value) (w : World) => yV (fun _ gZ lO w => X (gZ, lO) w) k0 yC t.1 t.2 w) (gZ, lO) w
theorem Ny (k0 : K1) (h0 : ∀ g w, k0 (g 3) w → Q (.exit 0) g w) (h : DQ k0 (g 0) (g 3) (g 4) w) : eK pg hY (bI (aA 1 (bJ 1 (aA 2 gV)))) Q g w := by
  refine iV (T := Value × Value) (fun g : jT => (g 3, g 4)) (fun X t w => yV (fun _ gZ lO w => X (gZ, lO) w) k0 (g 0) t.1 t.2 w) _ (by kernel_rfl) h (fun X g1 w1 ha hL => ?_)
  rw [← dW (s := 0) ha (by kernel_rfl)] at hL
  exact (Mv (fH (fun g2 w2 => X ((fun g : jT => (g 3, g 4)) g2) w2) Q) g1 w1 (fun _ gZ lO w => X (gZ, lO) w) k0 (fun _ _ h => h) h0 hL)
def wY (kn : K1) (yC gZ lO : Value) (w : World) : Prop :=
  DQ kn yC gZ lO w
theorem Mt (kn : K1) (hn : ∀ g w, kn (g 3) w → Q .normal g w) (h : wY kn (g 0) (g 3) (g 4) w) : eK pg hY (aA 1 (bJ 1 (aA 2 gV))) Q g w :=
  iU 0 _ g w (by kernel_rfl) (Ny (vI 0 Q) g w kn hn h)
def DA (kn : K3) (yC gZ : Value) (w : World) : Prop :=
  kn yC gZ (.int .i64 0) w
theorem Me (kn : K3) (hn : ∀ g w, kn (g 0) (g 3) (g 4) w → Q .normal g w) (h : DA kn (g 0) (g 3) w) : eK pg hY (bJ 1 (bJ 1 (aA 2 gV))) Q g w :=
  dU (kr := no) (l := []) (by kernel_rfl) h hn kT trivial
def C6 (kn : K1) (yC gZ : Value) (w : World) : Prop :=
  DA (fun yC gZ lO w => wY kn yC gZ lO w) yC gZ w
theorem Mn (kn : K1) (hn : ∀ g w, kn (g 3) w → Q .normal g w) (h : C6 kn (g 0) (g 3) w) : eK pg hY (bJ 1 (aA 2 gV)) Q g w :=
  dX 1 _ g w (by kernel_rfl) (Me (fH (fun g w => eK pg hY (aA 1 (bJ 1 (aA 2 gV))) Q g w) Q) g w (fun yC gZ lO w => wY kn yC gZ lO w) (fun g w h => eN (K := fun g w => eK pg hY (aA 1 (bJ 1 (aA 2 gV))) Q g w) (Mt Q g w kn hn h)) h)
def yB (R : K1) (yC gZ : Value) (w : World) : Prop :=
  C6 (fun gZ w => AT R gZ w) yC gZ w
theorem NU (R : K1) (hr : HR uH R Q) (h : yB R (g 0) (g 3) w) : eK pg hY (aA 2 gV) Q g w :=
  dX 1 _ g w (by kernel_rfl) (Mn (fH (fun g w => eK pg hY (aA 1 (aA 2 gV)) Q g w) Q) g w (fun gZ w => AT R gZ w) (fun g w h => eN (K := fun g w => eK pg hY (aA 1 (aA 2 gV)) Q g w) (OB Q g w R hr h)) h)
def Do (kn : K2) (yC : Value) (w : World) : Prop :=
  kn yC (.slice none 0 0) w
theorem NS (kn : K2) (hn : ∀ g w, kn (g 0) (g 3) w → Q .normal g w) (h : Do kn (g 0) w) : eK pg hY (bJ 2 gV) Q g w :=
  dU (kr := no) (l := []) (by kernel_rfl) h hn kT trivial
def Dt (R : K1) (yC : Value) (w : World) : Prop :=
  Do (fun yC gZ w => yB R yC gZ w) yC w
theorem MA (R : K1) (hr : HR uH R Q) (h : Dt R (g 0) w) : eK pg hY gV Q g w :=
  dX 2 _ g w (by kernel_rfl) (NS (fH (fun g w => eK pg hY (aA 2 gV) Q g w) Q) g w (fun yC gZ w => yB R yC gZ w) (fun g w h => eN (K := fun g w => eK pg hY (aA 2 gV) Q g w) (NU Q g w R hr h)) h)
def Sr (a0 : Value) (w : World) (R : K1) : Prop :=
  Dt R a0 w
theorem Q8 {a0 : Value} {w : World} {R : K1} (h : Sr a0 w R) : hJ pg CQ #[a0] w R := by
  refine gJ (ann := hY) (fn := Tryd.f42) (c := gV) (args := [a0]) (rs := uH) (N := 29) TrydM.mixed (by kernel_rfl) Tryd.func42 (by kernel_rfl) (by kernel_rfl) (by kernel_rfl) (of_decide_eq_true (by kernel_rfl)) (by kernel_rfl) ?_
  exact (MA (nK pg uH R) (lI [a0]) w R (fun _ _ h => h) h)
def Is : FA := ⟨qE, fun i => .leaf ([], []) []⟩
def Fi : List ResultVar := [.cell 4 99, .tmp 5, .tmp 6]
noncomputable def Hr : Code := kJ Tryd.f43
def FD (R : K1) (Ek XW : Value) (w : World) : Prop :=
  cO pg (FZ 99 Ek) w fun Te w =>
  cO pg (jB 99) w fun t4 w =>
  cO pg (eF .lss 3 (.tmp 8) (.const (.int .i64 0)) XW (.int .i64 0)) w fun t9 w =>
  Gd (kA t9 false) (fun K => K XW w) w fun t11 w =>
  Gd (kA t9 false) (fun K => cO pg (eF .gtr 3 (.tmp 11) (.const (.int .i64 32)) t11 (.int .i64 32)) w K) w fun t12 w =>
  cO pg (kL t9 (.bool true) t12) w fun t13 w =>
  lM t13
    (cO pg (eQ 99 Te) w fun t14 w =>
    cO pg (fG 99 t4 t14) w fun _u w =>
    qB pg 99 t4 w fun r0 => R (.tuple #[r0, (.int .u64 0), (.int .i64 1)]) w)
    (cO pg (fF 99 Te 0) w fun t15 w =>
    cO pg (eQ 96 t15) w fun t16 w =>
    cO pg (nA .len #[96] 3 [t16]) w fun t17 w =>
    cO pg (fF 99 Te 1) w fun t18 w =>
    cO pg (eQ 3 t18) w fun t19 w =>
    cO pg (eF .sub 3 (.tmp 17) (.tmp 19) t17 t19) w fun t20 w =>
    cO pg (eF .lss 3 (.tmp 20) (.tmp 21) t20 XW) w fun t22 w =>
    lM t22
      (cO pg (eQ 99 Te) w fun t23 w =>
      cO pg (fG 99 t4 t23) w fun _u w =>
      qB pg 99 t4 w fun r0 => R (.tuple #[r0, (.int .u64 0), (.int .i64 10)]) w)
      (cO pg (fF 99 Te 0) w fun t24 w =>
      cO pg (eQ 96 t24) w fun t25 w =>
      cO pg (fF 99 Te 1) w fun t26 w =>
      cO pg (eQ 3 t26) w fun t27 w =>
      cO pg (fF 99 Te 1) w fun t28 w =>
      cO pg (eQ 3 t28) w fun t29 w =>
      cO pg (eF .add 3 (.tmp 29) (.tmp 30) t29 XW) w fun t31 w =>
      cO pg (mM 96 t25 (some t27) (some t31) none) w fun t32 w =>
      hJ pg zF #[t32] w fun t33 w =>
      cO pg (fF 99 Te 1) w fun t34 w =>
      cO pg (eQ 3 t34) w fun t35 w =>
      cO pg (eF .add 3 (.tmp 35) (.tmp 36) t35 XW) w fun t37 w =>
      cO pg (fF 99 Te 1) w fun t38 w =>
      cO pg (fG 3 t38 t37) w fun _u w =>
      cO pg (eQ 99 Te) w fun t39 w =>
      cO pg (fG 99 t4 t39) w fun _u w =>
      qB pg 99 t4 w fun r0 => R (.tuple #[r0, t33, (.int .i64 0)]) w))
theorem OE (R : K1) (hr : HR Fi R Q) (h : FD R (g 0) (g 1) w) : eK pg Is Hr Q g w :=
  dU (kn := no) (l := []) (by kernel_rfl) h kT hr trivial
def RZ (a0 a1 : Value) (w : World) (R : K1) : Prop :=
  FD R a0 a1 w
theorem QS {a0 a1 : Value} {w : World} {R : K1} (h : RZ a0 a1 w R) : hJ pg qE #[a0, a1] w R := by
  refine gJ (ann := Is) (fn := Tryd.f43) (c := Hr) (args := [a0, a1]) (rs := Fi) (N := 41) TrydM.mixed (by kernel_rfl) Tryd.func43 (by kernel_rfl) (by kernel_rfl) (by kernel_rfl) (of_decide_eq_true (by kernel_rfl)) (by kernel_rfl) ?_
  exact (OE (nK pg Fi R) (lI [a0, a1]) w R (fun _ _ h => h) h)
def HW : FA := ⟨CV, fun i => .leaf ([], []) []⟩
def F8 : List ResultVar := [.cell 4 99, .tmp 5, .tmp 6]
noncomputable def Hz : Code := kJ Tryd.f45
def F0 (R : K1) (Ek RS : Value) (w : World) : Prop :=
  cO pg (FZ 99 Ek) w fun Te w =>
  cO pg (jB 99) w fun t4 w =>
  cO pg (eF .add 3 (.tmp 13) (.const (.int .i64 1)) RS (.int .i64 1)) w fun t14 w =>
  hJ pg AN #[t14] w fun t15 w =>
  cO pg (eQ 99 Te) w fun t17 w =>
  cO pg (eF .sub 3 (.tmp 18) (.const (.int .i64 1)) t15 (.int .i64 1)) w fun t19 w =>
  hJ pg qE #[t17, t19] w fun t20 w =>
  cO pg (jC t20 0) w fun t21 w =>
  cO pg (jC t20 1) w fun t22 w =>
  cO pg (jC t20 2) w fun t23 w =>
  cO pg (fG 99 Te t21) w fun _u w =>
  cO pg (eF .neq 27 (.tmp 24) (.const (.int .i64 0)) t23 (.int .i64 0)) w fun t25 w =>
  lM t25
    (cO pg (eQ 99 Te) w fun t26 w =>
    cO pg (fG 99 t4 t26) w fun _u w =>
    qB pg 99 t4 w fun r0 => R (.tuple #[r0, (.int .i64 0), t23]) w)
    (cO pg (eF .sub 3 (.tmp 28) (.const (.int .i64 1)) t15 (.int .i64 1)) w fun t29 w =>
    hJ pg nC #[t29] w fun t30 w =>
    cO pg (eF .mul 3 (.const (.int .i64 2)) (.tmp 31) (.int .i64 2) t30) w fun t32 w =>
    cO pg (eF .sub 3 (.tmp 32) (.const (.int .i64 2)) t32 (.int .i64 2)) w fun t33 w =>
    cO pg (eF .sub 3 (.tmp 33) (.tmp 34) t33 RS) w fun t35 w =>
    cO pg (mL 83 3 t22) w fun t37 w =>
    cO pg (eF .lss 3 (.tmp 37) (.tmp 38) t37 t35) w fun t39 w =>
    lM t39
      (cO pg (eQ 99 Te) w fun t40 w =>
      cO pg (mL 83 3 t22) w fun t42 w =>
      cO pg (fG 99 t4 t40) w fun _u w =>
      qB pg 99 t4 w fun r0 => R (.tuple #[r0, t42, (.int .i64 0)]) w)
      (cO pg (eQ 99 Te) w fun t44 w =>
      hJ pg qE #[t44, (.int .i64 1)] w fun t45 w =>
      cO pg (jC t45 0) w fun t46 w =>
      cO pg (jC t45 1) w fun t47 w =>
      cO pg (jC t45 2) w fun t48 w =>
      cO pg (fG 99 Te t46) w fun _u w =>
      cO pg (eF .neq 27 (.tmp 49) (.const (.int .i64 0)) t48 (.int .i64 0)) w fun t50 w =>
      lM t50
        (cO pg (eQ 99 Te) w fun t51 w =>
        cO pg (fG 99 t4 t51) w fun _u w =>
        qB pg 99 t4 w fun r0 => R (.tuple #[r0, (.int .i64 0), t48]) w)
        (cO pg (eF .eql 83 (.tmp 53) (.const (.int .u64 1)) t47 (.int .u64 1)) w fun t54 w =>
        lM t54
          (cO pg (eQ 99 Te) w fun t55 w =>
          cO pg (mL 83 3 t22) w fun t57 w =>
          cO pg (eF .add 3 (.tmp 57) (.tmp 58) t57 t30) w fun t59 w =>
          cO pg (eF .sub 3 (.tmp 59) (.tmp 60) t59 t35) w fun t61 w =>
          cO pg (fG 99 t4 t55) w fun _u w =>
          qB pg 99 t4 w fun r0 => R (.tuple #[r0, t61, (.int .i64 0)]) w)
          (cO pg (eQ 99 Te) w fun t62 w =>
          cO pg (mL 83 3 t22) w fun t64 w =>
          cO pg (fG 99 t4 t62) w fun _u w =>
          qB pg 99 t4 w fun r0 => R (.tuple #[r0, t64, (.int .i64 0)]) w))))
theorem Qe (R : K1) (hr : HR F8 R Q) (h : F0 R (g 0) (g 1) w) : eK pg HW Hz Q g w :=
  dU (kn := no) (l := []) (by kernel_rfl) h kT hr trivial
def Sj (a0 a1 : Value) (w : World) (R : K1) : Prop :=
  F0 R a0 a1 w
theorem Q5 {a0 a1 : Value} {w : World} {R : K1} (h : Sj a0 a1 w R) : hJ pg CV #[a0, a1] w R := by
  refine gJ (ann := HW) (fn := Tryd.f45) (c := Hz) (args := [a0, a1]) (rs := F8) (N := 65) TrydM.mixed (by kernel_rfl) Tryd.func45 (by kernel_rfl) (by kernel_rfl) (by kernel_rfl) (of_decide_eq_true (by kernel_rfl)) (by kernel_rfl) ?_
  exact (Qe (nK pg F8 R) (lI [a0, a1]) w R (fun _ _ h => h) h)
def H9 : FA := ⟨CG, fun i => .leaf ([], []) []⟩
def F4 : List ResultVar := [.tmp 2]
noncomputable def Hu : Code := kJ Tryd.f46
def FQ (R : K1) (Ek : Value) (w : World) : Prop :=
  cO pg (FZ 99 Ek) w fun f_1 w =>
  cO pg (fF 99 f_1 1) w fun t3 w =>
  cO pg (eQ 3 t3) w fun t4 w =>
  cO pg (eF .add 3 (.tmp 4) (.const (.int .i64 7)) t4 (.int .i64 7)) w fun t5 w =>
  cO pg (eF .quo 3 (.tmp 5) (.const (.int .i64 8)) t5 (.int .i64 8)) w fun t6 w =>
  R t6 w
theorem Qg (R : K1) (hr : HR F4 R Q) (h : FQ R (g 0) w) : eK pg H9 Hu Q g w :=
  dU (kn := no) (l := []) (by kernel_rfl) h kT hr trivial
def Sb (a0 : Value) (w : World) (R : K1) : Prop :=
  FQ R a0 w
theorem Rr {a0 : Value} {w : World} {R : K1} (h : Sb a0 w R) : hJ pg CG #[a0] w R := by
  refine gJ (ann := H9) (fn := Tryd.f46) (c := Hu) (args := [a0]) (rs := F4) (N := 7) TrydM.mixed (by kernel_rfl) Tryd.func46 (by kernel_rfl) (by kernel_rfl) (by kernel_rfl) (of_decide_eq_true (by kernel_rfl)) (by kernel_rfl) ?_
  exact (Qg (nK pg F4 R) (lI [a0]) w R (fun _ _ h => h) h)
def Hy : FA := ⟨AL, fun i => .leaf ([], []) []⟩
def Ds : List ResultVar := [.tmp 4]
noncomputable def Gn : Code := kJ Tryd.f47
def C3 (R : K1) (Ox C2 : Value) (w : World) : Prop :=
  cO pg (FZ 65 Ox) w fun c_2 w =>
  cO pg (eQ 65 c_2) w fun t6 w =>
  hJ pg EQ #[t6] w fun t7 w =>
  cO pg (V6 .not t7) w fun t9 w =>
  lM t9
    (R (.int .i64 1) w)
    (cO pg (fF 65 c_2 0) w fun t10 w =>
    cO pg (eQ 3 t10) w fun t11 w =>
    cO pg (eF .gtr 3 (.tmp 11) (.tmp 12) t11 C2) w fun t13 w =>
    lM t13
      (R (.int .i64 12) w)
      (R (.int .i64 0) w))
theorem M1 (R : K1) (hr : HR Ds R Q) (h : C3 R (g 0) (g 1) w) : eK pg Hy Gn Q g w :=
  dU (kn := no) (l := []) (by kernel_rfl) h kT hr trivial
def Qu (a0 a1 : Value) (w : World) (R : K1) : Prop :=
  C3 R a0 a1 w
theorem Pg {a0 a1 : Value} {w : World} {R : K1} (h : Qu a0 a1 w R) : hJ pg AL #[a0, a1] w R := by
  refine gJ (ann := Hy) (fn := Tryd.f47) (c := Gn) (args := [a0, a1]) (rs := Ds) (N := 14) TrydM.mixed (by kernel_rfl) Tryd.func47 (by kernel_rfl) (by kernel_rfl) (by kernel_rfl) (of_decide_eq_true (by kernel_rfl)) (by kernel_rfl) ?_
  exact (M1 (nK pg Ds R) (lI [a0, a1]) w R (fun _ _ h => h) h)
def kN : FA := ⟨ES, fun i => .leaf ([], []) []⟩
def zE : List ResultVar := [.tmp 6]
noncomputable def kG : Code := kJ Tryd.f51
def CO (R : K1) (JM : Value) (w : World) : Prop :=
  R JM w
theorem Q3 (R : K1) (hr : HR zE R Q) (h : CO R (g 7) w) : eK pg kN (aA 1 (aA 2 kG)) Q g w :=
  dU (kn := no) (l := []) (by kernel_rfl) h kT hr trivial
def CF (kn : K5) (k0 : K1) (IK CN JM t10 t11 : Value) (w : World) : Prop :=
  cO pg (eF .lss 3 (.tmp 11) (.tmp 10) t11 t10) w fun t12 w =>
  lM t12
    (cO pg (eF .add 3 (.tmp 14) (.tmp 15) CN t11) w fun t16 w =>
    cO pg (eF .quo 3 (.tmp 19) (.const (.int .i64 8)) t16 (.int .i64 8)) w fun t20 w =>
    cO pg (iF 22 IK t20) w fun t21 w =>
    cO pg (eQ 5 t21) w fun t22 w =>
    cO pg (eF .rem 3 (.tmp 23) (.const (.int .i64 8)) t16 (.int .i64 8)) w fun t24 w =>
    cO pg (eF .shr 5 (.tmp 22) (.tmp 24) t22 t24) w fun t25 w =>
    cO pg (eF .and 5 (.tmp 25) (.const (.int .u8 1)) t25 (.int .u8 1)) w fun t26 w =>
    cO pg (mL 5 83 t26) w fun t27 w =>
    cO pg (mL 3 75 t11) w fun t29 w =>
    cO pg (eF .shl 83 (.tmp 27) (.tmp 29) t27 t29) w fun t30 w =>
    cO pg (eF .or 83 (.tmp 17) (.tmp 30) JM t30) w fun t31 w =>
    cO pg (eF .add 3 (.tmp 11) (.const (.int .i64 1)) t11 (.int .i64 1)) w fun t32 w =>
    kn IK CN t31 t10 t32 w)
    (k0 JM w)
theorem Q4 (kn : K5) (k0 : K1) (hn : ∀ g w, kn (g 0) (g 1) (g 7) (g 10) (g 11) w → Q .normal g w) (h0 : ∀ g w, k0 (g 7) w → Q (.exit 0) g w) (h : CF kn k0 (g 0) (g 1) (g 7) (g 10) (g 11) w) : eK pg kN (bI (bI (aA 1 (bJ 1 (aA 2 kG))))) Q g w :=
  dU (kr := no) (l := [(0, fun g w => k0 (g 7) w)]) (by kernel_rfl) h hn kT ⟨h0, trivial⟩
def G3 (k0 : K1) (IK CN JM t10 t11 : Value) (w : World) : Prop :=
  iY (fun (X : (Value × Value) → K0) (t : Value × Value) (w : World) => CF (fun _ _ JM _ t11 w => X (JM, t11) w) k0 IK CN t.1 t10 t.2 w) (JM, t11) w
theorem QN (k0 : K1) (h0 : ∀ g w, k0 (g 7) w → Q (.exit 0) g w) (h : G3 k0 (g 0) (g 1) (g 7) (g 10) (g 11) w) : eK pg kN (bI (aA 1 (bJ 1 (aA 2 kG)))) Q g w := by
  refine iV (T := Value × Value) (fun g : jT => (g 7, g 11)) (fun X t w => CF (fun _ _ JM _ t11 w => X (JM, t11) w) k0 (g 0) (g 1) t.1 (g 10) t.2 w) _ (by kernel_rfl) h (fun X g1 w1 ha hL => ?_)
  rw [← dW (s := 0) ha (by kernel_rfl)] at hL
  rw [← dW (s := 1) ha (by kernel_rfl)] at hL
  rw [← dW (s := 10) ha (by kernel_rfl)] at hL
  exact (Q4 (fH (fun g2 w2 => X ((fun g : jT => (g 7, g 11)) g2) w2) Q) g1 w1 (fun _ _ JM _ t11 w => X (JM, t11) w) k0 (fun _ _ h => h) h0 hL)
def CM (kn : K1) (IK CN JM t10 t11 : Value) (w : World) : Prop :=
  G3 kn IK CN JM t10 t11 w
theorem Rh (kn : K1) (hn : ∀ g w, kn (g 7) w → Q .normal g w) (h : CM kn (g 0) (g 1) (g 7) (g 10) (g 11) w) : eK pg kN (aA 1 (bJ 1 (aA 2 kG))) Q g w :=
  iU 0 _ g w (by kernel_rfl) (QN (vI 0 Q) g w kn hn h)
def G6 (kn : K5) (IK CN Ch JM : Value) (w : World) : Prop :=
  kn IK CN JM Ch (.int .i64 0) w
theorem Rw (kn : K5) (hn : ∀ g w, kn (g 0) (g 1) (g 7) (g 10) (g 11) w → Q .normal g w) (h : G6 kn (g 0) (g 1) (g 2) (g 7) w) : eK pg kN (bJ 1 (bJ 1 (aA 2 kG))) Q g w :=
  dU (kr := no) (l := []) (by kernel_rfl) h hn kT trivial
def GI (kn : K1) (IK CN Ch JM : Value) (w : World) : Prop :=
  G6 (fun IK CN JM t10 t11 w => CM kn IK CN JM t10 t11 w) IK CN Ch JM w
theorem QP (kn : K1) (hn : ∀ g w, kn (g 7) w → Q .normal g w) (h : GI kn (g 0) (g 1) (g 2) (g 7) w) : eK pg kN (bJ 1 (aA 2 kG)) Q g w :=
  dX 1 _ g w (by kernel_rfl) (Rw (fH (fun g w => eK pg kN (aA 1 (bJ 1 (aA 2 kG))) Q g w) Q) g w (fun IK CN JM t10 t11 w => CM kn IK CN JM t10 t11 w) (fun g w h => eN (K := fun g w => eK pg kN (aA 1 (bJ 1 (aA 2 kG))) Q g w) (Rh Q g w kn hn h)) h)
def CL (R : K1) (IK CN Ch JM : Value) (w : World) : Prop :=
  GI (fun JM w => CO R JM w) IK CN Ch JM w
theorem Rc (R : K1) (hr : HR zE R Q) (h : CL R (g 0) (g 1) (g 2) (g 7) w) : eK pg kN (aA 2 kG) Q g w :=
  dX 1 _ g w (by kernel_rfl) (QP (fH (fun g w => eK pg kN (aA 1 (aA 2 kG)) Q g w) Q) g w (fun JM w => CO R JM w) (fun g w h => eN (K := fun g w => eK pg kN (aA 1 (aA 2 kG)) Q g w) (Q3 Q g w R hr h)) h)
def GU (kn : K4) (IK CN Ch : Value) (w : World) : Prop :=
  kn IK CN Ch (.int .u64 0) w
theorem Rg (kn : K4) (hn : ∀ g w, kn (g 0) (g 1) (g 2) (g 7) w → Q .normal g w) (h : GU kn (g 0) (g 1) (g 2) w) : eK pg kN (bJ 2 kG) Q g w :=
  dU (kr := no) (l := []) (by kernel_rfl) h hn kT trivial
def G8 (R : K1) (IK CN Ch : Value) (w : World) : Prop :=
  GU (fun IK CN Ch JM w => CL R IK CN Ch JM w) IK CN Ch w
theorem QT (R : K1) (hr : HR zE R Q) (h : G8 R (g 0) (g 1) (g 2) w) : eK pg kN kG Q g w :=
  dX 2 _ g w (by kernel_rfl) (Rg (fH (fun g w => eK pg kN (aA 2 kG) Q g w) Q) g w (fun IK CN Ch JM w => CL R IK CN Ch JM w) (fun g w h => eN (K := fun g w => eK pg kN (aA 2 kG) Q g w) (Rc Q g w R hr h)) h)
def SW (a0 a1 a2 : Value) (w : World) (R : K1) : Prop :=
  G8 R a0 a1 a2 w
theorem R3 {a0 a1 a2 : Value} {w : World} {R : K1} (h : SW a0 a1 a2 w R) : hJ pg ES #[a0, a1, a2] w R := by
  refine gJ (ann := kN) (fn := Tryd.f51) (c := kG) (args := [a0, a1, a2]) (rs := zE) (N := 34) TrydM.mixed (by kernel_rfl) Tryd.func51 (by kernel_rfl) (by kernel_rfl) (by kernel_rfl) (of_decide_eq_true (by kernel_rfl)) (by kernel_rfl) ?_
  exact (QT (nK pg zE R) (lI [a0, a1, a2]) w R (fun _ _ h => h) h)
def iR : FA := ⟨zF, fun i => .leaf ([], []) []⟩
def qZ : List ResultVar := [.tmp 2]
noncomputable def iJ : Code := kJ Tryd.f52
def vP (R : K1) (rW : Value) (w : World) : Prop :=
  R rW w
theorem Km (R : K1) (hr : HR qZ R Q) (h : vP R (g 3) w) : eK pg iR (aA 1 (aA 2 iJ)) Q g w :=
  dU (kn := no) (l := []) (by kernel_rfl) h kT hr trivial
def qW (kn : K3) (IE rW lO : Value) (w : World) : Prop :=
  cO pg (eF .sub 3 (.tmp 10) (.const (.int .i64 1)) lO (.int .i64 1)) w fun t11 w =>
  kn IE rW t11 w
theorem Ka (kn : K3) (hn : ∀ g w, kn (g 0) (g 3) (g 4) w → Q .normal g w) (h : qW kn (g 0) (g 3) (g 4) w) : eK pg iR (aA 2 (bI (bI (aA 1 (bJ 1 (aA 2 iJ)))))) Q g w :=
  dU (kr := no) (l := []) (by kernel_rfl) h hn kT trivial
def Cs (kn : K3) (k0 : K1) (IE rW lO : Value) (w : World) : Prop :=
  cO pg (eF .geq 3 (.tmp 8) (.const (.int .i64 0)) lO (.int .i64 0)) w fun t9 w =>
  lM t9
    (cO pg (eF .mul 83 (.tmp 12) (.const (.int .u64 2)) rW (.int .u64 2)) w fun t13 w =>
    cO pg (iF 96 IE lO) w fun t16 w =>
    cO pg (eQ 4 t16) w fun t17 w =>
    lM t17
      (cO pg (eF .add 83 (.tmp 18) (.const (.int .u64 1)) t13 (.int .u64 1)) w fun t19 w =>
      kn IE t19 lO w)
      (kn IE t13 lO w))
    (k0 rW w)
theorem Lp (kn : K3) (k0 : K1) (hn : ∀ g w, kn (g 0) (g 3) (g 4) w → Q .normal g w) (h0 : ∀ g w, k0 (g 3) w → Q (.exit 0) g w) (h : Cs kn k0 (g 0) (g 3) (g 4) w) : eK pg iR (bJ 2 (bI (bI (aA 1 (bJ 1 (aA 2 iJ)))))) Q g w :=
  dU (kr := no) (l := [(0, fun g w => k0 (g 3) w)]) (by kernel_rfl) h hn kT ⟨h0, trivial⟩
def wC (kn : K3) (k0 : K1) (IE rW lO : Value) (w : World) : Prop :=
  Cs (fun IE rW lO w => qW kn IE rW lO w) k0 IE rW lO w
theorem Ku (kn : K3) (k0 : K1) (hn : ∀ g w, kn (g 0) (g 3) (g 4) w → Q .normal g w) (h0 : ∀ g w, k0 (g 3) w → Q (.exit 0) g w) (h : wC kn k0 (g 0) (g 3) (g 4) w) : eK pg iR (bI (bI (aA 1 (bJ 1 (aA 2 iJ))))) Q g w :=
  dX 2 _ g w (by kernel_rfl) (Lp (fH (fun g w => eK pg iR (aA 2 (bI (bI (aA 1 (bJ 1 (aA 2 iJ)))))) Q g w) Q) g w (fun IE rW lO w => qW kn IE rW lO w) k0 (fun g w h => eN (K := fun g w => eK pg iR (aA 2 (bI (bI (aA 1 (bJ 1 (aA 2 iJ)))))) Q g w) (Ka Q g w kn hn h)) h0 h)
def BQ (k0 : K1) (IE rW lO : Value) (w : World) : Prop :=
  iY (fun (X : (Value × Value) → K0) (t : Value × Value) (w : World) => wC (fun _ rW lO w => X (rW, lO) w) k0 IE t.1 t.2 w) (rW, lO) w
theorem Ld (k0 : K1) (h0 : ∀ g w, k0 (g 3) w → Q (.exit 0) g w) (h : BQ k0 (g 0) (g 3) (g 4) w) : eK pg iR (bI (aA 1 (bJ 1 (aA 2 iJ)))) Q g w := by
  refine iV (T := Value × Value) (fun g : jT => (g 3, g 4)) (fun X t w => wC (fun _ rW lO w => X (rW, lO) w) k0 (g 0) t.1 t.2 w) _ (by kernel_rfl) h (fun X g1 w1 ha hL => ?_)
  rw [← dW (s := 0) ha (by kernel_rfl)] at hL
  exact (Ku (fH (fun g2 w2 => X ((fun g : jT => (g 3, g 4)) g2) w2) Q) g1 w1 (fun _ rW lO w => X (rW, lO) w) k0 (fun _ _ h => h) h0 hL)
def uY (kn : K1) (IE rW lO : Value) (w : World) : Prop :=
  BQ kn IE rW lO w
theorem KK (kn : K1) (hn : ∀ g w, kn (g 3) w → Q .normal g w) (h : uY kn (g 0) (g 3) (g 4) w) : eK pg iR (aA 1 (bJ 1 (aA 2 iJ))) Q g w :=
  iU 0 _ g w (by kernel_rfl) (Ld (vI 0 Q) g w kn hn h)
def BH (kn : K3) (IE rW : Value) (w : World) : Prop :=
  cO pg (nA .len #[96] 3 [IE]) w fun t6 w =>
  cO pg (eF .sub 3 (.tmp 6) (.const (.int .i64 1)) t6 (.int .i64 1)) w fun t7 w =>
  kn IE rW t7 w
theorem KB (kn : K3) (hn : ∀ g w, kn (g 0) (g 3) (g 4) w → Q .normal g w) (h : BH kn (g 0) (g 3) w) : eK pg iR (bJ 1 (bJ 1 (aA 2 iJ))) Q g w :=
  dU (kr := no) (l := []) (by kernel_rfl) h hn kT trivial
def Co (kn : K1) (IE rW : Value) (w : World) : Prop :=
  BH (fun IE rW lO w => uY kn IE rW lO w) IE rW w
theorem Kv (kn : K1) (hn : ∀ g w, kn (g 3) w → Q .normal g w) (h : Co kn (g 0) (g 3) w) : eK pg iR (bJ 1 (aA 2 iJ)) Q g w :=
  dX 1 _ g w (by kernel_rfl) (KB (fH (fun g w => eK pg iR (aA 1 (bJ 1 (aA 2 iJ))) Q g w) Q) g w (fun IE rW lO w => uY kn IE rW lO w) (fun g w h => eN (K := fun g w => eK pg iR (aA 1 (bJ 1 (aA 2 iJ))) Q g w) (KK Q g w kn hn h)) h)
def vQ (R : K1) (IE rW : Value) (w : World) : Prop :=
  Co (fun rW w => vP R rW w) IE rW w
theorem LQ (R : K1) (hr : HR qZ R Q) (h : vQ R (g 0) (g 3) w) : eK pg iR (aA 2 iJ) Q g w :=
  dX 1 _ g w (by kernel_rfl) (Kv (fH (fun g w => eK pg iR (aA 1 (aA 2 iJ)) Q g w) Q) g w (fun rW w => vP R rW w) (fun g w h => eN (K := fun g w => eK pg iR (aA 1 (aA 2 iJ)) Q g w) (Km Q g w R hr h)) h)
def Ar (kn : K2) (IE : Value) (w : World) : Prop :=
  kn IE (.int .u64 0) w
theorem I8 (kn : K2) (hn : ∀ g w, kn (g 0) (g 3) w → Q .normal g w) (h : Ar kn (g 0) w) : eK pg iR (bJ 2 iJ) Q g w :=
  dU (kr := no) (l := []) (by kernel_rfl) h hn kT trivial
def AF (R : K1) (IE : Value) (w : World) : Prop :=
  Ar (fun IE rW w => vQ R IE rW w) IE w
theorem JF (R : K1) (hr : HR qZ R Q) (h : AF R (g 0) w) : eK pg iR iJ Q g w :=
  dX 2 _ g w (by kernel_rfl) (I8 (fH (fun g w => eK pg iR (aA 2 iJ) Q g w) Q) g w (fun IE rW w => vQ R IE rW w) (fun g w h => eN (K := fun g w => eK pg iR (aA 2 iJ) Q g w) (LQ Q g w R hr h)) h)
def M3 (a0 : Value) (w : World) (R : K1) : Prop :=
  AF R a0 w
theorem Nx {a0 : Value} {w : World} {R : K1} (h : M3 a0 w R) : hJ pg zF #[a0] w R := by
  refine gJ (ann := iR) (fn := Tryd.f52) (c := iJ) (args := [a0]) (rs := qZ) (N := 21) TrydM.mixed (by kernel_rfl) Tryd.func52 (by kernel_rfl) (by kernel_rfl) (by kernel_rfl) (of_decide_eq_true (by kernel_rfl)) (by kernel_rfl) ?_
  exact (JF (nK pg qZ R) (lI [a0]) w R (fun _ _ h => h) h)
def kX : FA := ⟨AN, fun i => .leaf ([], []) []⟩
def rZ : List ResultVar := [.tmp 2]
noncomputable def kP : Code := kJ Tryd.f53
def yP (R : K1) (lN : Value) (w : World) : Prop :=
  R lN w
theorem Mg (R : K1) (hr : HR rZ R Q) (h : yP R (g 3) w) : eK pg kX (aA 1 (aA 2 kP)) Q g w :=
  dU (kn := no) (l := []) (by kernel_rfl) h kT hr trivial
def xL (kn : K2) (k0 : K1) (zS lN : Value) (w : World) : Prop :=
  cO pg (eF .gtr 3 (.tmp 4) (.const (.int .i64 0)) zS (.int .i64 0)) w fun t5 w =>
  lM t5
    (cO pg (eF .quo 3 (.tmp 6) (.const (.int .i64 2)) zS (.int .i64 2)) w fun t7 w =>
    cO pg (eF .add 3 (.tmp 8) (.const (.int .i64 1)) lN (.int .i64 1)) w fun t9 w =>
    kn t7 t9 w)
    (k0 lN w)
theorem Np (kn : K2) (k0 : K1) (hn : ∀ g w, kn (g 0) (g 3) w → Q .normal g w) (h0 : ∀ g w, k0 (g 3) w → Q (.exit 0) g w) (h : xL kn k0 (g 0) (g 3) w) : eK pg kX (bI (bI (bJ 1 (aA 2 kP)))) Q g w :=
  dU (kr := no) (l := [(0, fun g w => k0 (g 3) w)]) (by kernel_rfl) h hn kT ⟨h0, trivial⟩
def DS (k0 : K1) (zS lN : Value) (w : World) : Prop :=
  iY (fun (X : (Value × Value) → K0) (t : Value × Value) (w : World) => xL (fun zS lN w => X (zS, lN) w) k0 t.1 t.2 w) (zS, lN) w
theorem L3 (k0 : K1) (h0 : ∀ g w, k0 (g 3) w → Q (.exit 0) g w) (h : DS k0 (g 0) (g 3) w) : eK pg kX (bI (bJ 1 (aA 2 kP))) Q g w := by
  refine iV (T := Value × Value) (fun g : jT => (g 0, g 3)) (fun X t w => xL (fun zS lN w => X (zS, lN) w) k0 t.1 t.2 w) _ (by kernel_rfl) h (fun X g1 w1 ha hL => ?_)
  exact (Np (fH (fun g2 w2 => X ((fun g : jT => (g 0, g 3)) g2) w2) Q) g1 w1 (fun zS lN w => X (zS, lN) w) k0 (fun _ _ h => h) h0 hL)
def Du (kn : K1) (zS lN : Value) (w : World) : Prop :=
  DS kn zS lN w
theorem M9 (kn : K1) (hn : ∀ g w, kn (g 3) w → Q .normal g w) (h : Du kn (g 0) (g 3) w) : eK pg kX (bJ 1 (aA 2 kP)) Q g w :=
  iU 0 _ g w (by kernel_rfl) (L3 (vI 0 Q) g w kn hn h)
def xO (R : K1) (zS lN : Value) (w : World) : Prop :=
  Du (fun lN w => yP R lN w) zS lN w
theorem Nk (R : K1) (hr : HR rZ R Q) (h : xO R (g 0) (g 3) w) : eK pg kX (aA 2 kP) Q g w :=
  dX 1 _ g w (by kernel_rfl) (M9 (fH (fun g w => eK pg kX (aA 1 (aA 2 kP)) Q g w) Q) g w (fun lN w => yP R lN w) (fun g w h => eN (K := fun g w => eK pg kX (aA 1 (aA 2 kP)) Q g w) (Mg Q g w R hr h)) h)
def C4 (kn : K2) (zS : Value) (w : World) : Prop :=
  kn zS (.int .i64 0) w
theorem NE (kn : K2) (hn : ∀ g w, kn (g 0) (g 3) w → Q .normal g w) (h : C4 kn (g 0) w) : eK pg kX (bJ 2 kP) Q g w :=
  dU (kr := no) (l := []) (by kernel_rfl) h hn kT trivial
def Dx (R : K1) (zS : Value) (w : World) : Prop :=
  C4 (fun zS lN w => xO R zS lN w) zS w
theorem MC (R : K1) (hr : HR rZ R Q) (h : Dx R (g 0) w) : eK pg kX kP Q g w :=
  dX 2 _ g w (by kernel_rfl) (NE (fH (fun g w => eK pg kX (aA 2 kP) Q g w) Q) g w (fun zS lN w => xO R zS lN w) (fun g w h => eN (K := fun g w => eK pg kX (aA 2 kP) Q g w) (Nk Q g w R hr h)) h)
def QD (a0 : Value) (w : World) (R : K1) : Prop :=
  Dx R a0 w
theorem PG {a0 : Value} {w : World} {R : K1} (h : QD a0 w R) : hJ pg AN #[a0] w R := by
  refine gJ (ann := kX) (fn := Tryd.f53) (c := kP) (args := [a0]) (rs := rZ) (N := 11) TrydM.mixed (by kernel_rfl) Tryd.func53 (by kernel_rfl) (by kernel_rfl) (by kernel_rfl) (of_decide_eq_true (by kernel_rfl)) (by kernel_rfl) ?_
  exact (MC (nK pg rZ R) (lI [a0]) w R (fun _ _ h => h) h)
def iD : FA := ⟨EQ, fun i => .leaf ([], []) []⟩
def lS : List ResultVar := [.tmp 2]
noncomputable def hZ : Code := kJ Tryd.f54
def CR (R : K1) (fO kS : Value) (w : World) : Prop :=
  cO pg (fF 65 fO 0) w fun t61 w =>
  cO pg (eQ 3 t61) w fun t62 w =>
  hJ pg nC #[t62] w fun t63 w =>
  cO pg (eF .eql 3 (.tmp 60) (.tmp 63) kS t63) w fun t64 w =>
  R t64 w
theorem QL (R : K1) (hr : HR lS R Q) (h : CR R (g 1) (g 3) w) : eK pg iD (aA 1 (aA 3 hZ)) Q g w :=
  dU (kn := no) (l := []) (by kernel_rfl) h kT hr trivial
def xU (kn : K3) (fO kS lO : Value) (w : World) : Prop :=
  cO pg (eF .add 3 (.tmp 42) (.const (.int .i64 1)) lO (.int .i64 1)) w fun t43 w =>
  kn fO kS t43 w
theorem Q1 (kn : K3) (hn : ∀ g w, kn (g 1) (g 3) (g 4) w → Q .normal g w) (h : xU kn (g 1) (g 3) (g 4) w) : eK pg iD (aA 1 (aA 1 (bI (bI (aA 1 (bJ 1 (aA 3 hZ))))))) Q g w :=
  dU (kr := no) (l := []) (by kernel_rfl) h hn kT trivial
def yN (kn : K3) (fO kS lO ZX : Value) (w : World) : Prop :=
  cO pg (eF .add 3 (.tmp 57) (.tmp 58) kS ZX) w fun t59 w =>
  kn fO t59 lO w
theorem Rt (kn : K3) (hn : ∀ g w, kn (g 1) (g 3) (g 4) w → Q .normal g w) (h : yN kn (g 1) (g 3) (g 4) (g 5) w) : eK pg iD (aA 3 (bI (bJ 1 (aA 1 (bI (bI (aA 1 (bJ 1 (aA 3 hZ))))))))) Q g w :=
  dU (kr := no) (l := []) (by kernel_rfl) h hn kT trivial
def yJ (kn : K4) (R : K1) (fO kS lO : Value) (w : World) : Prop :=
  cO pg (fF 65 fO 1) w fun t44 w =>
  cO pg (eQ 30 t44) w fun t45 w =>
  cO pg (iF 30 t45 lO) w fun t47 w =>
  cO pg (eQ 3 t47) w fun t48 w =>
  cO pg (eF .lss 3 (.tmp 49) (.const (.int .i64 (-1))) t48 (.int .i64 (-1))) w fun t50 w =>
  Gd (kA t50 false) (fun K => K t48 w) w fun t52 w =>
  Gd (kA t50 false) (fun K => cO pg (eF .gtr 3 (.tmp 52) (.const (.int .i64 32768)) t52 (.int .i64 32768)) w K) w fun t53 w =>
  cO pg (kL t50 (.bool true) t53) w fun t54 w =>
  lM t54
    (R (.bool false) w)
    (cO pg (eF .lss 3 (.tmp 55) (.const (.int .i64 0)) t48 (.int .i64 0)) w fun t56 w =>
    lM t56
      (kn fO kS lO (.int .i64 1) w)
      (kn fO kS lO t48 w))
theorem Rz (kn : K4) (R : K1) (hn : ∀ g w, kn (g 1) (g 3) (g 4) (g 5) w → Q .normal g w) (hr : HR lS R Q) (h : yJ kn R (g 1) (g 3) (g 4) w) : eK pg iD (bJ 3 (bI (bJ 1 (aA 1 (bI (bI (aA 1 (bJ 1 (aA 3 hZ))))))))) Q g w :=
  dU (l := []) (by kernel_rfl) h hn hr trivial
def zL (kn : K3) (R : K1) (fO kS lO : Value) (w : World) : Prop :=
  yJ (fun fO kS lO ZX w => yN kn fO kS lO ZX w) R fO kS lO w
theorem Rk (kn : K3) (R : K1) (hn : ∀ g w, kn (g 1) (g 3) (g 4) w → Q .normal g w) (hr : HR lS R Q) (h : zL kn R (g 1) (g 3) (g 4) w) : eK pg iD (bI (bJ 1 (aA 1 (bI (bI (aA 1 (bJ 1 (aA 3 hZ)))))))) Q g w :=
  dX 3 _ g w (by kernel_rfl) (Rz (fH (fun g w => eK pg iD (aA 3 (bI (bJ 1 (aA 1 (bI (bI (aA 1 (bJ 1 (aA 3 hZ))))))))) Q g w) Q) g w (fun fO kS lO ZX w => yN kn fO kS lO ZX w) R (fun g w h => eN (K := fun g w => eK pg iD (aA 3 (bI (bJ 1 (aA 1 (bI (bI (aA 1 (bJ 1 (aA 3 hZ))))))))) Q g w) (Rt Q g w kn hn h)) hr h)
def xN (kn : K3) (R : K1) (fO kS lO : Value) (w : World) : Prop :=
  zL kn R fO kS lO w
theorem QZ (kn : K3) (R : K1) (hn : ∀ g w, kn (g 1) (g 3) (g 4) w → Q .normal g w) (hr : HR lS R Q) (h : xN kn R (g 1) (g 3) (g 4) w) : eK pg iD (bJ 1 (aA 1 (bI (bI (aA 1 (bJ 1 (aA 3 hZ))))))) Q g w :=
  iU 1 _ g w (by kernel_rfl) (Rk (vI 1 Q) g w kn R hn hr h)
def uB (kn : K3) (R : K1) (fO kS lO : Value) (w : World) : Prop :=
  xN (fun fO kS lO w => xU kn fO kS lO w) R fO kS lO w
theorem Q7 (kn : K3) (R : K1) (hn : ∀ g w, kn (g 1) (g 3) (g 4) w → Q .normal g w) (hr : HR lS R Q) (h : uB kn R (g 1) (g 3) (g 4) w) : eK pg iD (aA 1 (bI (bI (aA 1 (bJ 1 (aA 3 hZ)))))) Q g w :=
  dX 1 _ g w (by kernel_rfl) (QZ (fH (fun g w => eK pg iD (aA 1 (aA 1 (bI (bI (aA 1 (bJ 1 (aA 3 hZ))))))) Q g w) Q) g w (fun fO kS lO w => xU kn fO kS lO w) R (fun g w h => eN (K := fun g w => eK pg iD (aA 1 (aA 1 (bI (bI (aA 1 (bJ 1 (aA 3 hZ))))))) Q g w) (Q1 Q g w kn hn h)) hr h)
def tX (kn : K3) (k0 : K2) (fO kS lO : Value) (w : World) : Prop :=
  cO pg (fF 65 fO 1) w fun t38 w =>
  cO pg (eQ 30 t38) w fun t39 w =>
  cO pg (nA .len #[30] 3 [t39]) w fun t40 w =>
  cO pg (eF .lss 3 (.tmp 37) (.tmp 40) lO t40) w fun t41 w =>
  lM t41
    (kn fO kS lO w)
    (k0 fO kS w)
theorem QR (kn : K3) (k0 : K2) (hn : ∀ g w, kn (g 1) (g 3) (g 4) w → Q .normal g w) (h0 : ∀ g w, k0 (g 1) (g 3) w → Q (.exit 0) g w) (h : tX kn k0 (g 1) (g 3) (g 4) w) : eK pg iD (bJ 1 (bI (bI (aA 1 (bJ 1 (aA 3 hZ)))))) Q g w :=
  dU (kr := no) (l := [(0, fun g w => k0 (g 1) (g 3) w)]) (by kernel_rfl) h hn kT ⟨h0, trivial⟩
def qF (kn : K3) (k0 : K2) (R : K1) (fO kS lO : Value) (w : World) : Prop :=
  tX (fun fO kS lO w => uB kn R fO kS lO w) k0 fO kS lO w
theorem Ra (kn : K3) (k0 : K2) (R : K1) (hn : ∀ g w, kn (g 1) (g 3) (g 4) w → Q .normal g w) (h0 : ∀ g w, k0 (g 1) (g 3) w → Q (.exit 0) g w) (hr : HR lS R Q) (h : qF kn k0 R (g 1) (g 3) (g 4) w) : eK pg iD (bI (bI (aA 1 (bJ 1 (aA 3 hZ))))) Q g w :=
  dX 1 _ g w (by kernel_rfl) (QR (fH (fun g w => eK pg iD (aA 1 (bI (bI (aA 1 (bJ 1 (aA 3 hZ)))))) Q g w) Q) g w (fun fO kS lO w => uB kn R fO kS lO w) k0 (fun g w h => eN (K := fun g w => eK pg iD (aA 1 (bI (bI (aA 1 (bJ 1 (aA 3 hZ)))))) Q g w) (Q7 Q g w kn R hn hr h)) h0 h)
def F6 (k0 : K2) (R : K1) (fO kS lO : Value) (w : World) : Prop :=
  iY (fun (X : (Value × Value) → K0) (t : Value × Value) (w : World) => qF (fun _ kS lO w => X (kS, lO) w) k0 R fO t.1 t.2 w) (kS, lO) w
theorem Pw (k0 : K2) (R : K1) (h0 : ∀ g w, k0 (g 1) (g 3) w → Q (.exit 0) g w) (hr : HR lS R Q) (h : F6 k0 R (g 1) (g 3) (g 4) w) : eK pg iD (bI (aA 1 (bJ 1 (aA 3 hZ)))) Q g w := by
  refine iV (T := Value × Value) (fun g : jT => (g 3, g 4)) (fun X t w => qF (fun _ kS lO w => X (kS, lO) w) k0 R (g 1) t.1 t.2 w) _ (by kernel_rfl) h (fun X g1 w1 ha hL => ?_)
  rw [← dW (s := 1) ha (by kernel_rfl)] at hL
  exact (Ra (fH (fun g2 w2 => X ((fun g : jT => (g 3, g 4)) g2) w2) Q) g1 w1 (fun _ kS lO w => X (kS, lO) w) k0 R (fun _ _ h => h) h0 hr hL)
def Be (kn : K2) (R : K1) (fO kS lO : Value) (w : World) : Prop :=
  F6 kn R fO kS lO w
theorem P8 (kn : K2) (R : K1) (hn : ∀ g w, kn (g 1) (g 3) w → Q .normal g w) (hr : HR lS R Q) (h : Be kn R (g 1) (g 3) (g 4) w) : eK pg iD (aA 1 (bJ 1 (aA 3 hZ))) Q g w :=
  iU 0 _ g w (by kernel_rfl) (Pw (vI 0 Q) g w kn R hn hr h)
def FL (kn : K3) (fO kS : Value) (w : World) : Prop :=
  kn fO kS (.int .i64 0) w
theorem P1 (kn : K3) (hn : ∀ g w, kn (g 1) (g 3) (g 4) w → Q .normal g w) (h : FL kn (g 1) (g 3) w) : eK pg iD (bJ 1 (bJ 1 (aA 3 hZ))) Q g w :=
  dU (kr := no) (l := []) (by kernel_rfl) h hn kT trivial
def F1 (kn : K2) (R : K1) (fO kS : Value) (w : World) : Prop :=
  FL (fun fO kS lO w => Be kn R fO kS lO w) fO kS w
theorem O9 (kn : K2) (R : K1) (hn : ∀ g w, kn (g 1) (g 3) w → Q .normal g w) (hr : HR lS R Q) (h : F1 kn R (g 1) (g 3) w) : eK pg iD (bJ 1 (aA 3 hZ)) Q g w :=
  dX 1 _ g w (by kernel_rfl) (P1 (fH (fun g w => eK pg iD (aA 1 (bJ 1 (aA 3 hZ))) Q g w) Q) g w (fun fO kS lO w => Be kn R fO kS lO w) (fun g w h => eN (K := fun g w => eK pg iD (aA 1 (bJ 1 (aA 3 hZ))) Q g w) (P8 Q g w kn R hn hr h)) h)
def AQ (R : K1) (fO kS : Value) (w : World) : Prop :=
  F1 (fun fO kS w => CR R fO kS w) R fO kS w
theorem Oq (R : K1) (hr : HR lS R Q) (h : AQ R (g 1) (g 3) w) : eK pg iD (aA 3 hZ) Q g w :=
  dX 1 _ g w (by kernel_rfl) (O9 (fH (fun g w => eK pg iD (aA 1 (aA 3 hZ)) Q g w) Q) g w (fun fO kS w => CR R fO kS w) R (fun g w h => eN (K := fun g w => eK pg iD (aA 1 (aA 3 hZ)) Q g w) (QL Q g w R hr h)) hr h)
def Fz (kn : K2) (R : K1) (Ox : Value) (w : World) : Prop :=
  cO pg (FZ 65 Ox) w fun fO w =>
  cO pg (fF 65 fO 0) w fun t6 w =>
  cO pg (eQ 3 t6) w fun t7 w =>
  cO pg (eF .lss 3 (.tmp 7) (.const (.int .i64 5)) t7 (.int .i64 5)) w fun t8 w =>
  Gd (kA t8 false) (fun K => cO pg (fF 65 fO 0) w K) w fun t10 w =>
  Gd (kA t8 false) (fun K => cO pg (eQ 3 t10) w K) w fun t11 w =>
  Gd (kA t8 false) (fun K => cO pg (eF .gtr 3 (.tmp 11) (.const (.int .i64 15)) t11 (.int .i64 15)) w K) w fun t12 w =>
  cO pg (kL t8 (.bool true) t12) w fun t13 w =>
  Gd (kA t13 false) (fun K => cO pg (fF 65 fO 1) w K) w fun t15 w =>
  Gd (kA t13 false) (fun K => cO pg (eQ 30 t15) w K) w fun t16 w =>
  Gd (kA t13 false) (fun K => cO pg (nA .len #[30] 3 [t16]) w K) w fun t17 w =>
  Gd (kA t13 false) (fun K => cO pg (eF .eql 3 (.tmp 17) (.const (.int .i64 0)) t17 (.int .i64 0)) w K) w fun t18 w =>
  cO pg (kL t13 (.bool true) t18) w fun t19 w =>
  Gd (kA t19 false) (fun K => cO pg (fF 65 fO 1) w K) w fun t21 w =>
  Gd (kA t19 false) (fun K => cO pg (eQ 30 t21) w K) w fun t22 w =>
  Gd (kA t19 false) (fun K => cO pg (nA .len #[30] 3 [t22]) w K) w fun t23 w =>
  Gd (kA t19 false) (fun K => cO pg (eF .gtr 3 (.tmp 23) (.const (.int .i64 256)) t23 (.int .i64 256)) w K) w fun t24 w =>
  cO pg (kL t19 (.bool true) t24) w fun t25 w =>
  Gd (kA t25 false) (fun K => cO pg (fF 65 fO 1) w K) w fun t27 w =>
  Gd (kA t25 false) (fun K => cO pg (eQ 30 t27) w K) w fun t28 w =>
  Gd (kA t25 false) (fun K => cO pg (fF 65 fO 1) w K) w fun t29 w =>
  Gd (kA t25 false) (fun K => cO pg (eQ 30 t29) w K) w fun t30 w =>
  Gd (kA t25 false) (fun K => cO pg (nA .len #[30] 3 [t30]) w K) w fun t31 w =>
  Gd (kA t25 false) (fun K => cO pg (eF .sub 3 (.tmp 31) (.const (.int .i64 1)) t31 (.int .i64 1)) w K) w fun t32 w =>
  Gd (kA t25 false) (fun K => cO pg (iF 30 t28 t32) w K) w fun t33 w =>
  Gd (kA t25 false) (fun K => cO pg (eQ 3 t33) w K) w fun t34 w =>
  Gd (kA t25 false) (fun K => cO pg (eF .eql 3 (.tmp 34) (.const (.int .i64 0)) t34 (.int .i64 0)) w K) w fun t35 w =>
  cO pg (kL t25 (.bool true) t35) w fun t36 w =>
  lM t36
    (R (.bool false) w)
    (kn fO (.int .i64 0) w)
theorem Or (kn : K2) (R : K1) (hn : ∀ g w, kn (g 1) (g 3) w → Q .normal g w) (hr : HR lS R Q) (h : Fz kn R (g 0) w) : eK pg iD (bJ 3 hZ) Q g w :=
  dU (l := []) (by kernel_rfl) h hn hr trivial
def Fv (R : K1) (Ox : Value) (w : World) : Prop :=
  Fz (fun fO kS w => AQ R fO kS w) R Ox w
theorem Pr (R : K1) (hr : HR lS R Q) (h : Fv R (g 0) w) : eK pg iD hZ Q g w :=
  dX 3 _ g w (by kernel_rfl) (Or (fH (fun g w => eK pg iD (aA 3 hZ) Q g w) Q) g w (fun fO kS w => AQ R fO kS w) R (fun g w h => eN (K := fun g w => eK pg iD (aA 3 hZ) Q g w) (Oq Q g w R hr h)) hr h)
def SS (a0 : Value) (w : World) (R : K1) : Prop :=
  Fv R a0 w
theorem Sm {a0 : Value} {w : World} {R : K1} (h : SS a0 w R) : hJ pg EQ #[a0] w R := by
  refine gJ (ann := iD) (fn := Tryd.f54) (c := hZ) (args := [a0]) (rs := lS) (N := 65) TrydM.mixed (by kernel_rfl) Tryd.func54 (by kernel_rfl) (by kernel_rfl) (by kernel_rfl) (of_decide_eq_true (by kernel_rfl)) (by kernel_rfl) ?_
  exact (Pr (nK pg lS R) (lI [a0]) w R (fun _ _ h => h) h)
end Go.Proofs.YtoepfjgekpdddaaDoor
namespace Go.Proofs.YtoepfjgekpdddaaDoor
open Go Go.En
set_option linter.unusedVariables false
set_option maxRecDepth 20000
attribute [local irreducible] Go.En.eK
variable (Q : Exit → jT → World → Prop) (g : jT) (w : World)
def lZ : FA := ⟨A1, fun i => .leaf ([], []) []⟩
def sG : List ResultVar := [.tmp 0]
noncomputable def lQ : Code := kJ Tryd.f6
def zC (R : K1) (t0 : Value) (w : World) : Prop :=
  R t0 w
theorem Mo (R : K1) (hr : HR sG R Q) (h : zC R (g 0) w) : eK pg lZ (aA 1 (aA 4 lQ)) Q g w :=
  dU (kn := no) (l := []) (by kernel_rfl) h kT hr trivial
def Di (kn : K1) (t1 Ch ZB Yl ZN ZO : Value) (w : World) : Prop :=
  cO pg (fF 26 t1 1) w fun t23 w =>
  cO pg (eQ 24 t23) w fun t24 w =>
  cO pg (nA .len #[24] 3 [t24]) w fun t25 w =>
  cO pg (eF .eql 3 (.tmp 25) (.const (.int .i64 1)) t25 (.int .i64 1)) w fun t26 w =>
  Gd (kA t26 true) (fun K => cO pg (fF 26 t1 1) w K) w fun t28 w =>
  Gd (kA t26 true) (fun K => cO pg (eQ 24 t28) w K) w fun t29 w =>
  Gd (kA t26 true) (fun K => cO pg (iF 24 t29 (.int .i64 0)) w K) w fun t30 w =>
  Gd (kA t26 true) (fun K => cO pg (fF 32 t30 0) w K) w fun t31 w =>
  Gd (kA t26 true) (fun K => cO pg (eQ 5 t31) w K) w fun t32 w =>
  Gd (kA t26 true) (fun K => cO pg (eF .eql 5 (.tmp 32) (.const (.int .u8 7)) t32 (.int .u8 7)) w K) w fun t33 w =>
  cO pg (kL t26 t33 (.bool false)) w fun t34 w =>
  Gd (kA t34 true) (fun K => K Ch w) w fun t36 w =>
  Gd (kA t34 true) (fun K => cO pg (eF .eql 3 (.tmp 36) (.const (.int .i64 1)) t36 (.int .i64 1)) w K) w fun t37 w =>
  cO pg (kL t34 t37 (.bool false)) w fun t38 w =>
  Gd (kA t38 true) (fun K => K ZB w) w fun t40 w =>
  Gd (kA t38 true) (fun K => cO pg (eF .eql 27 (.tmp 40) (.const (.int .i64 0)) t40 (.int .i64 0)) w K) w fun t41 w =>
  cO pg (kL t38 t41 (.bool false)) w fun t42 w =>
  Gd (kA t42 true) (fun K => cO pg (fF 26 Yl 1) w K) w fun t44 w =>
  Gd (kA t42 true) (fun K => cO pg (eQ 24 t44) w K) w fun t45 w =>
  Gd (kA t42 true) (fun K => cO pg (nA .len #[24] 3 [t45]) w K) w fun t46 w =>
  Gd (kA t42 true) (fun K => cO pg (eF .eql 3 (.tmp 46) (.const (.int .i64 64)) t46 (.int .i64 64)) w K) w fun t47 w =>
  cO pg (kL t42 t47 (.bool false)) w fun t48 w =>
  Gd (kA t48 true) (fun K => K ZN w) w fun t50 w =>
  Gd (kA t48 true) (fun K => cO pg (eF .eql 27 (.tmp 50) (.const (.int .i64 0)) t50 (.int .i64 0)) w K) w fun t51 w =>
  cO pg (kL t48 t51 (.bool false)) w fun t52 w =>
  Gd (kA t52 true) (fun K => K ZO w) w fun t54 w =>
  Gd (kA t52 true) (fun K => cO pg (eF .eql 27 (.tmp 54) (.const (.int .i64 1)) t54 (.int .i64 1)) w K) w fun t55 w =>
  cO pg (kL t52 t55 (.bool false)) w fun t56 w =>
  Gd (kA t56 true) (fun K => hJ pg nE #[(.int .i64 1)] w K) w fun t58 w =>
  Gd (kA t56 true) (fun K => cO pg (eF .eql 3 (.tmp 58) (.const (.int .i64 8)) t58 (.int .i64 8)) w K) w fun t59 w =>
  cO pg (kL t56 t59 (.bool false)) w fun t60 w =>
  Gd (kA t60 true) (fun K => hJ pg nE #[(.int .i64 7)] w K) w fun t62 w =>
  Gd (kA t60 true) (fun K => cO pg (eF .eql 3 (.tmp 62) (.const (.int .i64 0)) t62 (.int .i64 0)) w K) w fun t63 w =>
  cO pg (kL t60 t63 (.bool false)) w fun t64 w =>
  kn t64 w
theorem L7 (kn : K1) (hn : ∀ g w, kn (g 0) w → Q .normal g w) (h : Di kn (g 1) (g 2) (g 3) (g 4) (g 5) (g 7) w) : eK pg lZ (bJ 1 (aA 4 lQ)) Q g w :=
  dU (kr := no) (l := []) (by kernel_rfl) h hn kT trivial
def xF (R : K1) (t1 Ch ZB Yl ZN ZO : Value) (w : World) : Prop :=
  Di (fun t0 w => zC R t0 w) t1 Ch ZB Yl ZN ZO w
theorem NC (R : K1) (hr : HR sG R Q) (h : xF R (g 1) (g 2) (g 3) (g 4) (g 5) (g 7) w) : eK pg lZ (aA 4 lQ) Q g w :=
  dX 1 _ g w (by kernel_rfl) (L7 (fH (fun g w => eK pg lZ (aA 1 (aA 4 lQ)) Q g w) Q) g w (fun t0 w => zC R t0 w) (fun g w h => eN (K := fun g w => eK pg lZ (aA 1 (aA 4 lQ)) Q g w) (Mo Q g w R hr h)) h)
def DY (kn : K6)  (w : World) : Prop :=
  cO pg (iE 22 1 [(0, (.int .u8 7))]) w fun t9 w =>
  cO pg (iH 26 []) w fun t10 w =>
  hJ pg A5 #[(.int .i64 0), (.int .i64 1), t9, t10] w fun t11 w =>
  cO pg (jC t11 0) w fun t12 w =>
  cO pg (jC t11 1) w fun t13 w =>
  cO pg (jC t11 2) w fun t14 w =>
  cO pg (jB 26) w fun t1 w =>
  cO pg (fG 26 t1 t12) w fun _u w =>
  hJ pg oA #[(.int .i64 2)] w fun t16 w =>
  cO pg (jC t16 0) w fun t17 w =>
  cO pg (jC t16 1) w fun t18 w =>
  cO pg (jB 26) w fun Yl w =>
  cO pg (fG 26 Yl t17) w fun _u w =>
  hJ pg oA #[(.int .i64 3)] w fun t20 w =>
  cO pg (jC t20 0) w fun t21 w =>
  cO pg (jC t20 1) w fun t22 w =>
  cO pg (jB 26) w fun t6 w =>
  cO pg (fG 26 t6 t21) w fun _u w =>
  kn t1 t13 t14 Yl t18 t22 w
theorem NQ (kn : K6) (hn : ∀ g w, kn (g 1) (g 2) (g 3) (g 4) (g 5) (g 7) w → Q .normal g w) (h : DY kn w) : eK pg lZ (bJ 4 lQ) Q g w :=
  dU (kr := no) (l := []) (by kernel_rfl) h hn kT trivial
def DZ (R : K1)  (w : World) : Prop :=
  DY (fun t1 Ch ZB Yl ZN ZO w => xF R t1 Ch ZB Yl ZN ZO w) w
theorem NA (R : K1) (hr : HR sG R Q) (h : DZ R w) : eK pg lZ lQ Q g w :=
  dX 4 _ g w (by kernel_rfl) (NQ (fH (fun g w => eK pg lZ (aA 4 lQ) Q g w) Q) g w (fun t1 Ch ZB Yl ZN ZO w => xF R t1 Ch ZB Yl ZN ZO w) (fun g w h => eN (K := fun g w => eK pg lZ (aA 4 lQ) Q g w) (NC Q g w R hr h)) h)
def Qw (w : World) (R : K1) : Prop :=
  DZ R w
theorem PY {w : World} {R : K1} (h : Qw w R) : hJ pg A1 #[] w R := by
  refine gJ (ann := lZ) (fn := Tryd.f6) (c := lQ) (args := []) (rs := sG) (N := 65) TrydM.mixed (by kernel_rfl) Tryd.func6 (by kernel_rfl) (by kernel_rfl) (by kernel_rfl) (of_decide_eq_true (by kernel_rfl)) (by kernel_rfl) ?_
  exact (NA (nK pg sG R) (lI []) w R (fun _ _ h => h) h)
def DB : FA := ⟨oA, fun i => .leaf ([], []) []⟩
def xJ : List ResultVar := [.cell 2 26, .tmp 3]
noncomputable def CA : Code := kJ Tryd.f7
def zM (R : K1) (eM : Value) (w : World) : Prop :=
  cO pg (jB 26) w fun t2 w =>
  hJ pg sD #[eM] w fun t5 w =>
  hJ pg pN #[t5] w fun t6 w =>
  cO pg (jC t6 0) w fun t7 w =>
  cO pg (jC t6 1) w fun t8 w =>
  cO pg (fG 26 t2 t7) w fun _u w =>
  qB pg 26 t2 w fun r0 => R (.tuple #[r0, t8]) w
theorem HQ (R : K1) (hr : HR xJ R Q) (h : zM R (g 0) w) : eK pg DB CA Q g w :=
  dU (kn := no) (l := []) (by kernel_rfl) h kT hr trivial
def H5 (a0 : Value) (w : World) (R : K1) : Prop :=
  zM R a0 w
theorem I7 {a0 : Value} {w : World} {R : K1} (h : H5 a0 w R) : hJ pg oA #[a0] w R := by
  refine gJ (ann := DB) (fn := Tryd.f7) (c := CA) (args := [a0]) (rs := xJ) (N := 9) TrydM.mixed (by kernel_rfl) Tryd.func7 (by kernel_rfl) (by kernel_rfl) (by kernel_rfl) (of_decide_eq_true (by kernel_rfl)) (by kernel_rfl) ?_
  exact (HQ (nK pg xJ R) (lI [a0]) w R (fun _ _ h => h) h)
def HA : FA := ⟨A5, fun i => .leaf ([], []) []⟩
def DE : List ResultVar := [.cell 8 26, .tmp 9, .tmp 10]
noncomputable def Gz : Code := kJ Tryd.f8
def DV (R : K1) (eM DI YD X6 : Value) (w : World) : Prop :=
  cO pg (FZ 26 X6) w fun Uj w =>
  cO pg (jB 26) w fun t8 w =>
  hJ pg zI #[eM] w fun t19 w =>
  cO pg (eF .lss 3 (.tmp 20) (.const (.int .i64 0)) t19 (.int .i64 0)) w fun t21 w =>
  Gd (kA t21 false) (fun K => K DI w) w fun t23 w =>
  Gd (kA t21 false) (fun K => cO pg (eF .lss 3 (.tmp 23) (.const (.int .i64 0)) t23 (.int .i64 0)) w K) w fun t24 w =>
  cO pg (kL t21 (.bool true) t24) w fun t25 w =>
  Gd (kA t25 false) (fun K => K DI w) w fun t27 w =>
  Gd (kA t25 false) (fun K => cO pg (eF .gtr 3 (.tmp 27) (.const (.int .i64 3)) t27 (.int .i64 3)) w K) w fun t28 w =>
  cO pg (kL t25 (.bool true) t28) w fun t29 w =>
  lM t29
    (cO pg (iH 26 []) w fun t30 w =>
    cO pg (fG 26 t8 t30) w fun _u w =>
    qB pg 26 t8 w fun r0 => R (.tuple #[r0, (.int .i64 0), (.int .i64 1)]) w)
    (cO pg (eF .eql 3 (.tmp 31) (.const (.int .i64 0)) DI (.int .i64 0)) w fun t33 w =>
    lM t33
      (hJ pg oA #[eM] w fun t36 w =>
      cO pg (jC t36 0) w fun t37 w =>
      cO pg (jC t36 1) w fun t38 w =>
      cO pg (jB 26) w fun t12 w =>
      cO pg (fG 26 t12 t37) w fun _u w =>
      cO pg (eQ 26 t12) w fun t39 w =>
      cO pg (fG 26 t8 t39) w fun _u w =>
      qB pg 26 t8 w fun r0 => R (.tuple #[r0, (.int .i64 0), t38]) w)
      (cO pg (eF .eql 3 (.tmp 31) (.const (.int .i64 1)) DI (.int .i64 1)) w fun t42 w =>
      lM t42
        (cO pg (nA .len #[22] 3 [YD]) w fun t45 w =>
        cO pg (eF .eql 3 (.tmp 45) (.const (.int .i64 0)) t45 (.int .i64 0)) w fun t46 w =>
        lM t46
          (cO pg (iH 26 []) w fun t47 w =>
          cO pg (fG 26 t8 t47) w fun _u w =>
          qB pg 26 t8 w fun r0 => R (.tuple #[r0, (.int .i64 0), (.int .i64 10)]) w)
          (cO pg (iF 22 YD (.int .i64 0)) w fun t50 w =>
          cO pg (eQ 5 t50) w fun t51 w =>
          cO pg (mL 5 3 t51) w fun t52 w =>
          cO pg (eF .gtr 3 (.tmp 52) (.tmp 53) t52 t19) w fun t54 w =>
          lM t54
            (cO pg (iH 26 []) w fun t55 w =>
            cO pg (fG 26 t8 t55) w fun _u w =>
            qB pg 26 t8 w fun r0 => R (.tuple #[r0, (.int .i64 0), (.int .i64 11)]) w)
            (cO pg (iF 22 YD (.int .i64 0)) w fun t57 w =>
            cO pg (eQ 5 t57) w fun t58 w =>
            hJ pg Ah #[t58] w fun t59 w =>
            cO pg (fG 26 t8 t59) w fun _u w =>
            qB pg 26 t8 w fun r0 => R (.tuple #[r0, (.int .i64 1), (.int .i64 0)]) w)))
        (cO pg (eF .eql 3 (.tmp 31) (.const (.int .i64 3)) DI (.int .i64 3)) w fun t61 w =>
        lM t61
          (cO pg (fF 26 Uj 1) w fun t62 w =>
          cO pg (eQ 24 t62) w fun t63 w =>
          cO pg (nA .len #[24] 3 [t63]) w fun t64 w =>
          cO pg (eF .eql 3 (.tmp 64) (.const (.int .i64 0)) t64 (.int .i64 0)) w fun t65 w =>
          lM t65
            (cO pg (iH 26 []) w fun t66 w =>
            cO pg (fG 26 t8 t66) w fun _u w =>
            qB pg 26 t8 w fun r0 => R (.tuple #[r0, (.int .i64 0), (.int .i64 11)]) w)
            (cO pg (eQ 26 Uj) w fun t67 w =>
            cO pg (fG 26 t8 t67) w fun _u w =>
            qB pg 26 t8 w fun r0 => R (.tuple #[r0, (.int .i64 0), (.int .i64 0)]) w))
          (hJ pg nE #[eM] w fun t71 w =>
          cO pg (eF .add 3 (.tmp 72) (.const (.int .i64 1)) t19 (.int .i64 1)) w fun t73 w =>
          hJ pg A2 #[YD, t71, t73] w fun t74 w =>
          cO pg (jC t74 0) w fun t75 w =>
          cO pg (jC t74 1) w fun t76 w =>
          cO pg (jC t74 2) w fun t77 w =>
          cO pg (jB 51) w fun X2 w =>
          cO pg (fG 51 X2 t75) w fun _u w =>
          cO pg (eF .neq 27 (.tmp 78) (.const (.int .i64 0)) t77 (.int .i64 0)) w fun t79 w =>
          lM t79
            (cO pg (iH 26 []) w fun t80 w =>
            cO pg (fG 26 t8 t80) w fun _u w =>
            qB pg 26 t8 w fun r0 => R (.tuple #[r0, (.int .i64 0), t77]) w)
            (cO pg (eQ 51 X2) w fun t83 w =>
            hJ pg pN #[t83] w fun t84 w =>
            cO pg (jC t84 0) w fun t85 w =>
            cO pg (jC t84 1) w fun t86 w =>
            cO pg (jB 26) w fun t17 w =>
            cO pg (fG 26 t17 t85) w fun _u w =>
            cO pg (eF .neq 27 (.tmp 87) (.const (.int .i64 0)) t86 (.int .i64 0)) w fun t88 w =>
            lM t88
              (cO pg (iH 26 []) w fun t89 w =>
              cO pg (fG 26 t8 t89) w fun _u w =>
              qB pg 26 t8 w fun r0 => R (.tuple #[r0, (.int .i64 0), t86]) w)
              (cO pg (eQ 26 t17) w fun t91 w =>
              cO pg (fG 26 t8 t91) w fun _u w =>
              qB pg 26 t8 w fun r0 => R (.tuple #[r0, t76, (.int .i64 0)]) w))))))
theorem Ok (R : K1) (hr : HR DE R Q) (h : DV R (g 0) (g 1) (g 2) (g 3) w) : eK pg HA Gz Q g w :=
  dU (kn := no) (l := []) (by kernel_rfl) h kT hr trivial
def Qq (a0 a1 a2 a3 : Value) (w : World) (R : K1) : Prop :=
  DV R a0 a1 a2 a3 w
theorem OM {a0 a1 a2 a3 : Value} {w : World} {R : K1} (h : Qq a0 a1 a2 a3 w R) : hJ pg A5 #[a0, a1, a2, a3] w R := by
  refine gJ (ann := HA) (fn := Tryd.f8) (c := Gz) (args := [a0, a1, a2, a3]) (rs := DE) (N := 93) TrydM.mixed (by kernel_rfl) Tryd.func8 (by kernel_rfl) (by kernel_rfl) (by kernel_rfl) (of_decide_eq_true (by kernel_rfl)) (by kernel_rfl) ?_
  exact (Ok (nK pg DE R) (lI [a0, a1, a2, a3]) w R (fun _ _ h => h) h)
def jD : FA := ⟨nE, fun i => .leaf ([], []) []⟩
def mS : List ResultVar := [.tmp 2]
noncomputable def iX : Code := kJ Tryd.f14
def xP (R : K1)  (w : World) : Prop :=
  R (.int .i64 0) w
theorem Oo (R : K1) (hr : HR mS R Q) (h : xP R w) : eK pg jD (aA 1 (aA 1 iX)) Q g w :=
  dU (kn := no) (l := []) (by kernel_rfl) h kT hr trivial
def oH (kn : K0) (R : K1) (t3 t4 : Value) (w : World) : Prop :=
  lM t4
    (R (.int .i64 9) w)
    (cO pg (eF .eql 3 (.tmp 3) (.const (.int .i64 1)) t3 (.int .i64 1)) w fun t8 w =>
    lM t8
      (R (.int .i64 8) w)
      (kn w))
theorem NP (kn : K0) (R : K1) (hn : ∀ g w, kn w → Q .normal g w) (hr : HR mS R Q) (h : oH kn R (g 3) (g 4) w) : eK pg jD (aA 1 (bI (aA 1 (bJ 1 (aA 1 iX))))) Q g w :=
  dU (l := []) (by kernel_rfl) h hn hr trivial
def DC (kn : K2) (t3 : Value) (w : World) : Prop :=
  cO pg (eF .eql 3 (.tmp 3) (.const (.int .i64 0)) t3 (.int .i64 0)) w fun t5 w =>
  lM t5
    (kn t3 t5 w)
    (cO pg (eF .eql 3 (.tmp 3) (.const (.int .i64 2)) t3 (.int .i64 2)) w fun t6 w =>
    kn t3 t6 w)
theorem Om (kn : K2) (hn : ∀ g w, kn (g 3) (g 4) w → Q .normal g w) (h : DC kn (g 3) w) : eK pg jD (bJ 1 (bI (aA 1 (bJ 1 (aA 1 iX))))) Q g w :=
  dU (kr := no) (l := []) (by kernel_rfl) h hn kT trivial
def Dq (kn : K0) (R : K1) (t3 : Value) (w : World) : Prop :=
  DC (fun t3 t4 w => oH kn R t3 t4 w) t3 w
theorem My (kn : K0) (R : K1) (hn : ∀ g w, kn w → Q .normal g w) (hr : HR mS R Q) (h : Dq kn R (g 3) w) : eK pg jD (bI (aA 1 (bJ 1 (aA 1 iX)))) Q g w :=
  dX 1 _ g w (by kernel_rfl) (Om (fH (fun g w => eK pg jD (aA 1 (bI (aA 1 (bJ 1 (aA 1 iX))))) Q g w) Q) g w (fun t3 t4 w => oH kn R t3 t4 w) (fun g w h => eN (K := fun g w => eK pg jD (aA 1 (bI (aA 1 (bJ 1 (aA 1 iX))))) Q g w) (NP Q g w kn R hn hr h)) h)
def yG (kn : K0) (R : K1) (t3 : Value) (w : World) : Prop :=
  Dq kn R t3 w
theorem Oh (kn : K0) (R : K1) (hn : ∀ g w, kn w → Q .normal g w) (hr : HR mS R Q) (h : yG kn R (g 3) w) : eK pg jD (aA 1 (bJ 1 (aA 1 iX))) Q g w :=
  iU 0 _ g w (by kernel_rfl) (My (vI 0 Q) g w kn R hn hr h)
def Ei (kn : K1) (eM : Value) (w : World) : Prop :=
  kn eM w
theorem MZ (kn : K1) (hn : ∀ g w, kn (g 3) w → Q .normal g w) (h : Ei kn (g 0) w) : eK pg jD (bJ 1 (bJ 1 (aA 1 iX))) Q g w :=
  dU (kr := no) (l := []) (by kernel_rfl) h hn kT trivial
def Eh (kn : K0) (R : K1) (eM : Value) (w : World) : Prop :=
  Ei (fun t3 w => yG kn R t3 w) eM w
theorem L8 (kn : K0) (R : K1) (hn : ∀ g w, kn w → Q .normal g w) (hr : HR mS R Q) (h : Eh kn R (g 0) w) : eK pg jD (bJ 1 (aA 1 iX)) Q g w :=
  dX 1 _ g w (by kernel_rfl) (MZ (fH (fun g w => eK pg jD (aA 1 (bJ 1 (aA 1 iX))) Q g w) Q) g w (fun t3 w => yG kn R t3 w) (fun g w h => eN (K := fun g w => eK pg jD (aA 1 (bJ 1 (aA 1 iX))) Q g w) (Oh Q g w kn R hn hr h)) h)
def wX (R : K1) (eM : Value) (w : World) : Prop :=
  Eh (fun  w => xP R w) R eM w
theorem Nq (R : K1) (hr : HR mS R Q) (h : wX R (g 0) w) : eK pg jD (aA 1 iX) Q g w :=
  dX 1 _ g w (by kernel_rfl) (L8 (fH (fun g w => eK pg jD (aA 1 (aA 1 iX)) Q g w) Q) g w (fun  w => xP R w) R (fun g w h => eN (K := fun g w => eK pg jD (aA 1 (aA 1 iX)) Q g w) (Oo Q g w R hr h)) hr h)
def D1 (kn : K1) (eM : Value) (w : World) : Prop :=
  kn eM w
theorem NR (kn : K1) (hn : ∀ g w, kn (g 0) w → Q .normal g w) (h : D1 kn (g 0) w) : eK pg jD (bJ 1 iX) Q g w :=
  dU (kr := no) (l := []) (by kernel_rfl) h hn kT trivial
def BI (R : K1) (eM : Value) (w : World) : Prop :=
  D1 (fun eM w => wX R eM w) eM w
theorem JX (R : K1) (hr : HR mS R Q) (h : BI R (g 0) w) : eK pg jD iX Q g w :=
  dX 1 _ g w (by kernel_rfl) (NR (fH (fun g w => eK pg jD (aA 1 iX) Q g w) Q) g w (fun eM w => wX R eM w) (fun g w h => eN (K := fun g w => eK pg jD (aA 1 iX) Q g w) (Nq Q g w R hr h)) h)
def Qx (a0 : Value) (w : World) (R : K1) : Prop :=
  BI R a0 w
theorem O3 {a0 : Value} {w : World} {R : K1} (h : Qx a0 w R) : hJ pg nE #[a0] w R := by
  refine gJ (ann := jD) (fn := Tryd.f14) (c := iX) (args := [a0]) (rs := mS) (N := 9) TrydM.mixed (by kernel_rfl) Tryd.func14 (by kernel_rfl) (by kernel_rfl) (by kernel_rfl) (of_decide_eq_true (by kernel_rfl)) (by kernel_rfl) ?_
  exact (JX (nK pg mS R) (lI [a0]) w R (fun _ _ h => h) h)
def fS : FA := ⟨pN, fun i => match Nat.beq i 3 with | true => .split 3 5 (.perm [0, 1, 2, 3, 4, 5, 6] [(3, 5)] ([3, 5, 6], [(0, 3), (0, 5), (1, 3), (1, 5), (4, 5)]) [(false, []), (false, []), (false, []), (true, [1, 2]), (false, []), (true, [0, 3, 4]), (true, [])]) (.perm [0, 1, 2, 5, 3, 4, 6] [(5, 3)] ([3, 4, 6], [(0, 3), (0, 4), (1, 3), (1, 4), (2, 3)]) [(false, []), (false, []), (false, []), (true, [0, 1, 2]), (true, [2, 3]), (false, []), (true, [])]) | false => match Nat.beq i 16 with | true => .leaf ([5, 10], [(1, 5), (2, 5)]) [(false, []), (false, []), (false, []), (false, []), (false, []), (true, [2, 3]), (false, []), (false, []), (false, []), (false, []), (true, [])] | false => match Nat.beq i 17 with | true => .leaf ([13], []) [(false, []), (false, []), (false, []), (false, []), (false, []), (false, []), (false, []), (false, []), (false, []), (false, []), (false, []), (false, []), (false, []), (true, [])] | false => .leaf ([], []) []⟩
def pR : List ResultVar := [.cell 2 26, .tmp 3]
noncomputable def fN : Code := kJ Tryd.f15
def CJ (R : K1) (t2 t4 : Value) (w : World) : Prop :=
  cO pg (eQ 26 t4) w fun t90 w =>
  cO pg (fG 26 t2 t90) w fun _u w =>
  qB pg 26 t2 w fun r0 => R (.tuple #[r0, (.int .i64 0)]) w
theorem QY (R : K1) (hr : HR pR R Q) (h : CJ R (g 2) (g 4) w) : eK pg fS (aA 1 (aA 1 (aA 1 (aA 3 fN)))) Q g w :=
  dU (kn := no) (l := []) (by kernel_rfl) h kT hr trivial
def CS (kn : K6) (fO t2 t4 iI t42 t43 : Value) (w : World) : Prop :=
  cO pg (eF .add 3 (.tmp 43) (.const (.int .i64 1)) t43 (.int .i64 1)) w fun t89 w =>
  kn fO t2 t4 iI t42 t89 w
theorem Rd (kn : K6) (hn : ∀ g w, kn (g 1) (g 2) (g 4) (g 5) (g 42) (g 43) w → Q .normal g w) (h : CS kn (g 1) (g 2) (g 4) (g 5) (g 42) (g 43) w) : eK pg fS (aA 1 (aA 2 (bI (bI (aA 1 (bJ 1 (aA 1 (aA 1 (aA 3 fN))))))))) Q g w :=
  dU (kr := no) (l := []) (by kernel_rfl) h hn kT trivial
def CE (kn : K6) (fO t2 t4 iI Vw N0 t42 t43 : Value) (w : World) : Prop :=
  (dr w) = (dr w) ∧
  (dr w) = (dr w) ∧
  (dr w) = (dr w) ∧
  cO pg (Et Vw) (dr w) fun t79 w_ => w_ = (dr w) ∧
  cO pg (fF 32 t79 1) (dr w) fun t80 w_ => w_ = (dr w) ∧
  cO pg (eQ 3 t80) (dr w) fun t81 w_ => w_ = (dr w) ∧
  cO pg (eF .shl 3 (.tmp 77) (.tmp 81) N0 t81) (dr w) fun t82 w_ => w_ = (dr w) ∧
  cO pg (fF 26 t4 1) (dr w) fun t83 w_ => w_ = (dr w) ∧
  cO pg (eQ 24 t83) (dr w) fun t84 w_ => w_ = (dr w) ∧
  cO pg (nA .len #[24] 3 [t84]) (dr w) fun t85 w_ => w_ = (dr w) ∧
  cO pg (eF .sub 3 (.tmp 82) (.tmp 85) t82 t85) (dr w) fun t86 w_ => w_ = (dr w) ∧
  cO pg (Et Vw) (dr w) fun t87 w_ => w_ = (dr w) ∧
  cO pg (fF 32 t87 2) (dr w) fun t88 w_ => w_ = (dr w) ∧
  cO pg (fG 3 t88 t86) (dr w) fun _u13 Zi =>
  kn fO t2 t4 iI t42 t43 Zi
theorem QU (kn : K6) (hn : ∀ g w, kn (g 1) (g 2) (g 4) (g 5) (g 42) (g 43) w → Q .normal g w) (h : CE kn (g 1) (g 2) (g 4) (g 5) (g 9) (g 10) (g 42) (g 43) w) : eK pg fS (aA 1 (aA 4 (bI (bJ 1 (aA 2 (bI (bI (aA 1 (bJ 1 (aA 1 (aA 1 (aA 3 fN)))))))))))) Q g w :=
  dU (kr := no) (l := []) (by kernel_rfl) h hn kT trivial
def Hm (kn : K8) (fO t2 t4 iI Vw N0 t42 t43 : Value) (w : World) : Prop :=
  (dr w) = (dr w) ∧
  cO pg (fF 51 fO 0) (dr w) fun t67 w_ => w_ = (dr w) ∧
  cO pg (eQ 3 t67) (dr w) fun t68 w_ => w_ = (dr w) ∧
  (dr w) = (dr w) ∧
  cO pg (mL 3 75 N0) (dr w) fun t70 w_ => w_ = (dr w) ∧
  hJ pg pG #[t70] (dr w) fun t71 In =>
  (gY pg (eQ 3 t67) t68 In ∧ gY pg (fF 51 fO 0) t67 In ∧ True) ∧
  cO pg (eF .sub 3 (.tmp 68) (.tmp 71) t68 t71) In fun t72 w_ => w_ = In ∧
  cO pg (eF .add 3 (.tmp 72) (.const (.int .i64 1)) t72 (.int .i64 1)) In fun t73 w_ => w_ = In ∧
  cO pg (Et Vw) In fun t74 w_ => w_ = In ∧
  cO pg (fF 32 t74 1) In fun t75 w_ => w_ = In ∧
  cO pg (fG 3 t75 t73) In fun _u10 Zl =>
  kn fO t2 t4 iI Vw N0 t42 t43 Zl
theorem Q9 (kn : K8) (hn : ∀ g w, kn (g 1) (g 2) (g 4) (g 5) (g 9) (g 10) (g 42) (g 43) w → Q .normal g w) (h : Hm kn (g 1) (g 2) (g 4) (g 5) (g 9) (g 10) (g 42) (g 43) w) : eK pg fS (bJ 1 (aA 4 (bI (bJ 1 (aA 2 (bI (bI (aA 1 (bJ 1 (aA 1 (aA 1 (aA 3 fN)))))))))))) Q g w :=
  dU (kr := no) (l := []) (by kernel_rfl) h hn kT trivial
def CI (kn : K6) (fO t2 t4 iI Vw N0 t42 t43 : Value) (w : World) : Prop :=
  Hm (fun fO t2 t4 iI Vw N0 t42 t43 w => CE kn fO t2 t4 iI Vw N0 t42 t43 w) fO t2 t4 iI Vw N0 t42 t43 w
theorem Rx (kn : K6) (hn : ∀ g w, kn (g 1) (g 2) (g 4) (g 5) (g 42) (g 43) w → Q .normal g w) (h : CI kn (g 1) (g 2) (g 4) (g 5) (g 9) (g 10) (g 42) (g 43) w) : eK pg fS (aA 4 (bI (bJ 1 (aA 2 (bI (bI (aA 1 (bJ 1 (aA 1 (aA 1 (aA 3 fN))))))))))) Q g w :=
  dX 1 _ g w (by kernel_rfl) (Q9 (fH (fun g w => eK pg fS (aA 1 (aA 4 (bI (bJ 1 (aA 2 (bI (bI (aA 1 (bJ 1 (aA 1 (aA 1 (aA 3 fN)))))))))))) Q g w) Q) g w (fun fO t2 t4 iI Vw N0 t42 t43 w => CE kn fO t2 t4 iI Vw N0 t42 t43 w) (fun g w h => eN (K := fun g w => eK pg fS (aA 1 (aA 4 (bI (bJ 1 (aA 2 (bI (bI (aA 1 (bJ 1 (aA 1 (aA 1 (aA 3 fN)))))))))))) Q g w) (QU Q g w kn hn h)) h)
def GL (kn : K8) (fO t2 t4 iI t42 t43 : Value) (w : World) : Prop :=
  cO pg (fF 26 t4 1) w fun t46 w =>
  cO pg (eQ 24 t46) w fun t47 w =>
  cO pg (iF 24 t47 t43) w fun t49 w =>
  cO pg (Et t49) w fun t52 w =>
  cO pg (fF 32 t52 0) w fun t53 w =>
  cO pg (eQ 5 t53) w fun t54 w =>
  cO pg (iF 30 iI t54) w fun t55 w =>
  cO pg (eQ 3 t55) w fun t56 w =>
  cO pg (Et t49) w fun t59 w =>
  cO pg (fF 32 t59 0) w fun t60 w =>
  cO pg (eQ 5 t60) w fun t61 w =>
  cO pg (iF 30 iI t61) w fun t62 w =>
  cO pg (eQ 3 t62) w fun t63 w =>
  cO pg (eF .add 3 (.tmp 63) (.const (.int .i64 1)) t63 (.int .i64 1)) w fun t64 w =>
  cO pg (iF 30 iI t61) w fun t65 w =>
  cO pg (fG 3 t65 t64) w fun _u w =>
  kn fO t2 t4 iI t49 t56 t42 t43 w
theorem Ry (kn : K8) (hn : ∀ g w, kn (g 1) (g 2) (g 4) (g 5) (g 9) (g 10) (g 42) (g 43) w → Q .normal g w) (h : GL kn (g 1) (g 2) (g 4) (g 5) (g 42) (g 43) w) : eK pg fS (bJ 4 (bI (bJ 1 (aA 2 (bI (bI (aA 1 (bJ 1 (aA 1 (aA 1 (aA 3 fN))))))))))) Q g w :=
  dU (kr := no) (l := []) (by kernel_rfl) h hn kT trivial
def Hd (kn : K6) (fO t2 t4 iI t42 t43 : Value) (w : World) : Prop :=
  GL (fun fO t2 t4 iI Vw N0 t42 t43 w => CI kn fO t2 t4 iI Vw N0 t42 t43 w) fO t2 t4 iI t42 t43 w
theorem Q0 (kn : K6) (hn : ∀ g w, kn (g 1) (g 2) (g 4) (g 5) (g 42) (g 43) w → Q .normal g w) (h : Hd kn (g 1) (g 2) (g 4) (g 5) (g 42) (g 43) w) : eK pg fS (bI (bJ 1 (aA 2 (bI (bI (aA 1 (bJ 1 (aA 1 (aA 1 (aA 3 fN)))))))))) Q g w :=
  dX 4 _ g w (by kernel_rfl) (Ry (fH (fun g w => eK pg fS (aA 4 (bI (bJ 1 (aA 2 (bI (bI (aA 1 (bJ 1 (aA 1 (aA 1 (aA 3 fN))))))))))) Q g w) Q) g w (fun fO t2 t4 iI Vw N0 t42 t43 w => CI kn fO t2 t4 iI Vw N0 t42 t43 w) (fun g w h => eN (K := fun g w => eK pg fS (aA 4 (bI (bJ 1 (aA 2 (bI (bI (aA 1 (bJ 1 (aA 1 (aA 1 (aA 3 fN))))))))))) Q g w) (Rx Q g w kn hn h)) h)
def Ha (kn : K6) (fO t2 t4 iI t42 t43 : Value) (w : World) : Prop :=
  Hd kn fO t2 t4 iI t42 t43 w
theorem Rl (kn : K6) (hn : ∀ g w, kn (g 1) (g 2) (g 4) (g 5) (g 42) (g 43) w → Q .normal g w) (h : Ha kn (g 1) (g 2) (g 4) (g 5) (g 42) (g 43) w) : eK pg fS (bJ 1 (aA 2 (bI (bI (aA 1 (bJ 1 (aA 1 (aA 1 (aA 3 fN))))))))) Q g w :=
  iU 3 _ g w (by kernel_rfl) (Q0 (vI 3 Q) g w kn hn h)
def yR (kn : K6) (fO t2 t4 iI t42 t43 : Value) (w : World) : Prop :=
  Ha (fun fO t2 t4 iI t42 t43 w => CS kn fO t2 t4 iI t42 t43 w) fO t2 t4 iI t42 t43 w
theorem Rv (kn : K6) (hn : ∀ g w, kn (g 1) (g 2) (g 4) (g 5) (g 42) (g 43) w → Q .normal g w) (h : yR kn (g 1) (g 2) (g 4) (g 5) (g 42) (g 43) w) : eK pg fS (aA 2 (bI (bI (aA 1 (bJ 1 (aA 1 (aA 1 (aA 3 fN)))))))) Q g w :=
  dX 1 _ g w (by kernel_rfl) (Rl (fH (fun g w => eK pg fS (aA 1 (aA 2 (bI (bI (aA 1 (bJ 1 (aA 1 (aA 1 (aA 3 fN))))))))) Q g w) Q) g w (fun fO t2 t4 iI t42 t43 w => CS kn fO t2 t4 iI t42 t43 w) (fun g w h => eN (K := fun g w => eK pg fS (aA 1 (aA 2 (bI (bI (aA 1 (bJ 1 (aA 1 (aA 1 (aA 3 fN))))))))) Q g w) (Rd Q g w kn hn h)) h)
def Fj (kn : K6) (k2 : K2) (fO t2 t4 iI t42 t43 : Value) (w : World) : Prop :=
  cO pg (eF .lss 3 (.tmp 43) (.tmp 42) t43 t42) w fun t44 w =>
  lM t44
    (kn fO t2 t4 iI t42 t43 w)
    (k2 t2 t4 w)
theorem Qb (kn : K6) (k2 : K2) (hn : ∀ g w, kn (g 1) (g 2) (g 4) (g 5) (g 42) (g 43) w → Q .normal g w) (h2 : ∀ g w, k2 (g 2) (g 4) w → Q (.exit 2) g w) (h : Fj kn k2 (g 1) (g 2) (g 4) (g 5) (g 42) (g 43) w) : eK pg fS (bJ 2 (bI (bI (aA 1 (bJ 1 (aA 1 (aA 1 (aA 3 fN)))))))) Q g w :=
  dU (kr := no) (l := [(2, fun g w => k2 (g 2) (g 4) w)]) (by kernel_rfl) h hn kT ⟨h2, trivial⟩
def AV (kn : K6) (k2 : K2) (fO t2 t4 iI t42 t43 : Value) (w : World) : Prop :=
  Fj (fun fO t2 t4 iI t42 t43 w => yR kn fO t2 t4 iI t42 t43 w) k2 fO t2 t4 iI t42 t43 w
theorem Pj (kn : K6) (k2 : K2) (hn : ∀ g w, kn (g 1) (g 2) (g 4) (g 5) (g 42) (g 43) w → Q .normal g w) (h2 : ∀ g w, k2 (g 2) (g 4) w → Q (.exit 2) g w) (h : AV kn k2 (g 1) (g 2) (g 4) (g 5) (g 42) (g 43) w) : eK pg fS (bI (bI (aA 1 (bJ 1 (aA 1 (aA 1 (aA 3 fN))))))) Q g w :=
  dX 2 _ g w (by kernel_rfl) (Qb (fH (fun g w => eK pg fS (aA 2 (bI (bI (aA 1 (bJ 1 (aA 1 (aA 1 (aA 3 fN)))))))) Q g w) Q) g w (fun fO t2 t4 iI t42 t43 w => yR kn fO t2 t4 iI t42 t43 w) k2 (fun g w h => eN (K := fun g w => eK pg fS (aA 2 (bI (bI (aA 1 (bJ 1 (aA 1 (aA 1 (aA 3 fN)))))))) Q g w) (Rv Q g w kn hn h)) h2 h)
def FM (k2 : K2) (fO t2 t4 iI t42 t43 : Value) (w : World) : Prop :=
  iY (fun (X : Value → K0) (t : Value) (w : World) => AV (fun _ _ _ _ _ t43 w => X t43 w) k2 fO t2 t4 iI t42 t w) t43 w
theorem OW (k2 : K2) (h2 : ∀ g w, k2 (g 2) (g 4) w → Q (.exit 2) g w) (h : FM k2 (g 1) (g 2) (g 4) (g 5) (g 42) (g 43) w) : eK pg fS (bI (aA 1 (bJ 1 (aA 1 (aA 1 (aA 3 fN)))))) Q g w := by
  refine iV (T := Value) (fun g : jT => g 43) (fun X t w => AV (fun _ _ _ _ _ t43 w => X t43 w) k2 (g 1) (g 2) (g 4) (g 5) (g 42) t w) _ (by kernel_rfl) h (fun X g1 w1 ha hL => ?_)
  rw [← dW (s := 1) ha (by kernel_rfl)] at hL
  rw [← dW (s := 2) ha (by kernel_rfl)] at hL
  rw [← dW (s := 4) ha (by kernel_rfl)] at hL
  rw [← dW (s := 5) ha (by kernel_rfl)] at hL
  rw [← dW (s := 42) ha (by kernel_rfl)] at hL
  exact (Pj (fH (fun g2 w2 => X ((fun g : jT => g 43) g2) w2) Q) g1 w1 (fun _ _ _ _ _ t43 w => X t43 w) k2 (fun _ _ h => h) h2 hL)
def Bh (kn : K2) (fO t2 t4 iI t42 t43 : Value) (w : World) : Prop :=
  FM kn fO t2 t4 iI t42 t43 w
theorem P2 (kn : K2) (hn : ∀ g w, kn (g 2) (g 4) w → Q .normal g w) (h : Bh kn (g 1) (g 2) (g 4) (g 5) (g 42) (g 43) w) : eK pg fS (aA 1 (bJ 1 (aA 1 (aA 1 (aA 3 fN))))) Q g w :=
  iU 2 _ g w (by kernel_rfl) (OW (vI 2 Q) g w kn hn h)
def FP (kn : K6) (fO t2 t4 iI : Value) (w : World) : Prop :=
  cO pg (fF 26 t4 1) w fun t40 w =>
  cO pg (eQ 24 t40) w fun t41 w =>
  cO pg (nA .len #[24] 3 [t41]) w fun t42 w =>
  kn fO t2 t4 iI t42 (.int .i64 0) w
theorem Ph (kn : K6) (hn : ∀ g w, kn (g 1) (g 2) (g 4) (g 5) (g 42) (g 43) w → Q .normal g w) (h : FP kn (g 1) (g 2) (g 4) (g 5) w) : eK pg fS (bJ 1 (bJ 1 (aA 1 (aA 1 (aA 3 fN))))) Q g w :=
  dU (kr := no) (l := []) (by kernel_rfl) h hn kT trivial
def FK (kn : K2) (fO t2 t4 iI : Value) (w : World) : Prop :=
  FP (fun fO t2 t4 iI t42 t43 w => Bh kn fO t2 t4 iI t42 t43 w) fO t2 t4 iI w
theorem P6 (kn : K2) (hn : ∀ g w, kn (g 2) (g 4) w → Q .normal g w) (h : FK kn (g 1) (g 2) (g 4) (g 5) w) : eK pg fS (bJ 1 (aA 1 (aA 1 (aA 3 fN)))) Q g w :=
  dX 1 _ g w (by kernel_rfl) (Ph (fH (fun g w => eK pg fS (aA 1 (bJ 1 (aA 1 (aA 1 (aA 3 fN))))) Q g w) Q) g w (fun fO t2 t4 iI t42 t43 w => Bh kn fO t2 t4 iI t42 t43 w) (fun g w h => eN (K := fun g w => eK pg fS (aA 1 (bJ 1 (aA 1 (aA 1 (aA 3 fN))))) Q g w) (P2 Q g w kn hn h)) h)
def uG (R : K1) (fO t2 t4 iI : Value) (w : World) : Prop :=
  FK (fun t2 t4 w => CJ R t2 t4 w) fO t2 t4 iI w
theorem Ou (R : K1) (hr : HR pR R Q) (h : uG R (g 1) (g 2) (g 4) (g 5) w) : eK pg fS (aA 1 (aA 1 (aA 3 fN))) Q g w :=
  dX 1 _ g w (by kernel_rfl) (P6 (fH (fun g w => eK pg fS (aA 1 (aA 1 (aA 1 (aA 3 fN)))) Q g w) Q) g w (fun t2 t4 w => CJ R t2 t4 w) (fun g w h => eN (K := fun g w => eK pg fS (aA 1 (aA 1 (aA 1 (aA 3 fN)))) Q g w) (QY Q g w R hr h)) h)
def uM (kn : K7) (k0 : K4) (fO t2 t4 iI t25 t26 t27 : Value) (w : World) : Prop :=
  cO pg (eF .lss 3 (.tmp 27) (.tmp 26) t27 t26) w fun t28 w =>
  lM t28
    (cO pg (iF 30 t25 t27) w fun t30 w =>
    cO pg (eQ 3 t30) w fun t31 w =>
    cO pg (V6 .neg t31) w fun t36 w =>
    cO pg (nA .max #[3, 3] 3 [t31, t36]) w fun t37 w =>
    cO pg (iF 30 iI t27) w fun t38 w =>
    cO pg (fG 3 t38 t37) w fun _u w =>
    cO pg (eF .add 3 (.tmp 27) (.const (.int .i64 1)) t27 (.int .i64 1)) w fun t39 w =>
    kn fO t2 t4 iI t25 t26 t39 w)
    (k0 fO t2 t4 iI w)
theorem Qc (kn : K7) (k0 : K4) (hn : ∀ g w, kn (g 1) (g 2) (g 4) (g 5) (g 25) (g 26) (g 27) w → Q .normal g w) (h0 : ∀ g w, k0 (g 1) (g 2) (g 4) (g 5) w → Q (.exit 0) g w) (h : uM kn k0 (g 1) (g 2) (g 4) (g 5) (g 25) (g 26) (g 27) w) : eK pg fS (bI (bI (aA 1 (bJ 1 (aA 1 (aA 3 fN)))))) Q g w :=
  dU (kr := no) (l := [(0, fun g w => k0 (g 1) (g 2) (g 4) (g 5) w)]) (by kernel_rfl) h hn kT ⟨h0, trivial⟩
def E8 (k0 : K4) (fO t2 t4 iI t25 t26 t27 : Value) (w : World) : Prop :=
  iY (fun (X : Value → K0) (t : Value) (w : World) => uM (fun _ _ _ _ _ _ t27 w => X t27 w) k0 fO t2 t4 iI t25 t26 t w) t27 w
theorem Ot (k0 : K4) (h0 : ∀ g w, k0 (g 1) (g 2) (g 4) (g 5) w → Q (.exit 0) g w) (h : E8 k0 (g 1) (g 2) (g 4) (g 5) (g 25) (g 26) (g 27) w) : eK pg fS (bI (aA 1 (bJ 1 (aA 1 (aA 3 fN))))) Q g w := by
  refine iV (T := Value) (fun g : jT => g 27) (fun X t w => uM (fun _ _ _ _ _ _ t27 w => X t27 w) k0 (g 1) (g 2) (g 4) (g 5) (g 25) (g 26) t w) _ (by kernel_rfl) h (fun X g1 w1 ha hL => ?_)
  rw [← dW (s := 1) ha (by kernel_rfl)] at hL
  rw [← dW (s := 2) ha (by kernel_rfl)] at hL
  rw [← dW (s := 4) ha (by kernel_rfl)] at hL
  rw [← dW (s := 5) ha (by kernel_rfl)] at hL
  rw [← dW (s := 25) ha (by kernel_rfl)] at hL
  rw [← dW (s := 26) ha (by kernel_rfl)] at hL
  exact (Qc (fH (fun g2 w2 => X ((fun g : jT => g 27) g2) w2) Q) g1 w1 (fun _ _ _ _ _ _ t27 w => X t27 w) k0 (fun _ _ h => h) h0 hL)
def Bd (kn : K4) (fO t2 t4 iI t25 t26 t27 : Value) (w : World) : Prop :=
  E8 kn fO t2 t4 iI t25 t26 t27 w
theorem O2 (kn : K4) (hn : ∀ g w, kn (g 1) (g 2) (g 4) (g 5) w → Q .normal g w) (h : Bd kn (g 1) (g 2) (g 4) (g 5) (g 25) (g 26) (g 27) w) : eK pg fS (aA 1 (bJ 1 (aA 1 (aA 3 fN)))) Q g w :=
  iU 0 _ g w (by kernel_rfl) (Ot (vI 0 Q) g w kn hn h)
def Fq (kn : K7) (fO t2 t4 iI : Value) (w : World) : Prop :=
  cO pg (fF 51 fO 1) w fun t24 w =>
  cO pg (eQ 30 t24) w fun t25 w =>
  cO pg (nA .len #[30] 3 [t25]) w fun t26 w =>
  kn fO t2 t4 iI t25 t26 (.int .i64 0) w
theorem P4 (kn : K7) (hn : ∀ g w, kn (g 1) (g 2) (g 4) (g 5) (g 25) (g 26) (g 27) w → Q .normal g w) (h : Fq kn (g 1) (g 2) (g 4) (g 5) w) : eK pg fS (bJ 1 (bJ 1 (aA 1 (aA 3 fN)))) Q g w :=
  dU (kr := no) (l := []) (by kernel_rfl) h hn kT trivial
def Fr (kn : K4) (fO t2 t4 iI : Value) (w : World) : Prop :=
  Fq (fun fO t2 t4 iI t25 t26 t27 w => Bd kn fO t2 t4 iI t25 t26 t27 w) fO t2 t4 iI w
theorem O8 (kn : K4) (hn : ∀ g w, kn (g 1) (g 2) (g 4) (g 5) w → Q .normal g w) (h : Fr kn (g 1) (g 2) (g 4) (g 5) w) : eK pg fS (bJ 1 (aA 1 (aA 3 fN))) Q g w :=
  dX 1 _ g w (by kernel_rfl) (P4 (fH (fun g w => eK pg fS (aA 1 (bJ 1 (aA 1 (aA 3 fN)))) Q g w) Q) g w (fun fO t2 t4 iI t25 t26 t27 w => Bd kn fO t2 t4 iI t25 t26 t27 w) (fun g w h => eN (K := fun g w => eK pg fS (aA 1 (bJ 1 (aA 1 (aA 3 fN)))) Q g w) (O2 Q g w kn hn h)) h)
def AY (R : K1) (fO t2 t4 iI : Value) (w : World) : Prop :=
  Fr (fun fO t2 t4 iI w => uG R fO t2 t4 iI w) fO t2 t4 iI w
theorem P5 (R : K1) (hr : HR pR R Q) (h : AY R (g 1) (g 2) (g 4) (g 5) w) : eK pg fS (aA 1 (aA 3 fN)) Q g w :=
  dX 1 _ g w (by kernel_rfl) (O8 (fH (fun g w => eK pg fS (aA 1 (aA 1 (aA 3 fN))) Q g w) Q) g w (fun fO t2 t4 iI w => uG R fO t2 t4 iI w) (fun g w h => eN (K := fun g w => eK pg fS (aA 1 (aA 1 (aA 3 fN))) Q g w) (Ou Q g w R hr h)) h)
def FV (kn : K4) (fO t2 t4 : Value) (w : World) : Prop :=
  cO pg (fF 51 fO 1) w fun t20 w =>
  cO pg (eQ 30 t20) w fun t21 w =>
  cO pg (nA .len #[30] 3 [t21]) w fun t22 w =>
  cO pg (sI 30 t22 t22) w fun t23 w =>
  kn fO t2 t4 t23 w
theorem Py (kn : K4) (hn : ∀ g w, kn (g 1) (g 2) (g 4) (g 5) w → Q .normal g w) (h : FV kn (g 1) (g 2) (g 4) w) : eK pg fS (bJ 1 (aA 3 fN)) Q g w :=
  dU (kr := no) (l := []) (by kernel_rfl) h hn kT trivial
def rI (R : K1) (fO t2 t4 : Value) (w : World) : Prop :=
  FV (fun fO t2 t4 iI w => AY R fO t2 t4 iI w) fO t2 t4 w
theorem Pz (R : K1) (hr : HR pR R Q) (h : rI R (g 1) (g 2) (g 4) w) : eK pg fS (aA 3 fN) Q g w :=
  dX 1 _ g w (by kernel_rfl) (Py (fH (fun g w => eK pg fS (aA 1 (aA 3 fN)) Q g w) Q) g w (fun fO t2 t4 iI w => AY R fO t2 t4 iI w) (fun g w h => eN (K := fun g w => eK pg fS (aA 1 (aA 3 fN)) Q g w) (P5 Q g w R hr h)) h)
def Bj (kn : K3) (R : K1) (Ox : Value) (w : World) : Prop :=
  cO pg (FZ 51 Ox) w fun fO w =>
  cO pg (jB 26) w fun t2 w =>
  cO pg (eQ 51 fO) w fun t11 w =>
  hJ pg zG #[t11, (.int .i64 15)] w fun t12 w =>
  cO pg (eF .neq 27 (.tmp 12) (.const (.int .i64 0)) t12 (.int .i64 0)) w fun t13 w =>
  lM t13
    (cO pg (iH 26 []) w fun t14 w =>
    cO pg (fG 26 t2 t14) w fun _u w =>
    qB pg 26 t2 w fun r0 => R (.tuple #[r0, (.int .i64 1)]) w)
    (Yx (Ud pN 3 (EW 3 fN) 3 5 w)
      (cO pg (fF 51 fO 0) (dr w) fun t15 w_ => w_ = (dr w) ∧
      cO pg (eQ 3 t15) (dr w) fun t16 w_ => w_ = (dr w) ∧
      cO pg (eQ 51 fO) (dr w) fun t17 w_ => w_ = (dr w) ∧
      hJ pg zJ #[t17] (dr w) fun t18 SN =>
      (gY pg (eQ 3 t15) t16 SN ∧ gY pg (fF 51 fO 0) t15 SN ∧ True) ∧
      cO pg (iH 26 [(0, t16), (1, t18)]) SN fun t19 w_ => w_ = SN ∧
      cO pg (jB 26) SN fun t4 YT =>
      (gY pg (iH 26 [(0, t16), (1, t18)]) t19 YT ∧ gY pg (eQ 3 t15) t16 YT ∧ gY pg (fF 51 fO 0) t15 YT ∧ True) ∧
      cO pg (fG 26 t4 t19) YT fun _u6 Zg =>
      kn fO t2 t4 Zg)
      (cO pg (fF 51 fO 0) (dr w) fun t15 w_ => w_ = (dr w) ∧
      cO pg (eQ 3 t15) (dr w) fun t16 w_ => w_ = (dr w) ∧
      cO pg (eQ 51 fO) (dr w) fun t17 w_ => w_ = (dr w) ∧
      cO pg (jB 26) (dr w) fun t4 SN =>
      (gY pg (eQ 51 fO) t17 SN ∧ gY pg (eQ 3 t15) t16 SN ∧ gY pg (fF 51 fO 0) t15 SN ∧ True) ∧
      hJ pg zJ #[t17] SN fun t18 XC =>
      (gY pg (eQ 3 t15) t16 XC ∧ gY pg (fF 51 fO 0) t15 XC ∧ True) ∧
      cO pg (iH 26 [(0, t16), (1, t18)]) XC fun t19 w_ => w_ = XC ∧
      cO pg (fG 26 t4 t19) XC fun _u6 Zg =>
      kn fO t2 t4 Zg))
theorem Pc (kn : K3) (R : K1) (hn : ∀ g w, kn (g 1) (g 2) (g 4) w → Q .normal g w) (hr : HR pR R Q) (h : Bj kn R (g 0) w) : eK pg fS (bJ 3 fN) Q g w :=
  dU (l := []) (by kernel_rfl) h hn hr trivial
def Bm (R : K1) (Ox : Value) (w : World) : Prop :=
  Bj (fun fO t2 t4 w => rI R fO t2 t4 w) R Ox w
theorem PK (R : K1) (hr : HR pR R Q) (h : Bm R (g 0) w) : eK pg fS fN Q g w :=
  dX 3 _ g w (by kernel_rfl) (Pc (fH (fun g w => eK pg fS (aA 3 fN) Q g w) Q) g w (fun fO t2 t4 w => rI R fO t2 t4 w) R (fun g w h => eN (K := fun g w => eK pg fS (aA 3 fN) Q g w) (Pz Q g w R hr h)) hr h)
def Pl (a0 : Value) (w : World) (R : K1) : Prop :=
  Bm R a0 w
theorem Ii {a0 : Value} {w : World} {R : K1} (h : Pl a0 w R) : hJ pg pN #[a0] w R := by
  refine gJ (ann := fS) (fn := Tryd.f15) (c := fN) (args := [a0]) (rs := pR) (N := 91) TrydM.mixed (by kernel_rfl) Tryd.func15 (by kernel_rfl) (by kernel_rfl) (by kernel_rfl) (of_decide_eq_true (by kernel_rfl)) (by kernel_rfl) ?_
  exact (PK (nK pg pR R) (lI [a0]) w R (fun _ _ h => h) h)
def Gv : FA := ⟨sD, fun i => .leaf ([], []) []⟩
def Cg : List ResultVar := [.cell 2 51]
noncomputable def ET : Code := kJ Tryd.f16
def BR (R : K1) (eM : Value) (w : World) : Prop :=
  cO pg (jB 51) w fun t2 w =>
  cO pg (eF .eql 3 (.tmp 6) (.const (.int .i64 0)) eM (.int .i64 0)) w fun t8 w =>
  lM t8
    (cO pg (eQ 76 (.pointer (some ⟨0, 0, none⟩))) w fun t9 w =>
    cO pg (jB 76) w fun l_3 w =>
    cO pg (fG 76 l_3 t9) w fun _u w =>
    cO pg (mM 76 l_3 none none none) w fun t10 w =>
    cO pg (iH 51 [(0, (.int .i64 6)), (1, t10)]) w fun t11 w =>
    cO pg (fG 51 t2 t11) w fun _u w =>
    qB pg 51 t2 w fun r0 => R r0 w)
    (cO pg (eF .eql 3 (.tmp 6) (.const (.int .i64 1)) eM (.int .i64 1)) w fun t13 w =>
    lM t13
      (cO pg (eQ 77 (.pointer (some ⟨1, 0, none⟩))) w fun t14 w =>
      cO pg (jB 77) w fun l_4 w =>
      cO pg (fG 77 l_4 t14) w fun _u w =>
      cO pg (mM 77 l_4 none none none) w fun t15 w =>
      cO pg (iH 51 [(0, (.int .i64 5)), (1, t15)]) w fun t16 w =>
      cO pg (fG 51 t2 t16) w fun _u w =>
      qB pg 51 t2 w fun r0 => R r0 w)
      (cO pg (eF .eql 3 (.tmp 6) (.const (.int .i64 2)) eM (.int .i64 2)) w fun t18 w =>
      lM t18
        (cO pg (eQ 78 (.pointer (some ⟨2, 0, none⟩))) w fun t19 w =>
        cO pg (jB 78) w fun l_5 w =>
        cO pg (fG 78 l_5 t19) w fun _u w =>
        cO pg (mM 78 l_5 none none none) w fun t20 w =>
        cO pg (iH 51 [(0, (.int .i64 6)), (1, t20)]) w fun t21 w =>
        cO pg (fG 51 t2 t21) w fun _u w =>
        qB pg 51 t2 w fun r0 => R r0 w)
        (cO pg (iH 51 []) w fun t22 w =>
        cO pg (fG 51 t2 t22) w fun _u w =>
        qB pg 51 t2 w fun r0 => R r0 w)))
theorem Kx (R : K1) (hr : HR Cg R Q) (h : BR R (g 0) w) : eK pg Gv ET Q g w :=
  dU (kn := no) (l := []) (by kernel_rfl) h kT hr trivial
def L6 (a0 : Value) (w : World) (R : K1) : Prop :=
  BR R a0 w
theorem Nu {a0 : Value} {w : World} {R : K1} (h : L6 a0 w R) : hJ pg sD #[a0] w R := by
  refine gJ (ann := Gv) (fn := Tryd.f16) (c := ET) (args := [a0]) (rs := Cg) (N := 23) TrydM.mixed (by kernel_rfl) Tryd.func16 (by kernel_rfl) (by kernel_rfl) (by kernel_rfl) (of_decide_eq_true (by kernel_rfl)) (by kernel_rfl) ?_
  exact (Kx (nK pg Cg R) (lI [a0]) w R (fun _ _ h => h) h)
def HY : FA := ⟨zI, fun i => .leaf ([], []) []⟩
def Fy : List ResultVar := [.tmp 2]
noncomputable def Ho : Code := kJ Tryd.f17
def FW (R : K1) (eM : Value) (w : World) : Prop :=
  cO pg (eF .eql 3 (.tmp 6) (.const (.int .i64 1)) eM (.int .i64 1)) w fun t7 w =>
  lM t7
    (R (.int .i64 31) w)
    (hJ pg E2 #[eM] w fun t10 w =>
    cO pg (jC t10 0) w fun t11 w =>
    cO pg (jC t10 1) w fun t12 w =>
    cO pg (jC t10 2) w fun t13 w =>
    cO pg (nA .len #[30] 3 [t13]) w fun t16 w =>
    cO pg (eF .add 3 (.tmp 14) (.tmp 16) t11 t16) w fun t17 w =>
    cO pg (eF .sub 3 (.tmp 17) (.const (.int .i64 1)) t17 (.int .i64 1)) w fun t18 w =>
    R t18 w)
theorem Pk (R : K1) (hr : HR Fy R Q) (h : FW R (g 0) w) : eK pg HY Ho Q g w :=
  dU (kn := no) (l := []) (by kernel_rfl) h kT hr trivial
def R0 (a0 : Value) (w : World) (R : K1) : Prop :=
  FW R a0 w
theorem Ro {a0 : Value} {w : World} {R : K1} (h : R0 a0 w R) : hJ pg zI #[a0] w R := by
  refine gJ (ann := HY) (fn := Tryd.f17) (c := Ho) (args := [a0]) (rs := Fy) (N := 19) TrydM.mixed (by kernel_rfl) Tryd.func17 (by kernel_rfl) (by kernel_rfl) (by kernel_rfl) (of_decide_eq_true (by kernel_rfl)) (by kernel_rfl) ?_
  exact (Pk (nK pg Fy R) (lI [a0]) w R (fun _ _ h => h) h)
def Qv : FA := ⟨Ah, fun i => .leaf ([], []) []⟩
def LH : List ResultVar := [.cell 2 26]
noncomputable def NB : Code := kJ Tryd.f18
def LG (R : K1) (RQ : Value) (w : World) : Prop :=
  cO pg (jB 26) w fun t2 w =>
  cO pg (iH 32 [(0, RQ)]) w fun t4 w =>
  cO pg (iE 24 1 [(0, t4)]) w fun t5 w =>
  cO pg (iH 26 [(1, t5)]) w fun t6 w =>
  cO pg (fG 26 t2 t6) w fun _u w =>
  qB pg 26 t2 w fun r0 => R r0 w
theorem SM (R : K1) (hr : HR LH R Q) (h : LG R (g 0) w) : eK pg Qv NB Q g w :=
  dU (kn := no) (l := []) (by kernel_rfl) h kT hr trivial
def VY (a0 : Value) (w : World) (R : K1) : Prop :=
  LG R a0 w
theorem TP {a0 : Value} {w : World} {R : K1} (h : VY a0 w R) : hJ pg Ah #[a0] w R := by
  refine gJ (ann := Qv) (fn := Tryd.f18) (c := NB) (args := [a0]) (rs := LH) (N := 7) TrydM.mixed (by kernel_rfl) Tryd.func18 (by kernel_rfl) (by kernel_rfl) (by kernel_rfl) (of_decide_eq_true (by kernel_rfl)) (by kernel_rfl) ?_
  exact (SM (nK pg LH R) (lI [a0]) w R (fun _ _ h => h) h)
def Gw : FA := ⟨zG, fun i => .leaf ([], []) []⟩
def Ca : List ResultVar := [.tmp 4]
noncomputable def EY : Code := kJ Tryd.f27
def Cc (R : K1) (Ox C2 : Value) (w : World) : Prop :=
  cO pg (FZ 51 Ox) w fun c_2 w =>
  cO pg (eQ 51 c_2) w fun t6 w =>
  hJ pg zQ #[t6] w fun t7 w =>
  cO pg (V6 .not t7) w fun t8 w =>
  lM t8
    (R (.int .i64 1) w)
    (cO pg (fF 51 c_2 0) w fun t10 w =>
    cO pg (eQ 3 t10) w fun t11 w =>
    cO pg (eF .gtr 3 (.tmp 11) (.tmp 12) t11 C2) w fun t13 w =>
    lM t13
      (R (.int .i64 12) w)
      (R (.int .i64 0) w))
theorem Lq (R : K1) (hr : HR Ca R Q) (h : Cc R (g 0) (g 1) w) : eK pg Gw EY Q g w :=
  dU (kn := no) (l := []) (by kernel_rfl) h kT hr trivial
def MT (a0 a1 : Value) (w : World) (R : K1) : Prop :=
  Cc R a0 a1 w
theorem Oa {a0 a1 : Value} {w : World} {R : K1} (h : MT a0 a1 w R) : hJ pg zG #[a0, a1] w R := by
  refine gJ (ann := Gw) (fn := Tryd.f27) (c := EY) (args := [a0, a1]) (rs := Ca) (N := 14) TrydM.mixed (by kernel_rfl) Tryd.func27 (by kernel_rfl) (by kernel_rfl) (by kernel_rfl) (of_decide_eq_true (by kernel_rfl)) (by kernel_rfl) ?_
  exact (Lq (nK pg Ca R) (lI [a0, a1]) w R (fun _ _ h => h) h)
def eJ : FA := ⟨zJ, fun i => .leaf ([], []) []⟩
def pT : List ResultVar := [.tmp 2]
noncomputable def eB : Code := kJ Tryd.f28
def Bi (R : K1) (gU : Value) (w : World) : Prop :=
  R gU w
theorem PS (R : K1) (hr : HR pT R Q) (h : Bi R (g 4) w) : eK pg eJ (aA 1 (aA 1 (aA 1 (aA 4 eB)))) Q g w :=
  dU (kn := no) (l := []) (by kernel_rfl) h kT hr trivial
def AO (kn : K7) (lN gU fP jY t37 t38 t39 : Value) (w : World) : Prop :=
  cO pg (eF .add 3 (.tmp 39) (.const (.int .i64 1)) t39 (.int .i64 1)) w fun t68 w =>
  kn lN gU fP jY t37 t38 t68 w
theorem PO (kn : K7) (hn : ∀ g w, kn (g 3) (g 4) (g 5) (g 8) (g 37) (g 38) (g 39) w → Q .normal g w) (h : AO kn (g 3) (g 4) (g 5) (g 8) (g 37) (g 38) (g 39) w) : eK pg eJ (aA 1 (aA 2 (bI (bI (aA 1 (bJ 1 (aA 1 (aA 1 (aA 4 eB))))))))) Q g w :=
  dU (kr := no) (l := []) (by kernel_rfl) h hn kT trivial
def AX (kn : Br) (lN gU fP jY qN t37 t38 t39 t45 t46 : Value) (w : World) : Prop :=
  cO pg (eF .add 3 (.tmp 46) (.const (.int .i64 1)) t46 (.int .i64 1)) w fun t67 w =>
  kn lN gU fP jY qN t37 t38 t39 t45 t67 w
theorem PE (kn : Br) (hn : ∀ g w, kn (g 3) (g 4) (g 5) (g 8) (g 9) (g 37) (g 38) (g 39) (g 45) (g 46) w → Q .normal g w) (h : AX kn (g 3) (g 4) (g 5) (g 8) (g 9) (g 37) (g 38) (g 39) (g 45) (g 46) w) : eK pg eJ (aA 1 (aA 2 (bI (bI (aA 2 (bI (aA 1 (bI (bJ 1 (aA 2 (bI (bI (aA 1 (bJ 1 (aA 1 (aA 1 (aA 4 eB))))))))))))))))) Q g w :=
  dU (kr := no) (l := []) (by kernel_rfl) h hn kT trivial
def Bb (kn : Br) (k5 : Br) (lN gU fP jY qN t37 t38 t39 t45 t46 : Value) (w : World) : Prop :=
  cO pg (eF .shr 3 (.tmp 55) (.const (.int .u64 1)) lN (.int .u64 1)) w fun t56 w =>
  cO pg (eF .add 3 (.tmp 54) (.tmp 56) jY t56) w fun t57 w =>
  cO pg (eF .shr 3 (.tmp 58) (.const (.int .u64 3)) lN (.int .u64 3)) w fun t59 w =>
  cO pg (eF .add 3 (.tmp 57) (.tmp 59) t57 t59) w fun t60 w =>
  cO pg (eF .add 3 (.tmp 60) (.const (.int .i64 3)) t60 (.int .i64 3)) w fun t61 w =>
  cO pg (eF .rem 3 (.tmp 61) (.tmp 62) t61 lN) w fun t63 w =>
  cO pg (eF .lss 3 (.tmp 64) (.tmp 65) t63 fP) w fun t66 w =>
  lM t66
    (k5 lN gU fP t63 qN t37 t38 t39 t45 t46 w)
    (kn lN gU fP t63 qN t37 t38 t39 t45 t46 w)
theorem OA (kn : Br) (k5 : Br) (hn : ∀ g w, kn (g 3) (g 4) (g 5) (g 8) (g 9) (g 37) (g 38) (g 39) (g 45) (g 46) w → Q .normal g w) (h5 : ∀ g w, k5 (g 3) (g 4) (g 5) (g 8) (g 9) (g 37) (g 38) (g 39) (g 45) (g 46) w → Q (.exit 5) g w) (h : Bb kn k5 (g 3) (g 4) (g 5) (g 8) (g 9) (g 37) (g 38) (g 39) (g 45) (g 46) w) : eK pg eJ (bI (bI (aA 1 (bI (bJ 1 (aA 2 (bI (bI (aA 2 (bI (aA 1 (bI (bJ 1 (aA 2 (bI (bI (aA 1 (bJ 1 (aA 1 (aA 1 (aA 4 eB))))))))))))))))))))) Q g w :=
  dU (kr := no) (l := [(5, fun g w => k5 (g 3) (g 4) (g 5) (g 8) (g 9) (g 37) (g 38) (g 39) (g 45) (g 46) w)]) (by kernel_rfl) h hn kT ⟨h5, trivial⟩
def Bc (k5 : Br) (lN gU fP jY qN t37 t38 t39 t45 t46 : Value) (w : World) : Prop :=
  iY (fun (X : Value → K0) (t : Value) (w : World) => Bb (fun _ _ _ jY _ _ _ _ _ _ w => X jY w) k5 lN gU fP t qN t37 t38 t39 t45 t46 w) jY w
theorem PC (k5 : Br) (h5 : ∀ g w, k5 (g 3) (g 4) (g 5) (g 8) (g 9) (g 37) (g 38) (g 39) (g 45) (g 46) w → Q (.exit 5) g w) (h : Bc k5 (g 3) (g 4) (g 5) (g 8) (g 9) (g 37) (g 38) (g 39) (g 45) (g 46) w) : eK pg eJ (bI (aA 1 (bI (bJ 1 (aA 2 (bI (bI (aA 2 (bI (aA 1 (bI (bJ 1 (aA 2 (bI (bI (aA 1 (bJ 1 (aA 1 (aA 1 (aA 4 eB)))))))))))))))))))) Q g w := by
  refine iV (T := Value) (fun g : jT => g 8) (fun X t w => Bb (fun _ _ _ jY _ _ _ _ _ _ w => X jY w) k5 (g 3) (g 4) (g 5) t (g 9) (g 37) (g 38) (g 39) (g 45) (g 46) w) _ (by kernel_rfl) h (fun X g1 w1 ha hL => ?_)
  rw [← dW (s := 3) ha (by kernel_rfl)] at hL
  rw [← dW (s := 4) ha (by kernel_rfl)] at hL
  rw [← dW (s := 5) ha (by kernel_rfl)] at hL
  rw [← dW (s := 9) ha (by kernel_rfl)] at hL
  rw [← dW (s := 37) ha (by kernel_rfl)] at hL
  rw [← dW (s := 38) ha (by kernel_rfl)] at hL
  rw [← dW (s := 39) ha (by kernel_rfl)] at hL
  rw [← dW (s := 45) ha (by kernel_rfl)] at hL
  rw [← dW (s := 46) ha (by kernel_rfl)] at hL
  exact (OA (fH (fun g2 w2 => X ((fun g : jT => g 8) g2) w2) Q) g1 w1 (fun _ _ _ jY _ _ _ _ _ _ w => X jY w) k5 (fun _ _ h => h) h5 hL)
def A9 (k5 : Br) (lN gU fP jY qN t37 t38 t39 t45 t46 : Value) (w : World) : Prop :=
  Bc k5 lN gU fP jY qN t37 t38 t39 t45 t46 w
theorem Pd (k5 : Br) (h5 : ∀ g w, k5 (g 3) (g 4) (g 5) (g 8) (g 9) (g 37) (g 38) (g 39) (g 45) (g 46) w → Q (.exit 5) g w) (h : A9 k5 (g 3) (g 4) (g 5) (g 8) (g 9) (g 37) (g 38) (g 39) (g 45) (g 46) w) : eK pg eJ (aA 1 (bI (bJ 1 (aA 2 (bI (bI (aA 2 (bI (aA 1 (bI (bJ 1 (aA 2 (bI (bI (aA 1 (bJ 1 (aA 1 (aA 1 (aA 4 eB))))))))))))))))))) Q g w :=
  iU 6 _ g w (by kernel_rfl) (PC (vI 6 Q) g w k5 h5 h)
def Fn (kn : Br) (lN gU fP jY qN t37 t38 t39 t45 t46 : Value) (w : World) : Prop :=
  cO pg (mL 3 5 qN) w fun t51 w =>
  cO pg (iF 24 gU jY) w fun t52 w =>
  cO pg (fF 32 t52 0) w fun t53 w =>
  cO pg (fG 5 t53 t51) w fun _u w =>
  kn lN gU fP jY qN t37 t38 t39 t45 t46 w
theorem P3 (kn : Br) (hn : ∀ g w, kn (g 3) (g 4) (g 5) (g 8) (g 9) (g 37) (g 38) (g 39) (g 45) (g 46) w → Q .normal g w) (h : Fn kn (g 3) (g 4) (g 5) (g 8) (g 9) (g 37) (g 38) (g 39) (g 45) (g 46) w) : eK pg eJ (bJ 1 (bI (bJ 1 (aA 2 (bI (bI (aA 2 (bI (aA 1 (bI (bJ 1 (aA 2 (bI (bI (aA 1 (bJ 1 (aA 1 (aA 1 (aA 4 eB))))))))))))))))))) Q g w :=
  dU (kr := no) (l := []) (by kernel_rfl) h hn kT trivial
def Fm (k5 : Br) (lN gU fP jY qN t37 t38 t39 t45 t46 : Value) (w : World) : Prop :=
  Fn (fun lN gU fP jY qN t37 t38 t39 t45 t46 w => A9 k5 lN gU fP jY qN t37 t38 t39 t45 t46 w) lN gU fP jY qN t37 t38 t39 t45 t46 w
theorem Pe (k5 : Br) (h5 : ∀ g w, k5 (g 3) (g 4) (g 5) (g 8) (g 9) (g 37) (g 38) (g 39) (g 45) (g 46) w → Q (.exit 5) g w) (h : Fm k5 (g 3) (g 4) (g 5) (g 8) (g 9) (g 37) (g 38) (g 39) (g 45) (g 46) w) : eK pg eJ (bI (bJ 1 (aA 2 (bI (bI (aA 2 (bI (aA 1 (bI (bJ 1 (aA 2 (bI (bI (aA 1 (bJ 1 (aA 1 (aA 1 (aA 4 eB)))))))))))))))))) Q g w :=
  dX 1 _ g w (by kernel_rfl) (P3 (fH (fun g w => eK pg eJ (aA 1 (bI (bJ 1 (aA 2 (bI (bI (aA 2 (bI (aA 1 (bI (bJ 1 (aA 2 (bI (bI (aA 1 (bJ 1 (aA 1 (aA 1 (aA 4 eB))))))))))))))))))) Q g w) Q) g w (fun lN gU fP jY qN t37 t38 t39 t45 t46 w => A9 k5 lN gU fP jY qN t37 t38 t39 t45 t46 w) (fun g w h => eN (K := fun g w => eK pg eJ (aA 1 (bI (bJ 1 (aA 2 (bI (bI (aA 2 (bI (aA 1 (bI (bJ 1 (aA 2 (bI (bI (aA 1 (bJ 1 (aA 1 (aA 1 (aA 4 eB))))))))))))))))))) Q g w) (Pd Q g w k5 h5 h)) h)
def Fc (kn : Br) (lN gU fP jY qN t37 t38 t39 t45 t46 : Value) (w : World) : Prop :=
  Fm kn lN gU fP jY qN t37 t38 t39 t45 t46 w
theorem Qd (kn : Br) (hn : ∀ g w, kn (g 3) (g 4) (g 5) (g 8) (g 9) (g 37) (g 38) (g 39) (g 45) (g 46) w → Q .normal g w) (h : Fc kn (g 3) (g 4) (g 5) (g 8) (g 9) (g 37) (g 38) (g 39) (g 45) (g 46) w) : eK pg eJ (bJ 1 (aA 2 (bI (bI (aA 2 (bI (aA 1 (bI (bJ 1 (aA 2 (bI (bI (aA 1 (bJ 1 (aA 1 (aA 1 (aA 4 eB))))))))))))))))) Q g w :=
  iU 5 _ g w (by kernel_rfl) (Pe (vI 5 Q) g w kn hn h)
def wV (kn : Br) (lN gU fP jY qN t37 t38 t39 t45 t46 : Value) (w : World) : Prop :=
  Fc (fun lN gU fP jY qN t37 t38 t39 t45 t46 w => AX kn lN gU fP jY qN t37 t38 t39 t45 t46 w) lN gU fP jY qN t37 t38 t39 t45 t46 w
theorem L9 (kn : Br) (hn : ∀ g w, kn (g 3) (g 4) (g 5) (g 8) (g 9) (g 37) (g 38) (g 39) (g 45) (g 46) w → Q .normal g w) (h : wV kn (g 3) (g 4) (g 5) (g 8) (g 9) (g 37) (g 38) (g 39) (g 45) (g 46) w) : eK pg eJ (aA 2 (bI (bI (aA 2 (bI (aA 1 (bI (bJ 1 (aA 2 (bI (bI (aA 1 (bJ 1 (aA 1 (aA 1 (aA 4 eB)))))))))))))))) Q g w :=
  dX 1 _ g w (by kernel_rfl) (Qd (fH (fun g w => eK pg eJ (aA 1 (aA 2 (bI (bI (aA 2 (bI (aA 1 (bI (bJ 1 (aA 2 (bI (bI (aA 1 (bJ 1 (aA 1 (aA 1 (aA 4 eB))))))))))))))))) Q g w) Q) g w (fun lN gU fP jY qN t37 t38 t39 t45 t46 w => AX kn lN gU fP jY qN t37 t38 t39 t45 t46 w) (fun g w h => eN (K := fun g w => eK pg eJ (aA 1 (aA 2 (bI (bI (aA 2 (bI (aA 1 (bI (bJ 1 (aA 2 (bI (bI (aA 1 (bJ 1 (aA 1 (aA 1 (aA 4 eB))))))))))))))))) Q g w) (PE Q g w kn hn h)) h)
def xB (kn : Br) (k4 : K7) (lN gU fP jY qN t37 t38 t39 t45 t46 : Value) (w : World) : Prop :=
  cO pg (eF .lss 3 (.tmp 46) (.tmp 45) t46 t45) w fun t47 w =>
  lM t47
    (kn lN gU fP jY qN t37 t38 t39 t45 t46 w)
    (k4 lN gU fP jY t37 t38 t39 w)
theorem Mq (kn : Br) (k4 : K7) (hn : ∀ g w, kn (g 3) (g 4) (g 5) (g 8) (g 9) (g 37) (g 38) (g 39) (g 45) (g 46) w → Q .normal g w) (h4 : ∀ g w, k4 (g 3) (g 4) (g 5) (g 8) (g 37) (g 38) (g 39) w → Q (.exit 4) g w) (h : xB kn k4 (g 3) (g 4) (g 5) (g 8) (g 9) (g 37) (g 38) (g 39) (g 45) (g 46) w) : eK pg eJ (bJ 2 (bI (bI (aA 2 (bI (aA 1 (bI (bJ 1 (aA 2 (bI (bI (aA 1 (bJ 1 (aA 1 (aA 1 (aA 4 eB)))))))))))))))) Q g w :=
  dU (kr := no) (l := [(4, fun g w => k4 (g 3) (g 4) (g 5) (g 8) (g 37) (g 38) (g 39) w)]) (by kernel_rfl) h hn kT ⟨h4, trivial⟩
def tB (kn : Br) (k4 : K7) (lN gU fP jY qN t37 t38 t39 t45 t46 : Value) (w : World) : Prop :=
  xB (fun lN gU fP jY qN t37 t38 t39 t45 t46 w => wV kn lN gU fP jY qN t37 t38 t39 t45 t46 w) k4 lN gU fP jY qN t37 t38 t39 t45 t46 w
theorem N2 (kn : Br) (k4 : K7) (hn : ∀ g w, kn (g 3) (g 4) (g 5) (g 8) (g 9) (g 37) (g 38) (g 39) (g 45) (g 46) w → Q .normal g w) (h4 : ∀ g w, k4 (g 3) (g 4) (g 5) (g 8) (g 37) (g 38) (g 39) w → Q (.exit 4) g w) (h : tB kn k4 (g 3) (g 4) (g 5) (g 8) (g 9) (g 37) (g 38) (g 39) (g 45) (g 46) w) : eK pg eJ (bI (bI (aA 2 (bI (aA 1 (bI (bJ 1 (aA 2 (bI (bI (aA 1 (bJ 1 (aA 1 (aA 1 (aA 4 eB))))))))))))))) Q g w :=
  dX 2 _ g w (by kernel_rfl) (Mq (fH (fun g w => eK pg eJ (aA 2 (bI (bI (aA 2 (bI (aA 1 (bI (bJ 1 (aA 2 (bI (bI (aA 1 (bJ 1 (aA 1 (aA 1 (aA 4 eB)))))))))))))))) Q g w) Q) g w (fun lN gU fP jY qN t37 t38 t39 t45 t46 w => wV kn lN gU fP jY qN t37 t38 t39 t45 t46 w) k4 (fun g w h => eN (K := fun g w => eK pg eJ (aA 2 (bI (bI (aA 2 (bI (aA 1 (bI (bJ 1 (aA 2 (bI (bI (aA 1 (bJ 1 (aA 1 (aA 1 (aA 4 eB)))))))))))))))) Q g w) (L9 Q g w kn hn h)) h4 h)
def DL (k4 : K7) (lN gU fP jY qN t37 t38 t39 t45 t46 : Value) (w : World) : Prop :=
  iY (fun (X : (Value × Value) → K0) (t : Value × Value) (w : World) => tB (fun _ _ _ jY _ _ _ _ _ t46 w => X (jY, t46) w) k4 lN gU fP t.1 qN t37 t38 t39 t45 t.2 w) (jY, t46) w
theorem NV (k4 : K7) (h4 : ∀ g w, k4 (g 3) (g 4) (g 5) (g 8) (g 37) (g 38) (g 39) w → Q (.exit 4) g w) (h : DL k4 (g 3) (g 4) (g 5) (g 8) (g 9) (g 37) (g 38) (g 39) (g 45) (g 46) w) : eK pg eJ (bI (aA 2 (bI (aA 1 (bI (bJ 1 (aA 2 (bI (bI (aA 1 (bJ 1 (aA 1 (aA 1 (aA 4 eB)))))))))))))) Q g w := by
  refine iV (T := Value × Value) (fun g : jT => (g 8, g 46)) (fun X t w => tB (fun _ _ _ jY _ _ _ _ _ t46 w => X (jY, t46) w) k4 (g 3) (g 4) (g 5) t.1 (g 9) (g 37) (g 38) (g 39) (g 45) t.2 w) _ (by kernel_rfl) h (fun X g1 w1 ha hL => ?_)
  rw [← dW (s := 3) ha (by kernel_rfl)] at hL
  rw [← dW (s := 4) ha (by kernel_rfl)] at hL
  rw [← dW (s := 5) ha (by kernel_rfl)] at hL
  rw [← dW (s := 9) ha (by kernel_rfl)] at hL
  rw [← dW (s := 37) ha (by kernel_rfl)] at hL
  rw [← dW (s := 38) ha (by kernel_rfl)] at hL
  rw [← dW (s := 39) ha (by kernel_rfl)] at hL
  rw [← dW (s := 45) ha (by kernel_rfl)] at hL
  exact (N2 (fH (fun g2 w2 => X ((fun g : jT => (g 8, g 46)) g2) w2) Q) g1 w1 (fun _ _ _ jY _ _ _ _ _ t46 w => X (jY, t46) w) k4 (fun _ _ h => h) h4 hL)
def wW (kn : K7) (lN gU fP jY qN t37 t38 t39 t45 t46 : Value) (w : World) : Prop :=
  DL kn lN gU fP jY qN t37 t38 t39 t45 t46 w
theorem Nz (kn : K7) (hn : ∀ g w, kn (g 3) (g 4) (g 5) (g 8) (g 37) (g 38) (g 39) w → Q .normal g w) (h : wW kn (g 3) (g 4) (g 5) (g 8) (g 9) (g 37) (g 38) (g 39) (g 45) (g 46) w) : eK pg eJ (aA 2 (bI (aA 1 (bI (bJ 1 (aA 2 (bI (bI (aA 1 (bJ 1 (aA 1 (aA 1 (aA 4 eB))))))))))))) Q g w :=
  iU 4 _ g w (by kernel_rfl) (NV (vI 4 Q) g w kn hn h)
def DR (kn : Br) (lN gU fP jY qN TD t37 t38 t39 : Value) (w : World) : Prop :=
  cO pg (nA .max #[3, 3] 3 [TD, (.int .i64 0)]) w fun t45 w =>
  kn lN gU fP jY qN t37 t38 t39 t45 (.int .i64 0) w
theorem Ma (kn : Br) (hn : ∀ g w, kn (g 3) (g 4) (g 5) (g 8) (g 9) (g 37) (g 38) (g 39) (g 45) (g 46) w → Q .normal g w) (h : DR kn (g 3) (g 4) (g 5) (g 8) (g 9) (g 10) (g 37) (g 38) (g 39) w) : eK pg eJ (bJ 2 (bI (aA 1 (bI (bJ 1 (aA 2 (bI (bI (aA 1 (bJ 1 (aA 1 (aA 1 (aA 4 eB))))))))))))) Q g w :=
  dU (kr := no) (l := []) (by kernel_rfl) h hn kT trivial
def D9 (kn : K7) (lN gU fP jY qN TD t37 t38 t39 : Value) (w : World) : Prop :=
  DR (fun lN gU fP jY qN t37 t38 t39 t45 t46 w => wW kn lN gU fP jY qN t37 t38 t39 t45 t46 w) lN gU fP jY qN TD t37 t38 t39 w
theorem Nn (kn : K7) (hn : ∀ g w, kn (g 3) (g 4) (g 5) (g 8) (g 37) (g 38) (g 39) w → Q .normal g w) (h : D9 kn (g 3) (g 4) (g 5) (g 8) (g 9) (g 10) (g 37) (g 38) (g 39) w) : eK pg eJ (bI (aA 1 (bI (bJ 1 (aA 2 (bI (bI (aA 1 (bJ 1 (aA 1 (aA 1 (aA 4 eB)))))))))))) Q g w :=
  dX 2 _ g w (by kernel_rfl) (Ma (fH (fun g w => eK pg eJ (aA 2 (bI (aA 1 (bI (bJ 1 (aA 2 (bI (bI (aA 1 (bJ 1 (aA 1 (aA 1 (aA 4 eB))))))))))))) Q g w) Q) g w (fun lN gU fP jY qN t37 t38 t39 t45 t46 w => wW kn lN gU fP jY qN t37 t38 t39 t45 t46 w) (fun g w h => eN (K := fun g w => eK pg eJ (aA 2 (bI (aA 1 (bI (bJ 1 (aA 2 (bI (bI (aA 1 (bJ 1 (aA 1 (aA 1 (aA 4 eB))))))))))))) Q g w) (Nz Q g w kn hn h)) h)
def yX (kn : K7) (lN gU fP jY qN TD t37 t38 t39 : Value) (w : World) : Prop :=
  D9 kn lN gU fP jY qN TD t37 t38 t39 w
theorem Mw (kn : K7) (hn : ∀ g w, kn (g 3) (g 4) (g 5) (g 8) (g 37) (g 38) (g 39) w → Q .normal g w) (h : yX kn (g 3) (g 4) (g 5) (g 8) (g 9) (g 10) (g 37) (g 38) (g 39) w) : eK pg eJ (aA 1 (bI (bJ 1 (aA 2 (bI (bI (aA 1 (bJ 1 (aA 1 (aA 1 (aA 4 eB))))))))))) Q g w :=
  VW _ g w (by kernel_rfl) (Nn Q g w kn hn h)
def Ef (kn : K9) (lN gU fP jY t37 t38 t39 : Value) (w : World) : Prop :=
  cO pg (iF 30 t37 t39) w fun t42 w =>
  cO pg (eQ 3 t42) w fun t43 w =>
  kn lN gU fP jY t39 t43 t37 t38 t39 w
theorem M5 (kn : K9) (hn : ∀ g w, kn (g 3) (g 4) (g 5) (g 8) (g 9) (g 10) (g 37) (g 38) (g 39) w → Q .normal g w) (h : Ef kn (g 3) (g 4) (g 5) (g 8) (g 37) (g 38) (g 39) w) : eK pg eJ (bJ 1 (bI (bJ 1 (aA 2 (bI (bI (aA 1 (bJ 1 (aA 1 (aA 1 (aA 4 eB))))))))))) Q g w :=
  dU (kr := no) (l := []) (by kernel_rfl) h hn kT trivial
def DP (kn : K7) (lN gU fP jY t37 t38 t39 : Value) (w : World) : Prop :=
  Ef (fun lN gU fP jY qN TD t37 t38 t39 w => yX kn lN gU fP jY qN TD t37 t38 t39 w) lN gU fP jY t37 t38 t39 w
theorem Na (kn : K7) (hn : ∀ g w, kn (g 3) (g 4) (g 5) (g 8) (g 37) (g 38) (g 39) w → Q .normal g w) (h : DP kn (g 3) (g 4) (g 5) (g 8) (g 37) (g 38) (g 39) w) : eK pg eJ (bI (bJ 1 (aA 2 (bI (bI (aA 1 (bJ 1 (aA 1 (aA 1 (aA 4 eB)))))))))) Q g w :=
  dX 1 _ g w (by kernel_rfl) (M5 (fH (fun g w => eK pg eJ (aA 1 (bI (bJ 1 (aA 2 (bI (bI (aA 1 (bJ 1 (aA 1 (aA 1 (aA 4 eB))))))))))) Q g w) Q) g w (fun lN gU fP jY qN TD t37 t38 t39 w => yX kn lN gU fP jY qN TD t37 t38 t39 w) (fun g w h => eN (K := fun g w => eK pg eJ (aA 1 (bI (bJ 1 (aA 2 (bI (bI (aA 1 (bJ 1 (aA 1 (aA 1 (aA 4 eB))))))))))) Q g w) (Mw Q g w kn hn h)) h)
def Ec (kn : K7) (lN gU fP jY t37 t38 t39 : Value) (w : World) : Prop :=
  DP kn lN gU fP jY t37 t38 t39 w
theorem Mc (kn : K7) (hn : ∀ g w, kn (g 3) (g 4) (g 5) (g 8) (g 37) (g 38) (g 39) w → Q .normal g w) (h : Ec kn (g 3) (g 4) (g 5) (g 8) (g 37) (g 38) (g 39) w) : eK pg eJ (bJ 1 (aA 2 (bI (bI (aA 1 (bJ 1 (aA 1 (aA 1 (aA 4 eB))))))))) Q g w :=
  iU 3 _ g w (by kernel_rfl) (Na (vI 3 Q) g w kn hn h)
def xZ (kn : K7) (lN gU fP jY t37 t38 t39 : Value) (w : World) : Prop :=
  Ec (fun lN gU fP jY t37 t38 t39 w => AO kn lN gU fP jY t37 t38 t39 w) lN gU fP jY t37 t38 t39 w
theorem Nj (kn : K7) (hn : ∀ g w, kn (g 3) (g 4) (g 5) (g 8) (g 37) (g 38) (g 39) w → Q .normal g w) (h : xZ kn (g 3) (g 4) (g 5) (g 8) (g 37) (g 38) (g 39) w) : eK pg eJ (aA 2 (bI (bI (aA 1 (bJ 1 (aA 1 (aA 1 (aA 4 eB)))))))) Q g w :=
  dX 1 _ g w (by kernel_rfl) (Mc (fH (fun g w => eK pg eJ (aA 1 (aA 2 (bI (bI (aA 1 (bJ 1 (aA 1 (aA 1 (aA 4 eB))))))))) Q g w) Q) g w (fun lN gU fP jY t37 t38 t39 w => AO kn lN gU fP jY t37 t38 t39 w) (fun g w h => eN (K := fun g w => eK pg eJ (aA 1 (aA 2 (bI (bI (aA 1 (bJ 1 (aA 1 (aA 1 (aA 4 eB))))))))) Q g w) (PO Q g w kn hn h)) h)
def yE (kn : K7) (k2 : K1) (lN gU fP jY t37 t38 t39 : Value) (w : World) : Prop :=
  cO pg (eF .lss 3 (.tmp 39) (.tmp 38) t39 t38) w fun t40 w =>
  lM t40
    (kn lN gU fP jY t37 t38 t39 w)
    (k2 gU w)
theorem Nm (kn : K7) (k2 : K1) (hn : ∀ g w, kn (g 3) (g 4) (g 5) (g 8) (g 37) (g 38) (g 39) w → Q .normal g w) (h2 : ∀ g w, k2 (g 4) w → Q (.exit 2) g w) (h : yE kn k2 (g 3) (g 4) (g 5) (g 8) (g 37) (g 38) (g 39) w) : eK pg eJ (bJ 2 (bI (bI (aA 1 (bJ 1 (aA 1 (aA 1 (aA 4 eB)))))))) Q g w :=
  dU (kr := no) (l := [(2, fun g w => k2 (g 4) w)]) (by kernel_rfl) h hn kT ⟨h2, trivial⟩
def sX (kn : K7) (k2 : K1) (lN gU fP jY t37 t38 t39 : Value) (w : World) : Prop :=
  yE (fun lN gU fP jY t37 t38 t39 w => xZ kn lN gU fP jY t37 t38 t39 w) k2 lN gU fP jY t37 t38 t39 w
theorem NO (kn : K7) (k2 : K1) (hn : ∀ g w, kn (g 3) (g 4) (g 5) (g 8) (g 37) (g 38) (g 39) w → Q .normal g w) (h2 : ∀ g w, k2 (g 4) w → Q (.exit 2) g w) (h : sX kn k2 (g 3) (g 4) (g 5) (g 8) (g 37) (g 38) (g 39) w) : eK pg eJ (bI (bI (aA 1 (bJ 1 (aA 1 (aA 1 (aA 4 eB))))))) Q g w :=
  dX 2 _ g w (by kernel_rfl) (Nm (fH (fun g w => eK pg eJ (aA 2 (bI (bI (aA 1 (bJ 1 (aA 1 (aA 1 (aA 4 eB)))))))) Q g w) Q) g w (fun lN gU fP jY t37 t38 t39 w => xZ kn lN gU fP jY t37 t38 t39 w) k2 (fun g w h => eN (K := fun g w => eK pg eJ (aA 2 (bI (bI (aA 1 (bJ 1 (aA 1 (aA 1 (aA 4 eB)))))))) Q g w) (Nj Q g w kn hn h)) h2 h)
def Ed (k2 : K1) (lN gU fP jY t37 t38 t39 : Value) (w : World) : Prop :=
  iY (fun (X : (Value × Value) → K0) (t : Value × Value) (w : World) => sX (fun _ _ _ jY _ _ t39 w => X (jY, t39) w) k2 lN gU fP t.1 t37 t38 t.2 w) (jY, t39) w
theorem Mh (k2 : K1) (h2 : ∀ g w, k2 (g 4) w → Q (.exit 2) g w) (h : Ed k2 (g 3) (g 4) (g 5) (g 8) (g 37) (g 38) (g 39) w) : eK pg eJ (bI (aA 1 (bJ 1 (aA 1 (aA 1 (aA 4 eB)))))) Q g w := by
  refine iV (T := Value × Value) (fun g : jT => (g 8, g 39)) (fun X t w => sX (fun _ _ _ jY _ _ t39 w => X (jY, t39) w) k2 (g 3) (g 4) (g 5) t.1 (g 37) (g 38) t.2 w) _ (by kernel_rfl) h (fun X g1 w1 ha hL => ?_)
  rw [← dW (s := 3) ha (by kernel_rfl)] at hL
  rw [← dW (s := 4) ha (by kernel_rfl)] at hL
  rw [← dW (s := 5) ha (by kernel_rfl)] at hL
  rw [← dW (s := 37) ha (by kernel_rfl)] at hL
  rw [← dW (s := 38) ha (by kernel_rfl)] at hL
  exact (NO (fH (fun g2 w2 => X ((fun g : jT => (g 8, g 39)) g2) w2) Q) g1 w1 (fun _ _ _ jY _ _ t39 w => X (jY, t39) w) k2 (fun _ _ h => h) h2 hL)
def wU (kn : K1) (lN gU fP jY t37 t38 t39 : Value) (w : World) : Prop :=
  Ed kn lN gU fP jY t37 t38 t39 w
theorem ME (kn : K1) (hn : ∀ g w, kn (g 4) w → Q .normal g w) (h : wU kn (g 3) (g 4) (g 5) (g 8) (g 37) (g 38) (g 39) w) : eK pg eJ (aA 1 (bJ 1 (aA 1 (aA 1 (aA 4 eB))))) Q g w :=
  iU 2 _ g w (by kernel_rfl) (Mh (vI 2 Q) g w kn hn h)
def Dm (kn : K7) (fO lN gU fP jY : Value) (w : World) : Prop :=
  cO pg (fF 51 fO 1) w fun t36 w =>
  cO pg (eQ 30 t36) w fun t37 w =>
  cO pg (nA .len #[30] 3 [t37]) w fun t38 w =>
  kn lN gU fP jY t37 t38 (.int .i64 0) w
theorem Mx (kn : K7) (hn : ∀ g w, kn (g 3) (g 4) (g 5) (g 8) (g 37) (g 38) (g 39) w → Q .normal g w) (h : Dm kn (g 1) (g 3) (g 4) (g 5) (g 8) w) : eK pg eJ (bJ 1 (bJ 1 (aA 1 (aA 1 (aA 4 eB))))) Q g w :=
  dU (kr := no) (l := []) (by kernel_rfl) h hn kT trivial
def Dw (kn : K1) (fO lN gU fP jY : Value) (w : World) : Prop :=
  Dm (fun lN gU fP jY t37 t38 t39 w => wU kn lN gU fP jY t37 t38 t39 w) fO lN gU fP jY w
theorem N3 (kn : K1) (hn : ∀ g w, kn (g 4) w → Q .normal g w) (h : Dw kn (g 1) (g 3) (g 4) (g 5) (g 8) w) : eK pg eJ (bJ 1 (aA 1 (aA 1 (aA 4 eB)))) Q g w :=
  dX 1 _ g w (by kernel_rfl) (Mx (fH (fun g w => eK pg eJ (aA 1 (bJ 1 (aA 1 (aA 1 (aA 4 eB))))) Q g w) Q) g w (fun lN gU fP jY t37 t38 t39 w => wU kn lN gU fP jY t37 t38 t39 w) (fun g w h => eN (K := fun g w => eK pg eJ (aA 1 (bJ 1 (aA 1 (aA 1 (aA 4 eB))))) Q g w) (ME Q g w kn hn h)) h)
def yI (R : K1) (fO lN gU fP jY : Value) (w : World) : Prop :=
  Dw (fun gU w => Bi R gU w) fO lN gU fP jY w
theorem ND (R : K1) (hr : HR pT R Q) (h : yI R (g 1) (g 3) (g 4) (g 5) (g 8) w) : eK pg eJ (aA 1 (aA 1 (aA 4 eB))) Q g w :=
  dX 1 _ g w (by kernel_rfl) (N3 (fH (fun g w => eK pg eJ (aA 1 (aA 1 (aA 1 (aA 4 eB)))) Q g w) Q) g w (fun gU w => Bi R gU w) (fun g w h => eN (K := fun g w => eK pg eJ (aA 1 (aA 1 (aA 1 (aA 4 eB)))) Q g w) (PS Q g w R hr h)) h)
def CZ (kn : K5) (fO lN gU fP : Value) (w : World) : Prop :=
  kn fO lN gU fP (.int .i64 0) w
theorem NW (kn : K5) (hn : ∀ g w, kn (g 1) (g 3) (g 4) (g 5) (g 8) w → Q .normal g w) (h : CZ kn (g 1) (g 3) (g 4) (g 5) w) : eK pg eJ (bJ 1 (aA 1 (aA 4 eB))) Q g w :=
  dU (kr := no) (l := []) (by kernel_rfl) h hn kT trivial
def xG (R : K1) (fO lN gU fP : Value) (w : World) : Prop :=
  CZ (fun fO lN gU fP jY w => yI R fO lN gU fP jY w) fO lN gU fP w
theorem N7 (R : K1) (hr : HR pT R Q) (h : xG R (g 1) (g 3) (g 4) (g 5) w) : eK pg eJ (aA 1 (aA 4 eB)) Q g w :=
  dX 1 _ g w (by kernel_rfl) (NW (fH (fun g w => eK pg eJ (aA 1 (aA 1 (aA 4 eB))) Q g w) Q) g w (fun fO lN gU fP jY w => yI R fO lN gU fP jY w) (fun g w h => eN (K := fun g w => eK pg eJ (aA 1 (aA 1 (aA 4 eB))) Q g w) (ND Q g w R hr h)) h)
def zD (kn : K7) (fO lN gU fP t18 t19 t20 : Value) (w : World) : Prop :=
  cO pg (eF .add 3 (.tmp 20) (.const (.int .i64 1)) t20 (.int .i64 1)) w fun t35 w =>
  kn fO lN gU fP t18 t19 t35 w
theorem L2 (kn : K7) (hn : ∀ g w, kn (g 1) (g 3) (g 4) (g 5) (g 18) (g 19) (g 20) w → Q .normal g w) (h : zD kn (g 1) (g 3) (g 4) (g 5) (g 18) (g 19) (g 20) w) : eK pg eJ (aA 3 (bI (bI (aA 1 (bJ 1 (aA 4 eB)))))) Q g w :=
  dU (kr := no) (l := []) (by kernel_rfl) h hn kT trivial
def xH (kn : K7) (k0 : K4) (fO lN gU fP t18 t19 t20 : Value) (w : World) : Prop :=
  cO pg (eF .lss 3 (.tmp 20) (.tmp 19) t20 t19) w fun t21 w =>
  lM t21
    (cO pg (iF 30 t18 t20) w fun t23 w =>
    cO pg (eQ 3 t23) w fun t24 w =>
    cO pg (eF .eql 3 (.tmp 25) (.const (.int .i64 (-1))) t24 (.int .i64 (-1))) w fun t26 w =>
    lM t26
      (cO pg (eF .sub 3 (.tmp 27) (.const (.int .i64 1)) fP (.int .i64 1)) w fun t28 w =>
      cO pg (mL 3 5 t20) w fun t32 w =>
      cO pg (iF 24 gU t28) w fun t33 w =>
      cO pg (fF 32 t33 0) w fun t34 w =>
      cO pg (fG 5 t34 t32) w fun _u w =>
      kn fO lN gU t28 t18 t19 t20 w)
      (kn fO lN gU fP t18 t19 t20 w))
    (k0 fO lN gU fP w)
theorem MM (kn : K7) (k0 : K4) (hn : ∀ g w, kn (g 1) (g 3) (g 4) (g 5) (g 18) (g 19) (g 20) w → Q .normal g w) (h0 : ∀ g w, k0 (g 1) (g 3) (g 4) (g 5) w → Q (.exit 0) g w) (h : xH kn k0 (g 1) (g 3) (g 4) (g 5) (g 18) (g 19) (g 20) w) : eK pg eJ (bJ 3 (bI (bI (aA 1 (bJ 1 (aA 4 eB)))))) Q g w :=
  dU (kr := no) (l := [(0, fun g w => k0 (g 1) (g 3) (g 4) (g 5) w)]) (by kernel_rfl) h hn kT ⟨h0, trivial⟩
def sU (kn : K7) (k0 : K4) (fO lN gU fP t18 t19 t20 : Value) (w : World) : Prop :=
  xH (fun fO lN gU fP t18 t19 t20 w => zD kn fO lN gU fP t18 t19 t20 w) k0 fO lN gU fP t18 t19 t20 w
theorem N6 (kn : K7) (k0 : K4) (hn : ∀ g w, kn (g 1) (g 3) (g 4) (g 5) (g 18) (g 19) (g 20) w → Q .normal g w) (h0 : ∀ g w, k0 (g 1) (g 3) (g 4) (g 5) w → Q (.exit 0) g w) (h : sU kn k0 (g 1) (g 3) (g 4) (g 5) (g 18) (g 19) (g 20) w) : eK pg eJ (bI (bI (aA 1 (bJ 1 (aA 4 eB))))) Q g w :=
  dX 3 _ g w (by kernel_rfl) (MM (fH (fun g w => eK pg eJ (aA 3 (bI (bI (aA 1 (bJ 1 (aA 4 eB)))))) Q g w) Q) g w (fun fO lN gU fP t18 t19 t20 w => zD kn fO lN gU fP t18 t19 t20 w) k0 (fun g w h => eN (K := fun g w => eK pg eJ (aA 3 (bI (bI (aA 1 (bJ 1 (aA 4 eB)))))) Q g w) (L2 Q g w kn hn h)) h0 h)
def Dg (k0 : K4) (fO lN gU fP t18 t19 t20 : Value) (w : World) : Prop :=
  iY (fun (X : (Value × Value) → K0) (t : Value × Value) (w : World) => sU (fun _ _ _ fP _ _ t20 w => X (fP, t20) w) k0 fO lN gU t.1 t18 t19 t.2 w) (fP, t20) w
theorem On (k0 : K4) (h0 : ∀ g w, k0 (g 1) (g 3) (g 4) (g 5) w → Q (.exit 0) g w) (h : Dg k0 (g 1) (g 3) (g 4) (g 5) (g 18) (g 19) (g 20) w) : eK pg eJ (bI (aA 1 (bJ 1 (aA 4 eB)))) Q g w := by
  refine iV (T := Value × Value) (fun g : jT => (g 5, g 20)) (fun X t w => sU (fun _ _ _ fP _ _ t20 w => X (fP, t20) w) k0 (g 1) (g 3) (g 4) t.1 (g 18) (g 19) t.2 w) _ (by kernel_rfl) h (fun X g1 w1 ha hL => ?_)
  rw [← dW (s := 1) ha (by kernel_rfl)] at hL
  rw [← dW (s := 3) ha (by kernel_rfl)] at hL
  rw [← dW (s := 4) ha (by kernel_rfl)] at hL
  rw [← dW (s := 18) ha (by kernel_rfl)] at hL
  rw [← dW (s := 19) ha (by kernel_rfl)] at hL
  exact (N6 (fH (fun g2 w2 => X ((fun g : jT => (g 5, g 20)) g2) w2) Q) g1 w1 (fun _ _ _ fP _ _ t20 w => X (fP, t20) w) k0 (fun _ _ h => h) h0 hL)
def yK (kn : K4) (fO lN gU fP t18 t19 t20 : Value) (w : World) : Prop :=
  Dg kn fO lN gU fP t18 t19 t20 w
theorem M2 (kn : K4) (hn : ∀ g w, kn (g 1) (g 3) (g 4) (g 5) w → Q .normal g w) (h : yK kn (g 1) (g 3) (g 4) (g 5) (g 18) (g 19) (g 20) w) : eK pg eJ (aA 1 (bJ 1 (aA 4 eB))) Q g w :=
  iU 0 _ g w (by kernel_rfl) (On (vI 0 Q) g w kn hn h)
def Dh (kn : K7) (fO lN gU fP : Value) (w : World) : Prop :=
  cO pg (fF 51 fO 1) w fun t17 w =>
  cO pg (eQ 30 t17) w fun t18 w =>
  cO pg (nA .len #[30] 3 [t18]) w fun t19 w =>
  kn fO lN gU fP t18 t19 (.int .i64 0) w
theorem MI (kn : K7) (hn : ∀ g w, kn (g 1) (g 3) (g 4) (g 5) (g 18) (g 19) (g 20) w → Q .normal g w) (h : Dh kn (g 1) (g 3) (g 4) (g 5) w) : eK pg eJ (bJ 1 (bJ 1 (aA 4 eB))) Q g w :=
  dU (kr := no) (l := []) (by kernel_rfl) h hn kT trivial
def D2 (kn : K4) (fO lN gU fP : Value) (w : World) : Prop :=
  Dh (fun fO lN gU fP t18 t19 t20 w => yK kn fO lN gU fP t18 t19 t20 w) fO lN gU fP w
theorem Mj (kn : K4) (hn : ∀ g w, kn (g 1) (g 3) (g 4) (g 5) w → Q .normal g w) (h : D2 kn (g 1) (g 3) (g 4) (g 5) w) : eK pg eJ (bJ 1 (aA 4 eB)) Q g w :=
  dX 1 _ g w (by kernel_rfl) (MI (fH (fun g w => eK pg eJ (aA 1 (bJ 1 (aA 4 eB))) Q g w) Q) g w (fun fO lN gU fP t18 t19 t20 w => yK kn fO lN gU fP t18 t19 t20 w) (fun g w h => eN (K := fun g w => eK pg eJ (aA 1 (bJ 1 (aA 4 eB))) Q g w) (M2 Q g w kn hn h)) h)
def wZ (R : K1) (fO lN gU fP : Value) (w : World) : Prop :=
  D2 (fun fO lN gU fP w => xG R fO lN gU fP w) fO lN gU fP w
theorem Nv (R : K1) (hr : HR pT R Q) (h : wZ R (g 1) (g 3) (g 4) (g 5) w) : eK pg eJ (aA 4 eB) Q g w :=
  dX 1 _ g w (by kernel_rfl) (Mj (fH (fun g w => eK pg eJ (aA 1 (aA 4 eB)) Q g w) Q) g w (fun fO lN gU fP w => xG R fO lN gU fP w) (fun g w h => eN (K := fun g w => eK pg eJ (aA 1 (aA 4 eB)) Q g w) (N7 Q g w R hr h)) h)
def De (kn : K4) (Ox : Value) (w : World) : Prop :=
  cO pg (FZ 51 Ox) w fun fO w =>
  cO pg (fF 51 fO 0) w fun t11 w =>
  cO pg (eQ 3 t11) w fun t12 w =>
  cO pg (eF .shl 3 (.const (.int .i64 1)) (.tmp 12) (.int .i64 1) t12) w fun t13 w =>
  cO pg (sI 24 t13 t13) w fun t15 w =>
  kn fO t13 t15 t13 w
theorem Mz (kn : K4) (hn : ∀ g w, kn (g 1) (g 3) (g 4) (g 5) w → Q .normal g w) (h : De kn (g 0) w) : eK pg eJ (bJ 4 eB) Q g w :=
  dU (kr := no) (l := []) (by kernel_rfl) h hn kT trivial
def DN (R : K1) (Ox : Value) (w : World) : Prop :=
  De (fun fO lN gU fP w => wZ R fO lN gU fP w) Ox w
theorem Ml (R : K1) (hr : HR pT R Q) (h : DN R (g 0) w) : eK pg eJ eB Q g w :=
  dX 4 _ g w (by kernel_rfl) (Mz (fH (fun g w => eK pg eJ (aA 4 eB) Q g w) Q) g w (fun fO lN gU fP w => wZ R fO lN gU fP w) (fun g w h => eN (K := fun g w => eK pg eJ (aA 4 eB) Q g w) (Nv Q g w R hr h)) h)
def R1 (a0 : Value) (w : World) (R : K1) : Prop :=
  DN R a0 w
theorem QQ {a0 : Value} {w : World} {R : K1} (h : R1 a0 w R) : hJ pg zJ #[a0] w R := by
  refine gJ (ann := eJ) (fn := Tryd.f28) (c := eB) (args := [a0]) (rs := pT) (N := 70) TrydM.mixed (by kernel_rfl) Tryd.func28 (by kernel_rfl) (by kernel_rfl) (by kernel_rfl) (of_decide_eq_true (by kernel_rfl)) (by kernel_rfl) ?_
  exact (Ml (nK pg pT R) (lI [a0]) w R (fun _ _ h => h) h)
def E1 : FA := ⟨pG, fun i => .leaf ([], []) []⟩
def Ae : List ResultVar := [.tmp 2]
noncomputable def DO : Code := kJ Tryd.f29
def AD (R : K1) (zS : Value) (w : World) : Prop :=
  lM (.bool false)
    (cO pg (mL 75 56 zS) w fun t4 w =>
    hJ pg LZ #[t4] w fun t5 w =>
    R t5 w)
    (hJ pg rQ #[zS] w fun t7 w =>
    R t7 w)
theorem Jx (R : K1) (hr : HR Ae R Q) (h : AD R (g 0) w) : eK pg E1 DO Q g w :=
  dU (kn := no) (l := []) (by kernel_rfl) h kT hr trivial
def JR (a0 : Value) (w : World) (R : K1) : Prop :=
  AD R a0 w
theorem Lw {a0 : Value} {w : World} {R : K1} (h : JR a0 w R) : hJ pg pG #[a0] w R := by
  refine gJ (ann := E1) (fn := Tryd.f29) (c := DO) (args := [a0]) (rs := Ae) (N := 8) TrydM.mixed (by kernel_rfl) Tryd.func29 (by kernel_rfl) (by kernel_rfl) (by kernel_rfl) (of_decide_eq_true (by kernel_rfl)) (by kernel_rfl) ?_
  exact (Jx (nK pg Ae R) (lI [a0]) w R (fun _ _ h => h) h)
def JL : FA := ⟨E2, fun i => match Nat.beq i 4 with | true => .leaf ([], []) [(false, []), (false, []), (false, []), (false, [])] | false => match Nat.beq i 7 with | true => .leaf ([], []) [(false, []), (false, []), (false, []), (false, [])] | false => .leaf ([], []) []⟩
def Hh : List ResultVar := [.tmp 2, .tmp 3, .tmp 4]
noncomputable def If : Code := kJ Tryd.f30
def G9 (R : K1) (eM : Value) (w : World) : Prop :=
  cO pg (eF .eql 3 (.tmp 7) (.const (.int .i64 0)) eM (.int .i64 0)) w fun t9 w =>
  lM t9
    (cO pg (eQ 109 (.pointer (some ⟨3, 0, none⟩))) w fun t10 w =>
    cO pg (jB 109) w fun l_5 w =>
    cO pg (fG 109 l_5 t10) w fun _u w =>
    cO pg (mM 109 l_5 none none none) (dr w) fun t11 w_ => w_ = (dr w) ∧
    (dr w) = (dr w) ∧
    (dr w) = (dr w) ∧
    (dr w) = (dr w) ∧
    R (.tuple #[(.int .i64 16), (.int .u32 0), t11]) (dr w))
    (cO pg (eF .eql 3 (.tmp 7) (.const (.int .i64 2)) eM (.int .i64 2)) w fun t13 w =>
    lM t13
      (cO pg (eQ 110 (.pointer (some ⟨4, 0, none⟩))) w fun t14 w =>
      cO pg (jB 110) w fun l_6 w =>
      cO pg (fG 110 l_6 t14) w fun _u w =>
      cO pg (mM 110 l_6 none none none) (dr w) fun t15 w_ => w_ = (dr w) ∧
      (dr w) = (dr w) ∧
      (dr w) = (dr w) ∧
      (dr w) = (dr w) ∧
      R (.tuple #[(.int .i64 32), (.int .u32 3), t15]) (dr w))
      (R (.tuple #[(.int .i64 0), (.int .u32 0), (.slice none 0 0)]) w))
theorem QO (R : K1) (hr : HR Hh R Q) (h : G9 R (g 0) w) : eK pg JL If Q g w :=
  dU (kn := no) (l := []) (by kernel_rfl) h kT hr trivial
def Ta (a0 : Value) (w : World) (R : K1) : Prop :=
  G9 R a0 w
theorem RV {a0 : Value} {w : World} {R : K1} (h : Ta a0 w R) : hJ pg E2 #[a0] w R := by
  refine gJ (ann := JL) (fn := Tryd.f30) (c := If) (args := [a0]) (rs := Hh) (N := 16) TrydM.mixed (by kernel_rfl) Tryd.func30 (by kernel_rfl) (by kernel_rfl) (by kernel_rfl) (of_decide_eq_true (by kernel_rfl)) (by kernel_rfl) ?_
  exact (QO (nK pg Hh R) (lI [a0]) w R (fun _ _ h => h) h)
def GF : FA := ⟨oE, fun i => .leaf ([], []) []⟩
def BT : List ResultVar := [.tmp 2]
noncomputable def EZ : Code := kJ Tryd.f34
def wB (R : K1) (p_0 : Value) (w : World) : Prop :=
  cO pg (eF .lss 3 (.tmp 3) (.const (.int .i64 0)) p_0 (.int .i64 0)) w fun t4 w =>
  lM t4
    (R (.int .i64 1) w)
    (R p_0 w)
theorem LL (R : K1) (hr : HR BT R Q) (h : wB R (g 0) w) : eK pg GF EZ Q g w :=
  dU (kn := no) (l := []) (by kernel_rfl) h kT hr trivial
def Hj (a0 : Value) (w : World) (R : K1) : Prop :=
  wB R a0 w
theorem Nh {a0 : Value} {w : World} {R : K1} (h : Hj a0 w R) : hJ pg oE #[a0] w R := by
  refine gJ (ann := GF) (fn := Tryd.f34) (c := EZ) (args := [a0]) (rs := BT) (N := 6) TrydM.mixed (by kernel_rfl) Tryd.func34 (by kernel_rfl) (by kernel_rfl) (by kernel_rfl) (of_decide_eq_true (by kernel_rfl)) (by kernel_rfl) ?_
  exact (LL (nK pg BT R) (lI [a0]) w R (fun _ _ h => h) h)
def kF : FA := ⟨zQ, fun i => .leaf ([], []) []⟩
def mQ : List ResultVar := [.tmp 2]
noncomputable def jW : Code := kJ Tryd.f37
def A3 (R : K1) (mC : Value) (w : World) : Prop :=
  cO pg (eF .eql 3 (.tmp 60) (.const (.int .i64 0)) mC (.int .i64 0)) w fun t61 w =>
  R t61 w
theorem PX (R : K1) (hr : HR mQ R Q) (h : A3 R (g 3) w) : eK pg kF (aA 1 (aA 3 jW)) Q g w :=
  dU (kn := no) (l := []) (by kernel_rfl) h kT hr trivial
def rJ (kn : K4) (k0 : K1) (R : K1) (mC t41 t42 t43 : Value) (w : World) : Prop :=
  cO pg (eF .lss 3 (.tmp 43) (.tmp 42) t43 t42) w fun t44 w =>
  lM t44
    (cO pg (iF 30 t41 t43) w fun t45 w =>
    cO pg (eQ 3 t45) w fun t46 w =>
    cO pg (eF .lss 3 (.tmp 47) (.const (.int .i64 (-1))) t46 (.int .i64 (-1))) w fun t48 w =>
    Gd (kA t48 false) (fun K => K t46 w) w fun t50 w =>
    Gd (kA t48 false) (fun K => hJ pg oE #[t50] w K) w fun t51 w =>
    Gd (kA t48 false) (fun K => K mC w) w fun t52 w =>
    Gd (kA t48 false) (fun K => cO pg (eF .gtr 3 (.tmp 51) (.tmp 52) t51 t52) w K) w fun t53 w =>
    cO pg (kL t48 (.bool true) t53) w fun t54 w =>
    lM t54
      (R (.bool false) w)
      (hJ pg oE #[t46] w fun t57 w =>
      cO pg (eF .sub 3 (.tmp 55) (.tmp 57) mC t57) w fun t58 w =>
      cO pg (eF .add 3 (.tmp 43) (.const (.int .i64 1)) t43 (.int .i64 1)) w fun t59 w =>
      kn t58 t41 t42 t59 w))
    (k0 mC w)
theorem Oy (kn : K4) (k0 : K1) (R : K1) (hn : ∀ g w, kn (g 3) (g 41) (g 42) (g 43) w → Q .normal g w) (h0 : ∀ g w, k0 (g 3) w → Q (.exit 0) g w) (hr : HR mQ R Q) (h : rJ kn k0 R (g 3) (g 41) (g 42) (g 43) w) : eK pg kF (bI (bI (aA 1 (bJ 1 (aA 3 jW))))) Q g w :=
  dU (l := [(0, fun g w => k0 (g 3) w)]) (by kernel_rfl) h hn hr ⟨h0, trivial⟩
def F7 (k0 : K1) (R : K1) (mC t41 t42 t43 : Value) (w : World) : Prop :=
  iY (fun (X : (Value × Value) → K0) (t : Value × Value) (w : World) => rJ (fun mC _ _ t43 w => X (mC, t43) w) k0 R t.1 t41 t42 t.2 w) (mC, t43) w
theorem OD (k0 : K1) (R : K1) (h0 : ∀ g w, k0 (g 3) w → Q (.exit 0) g w) (hr : HR mQ R Q) (h : F7 k0 R (g 3) (g 41) (g 42) (g 43) w) : eK pg kF (bI (aA 1 (bJ 1 (aA 3 jW)))) Q g w := by
  refine iV (T := Value × Value) (fun g : jT => (g 3, g 43)) (fun X t w => rJ (fun mC _ _ t43 w => X (mC, t43) w) k0 R t.1 (g 41) (g 42) t.2 w) _ (by kernel_rfl) h (fun X g1 w1 ha hL => ?_)
  rw [← dW (s := 41) ha (by kernel_rfl)] at hL
  rw [← dW (s := 42) ha (by kernel_rfl)] at hL
  exact (Oy (fH (fun g2 w2 => X ((fun g : jT => (g 3, g 43)) g2) w2) Q) g1 w1 (fun mC _ _ t43 w => X (mC, t43) w) k0 R (fun _ _ h => h) h0 hr hL)
def A8 (kn : K1) (R : K1) (mC t41 t42 t43 : Value) (w : World) : Prop :=
  F7 kn R mC t41 t42 t43 w
theorem OO (kn : K1) (R : K1) (hn : ∀ g w, kn (g 3) w → Q .normal g w) (hr : HR mQ R Q) (h : A8 kn R (g 3) (g 41) (g 42) (g 43) w) : eK pg kF (aA 1 (bJ 1 (aA 3 jW))) Q g w :=
  iU 0 _ g w (by kernel_rfl) (OD (vI 0 Q) g w kn R hn hr h)
def Ff (kn : K4) (fO mC : Value) (w : World) : Prop :=
  cO pg (fF 51 fO 1) w fun t40 w =>
  cO pg (eQ 30 t40) w fun t41 w =>
  cO pg (nA .len #[30] 3 [t41]) w fun t42 w =>
  kn mC t41 t42 (.int .i64 0) w
theorem Po (kn : K4) (hn : ∀ g w, kn (g 3) (g 41) (g 42) (g 43) w → Q .normal g w) (h : Ff kn (g 1) (g 3) w) : eK pg kF (bJ 1 (bJ 1 (aA 3 jW))) Q g w :=
  dU (kr := no) (l := []) (by kernel_rfl) h hn kT trivial
def FY (kn : K1) (R : K1) (fO mC : Value) (w : World) : Prop :=
  Ff (fun mC t41 t42 t43 w => A8 kn R mC t41 t42 t43 w) fO mC w
theorem OV (kn : K1) (R : K1) (hn : ∀ g w, kn (g 3) w → Q .normal g w) (hr : HR mQ R Q) (h : FY kn R (g 1) (g 3) w) : eK pg kF (bJ 1 (aA 3 jW)) Q g w :=
  dX 1 _ g w (by kernel_rfl) (Po (fH (fun g w => eK pg kF (aA 1 (bJ 1 (aA 3 jW))) Q g w) Q) g w (fun mC t41 t42 t43 w => A8 kn R mC t41 t42 t43 w) (fun g w h => eN (K := fun g w => eK pg kF (aA 1 (bJ 1 (aA 3 jW))) Q g w) (OO Q g w kn R hn hr h)) h)
def AR (R : K1) (fO mC : Value) (w : World) : Prop :=
  FY (fun mC w => A3 R mC w) R fO mC w
theorem PU (R : K1) (hr : HR mQ R Q) (h : AR R (g 1) (g 3) w) : eK pg kF (aA 3 jW) Q g w :=
  dX 1 _ g w (by kernel_rfl) (OV (fH (fun g w => eK pg kF (aA 1 (aA 3 jW)) Q g w) Q) g w (fun mC w => A3 R mC w) R (fun g w h => eN (K := fun g w => eK pg kF (aA 1 (aA 3 jW)) Q g w) (PX Q g w R hr h)) hr h)
def E7 (kn : K2) (R : K1) (Ox : Value) (w : World) : Prop :=
  cO pg (FZ 51 Ox) w fun fO w =>
  cO pg (fF 51 fO 0) w fun t6 w =>
  cO pg (eQ 3 t6) w fun t7 w =>
  cO pg (eF .lss 3 (.tmp 7) (.const (.int .i64 5)) t7 (.int .i64 5)) w fun t8 w =>
  Gd (kA t8 false) (fun K => cO pg (fF 51 fO 0) w K) w fun t10 w =>
  Gd (kA t8 false) (fun K => cO pg (eQ 3 t10) w K) w fun t11 w =>
  Gd (kA t8 false) (fun K => cO pg (eF .gtr 3 (.tmp 11) (.const (.int .i64 15)) t11 (.int .i64 15)) w K) w fun t12 w =>
  cO pg (kL t8 (.bool true) t12) w fun t13 w =>
  Gd (kA t13 false) (fun K => cO pg (fF 51 fO 1) w K) w fun t15 w =>
  Gd (kA t13 false) (fun K => cO pg (eQ 30 t15) w K) w fun t16 w =>
  Gd (kA t13 false) (fun K => cO pg (nA .len #[30] 3 [t16]) w K) w fun t17 w =>
  Gd (kA t13 false) (fun K => cO pg (eF .lss 3 (.tmp 17) (.const (.int .i64 1)) t17 (.int .i64 1)) w K) w fun t18 w =>
  cO pg (kL t13 (.bool true) t18) w fun t19 w =>
  Gd (kA t19 false) (fun K => cO pg (fF 51 fO 1) w K) w fun t21 w =>
  Gd (kA t19 false) (fun K => cO pg (eQ 30 t21) w K) w fun t22 w =>
  Gd (kA t19 false) (fun K => cO pg (nA .len #[30] 3 [t22]) w K) w fun t23 w =>
  Gd (kA t19 false) (fun K => cO pg (eF .gtr 3 (.tmp 23) (.const (.int .i64 256)) t23 (.int .i64 256)) w K) w fun t24 w =>
  cO pg (kL t19 (.bool true) t24) w fun t25 w =>
  Gd (kA t25 false) (fun K => cO pg (fF 51 fO 1) w K) w fun t27 w =>
  Gd (kA t25 false) (fun K => cO pg (eQ 30 t27) w K) w fun t28 w =>
  Gd (kA t25 false) (fun K => cO pg (fF 51 fO 1) w K) w fun t29 w =>
  Gd (kA t25 false) (fun K => cO pg (eQ 30 t29) w K) w fun t30 w =>
  Gd (kA t25 false) (fun K => cO pg (nA .len #[30] 3 [t30]) w K) w fun t31 w =>
  Gd (kA t25 false) (fun K => cO pg (eF .sub 3 (.tmp 31) (.const (.int .i64 1)) t31 (.int .i64 1)) w K) w fun t32 w =>
  Gd (kA t25 false) (fun K => cO pg (iF 30 t28 t32) w K) w fun t33 w =>
  Gd (kA t25 false) (fun K => cO pg (eQ 3 t33) w K) w fun t34 w =>
  Gd (kA t25 false) (fun K => cO pg (eF .eql 3 (.tmp 34) (.const (.int .i64 0)) t34 (.int .i64 0)) w K) w fun t35 w =>
  cO pg (kL t25 (.bool true) t35) w fun t36 w =>
  lM t36
    (R (.bool false) w)
    (cO pg (fF 51 fO 0) w fun t37 w =>
    cO pg (eQ 3 t37) w fun t38 w =>
    cO pg (eF .shl 3 (.const (.int .i64 1)) (.tmp 38) (.int .i64 1) t38) w fun t39 w =>
    kn fO t39 w)
theorem PF (kn : K2) (R : K1) (hn : ∀ g w, kn (g 1) (g 3) w → Q .normal g w) (hr : HR mQ R Q) (h : E7 kn R (g 0) w) : eK pg kF (bJ 3 jW) Q g w :=
  dU (l := []) (by kernel_rfl) h hn hr trivial
def FR (R : K1) (Ox : Value) (w : World) : Prop :=
  E7 (fun fO mC w => AR R fO mC w) R Ox w
theorem OI (R : K1) (hr : HR mQ R Q) (h : FR R (g 0) w) : eK pg kF jW Q g w :=
  dX 3 _ g w (by kernel_rfl) (PF (fH (fun g w => eK pg kF (aA 3 jW) Q g w) Q) g w (fun fO mC w => AR R fO mC w) R (fun g w h => eN (K := fun g w => eK pg kF (aA 3 jW) Q g w) (PU Q g w R hr h)) hr h)
def Se (a0 : Value) (w : World) (R : K1) : Prop :=
  FR R a0 w
theorem Rp {a0 : Value} {w : World} {R : K1} (h : Se a0 w R) : hJ pg zQ #[a0] w R := by
  refine gJ (ann := kF) (fn := Tryd.f37) (c := jW) (args := [a0]) (rs := mQ) (N := 62) TrydM.mixed (by kernel_rfl) Tryd.func37 (by kernel_rfl) (by kernel_rfl) (by kernel_rfl) (of_decide_eq_true (by kernel_rfl)) (by kernel_rfl) ?_
  exact (OI (nK pg mQ R) (lI [a0]) w R (fun _ _ h => h) h)
def jX : FA := ⟨nC, fun i => .leaf ([], []) []⟩
def sQ : List ResultVar := [.tmp 2]
noncomputable def jP : Code := kJ Tryd.f44
def yY (R : K1) (rW : Value) (w : World) : Prop :=
  R rW w
theorem MG (R : K1) (hr : HR sQ R Q) (h : yY R (g 3) w) : eK pg jX (aA 1 (aA 2 jP)) Q g w :=
  dU (kn := no) (l := []) (by kernel_rfl) h kT hr trivial
def sP (kn : K3) (k0 : K1) (RH rW lO : Value) (w : World) : Prop :=
  cO pg (eF .lss 3 (.tmp 5) (.tmp 6) lO RH) w fun t7 w =>
  Gd (kA t7 true) (fun K => K lO w) w fun t9 w =>
  Gd (kA t7 true) (fun K => cO pg (eF .lss 3 (.tmp 9) (.const (.int .i64 40)) t9 (.int .i64 40)) w K) w fun t10 w =>
  cO pg (kL t7 t10 (.bool false)) w fun t11 w =>
  lM t11
    (cO pg (eF .mul 3 (.tmp 14) (.const (.int .i64 2)) rW (.int .i64 2)) w fun t15 w =>
    cO pg (eF .add 3 (.tmp 12) (.const (.int .i64 1)) lO (.int .i64 1)) w fun t13 w =>
    kn RH t15 t13 w)
    (k0 rW w)
theorem Oi (kn : K3) (k0 : K1) (hn : ∀ g w, kn (g 0) (g 3) (g 4) w → Q .normal g w) (h0 : ∀ g w, k0 (g 3) w → Q (.exit 0) g w) (h : sP kn k0 (g 0) (g 3) (g 4) w) : eK pg jX (bI (bI (aA 1 (bJ 1 (aA 2 jP))))) Q g w :=
  dU (kr := no) (l := [(0, fun g w => k0 (g 3) w)]) (by kernel_rfl) h hn kT ⟨h0, trivial⟩
def D0 (k0 : K1) (RH rW lO : Value) (w : World) : Prop :=
  iY (fun (X : (Value × Value) → K0) (t : Value × Value) (w : World) => sP (fun _ rW lO w => X (rW, lO) w) k0 RH t.1 t.2 w) (rW, lO) w
theorem MU (k0 : K1) (h0 : ∀ g w, k0 (g 3) w → Q (.exit 0) g w) (h : D0 k0 (g 0) (g 3) (g 4) w) : eK pg jX (bI (aA 1 (bJ 1 (aA 2 jP)))) Q g w := by
  refine iV (T := Value × Value) (fun g : jT => (g 3, g 4)) (fun X t w => sP (fun _ rW lO w => X (rW, lO) w) k0 (g 0) t.1 t.2 w) _ (by kernel_rfl) h (fun X g1 w1 ha hL => ?_)
  rw [← dW (s := 0) ha (by kernel_rfl)] at hL
  exact (Oi (fH (fun g2 w2 => X ((fun g : jT => (g 3, g 4)) g2) w2) Q) g1 w1 (fun _ rW lO w => X (rW, lO) w) k0 (fun _ _ h => h) h0 hL)
def yS (kn : K1) (RH rW lO : Value) (w : World) : Prop :=
  D0 kn RH rW lO w
theorem L1 (kn : K1) (hn : ∀ g w, kn (g 3) w → Q .normal g w) (h : yS kn (g 0) (g 3) (g 4) w) : eK pg jX (aA 1 (bJ 1 (aA 2 jP))) Q g w :=
  iU 0 _ g w (by kernel_rfl) (MU (vI 0 Q) g w kn hn h)
def D8 (kn : K3) (RH rW : Value) (w : World) : Prop :=
  kn RH rW (.int .i64 0) w
theorem Md (kn : K3) (hn : ∀ g w, kn (g 0) (g 3) (g 4) w → Q .normal g w) (h : D8 kn (g 0) (g 3) w) : eK pg jX (bJ 1 (bJ 1 (aA 2 jP))) Q g w :=
  dU (kr := no) (l := []) (by kernel_rfl) h hn kT trivial
def Dc (kn : K1) (RH rW : Value) (w : World) : Prop :=
  D8 (fun RH rW lO w => yS kn RH rW lO w) RH rW w
theorem MQ (kn : K1) (hn : ∀ g w, kn (g 3) w → Q .normal g w) (h : Dc kn (g 0) (g 3) w) : eK pg jX (bJ 1 (aA 2 jP)) Q g w :=
  dX 1 _ g w (by kernel_rfl) (Md (fH (fun g w => eK pg jX (aA 1 (bJ 1 (aA 2 jP))) Q g w) Q) g w (fun RH rW lO w => yS kn RH rW lO w) (fun g w h => eN (K := fun g w => eK pg jX (aA 1 (bJ 1 (aA 2 jP))) Q g w) (L1 Q g w kn hn h)) h)
def yF (R : K1) (RH rW : Value) (w : World) : Prop :=
  Dc (fun rW w => yY R rW w) RH rW w
theorem Nr (R : K1) (hr : HR sQ R Q) (h : yF R (g 0) (g 3) w) : eK pg jX (aA 2 jP) Q g w :=
  dX 1 _ g w (by kernel_rfl) (MQ (fH (fun g w => eK pg jX (aA 1 (aA 2 jP)) Q g w) Q) g w (fun rW w => yY R rW w) (fun g w h => eN (K := fun g w => eK pg jX (aA 1 (aA 2 jP)) Q g w) (MG Q g w R hr h)) h)
def Dr (kn : K2) (RH : Value) (w : World) : Prop :=
  kn RH (.int .i64 1) w
theorem No (kn : K2) (hn : ∀ g w, kn (g 0) (g 3) w → Q .normal g w) (h : Dr kn (g 0) w) : eK pg jX (bJ 2 jP) Q g w :=
  dU (kr := no) (l := []) (by kernel_rfl) h hn kT trivial
def DK (R : K1) (RH : Value) (w : World) : Prop :=
  Dr (fun RH rW w => yF R RH rW w) RH w
theorem Ol (R : K1) (hr : HR sQ R Q) (h : DK R (g 0) w) : eK pg jX jP Q g w :=
  dX 2 _ g w (by kernel_rfl) (No (fH (fun g w => eK pg jX (aA 2 jP) Q g w) Q) g w (fun RH rW w => yF R RH rW w) (fun g w h => eN (K := fun g w => eK pg jX (aA 2 jP) Q g w) (Nr Q g w R hr h)) h)
def QG (a0 : Value) (w : World) (R : K1) : Prop :=
  DK R a0 w
theorem OK {a0 : Value} {w : World} {R : K1} (h : QG a0 w R) : hJ pg nC #[a0] w R := by
  refine gJ (ann := jX) (fn := Tryd.f44) (c := jP) (args := [a0]) (rs := sQ) (N := 17) TrydM.mixed (by kernel_rfl) Tryd.func44 (by kernel_rfl) (by kernel_rfl) (by kernel_rfl) (of_decide_eq_true (by kernel_rfl)) (by kernel_rfl) ?_
  exact (Ol (nK pg sQ R) (lI [a0]) w R (fun _ _ h => h) h)
def jE : FA := ⟨rQ, fun i => .leaf ([], []) []⟩
def mZ : List ResultVar := [.tmp 2]
noncomputable def jA : Code := kJ Tryd.f49
def oK (R : K1) (zS Ch : Value) (w : World) : Prop :=
  cO pg (mL 83 5 zS) w fun t21 w =>
  cO pg (UO 9 (.string ⟨#[0, 1, 2, 2, 3, 3, 3, 3, 4, 4, 4, 4, 4, 4, 4, 4, 5, 5, 5, 5, 5, 5, 5, 5, 5, 5, 5, 5, 5, 5, 5, 5, 6, 6, 6, 6, 6, 6, 6, 6, 6, 6, 6, 6, 6, 6, 6, 6, 6, 6, 6, 6, 6, 6, 6, 6, 6, 6, 6, 6, 6, 6, 6, 6, 7, 7, 7, 7, 7, 7, 7, 7, 7, 7, 7, 7, 7, 7, 7, 7, 7, 7, 7, 7, 7, 7, 7, 7, 7, 7, 7, 7, 7, 7, 7, 7, 7, 7, 7, 7, 7, 7, 7, 7, 7, 7, 7, 7, 7, 7, 7, 7, 7, 7, 7, 7, 7, 7, 7, 7, 7, 7, 7, 7, 7, 7, 7, 7, 8, 8, 8, 8, 8, 8, 8, 8, 8, 8, 8, 8, 8, 8, 8, 8, 8, 8, 8, 8, 8, 8, 8, 8, 8, 8, 8, 8, 8, 8, 8, 8, 8, 8, 8, 8, 8, 8, 8, 8, 8, 8, 8, 8, 8, 8, 8, 8, 8, 8, 8, 8, 8, 8, 8, 8, 8, 8, 8, 8, 8, 8, 8, 8, 8, 8, 8, 8, 8, 8, 8, 8, 8, 8, 8, 8, 8, 8, 8, 8, 8, 8, 8, 8, 8, 8, 8, 8, 8, 8, 8, 8, 8, 8, 8, 8, 8, 8, 8, 8, 8, 8, 8, 8, 8, 8, 8, 8, 8, 8, 8, 8, 8, 8, 8, 8, 8, 8, 8, 8, 8, 8, 8, 8, 8, 8, 8, 8]⟩) t21) w fun t22 w =>
  cO pg (mL 5 3 t22) w fun t23 w =>
  cO pg (eF .add 3 (.tmp 19) (.tmp 23) Ch t23) w fun t24 w =>
  R t24 w
theorem HJ (R : K1) (hr : HR mZ R Q) (h : oK R (g 0) (g 2) w) : eK pg jE (aA 1 (aA 1 (aA 2 jA))) Q g w :=
  dU (kn := no) (l := []) (by kernel_rfl) h kT hr trivial
def wL (kn : K2) (zS Ch : Value) (w : World) : Prop :=
  cO pg (eF .geq 83 (.tmp 13) (.const (.int .u64 256)) zS (.int .u64 256)) w fun t14 w =>
  lM t14
    (cO pg (eF .shr 83 (.tmp 15) (.const (.int .u64 8)) zS (.int .u64 8)) w fun t16 w =>
    cO pg (eF .add 3 (.tmp 17) (.const (.int .i64 8)) Ch (.int .i64 8)) w fun t18 w =>
    kn t16 t18 w)
    (kn zS Ch w)
theorem HB (kn : K2) (hn : ∀ g w, kn (g 0) (g 2) w → Q .normal g w) (h : wL kn (g 0) (g 2) w) : eK pg jE (bJ 1 (aA 1 (aA 2 jA))) Q g w :=
  dU (kr := no) (l := []) (by kernel_rfl) h hn kT trivial
def oM (R : K1) (zS Ch : Value) (w : World) : Prop :=
  wL (fun zS Ch w => oK R zS Ch w) zS Ch w
theorem HE (R : K1) (hr : HR mZ R Q) (h : oM R (g 0) (g 2) w) : eK pg jE (aA 1 (aA 2 jA)) Q g w :=
  dX 1 _ g w (by kernel_rfl) (HB (fH (fun g w => eK pg jE (aA 1 (aA 1 (aA 2 jA))) Q g w) Q) g w (fun zS Ch w => oK R zS Ch w) (fun g w h => eN (K := fun g w => eK pg jE (aA 1 (aA 1 (aA 2 jA))) Q g w) (HJ Q g w R hr h)) h)
def wP (kn : K2) (zS Ch : Value) (w : World) : Prop :=
  cO pg (eF .geq 83 (.tmp 7) (.const (.int .u64 65536)) zS (.int .u64 65536)) w fun t8 w =>
  lM t8
    (cO pg (eF .shr 83 (.tmp 9) (.const (.int .u64 16)) zS (.int .u64 16)) w fun t10 w =>
    cO pg (eF .add 3 (.tmp 11) (.const (.int .i64 16)) Ch (.int .i64 16)) w fun t12 w =>
    kn t10 t12 w)
    (kn zS Ch w)
theorem HI (kn : K2) (hn : ∀ g w, kn (g 0) (g 2) w → Q .normal g w) (h : wP kn (g 0) (g 2) w) : eK pg jE (bJ 1 (aA 2 jA)) Q g w :=
  dU (kr := no) (l := []) (by kernel_rfl) h hn kT trivial
def oF (R : K1) (zS Ch : Value) (w : World) : Prop :=
  wP (fun zS Ch w => oM R zS Ch w) zS Ch w
theorem HK (R : K1) (hr : HR mZ R Q) (h : oF R (g 0) (g 2) w) : eK pg jE (aA 2 jA) Q g w :=
  dX 1 _ g w (by kernel_rfl) (HI (fH (fun g w => eK pg jE (aA 1 (aA 2 jA)) Q g w) Q) g w (fun zS Ch w => oM R zS Ch w) (fun g w h => eN (K := fun g w => eK pg jE (aA 1 (aA 2 jA)) Q g w) (HE Q g w R hr h)) h)
def wI (kn : K2) (zS : Value) (w : World) : Prop :=
  cO pg (eF .geq 83 (.tmp 3) (.const (.int .u64 4294967296)) zS (.int .u64 4294967296)) w fun t4 w =>
  lM t4
    (cO pg (eF .shr 83 (.tmp 5) (.const (.int .u64 32)) zS (.int .u64 32)) w fun t6 w =>
    kn t6 (.int .i64 32) w)
    (kn zS (.int .i64 0) w)
theorem HG (kn : K2) (hn : ∀ g w, kn (g 0) (g 2) w → Q .normal g w) (h : wI kn (g 0) w) : eK pg jE (bJ 2 jA) Q g w :=
  dU (kr := no) (l := []) (by kernel_rfl) h hn kT trivial
def wM (R : K1) (zS : Value) (w : World) : Prop :=
  wI (fun zS Ch w => oF R zS Ch w) zS w
theorem HL (R : K1) (hr : HR mZ R Q) (h : wM R (g 0) w) : eK pg jE jA Q g w :=
  dX 2 _ g w (by kernel_rfl) (HG (fH (fun g w => eK pg jE (aA 2 jA) Q g w) Q) g w (fun zS Ch w => oF R zS Ch w) (fun g w h => eN (K := fun g w => eK pg jE (aA 2 jA) Q g w) (HK Q g w R hr h)) h)
def Hw (a0 : Value) (w : World) (R : K1) : Prop :=
  wM R a0 w
theorem Io {a0 : Value} {w : World} {R : K1} (h : Hw a0 w R) : hJ pg rQ #[a0] w R := by
  refine gJ (ann := jE) (fn := Tryd.f49) (c := jA) (args := [a0]) (rs := mZ) (N := 25) TrydM.mixed (by kernel_rfl) Tryd.func49 (by kernel_rfl) (by kernel_rfl) (by kernel_rfl) (of_decide_eq_true (by kernel_rfl)) (by kernel_rfl) ?_
  exact (HL (nK pg mZ R) (lI [a0]) w R (fun _ _ h => h) h)
def zT : FA := ⟨nM, fun i => .leaf ([], []) []⟩
def tC : List ResultVar := [.tmp 2]
noncomputable def zB : Code := kJ Tryd.f50
def rX (R : K1) (yC : Value) (w : World) : Prop :=
  cO pg (eF .eql 22 (.tmp 3) (.const (.slice none 0 0)) yC (.slice none 0 0)) w fun t4 w =>
  lM t4
    (R (.slice none 0 0) w)
    (cO pg (iE 22 0 []) w fun t5 w =>
    cO pg (nA .append #[22, 22] 22 [t5, yC]) w fun t7 w =>
    R t7 w)
theorem GG (R : K1) (hr : HR tC R Q) (h : rX R (g 0) w) : eK pg zT zB Q g w :=
  dU (kn := no) (l := []) (by kernel_rfl) h kT hr trivial
def EX (a0 : Value) (w : World) (R : K1) : Prop :=
  rX R a0 w
theorem GR {a0 : Value} {w : World} {R : K1} (h : EX a0 w R) : hJ pg nM #[a0] w R := by
  refine gJ (ann := zT) (fn := Tryd.f50) (c := zB) (args := [a0]) (rs := tC) (N := 8) TrydM.mixed (by kernel_rfl) Tryd.func50 (by kernel_rfl) (by kernel_rfl) (by kernel_rfl) (of_decide_eq_true (by kernel_rfl)) (by kernel_rfl) ?_
  exact (GG (nK pg tC R) (lI [a0]) w R (fun _ _ h => h) h)
end Go.Proofs.YtoepfjgekpdddaaDoor
namespace Go.En
open Go
section
variable {P : Program} {w : World} {t : TypeId} {ox oy : Operand} {k : IntKind} {a b : Int}
theorem pU (s : Sem Value) : (V s).run P w = (s.run P w).andThen fun v w => .ok (.value v) w := by
  unfold V; rw [Sem.run_bind] <;> rfl
theorem aaK (s : Sem Unit) : (U s).run P w = (s.run P w).andThen fun _ w => .ok .skip w := by
  unfold U; rw [Sem.run_bind] <;> rfl
theorem fB : (eF .add t ox oy (.int k a) (.int k b)).run P w = .ok (.value (.int k (k.wrap (a + b)))) w := by
  simp [eF, EA, pU, binOp, Op.intArith]
theorem fL : (eF .sub t ox oy (.int k a) (.int k b)).run P w = .ok (.value (.int k (k.wrap (a - b)))) w := by
  simp [eF, EA, pU, binOp, Op.intArith]
theorem fX : (eF .mul t ox oy (.int k a) (.int k b)).run P w = .ok (.value (.int k (k.wrap (a * b)))) w := by
  simp [eF, EA, pU, binOp, Op.intArith]
theorem fW (h : b ≠ 0) : (eF .quo t ox oy (.int k a) (.int k b)).run P w = .ok (.value (.int k (k.wrap (a.tdiv b)))) w := by
  simp [eF, EA, pU, binOp, Op.intDiv, h]
theorem fY (h : b ≠ 0) : (eF .rem t ox oy (.int k a) (.int k b)).run P w = .ok (.value (.int k (a.tmod b))) w := by
  simp [eF, EA, pU, binOp, Op.intDiv, h]
def WV (k : IntKind) (a b : Int) : Int := k.wrap (BitVec.ofInt k.bits a &&& BitVec.ofInt k.bits b).toNat
def ZS (k : IntKind) (a b : Int) : Int := k.wrap (BitVec.ofInt k.bits a ||| BitVec.ofInt k.bits b).toNat
def YL (k : IntKind) (a b : Int) : Int := k.wrap (BitVec.ofInt k.bits a ^^^ BitVec.ofInt k.bits b).toNat
def Wg (k : IntKind) (a b : Int) : Int := k.wrap (BitVec.ofInt k.bits a &&& ~~~BitVec.ofInt k.bits b).toNat
theorem gF : (eF .and t ox oy (.int k a) (.int k b)).run P w = .ok (.value (.int k (WV k a b))) w := by
  simp [eF, EA, pU, binOp, Op.intBits, WV]
theorem iP : (eF .or t ox oy (.int k a) (.int k b)).run P w = .ok (.value (.int k (ZS k a b))) w := by
  simp [eF, EA, pU, binOp, Op.intBits, ZS]
theorem gK : (eF .xor t ox oy (.int k a) (.int k b)).run P w = .ok (.value (.int k (YL k a b))) w := by
  simp [eF, EA, pU, binOp, Op.intBits, YL]
theorem eD : (eF .andNot t ox oy (.int k a) (.int k b)).run P w = .ok (.value (.int k (Wg k a b))) w := by
  simp [eF, EA, pU, binOp, Op.intBits, Wg]
theorem fT {k' : IntKind} (h : 0 ≤ b) : (eF .shl t ox oy (.int k a) (.int k' b)).run P w = .ok (.value (.int k (k.wrap (a * 2 ^ (min b.toNat k.bits))))) w := by
  simp [eF, EA, pU, binOp, Op.shift, Int.not_lt.2 h]
theorem gC {k' : IntKind} (h : 0 ≤ b) : (eF .shr t ox oy (.int k a) (.int k' b)).run P w = .ok (.value (.int k (a.fdiv (2 ^ (min b.toNat k.bits))))) w := by
  simp [eF, EA, pU, binOp, Op.shift, Int.not_lt.2 h]
theorem fR : (eF .eql t ox oy (.int k a) (.int k b)).run P w = .ok (.value (.bool (a == b))) w := by
  simp [eF, EA, pU, binOp, Op.intCmp, eqGuard]
theorem fQ : (eF .neq t ox oy (.int k a) (.int k b)).run P w = .ok (.value (.bool (a != b))) w := by
  simp [eF, EA, pU, binOp, Op.intCmp, eqGuard]
theorem eY : (eF .lss t ox oy (.int k a) (.int k b)).run P w = .ok (.value (.bool (decide (a < b)))) w := by
  simp [eF, EA, pU, binOp, Op.intCmp]
theorem gH : (eF .leq t ox oy (.int k a) (.int k b)).run P w = .ok (.value (.bool (decide (a ≤ b)))) w := by
  simp [eF, EA, pU, binOp, Op.intCmp]
theorem fJ : (eF .gtr t ox oy (.int k a) (.int k b)).run P w = .ok (.value (.bool (decide (b < a)))) w := by
  simp [eF, EA, pU, binOp, Op.intCmp]
theorem fZ : (eF .geq t ox oy (.int k a) (.int k b)).run P w = .ok (.value (.bool (decide (b ≤ a)))) w := by
  simp [eF, EA, pU, binOp, Op.intCmp]
theorem gI : (V6 .neg (.int k a)).run P w = .ok (.value (.int k (k.wrap (0 - a)))) w := by
  simp [V6, pU, Op.unary, Op.intArith]
theorem gO : (V6 .xor (.int k a)).run P w = .ok (.value (.int k (YL k (if k.signed then -1 else k.max) a))) w := by
  simp [V6, pU, Op.unary, Op.intBits, YL]
theorem gD (c : Bool) : (V6 .not (.bool c)).run P w = .ok (.value (.bool !c)) w := by
  simp [V6, pU, Op.unary]
theorem eP (c : Bool) (x y : Value) : (kL (.bool c) x y).run P w = .ok (.value (if c then x else y)) w := by
  simp [kL, asBool]
theorem R8 {x y : Value} {r : Bool} (hg : eqGuard .eql t ox oy x y = pure ()) (hb : binOp .eql t x y = (do pure (.bool (← Op.equal t x y)))) (he : (Op.equal t x y).run P w = .ok r w) :
    (eF .eql t ox oy x y).run P w = .ok (.value (.bool r)) w := by
  unfold eF
  simp only [EA, pU, hg, hb, pure_bind]
  rw [Sem.run_bind, he] <;> rfl
theorem Wk (n : Nat) (c d : Bool) (hu : P.underlying t = some .bool) : (Op.equalIn (n + 1) t (.bool c) (.bool d)).run P w = .ok (c == d) w := by
  simp only [Op.equalIn, underlying]
  simp [hu]
theorem YW (c d : Bool) (hu : P.underlying t = some .bool) : (Op.equal t (.bool c) (.bool d)).run P w = .ok (c == d) w := Wk 9999 c d hu
theorem Zf (c d : Bool) (hu : P.underlying t = some .bool) : (eF .eql t ox oy (.bool c) (.bool d)).run P w = .ok (.value (.bool (c == d))) w :=
  R8 rfl rfl (YW c d hu)
theorem eL {n : Int} (h0 : -9223372036854775808 ≤ n) (h1 : n ≤ 9223372036854775807) : IntKind.i64.wrap n = n := by
  unfold IntKind.wrap; simp [IntKind.bits, IntKind.signed]; split <;> omega
theorem fU {n : Int} (h0 : 0 ≤ n) (h1 : n ≤ 18446744073709551615) : IntKind.u64.wrap n = n := by
  unfold IntKind.wrap; simp [IntKind.bits, IntKind.signed]; omega
theorem gL {n : Int} (h0 : -2147483648 ≤ n) (h1 : n ≤ 2147483647) : IntKind.i32.wrap n = n := by
  unfold IntKind.wrap; simp [IntKind.bits, IntKind.signed]; split <;> omega
theorem gN {n : Int} (h0 : 0 ≤ n) (h1 : n ≤ 4294967295) : IntKind.u32.wrap n = n := by
  unfold IntKind.wrap; simp [IntKind.bits, IntKind.signed]; omega
theorem gM {n : Int} (h0 : 0 ≤ n) (h1 : n ≤ 65535) : IntKind.u16.wrap n = n := by
  unfold IntKind.wrap; simp [IntKind.bits, IntKind.signed]; omega
theorem iK {n : Int} (h0 : 0 ≤ n) (h1 : n ≤ 255) : IntKind.u8.wrap n = n := by
  unfold IntKind.wrap; simp [IntKind.bits, IntKind.signed]; omega
theorem Vt (x y : ByteArray) : (eF .eql t ox oy (.string x) (.string y)).run P w = .ok (.value (.bool (x.toList == y.toList))) w := by
  simp [eF, EA, pU, binOp, Op.stringOp, eqGuard]
theorem Xl (n : Nat) {e : TypeId} (hu : P.underlying t = some (.pointer e)) (x : Option Addr) : (Op.equalIn (n + 1) t (.pointer x) (.pointer none)).run P w = .ok x.isNone w := by
  simp only [Op.equalIn, underlying]
  cases x <;> simp [hu]
theorem Zt {e : TypeId} (hu : P.underlying t = some (.pointer e)) (x : Option Addr) : (Op.equal t (.pointer x) (.pointer none)).run P w = .ok x.isNone w := Xl 9999 hu x
theorem YG (m : Nat) {e : TypeId} (hu : P.underlying t = some (.slice e)) (x : Option Addr) (n c : Nat) : (Op.equalIn (m + 1) t (.slice x n c) (.slice none 0 0)).run P w = .ok x.isNone w := by
  simp only [Op.equalIn, underlying]
  cases x <;> simp [hu]
theorem Z6 {e : TypeId} (hu : P.underlying t = some (.slice e)) (x : Option Addr) (n c : Nat) : (Op.equal t (.slice x n c) (.slice none 0 0)).run P w = .ok x.isNone w := YG 9999 hu x n c
theorem Xz {e : TypeId} (hu : P.underlying t = some (.pointer e)) (x : Option Addr) : (eF .eql t ox oy (.pointer x) (.pointer none)).run P w = .ok (.value (.bool x.isNone)) w :=
  R8 rfl rfl (Zt hu x)
theorem YO {e : TypeId} (hu : P.underlying t = some (.slice e)) (x : Option Addr) (n c : Nat) : (eF .eql t ox oy (.slice x n c) (.slice none 0 0)).run P w = .ok (.value (.bool x.isNone)) w :=
  R8 rfl rfl (Z6 hu x n c)
theorem FC {s : TypeId} {d : TypeDesc} {kd : IntKind} (hs : P.underlying s = some d) (hu : P.underlying t = some (.int kd)) : (mL s t (.int k a)).run P w = .ok (.value (.int kd (kd.wrap a))) w := by
  cases d <;> simp [mL, pU, convert, underlying, hs, hu, Conv.intToInt]
theorem PQ {ty : TypeId} {e : TypeId} (hu : P.underlying t = some (.slice e)) (x : Option Addr) (n c : Nat) : (nA .len #[t] ty [.slice x n c]).run P w = .ok (.value (.int .i64 n)) w := by
  simp [nA, builtin, Builtin.len_, underlying, hu, goInt]
theorem ZI {ty : TypeId} (hu : P.underlying t = some .string) (x : ByteArray) : (nA .len #[t] ty [.string x]).run P w = .ok (.value (.int .i64 x.size)) w := by
  simp [nA, builtin, Builtin.len_, underlying, hu, goInt]
theorem gP {ats : Array TypeId} {ty : TypeId} : (nA .min ats ty [.int k a, .int k b]).run P w = .ok (.value (.int k (if b < a then b else a))) w := by
  simp [nA, builtin, Builtin.min_, Builtin.min2]
theorem gG {ats : Array TypeId} {ty : TypeId} : (nA .max ats ty [.int k a, .int k b]).run P w = .ok (.value (.int k (if b > a then b else a))) w := by
  simp [nA, builtin, Builtin.max_, Builtin.max2]
theorem lE (a b : Value) : (jC (.tuple #[a, b]) 0).run P w = .ok (.value a) w := Eq.trans rfl rfl
theorem lC (a b : Value) : (jC (.tuple #[a, b]) 1).run P w = .ok (.value b) w := Eq.trans rfl rfl
theorem lL (a b c : Value) : (jC (.tuple #[a, b, c]) 0).run P w = .ok (.value a) w := Eq.trans rfl rfl
theorem lJ (a b c : Value) : (jC (.tuple #[a, b, c]) 1).run P w = .ok (.value b) w := Eq.trans rfl rfl
theorem lK (a b c : Value) : (jC (.tuple #[a, b, c]) 2).run P w = .ok (.value c) w := Eq.trans rfl rfl
theorem lV (a b c d : Value) : (jC (.tuple #[a, b, c, d]) 0).run P w = .ok (.value a) w := Eq.trans rfl rfl
theorem lU (a b c d : Value) : (jC (.tuple #[a, b, c, d]) 1).run P w = .ok (.value b) w := Eq.trans rfl rfl
theorem lW (a b c d : Value) : (jC (.tuple #[a, b, c, d]) 2).run P w = .ok (.value c) w := Eq.trans rfl rfl
theorem lT (a b c d : Value) : (jC (.tuple #[a, b, c, d]) 3).run P w = .ok (.value d) w := Eq.trans rfl rfl
theorem gB (x : Addr) : (Et (.pointer (some x))).run P w = .ok (.value (.pointer (some x))) w := Eq.trans rfl rfl
theorem nJ {fs : Array Field} {f : Field} {i : Nat} {inf : TypeInfo} (hu : P.underlying t = some (.struct fs)) (hf : fs[i]? = some f)
    (hi : P.info? f.type = some inf) (hz : inf.size ≠ 0) (x : Addr) : (fF t (.pointer (some x)) i).run P w = .ok (.value (.pointer (some (x.add f.offset)))) w := by
  simp [fF, pU, Instr.fieldAt, underlying, hu, hf, Instr.sureAddr, fieldPlace, sizeOf, typeInfo, hi, hz]
theorem Ul {e : TypeId} {inf : TypeInfo} (hu : P.underlying t = some (.slice e)) (hi : P.info? e = some inf) (x : Addr) (n c : Nat) (h0 : 0 ≤ a) (h1 : a < n) :
    (iF t (.slice (some x) n c) (.int k a)).run P w = .ok (.value (.pointer (some (x.add (a.toNat * inf.size))))) w := by
  simp [iF, pU, Instr.indexAt, asIntOf, underlying, hu, h0, h1, sizeOf, typeInfo, hi]
theorem Xw {e : TypeId} {len : Nat} {inf : TypeInfo} (hu : P.underlying t = some (.array len e)) (hi : P.info? e = some inf) (x : Addr) (h0 : 0 ≤ a) (h1 : a < len) :
    (iF t (.pointer (some x)) (.int k a)).run P w = .ok (.value (.pointer (some (x.add (a.toNat * inf.size))))) w := by
  simp [iF, pU, Instr.indexAt, asIntOf, underlying, hu, h0, h1, sizeOf, typeInfo, hi, Instr.sureAddr]
theorem Zy (hu : P.underlying t = some .string) (x : ByteArray) (h0 : 0 ≤ a) (h1 : a.toNat < x.size) :
    (UO t (.string x) (.int k a)).run P w = .ok (.value (.int .u8 (x[a.toNat]'h1).toNat)) w := by
  simp [UO, pU, Instr.index, asIntOf, underlying, hu, h0, h1]
end
end Go.En
namespace Go.En
open Go
def jL (w : World) (b : Nat) (cs : List Value) : Prop :=
  ∃ T lo hi, w.heap[b]? = some (.cells cs.toArray T (lo, hi)) ∧ (cs.length ≤ lo ∨ hi = lo)
structure gS (w w' : World) (M : Nat → Prop) : Prop where
  os : w'.os = w.os
  tape : w'.tape = w.tape
  output : w'.output = w.output
  size : w.heap.size ≤ w'.heap.size
  keep : ∀ b, b < w.heap.size → ¬ M b → w'.heap[b]? = w.heap[b]?
def jR : Nat → Prop := fun _ => False
theorem gS.refl (w : World) (M : Nat → Prop) : gS w w M := ⟨rfl, rfl, rfl, Nat.le_refl _, fun _ _ _ => rfl⟩
theorem gS.mono {w w' : World} {M N : Nat → Prop} (h : gS w w' M) (hm : ∀ b, b < w.heap.size → M b → N b) : gS w w' N :=
  ⟨h.os, h.tape, h.output, h.size, fun b hb hn => h.keep b hb fun hM => hn (hm b hb hM)⟩
theorem gS.trans {a b c : World} {M N : Nat → Prop} (h : gS a b M) (k : gS b c N) (hn : ∀ x, x < a.heap.size → N x → M x) : gS a c M :=
  ⟨k.os.trans h.os, k.tape.trans h.tape, k.output.trans h.output, Nat.le_trans h.size k.size,
    fun x hx hM => (k.keep x (Nat.lt_of_lt_of_le hx h.size) fun h => hM (hn x hx h)).trans (h.keep x hx hM)⟩
theorem gS.seq {a b c : World} {M : Nat → Prop} (h : gS a b M) (k : gS b c M) : gS a c M := h.trans k fun _ _ h => h
theorem gS.new {a b c : World} {M : Nat → Prop} {x : Nat} (h : gS a b M) (k : gS b c (fun y => y = x)) (hx : a.heap.size ≤ x) : gS a c M :=
  h.trans k fun y hy e => absurd hy (by subst e; omega)
theorem gS.more {a b c : World} {M : Nat → Prop} (h : gS a b M) (k : gS b c (fun _ => False)) : gS a c M := h.trans k fun _ _ h => h.elim
theorem gS.below {w w' : World} (h : gS w w' jR) : Go.RowKit.Below w.heap.size w w' :=
  ⟨h.os, h.tape, h.output, h.size, fun k hk => h.keep k hk fun h => h⟩
theorem gS.dr (w : World) (M : Nat → Prop) : gS w (dr w) M := ⟨rfl, rfl, rfl, Nat.le_refl _, fun _ _ _ => rfl⟩
theorem gS.alloc (w : World) (o : Obj) (M : Nat → Prop) : gS w (w.alloc o) M :=
  ⟨rfl, rfl, rfl, by simp, fun b hb _ => by show (w.heap.push o)[b]? = _; rw [Array.getElem?_push, if_neg (by omega)]⟩
theorem QJ (w : World) (a : Addr) (v : Value) (b : Nat) (h : b ≠ a.block) : (w.setCell a v).heap[b]? = w.heap[b]? := Go.RowKit.Below.heap_setCell w a v b h
theorem gS.setCell (w : World) (a : Addr) (v : Value) {M : Nat → Prop} (h : a.block < w.heap.size → M a.block) : gS w (w.setCell a v) M :=
  ⟨rfl, rfl, rfl, by simp, fun b hb hM => QJ w a v b fun e => hM (e ▸ h (e ▸ hb))⟩
theorem jL.lt {w : World} {b : Nat} {cs : List Value} (h : jL w b cs) : b < w.heap.size := by
  obtain ⟨T, lo, hi, h, _⟩ := h
  rcases Nat.lt_or_ge b w.heap.size with h' | h'
  · exact h'
  · rw [Array.getElem?_eq_none h'] at h; cases h
theorem jL.ext {w w' : World} {b : Nat} {cs : List Value} {M : Nat → Prop} (h : jL w b cs) (hx : gS w w' M) (hM : ¬ M b) : jL w' b cs := by
  have := h.lt
  obtain ⟨T, lo, hi, h, k⟩ := h
  exact ⟨T, lo, hi, by rw [hx.keep b this hM]; exact h, k⟩
theorem jL.cell {w : World} {b off : Nat} {cs : List Value} (h : jL w b cs) : w.cell? ⟨b, off, none⟩ = cs[off]? := by
  obtain ⟨T, lo, hi, h, _⟩ := h
  simp [World.cell?, h]
theorem jL.free {w : World} {b off : Nat} {cs : List Value} {s : Option Nat} (h : jL w b cs) (ho : off < cs.length) : w.frozen? ⟨b, off, s⟩ = false := by
  obtain ⟨T, lo, hi, h, k⟩ := h
  simp only [World.frozen?, h]
  rcases k with k | k <;> (simp; omega)
theorem jL.setCell {w : World} {b off : Nat} {cs : List Value} (h : jL w b cs) (v : Value) : jL (w.setCell ⟨b, off, none⟩ v) b (cs.set off v) := by
  have hb := h.lt
  obtain ⟨T, lo, hi, h, k⟩ := h
  refine ⟨T, lo, hi, ?_, by simpa using k⟩
  simp only [World.setCell, Array.getElem?_modify, h]
  simp
theorem jL.alloc (w : World) (cs : List Value) (T : TypeId) : jL (w.alloc (.cells cs.toArray T)) w.heap.size cs :=
  ⟨T, 0, 0, by show (w.heap.push _)[w.heap.size]? = _; simp, .inr rfl⟩
theorem Xk {w w' : World} {M : Nat → Prop} {a : Addr} {v : Value} (h : w.cell? a = some v) (hx : gS w w' M) (hM : ¬ M a.block) : w'.cell? a = some v := by
  have hb := World.block_lt_of_cell? w a h
  have e := hx.keep _ hb hM
  unfold World.cell? at h ⊢
  rw [e]; exact h
section
variable {P : Program} {w : World} {t : TypeId}
def WP (d : TypeDesc) : Bool := match d with | .struct _ | .array _ _ => true | _ => false
theorem ID {d : TypeDesc} (hu : P.underlying t = some d) : (isAgg t).run P w = .ok (WP d) w := by
  cases d <;> simp [isAgg, underlying, hu, WP]
theorem kO {i : TypeInfo} (hi : P.info? t = some i) : (sizeOf t).run P w = .ok i.size w := by simp [sizeOf, typeInfo, hi]
theorem L4 {b off : Nat} {cs : List Value} (ho : jL w b cs) : ∀ (n i : Nat) (acc : Array Value), off + i + n ≤ cs.length →
    (loadCellsFrom ⟨b, off, none⟩ i n acc).run P w = .ok (acc ++ ((cs.drop (off + i)).take n).toArray) w := by
  intro n
  induction n with
  | zero => intro i acc _; simp [loadCellsFrom]
  | succ n ih =>
    intro i acc h
    have hc : w.cell? ((⟨b, off, none⟩ : Addr).add i) = some cs[off + i] := by
      unfold Addr.add
      split
      · rename_i hi; subst hi; rw [ho.cell]; simp
      · show w.cell? ⟨b, off + i, none⟩ = _; rw [ho.cell]; simp
    simp only [loadCellsFrom, Sem.run_bind, run_load, hc, Result.andThen_ok]
    rw [ih (i + 1) _ (by omega)]
    congr 1
    rw [List.drop_eq_getElem_cons (by omega : off + i < cs.length)]
    simp [Nat.add_assoc]
theorem JO {b off n : Nat} {cs : List Value} (ho : jL w b cs) (h : off + n ≤ cs.length) :
    (loadCells ⟨b, off, none⟩ n).run P w = .ok ((cs.drop off).take n).toArray w := by
  unfold loadCells
  rw [L4 ho n 0 #[] (by omega)]
  simp
theorem G5 {d : TypeDesc} {i : TypeInfo} (hu : P.underlying t = some d) (hd : WP d = true) (hi : P.info? t = some i) {b off : Nat} {cs : List Value} (ho : jL w b cs) (h : off + i.size ≤ cs.length) :
    (eQ t (.pointer (some ⟨b, off, none⟩))).run P w = .ok (.value (.agg ((cs.drop off).take i.size).toArray)) w := by
  unfold eQ
  rw [pU]
  simp only [Instr.loadAt, Instr.sureAddr, loadVar, pure_bind, Sem.run_bind, ID hu, hd, Result.andThen_ok, if_true, kO hi, JO ho h, Sem.run_pure]
def one (v : Value) : Bool := match v with | .agg _ | .tuple _ => false | _ => true
theorem Vs {a : Addr} {v x : Value} (hv : one v = true) (hc : w.cell? a = some x) (hf : w.frozen? a = false) : (store a v).run P w = .ok () (w.setCell a v) := by
  unfold store
  cases v <;> simp [one] at hv <;> simp [Sem.run, hc, hf]
def fV (cs : List Value) (off : Nat) : List Value → List Value
  | [] => cs
  | v :: vs => fV (cs.set off v) (off + 1) vs
theorem C0 {b : Nat} {M : Nat → Prop} (hM : M b) : ∀ (vs : List Value) (w : World) (off i : Nat) (cs : List Value), jL w b cs → off + i + vs.length ≤ cs.length → (∀ v ∈ vs, one v = true) →
    ∃ w', (storeCells ⟨b, off, none⟩ vs i).run P w = .ok () w' ∧ jL w' b (fV cs (off + i) vs) ∧ gS w w' M ∧ w'.heap.size = w.heap.size ∧ w'.drawn = w.drawn := by
  intro vs
  induction vs with
  | nil => intro w off i cs ho _ _; exact ⟨w, by simp [storeCells], ho, gS.refl _ _, rfl, rfl⟩
  | cons v vs ih =>
    intro w off i cs ho h hv
    simp only [List.length_cons] at h
    have ha : (⟨b, off, none⟩ : Addr).add i = ⟨b, off + i, none⟩ := by
      unfold Addr.add; split
      · rename_i hi; subst hi; rfl
      · rfl
    have hlt : off + i < cs.length := by omega
    have hc : w.cell? ⟨b, off + i, none⟩ = some cs[off + i] := by rw [ho.cell]; simp
    have hs := Vs (P := P) (hv v (by simp)) hc (ho.free hlt)
    obtain ⟨w', h1, h2, h3, h4, h5⟩ := ih (w.setCell ⟨b, off + i, none⟩ v) off (i + 1) (cs.set (off + i) v) (ho.setCell v) (by simp; omega) (fun x hx => hv x (List.mem_cons_of_mem _ hx))
    refine ⟨w', ?_, h2, (gS.setCell w _ v fun _ => hM).trans h3 (fun _ _ h => h), by rw [h4]; simp, by rw [h5] <;> rfl⟩
    simp only [storeCells, Sem.run_bind, ha, hs, Result.andThen_ok]
    exact h1
theorem pF {i : TypeInfo} (hi : P.info? t = some i) {b off : Nat} {cs : List Value} (ho : jL w b cs) {v : Value} (hs : v.cells.size = i.size)
    (hv : ∀ x ∈ v.cells.toList, one x = true) (h : off + i.size ≤ cs.length) {K : Value → World → Prop}
    (hk : ∀ w', jL w' b (fV cs off v.cells.toList) → gS w w' (fun x => x = b) → w'.heap.size = w.heap.size → K undef w') : cO P (fG t (.pointer (some ⟨b, off, none⟩)) v) w K := by
  obtain ⟨w', h1, h2, h3, h4, _⟩ := C0 (P := P) (M := fun x => x = b) rfl v.cells.toList w off 0 cs ho (by simp [hs]; omega) hv
  have : (fG t (.pointer (some ⟨b, off, none⟩)) v).run P w = .ok .skip w' := by
    unfold fG
    rw [aaK]
    simp only [Instr.storeAt, Instr.sureAddr, storeVar, pure_bind, Sem.run_bind, kO hi, Result.andThen_ok, hs]
    simp [h1]
  unfold cO
  rw [this]
  exact hk w' h2 h3 h4
theorem Tj {v : Value} (hv : one v = true) : v.cells = #[v] := by cases v <;> simp [one] at hv <;> rfl
theorem Ab {i : TypeInfo} (hi : P.info? t = some i) (h1 : i.size = 1) {b off : Nat} {cs : List Value} (ho : jL w b cs) {v : Value} (hv : one v = true) (h : off < cs.length) {K : Value → World → Prop}
    (hk : ∀ w', jL w' b (cs.set off v) → gS w w' (fun x => x = b) → w'.heap.size = w.heap.size → K undef w') : cO P (fG t (.pointer (some ⟨b, off, none⟩)) v) w K := by
  have e := Tj hv
  refine pF hi ho (by rw [e, h1] <;> rfl) (by rw [e]; simpa using hv) (by omega) fun w' a b c => hk w' ?_ b c
  rw [e] at a; exact a
def Xa (c : Option Value) (w : World) (Ui : Result Next) : Result Next := match c with | some v => .ok (.value v) w | none => Ui
def Ui (P : Program) (t : TypeId) (x : Addr) (w : World) : Result Next := (eQ t (.pointer (some x))).run P w
theorem cX (v : Value) (w : World) (f : Result Next) : Xa (some v) w f = .ok (.value v) w := rfl
theorem Tx {d : TypeDesc} (hu : P.underlying t = some d) (hd : WP d = false) (x : Addr) (w : World) :
    (eQ t (.pointer (some x))).run P w = Xa (w.cell? x) w (Ui P t x w) := by
  cases h : w.cell? x with
  | none => rfl
  | some v =>
    unfold eQ
    rw [pU]
    simp only [Instr.loadAt, Instr.sureAddr, loadVar, pure_bind, Sem.run_bind, ID hu, hd, Result.andThen_ok, Bool.false_eq_true, if_false, run_load, h, Xa]
theorem Mb {d : TypeDesc} {i : TypeInfo} (hu : P.underlying t = some d) (hd : WP d = true) (hi : P.info? t = some i) {b off : Nat} {cs : List Value} (ho : jL w b cs) (h : off + i.size ≤ cs.length) {K : Value → Prop}
    (hk : K (.agg ((cs.drop off).take i.size).toArray)) : qB P t (.pointer (some ⟨b, off, none⟩)) w K := by
  refine ⟨_, ?_, hk⟩
  simp only [asAddr, loadVar, pure_bind, Sem.run_bind, ID hu, hd, Result.andThen_ok, if_true, kO hi, JO ho h, Sem.run_pure]
theorem nR {v : Value} {K : Value → World → Prop} (hk : ∀ w', jL w' w.heap.size v.cells.toList → gS w w' jR → w'.heap.size = w.heap.size + 1 → K (.pointer (some ⟨w.heap.size, 0, none⟩)) w') :
    cO P (FZ t v) w K := by
  have : (FZ t v).run P w = .ok (.value (.pointer (some ⟨w.heap.size, 0, none⟩))) (w.alloc (.cells v.cells.toList.toArray t)) := by
    unfold FZ; rw [pU]
    simp [Instr.box, newVar, newRow]
  unfold cO
  rw [this]
  exact hk _ (jL.alloc _ _ _) (gS.alloc _ _ _) (by simp)
theorem oB {i : TypeInfo} {z : Value} (hi : P.info? t = some i) (hz : i.zero = some z) {K : Value → World → Prop}
    (hk : ∀ w', jL w' w.heap.size z.cells.toList → gS w w' jR → w'.heap.size = w.heap.size + 1 → K (.pointer (some ⟨w.heap.size, 0, none⟩)) w') :
    cO P (jB t) w K := by
  have : (jB t).run P w = .ok (.value (.pointer (some ⟨w.heap.size, 0, none⟩))) (w.alloc (.cells z.cells.toList.toArray t)) := by
    unfold jB; rw [pU]
    simp [Instr.alloc, zeroValue, typeInfo, hi, hz, newVar, newRow]
  unfold cO
  rw [this]
  exact hk _ (jL.alloc _ _ _) (gS.alloc _ _ _) (by simp)
end
theorem IF {P : Program} {w : World} {k : IntKind} {a : Int} {y : Nat} {code : BoundsCode} (h0 : 0 ≤ a) (h1 : a ≤ y) : (Instr.sliceBound (.int k a) y code).run P w = .ok a.toNat w := by
  simp [Instr.sliceBound, asIntOf, h0, h1]
section
variable {P : Program} {w : World} {t e : TypeId} {k k' : IntKind} {lo hi : Int} {i : TypeInfo}
def sL (x : Option Addr) (m l sz : Nat) : Option Addr := if m = l then x else x.map (·.add (l * sz))
theorem VE (hu : P.underlying t = some (.slice e)) (hi' : P.info? e = some i) (x : Option Addr) (n c : Nat) (h0 : 0 ≤ hi) (h1 : hi ≤ c) :
    (mM t (.slice x n c) none (some (.int k hi)) none).run P w = .ok (.value (.slice (sL x c 0 i.size) (hi.toNat - 0) (c - 0))) w := by
  simp only [mM, pU, Instr.sliceAt, underlying, hu, Sem.run_bind, run_program, Result.andThen_ok, Sem.run_pure, Instr.slice, Instr.sliceBounds, pure_bind, IF h0 h1, kO hi', sL]
theorem TL (hu : P.underlying t = some (.slice e)) (hi' : P.info? e = some i) (x : Option Addr) (n c : Nat) (h0 : 0 ≤ lo) (h1 : lo ≤ hi) (h2 : hi ≤ c) :
    (mM t (.slice x n c) (some (.int k lo)) (some (.int k' hi)) none).run P w = .ok (.value (.slice (sL x c lo.toNat i.size) (hi.toNat - lo.toNat) (c - lo.toNat))) w := by
  have h3 : (0 : Int) ≤ hi := by omega
  have h4 : lo ≤ (hi.toNat : Int) := by omega
  simp only [mM, pU, Instr.sliceAt, underlying, hu, Sem.run_bind, run_program, Result.andThen_ok, Sem.run_pure, Instr.slice, Instr.sliceBounds, pure_bind, IF h3 h2, IF h0 h4, kO hi', sL]
def qP (a : Addr) (m l sz : Nat) : Addr := if m = l then a else a.add (l * sz)
theorem UH {n : Nat} (hu : P.underlying t = some (.array n e)) (hi' : P.info? e = some i) (x : Addr) (h0 : 0 ≤ hi) (h1 : hi ≤ n) :
    (mM t (.pointer (some x)) none (some (.int k hi)) none).run P w = .ok (.value (.slice (some (qP x n 0 i.size)) (hi.toNat - 0) (n - 0))) w := by
  simp only [mM, pU, Instr.sliceAt, Instr.sureAddr, underlying, hu, Sem.run_bind, run_program, Result.andThen_ok, Sem.run_pure, Instr.sliceBounds, pure_bind, IF h0 h1, kO hi', qP]
theorem xK {n : Nat} (hu : P.underlying t = some (.array n e)) (hi' : P.info? e = some i) (x : Addr) :
    (mM t (.pointer (some x)) none none none).run P w = .ok (.value (.slice (some (qP x n 0 i.size)) (n - 0) (n - 0))) w := by
  simp only [mM, pU, Instr.sliceAt, Instr.sureAddr, underlying, hu, Sem.run_bind, run_program, Result.andThen_ok, Sem.run_pure, Instr.sliceBounds, pure_bind, kO hi', qP]
end
def Sl (w : World) (v : Value) (l : List Value) : Prop :=
  ∃ a n c, v = .slice a n c ∧ n = l.length ∧ n ≤ c ∧ (0 < n → ∃ b off, a = some ⟨b, off, none⟩ ∧ ∀ i, i < n → w.cell? ⟨b, off + i, none⟩ = l[i]?)
def Vy (v : Value) (M : Nat → Prop) : Prop := match v with | .slice (some a) (_ + 1) _ => M a.block | _ => False
theorem Sl.ext {w w' : World} {v : Value} {l : List Value} {M : Nat → Prop} (h : Sl w v l) (hx : gS w w' M) (hM : ¬ Vy v M) : Sl w' v l := by
  obtain ⟨a, n, c, rfl, hn, hc, h⟩ := h
  refine ⟨a, n, c, rfl, hn, hc, fun h0 => ?_⟩
  obtain ⟨b, off, rfl, h2⟩ := h h0
  refine ⟨b, off, rfl, fun i hi => ?_⟩
  have h1 := h2 i hi
  obtain ⟨v, hv⟩ : ∃ v, l[i]? = some v := ⟨l[i], by simp⟩
  rw [hv] at h1 ⊢
  refine Xk h1 hx ?_
  obtain ⟨m, rfl⟩ : ∃ m, n = m + 1 := ⟨n - 1, by omega⟩
  exact hM
theorem Sl.old {w : World} {v : Value} {l : List Value} (h : Sl w v l) : ¬ Vy v (fun b => w.heap.size ≤ b) := by
  obtain ⟨a, n, c, rfl, hn, hc, h⟩ := h
  unfold Vy
  split
  · rename_i x m _ e
    obtain ⟨rfl, rfl, rfl⟩ : a = some x ∧ n = m + 1 ∧ c = _ := by simpa using e
    obtain ⟨b, off, e, h2⟩ := h (by omega)
    have e := Option.some.inj e; subst e
    have h1 := h2 0 (by omega)
    obtain ⟨v, hv⟩ : ∃ v, l[0]? = some v := ⟨l[0], by simp⟩
    rw [hv] at h1
    have := World.block_lt_of_cell? _ _ h1
    simp at this ⊢; omega
  · simp
def RD (x : UInt8) : Value := .int .u8 x.toNat
abbrev Bs (w : World) (v : Value) (l : List UInt8) : Prop := Sl w v (l.map RD)
end Go.En
namespace Go.En
open Go
theorem B7 (b o n : Nat) : (⟨b, o, none⟩ : Addr).add n = ⟨b, o + n, none⟩ := by
  unfold Addr.add; split
  · rename_i h; subst h; rfl
  · rfl
section
variable {P : Program} {w : World} {t e : TypeId} {k : IntKind} {a : Int}
theorem Td {inf : TypeInfo} {sz : Nat} (hz : inf.size = sz) (hu : P.underlying t = some (.slice e)) (hi : P.info? e = some inf) (b o n c : Nat) (h0 : 0 ≤ a) (h1 : a < n) :
    (iF t (.slice (some ⟨b, o, none⟩) n c) (.int k a)).run P w = .ok (.value (.pointer (some ⟨b, o + a.toNat * sz, none⟩))) w := by
  rw [Ul hu hi _ n c h0 h1, B7, hz]
theorem IA {inf : TypeInfo} (hz : inf.size = 1) (hu : P.underlying t = some (.slice e)) (hi : P.info? e = some inf) (b o n c : Nat) (h0 : 0 ≤ a) (h1 : a < n) :
    (iF t (.slice (some ⟨b, o, none⟩) n c) (.int k a)).run P w = .ok (.value (.pointer (some ⟨b, o + a.toNat, none⟩))) w := by
  rw [Ul hu hi _ n c h0 h1, B7, hz, Nat.mul_one]
theorem Ti {inf : TypeInfo} {len : Nat} (hz : inf.size = 1) (hu : P.underlying t = some (.array len e)) (hi : P.info? e = some inf) (b o : Nat) (h0 : 0 ≤ a) (h1 : a < (len : Int)) :
    (iF t (.pointer (some ⟨b, o, none⟩)) (.int k a)).run P w = .ok (.value (.pointer (some ⟨b, o + a.toNat, none⟩))) w := by
  rw [Xw hu hi _ h0 h1, B7, hz, Nat.mul_one]
end
def Cb (x : ByteArray) : List UInt8 := x.data.toList
theorem Dp (x : ByteArray) : (Cb x).length = x.size := by unfold Cb; rw [Array.length_toList] <;> rfl
theorem V4 (x : ByteArray) (i : Nat) (h : i < x.size) : x[i]'h = (Cb x)[i]'(by rw [Dp]; exact h) := rfl
theorem Zn (l : List UInt8) : Cb ⟨l.toArray⟩ = l := rfl
theorem YI {x y : ByteArray} (h : Cb x = Cb y) : x = y := by
  cases x; cases y; unfold Cb at h; congr; exact Array.toList_inj.1 h
section
variable {P : Program} {w : World} {s d e : TypeId}
theorem Xb (hs : P.underlying s = some (.slice e)) (hd : P.underlying d = some .string) (he : P.underlying e = some (.int .u8)) {l : List UInt8} {v : Value} (h : Bs w v l) :
    (mL s d v).run P w = .ok (.value (.string ⟨l.toArray⟩)) w := by
  obtain ⟨a, n, c, rfl, hn, hc, h⟩ := h
  simp only [List.length_map] at hn
  unfold mL
  rw [pU]
  have key : (convert s d (.slice a n c)).run P w = .ok (.string ⟨l.toArray⟩) w := by
    cases a with
    | none =>
      have hl : l = [] := by
        cases l with
        | nil => rfl
        | cons x l => obtain ⟨b, off, e, _⟩ := h (by rw [hn]; simp); cases e
      subst hl
      rw [run_convert_bytes_string w s d e none n c hs he hd]
      rfl
    | some x =>
      subst hn
      refine run_convert_bytes_back w s d e x c l hs he hd fun j hj => ?_
      obtain ⟨b, off, hx, h2⟩ := h (by omega)
      have hx := Option.some.inj hx
      subst hx
      rw [B7, h2 j hj]
      simp [RD, hj]
  rw [key] <;> rfl
end
end Go.En
namespace Go.En
open Go
theorem ZK (l : List UInt8) : ∀ x ∈ l.map RD, one x = true := by
  intro x hx
  obtain ⟨c, _, rfl⟩ := List.mem_map.1 hx
  rfl
theorem WG {b o m l sz : Nat} (h : l ≠ m) : qP ⟨b, o, none⟩ m l sz = ⟨b, o + l * sz, none⟩ := by
  unfold qP; rw [if_neg (fun e => h e.symm), B7]
theorem Ag {b o m l : Nat} (h : l ≠ m) : qP ⟨b, o, none⟩ m l 1 = ⟨b, o + l, none⟩ := by rw [WG h, Nat.mul_one]
theorem Sl.drop {w : World} {b o n c : Nat} {l : List Value} (h : Sl w (.slice (some ⟨b, o, none⟩) n c) l) {k : Nat} (hk : k ≤ n) :
    Sl w (.slice (sL (some ⟨b, o, none⟩) c k 1) (n - k) (c - k)) (l.drop k) := by
  obtain ⟨x, m, c', e, hm, hc, hh⟩ := h
  cases e
  refine ⟨_, _, _, rfl, by rw [List.length_drop]; omega, by omega, fun h0 => ?_⟩
  obtain ⟨b', o', e, h2⟩ := hh (by omega)
  cases e
  have hne : ¬ c = k := by omega
  refine ⟨b, o + k, by unfold sL; rw [if_neg hne, Option.map_some, B7, Nat.mul_one], fun i hi => ?_⟩
  rw [Nat.add_assoc, h2 (k + i) (by omega), List.getElem?_drop]
theorem Sl.take {w : World} {b o n c : Nat} {l : List Value} (h : Sl w (.slice (some ⟨b, o, none⟩) n c) l) {k : Nat} (hk : k ≤ n) :
    Sl w (.slice (sL (some ⟨b, o, none⟩) c 0 1) (k - 0) (c - 0)) (l.take k) := by
  obtain ⟨x, m, c', e, hm, hc, hh⟩ := h
  cases e
  refine ⟨_, _, _, rfl, by rw [List.length_take]; omega, by omega, fun h0 => ?_⟩
  obtain ⟨b', o', e, h2⟩ := hh (by omega)
  cases e
  have hne : ¬ c = 0 := by omega
  refine ⟨b, o, by unfold sL; rw [if_neg hne, Option.map_some, B7] <;> rfl, fun i hi => ?_⟩
  rw [h2 i (by omega), List.getElem?_take_of_lt (by omega)]
theorem jL.bs {w : World} {b off c : Nat} {cs : List Value} {l : List UInt8} (h : jL w b cs) (hc : l.length ≤ c) (hl : ∀ i (hi : i < l.length), cs[off + i]? = some (RD l[i])) : Bs w (.slice (some ⟨b, off, none⟩) l.length c) l :=
  ⟨_, _, _, rfl, by simp, hc, fun _ => ⟨b, off, rfl, fun i hi => by rw [h.cell, hl i hi]; simp [hi]⟩⟩
section
variable {P : Program} {w : World} {t e : TypeId} {k : IntKind} {a : Int}
theorem TO {b off : Nat} {l : List Value} (h : ∀ i, i < l.length → w.cell? ⟨b, off + i, none⟩ = l[i]?) (n : Nat) (hn : n ≤ l.length) :
    (loadCells ⟨b, off, none⟩ n).run P w = .ok (l.take n).toArray w := by
  have key : ∀ (m i : Nat) (acc : Array Value), i + m ≤ l.length → (loadCellsFrom ⟨b, off, none⟩ i m acc).run P w = .ok (acc ++ ((l.drop i).take m).toArray) w := by
    intro m
    induction m with
    | zero => intro i acc _; simp [loadCellsFrom]
    | succ m ih =>
      intro i acc hm
      have hc := h i (by omega)
      rw [List.getElem?_eq_getElem (by omega)] at hc
      simp only [loadCellsFrom, Sem.run_bind, run_load, B7, hc, Result.andThen_ok]
      rw [ih (i + 1) _ (by omega), List.drop_eq_getElem_cons (by omega : i < l.length), List.take_succ_cons]
      simp
  unfold loadCells
  rw [key n 0 #[] (by omega)]
  simp
theorem Yb {i : TypeInfo} {z : Value} (hu : P.underlying t = some (.slice e)) (hi : P.info? e = some i) (h1 : i.size = 1) (hz : i.zero = some z) (hz1 : one z = true) {n : Int} (h0 : 0 ≤ n) (hn : i.bytes * n ≤ 2 ^ 48) (hn2 : n ≤ 9223372036854775807)
    {K : Value → World → Prop}
    (hk : ∀ w', jL w' w.heap.size (List.replicate n.toNat z) → gS w w' jR → w'.heap.size = w.heap.size + 1 → K (.slice (some ⟨w.heap.size, 0, none⟩) n.toNat n.toNat) w') :
    cO P (sI t (.int k n) (.int k n)) w K := by
  have hw : IntKind.i64.wrap n = n := eL (by omega) hn2
  have hcells : z.cells = #[z] := Tj hz1
  have harr : (Array.range n.toNat).map (fun j => (#[z] : Array Value)[j % (#[z] : Array Value).size]!) = (List.replicate n.toNat z).toArray := by
    apply Array.ext
    · simp
    · intro j h1 h2; simp [Nat.mod_one]
  have hz' : (zeroValue e).run P w = .ok z w := by simp [zeroValue, typeInfo, hi, hz]
  have : (sI t (.int k n) (.int k n)).run P w = .ok (.value (.slice (some ⟨w.heap.size, 0, none⟩) n.toNat n.toNat)) (w.alloc (.cells (List.replicate n.toNat z).toArray e)) := by
    unfold sI
    rw [pU]
    have t1 : (decide (n < 0) || decide ((i.bytes : Int) * n > 2 ^ 48) || decide (n < 0) || decide (n > n)) = false := by
      simp only [Bool.or_eq_false_iff, decide_eq_false_iff_not]; omega
    by_cases hn0 : n.toNat = 0
    · simp only [Instr.makeSlice, underlying, typeInfo, asInt, asIntOf, pure_bind, Sem.run_bind, run_program, Result.andThen_ok, hu, hi, Sem.run_pure, hw, t1, Bool.false_eq_true, if_false, run_askRoom, kO hi, h1, Nat.mul_one, hn0, if_true, newRow, run_newObj]
      have : (Array.range 0).map (fun x => (#[] : Array Value)[x % (#[] : Array Value).size]!) = (List.replicate 0 z).toArray := by simp
      rw [this]
      rfl
    · simp only [Instr.makeSlice, underlying, typeInfo, asInt, asIntOf, pure_bind, Sem.run_bind, run_program, Result.andThen_ok, hu, hi, Sem.run_pure, hw, t1, Bool.false_eq_true, if_false, run_askRoom, kO hi, h1, Nat.mul_one, hn0, hz', hcells, newRow, run_newObj, harr]
      rfl
  unfold cO
  rw [this]
  exact hk _ (jL.alloc _ _ _) (gS.alloc _ _ _) (by simp)
end
end Go.En
namespace Go.En
open Go
def Cl (w : World) (sz : Nat) (v : Value) (n : Nat) (l : List Value) : Prop :=
  ∃ a c, v = .slice a n c ∧ l.length = n * sz ∧ (0 < n → ∃ b off, a = some ⟨b, off, none⟩ ∧ ∀ i, i < l.length → w.cell? ⟨b, off + i, none⟩ = l[i]?)
def uE (w : World) (base sz : Nat) (v : Value) (n : Nat) (l : List Value) : Prop :=
  l.length = n * sz ∧ ((v = .slice none 0 0 ∧ n = 0) ∨
    ∃ b c rest, v = .slice (some ⟨b, 0, none⟩) n c ∧ base ≤ b ∧ jL w b (l ++ rest) ∧ (l ++ rest).length = c * sz ∧ n ≤ c)
def US (w : World) (S : Nat → Prop) (sz : Nat) (v : Value) (n : Nat) (l : List Value) : Prop :=
  l.length = n * sz ∧ ((v = .slice none 0 0 ∧ n = 0) ∨
    ∃ b c rest, v = .slice (some ⟨b, 0, none⟩) n c ∧ S b ∧ jL w b (l ++ rest) ∧ (l ++ rest).length = c * sz ∧ n ≤ c)
theorem Sl.cl {w : World} {v : Value} {l : List Value} (h : Sl w v l) : Cl w 1 v l.length l := by
  obtain ⟨a, n, c, rfl, rfl, hc, h⟩ := h
  exact ⟨a, c, rfl, by omega, fun h0 => h h0⟩
theorem jL.cl {w : World} {b sz n c off : Nat} {cs l : List Value} (h : jL w b cs) (hl : l.length = n * sz) (hcs : ∀ i, i < l.length → cs[off + i]? = l[i]?) : Cl w sz (.slice (some ⟨b, off, none⟩) n c) n l :=
  ⟨_, _, rfl, hl, fun _ => ⟨b, off, rfl, fun i hi => by rw [h.cell, hcs i hi]⟩⟩
theorem uE.nil (w : World) (base sz : Nat) : uE w base sz (.slice none 0 0) 0 [] := ⟨by simp, .inl ⟨rfl, rfl⟩⟩
theorem uE.ext {w w' : World} {base sz n : Nat} {v : Value} {l : List Value} {M : Nat → Prop} (h : uE w base sz v n l) (hx : gS w w' M) (hM : ∀ b, base ≤ b → ¬ M b) : uE w' base sz v n l := by
  refine ⟨h.1, ?_⟩
  rcases h.2 with h2 | ⟨b, c, rest, h1, h2, h3, h4, h5⟩
  · exact .inl h2
  · exact .inr ⟨b, c, rest, h1, h2, h3.ext hx (hM b h2), h4, h5⟩
theorem uE.cl {w : World} {base sz n : Nat} {v : Value} {l : List Value} (h : uE w base sz v n l) : Cl w sz v n l := by
  rcases h.2 with ⟨rfl, rfl⟩ | ⟨b, c, rest, rfl, h2, h3, h4, h5⟩
  · exact ⟨_, _, rfl, h.1, fun h => by omega⟩
  · refine ⟨_, _, rfl, h.1, fun _ => ⟨b, 0, rfl, fun i hi => ?_⟩⟩
    rw [h3.cell, Nat.zero_add, List.getElem?_append_left hi]
theorem uE.sl {w : World} {base n : Nat} {v : Value} {l : List Value} (h : uE w base 1 v n l) : Sl w v l := by
  have hl := h.1
  rcases h.2 with ⟨rfl, rfl⟩ | ⟨b, c, rest, rfl, h2, h3, h4, h5⟩
  · exact ⟨_, _, _, rfl, by omega, by omega, fun h => by omega⟩
  · refine ⟨_, _, _, rfl, by omega, h5, fun _ => ⟨b, 0, rfl, fun i hi => ?_⟩⟩
    rw [h3.cell, Nat.zero_add, List.getElem?_append_left (by omega)]
section
variable {P : Program} {w : World} {t e : TypeId}
theorem MR {b off : Nat} {l : List Value} (h : ∀ i, i < l.length → w.cell? ⟨b, off + i, none⟩ = l[i]?) : (loadCells ⟨b, off, none⟩ l.length).run P w = .ok l.toArray w := by
  have := TO (P := P) h l.length (Nat.le_refl _)
  rwa [List.take_length] at this
theorem uI {sz n : Nat} {v : Value} {l : List Value} (h : Cl w sz v n l) : (Builtin.firstCells sz n v).run P w = .ok l.toArray w := by
  obtain ⟨x, c, rfl, hl, hh⟩ := h
  cases x with
  | none =>
    have : n = 0 := by
      rcases Nat.eq_zero_or_pos n with h | h
      · exact h
      · obtain ⟨b, off, e, _⟩ := hh h; cases e
    subst this
    have : l = [] := List.length_eq_zero_iff.1 (by omega)
    subst this
    simp [Builtin.firstCells]
  | some x =>
    simp only [Builtin.firstCells]
    rw [← hl]
    by_cases h0 : 0 < n
    · obtain ⟨b, off, e, h2⟩ := hh h0
      have e := Option.some.inj e; subst e
      exact MR h2
    · have : n = 0 := by omega
      subst this
      have : l = [] := List.length_eq_zero_iff.1 (by omega)
      subst this
      simp [loadCells, loadCellsFrom]
theorem oC (zs : Array Value) (n : Nat) : (Builtin.zeroCells zs n).size = n * zs.size := by simp [Builtin.zeroCells]
theorem F3 (vs : List Value) : ∀ (aaZ rest : List Value), vs.length ≤ rest.length → fV (aaZ ++ rest) aaZ.length vs = aaZ ++ vs ++ rest.drop vs.length := by
  induction vs with
  | nil => intro aaZ rest _; simp [fV]
  | cons v vs ih =>
    intro aaZ rest h
    cases rest with
    | nil => simp at h
    | cons r rest =>
      have := ih (aaZ ++ [v]) rest (by simpa using h)
      simp only [fV, List.length_append, List.length_cons, List.length_nil, List.append_assoc, List.cons_append, List.nil_append] at this ⊢
      rw [List.drop_succ_cons, ← this, List.set_append_right _ _ (Nat.le_refl _), Nat.sub_self, List.set_cons_zero, Nat.zero_add]
theorem Qp {S : Nat → Prop} {sz n m : Nat} {i : TypeInfo} {z : Value} {ty t2 e2 : TypeId} (hu : P.underlying t = some (.slice e)) (hu2 : P.underlying t2 = some (.slice e2)) (hi : P.info? e = some i) (hsz : i.size = sz) (hz : i.zero = some z) (hzs : z.cells.size = sz)
    {v x : Value} {l news : List Value} (h : US w S sz v n l) (hx : Cl w sz x m news) (hone : ∀ y ∈ news, one y = true) (hb : ∀ b, w.heap.size ≤ b → S b)
    (hn : n + m ≤ 9223372036854775807) (hbytes : (n + m) * i.bytes ≤ 140737488355328) (_hpos : i.bytes ≠ 0)
    {K : Value → World → Prop} (hk : ∀ v' w', US w' S sz v' (n + m) (l ++ news) → gS w w' S → K v' w') : cO P (nA .append #[t, t2] ty [v, x]) w K := by
  have hlx : (Builtin.lenOf x).run P w = .ok m w := by
    obtain ⟨a, c, rfl, _⟩ := hx; simp [Builtin.lenOf]
  have hnl := hx.choose_spec.choose_spec.2.1
  have hfx := uI (P := P) hx
  have hmax : IntKind.i64.max = 9223372036854775807 := by decide
  have hnot : ¬ (((n + m : Nat) : Int) > IntKind.i64.max ∧ (False ∨ i.bytes = 0)) := by rw [hmax]; omega
  have hz' : ∀ w, (zeroValue e).run P w = .ok z w := fun w => by simp [zeroValue, typeInfo, hi, hz]
  have hlen := h.1
  rcases h.2 with ⟨rfl, rfl⟩ | ⟨b, c, rest, rfl, h2, h3, h4, h5⟩
  ·
    have hl0 : l = [] := List.length_eq_zero_iff.1 (by omega)
    subst hl0
    by_cases hm : m = 0
    · subst hm
      have hn0 : news = [] := List.length_eq_zero_iff.1 (by omega)
      subst hn0
      have : (nA .append #[t, t2] ty [.slice none 0 0, x]).run P w = .ok (.value (.slice none 0 0)) w := by
        unfold nA builtin
        simp only [Builtin.append_, List.getElem?_toArray, List.getElem?_cons_zero, List.getElem?_cons_succ]
        simp only [underlying, Sem.run_bind, run_program, Result.andThen_ok, hu, hu2, Sem.run_pure, kO hi, hsz, Bool.false_eq_true, if_false, hlx, Nat.le_refl, Nat.add_zero, if_true, Bool.not_false, hfx]
      unfold cO
      rw [this]
      exact hk _ _ ⟨by simp, .inl ⟨rfl, by omega⟩⟩ (gS.refl _ _)
    · have hfit := growslice_fits (need := 0 + m) (old := 0) (bytes := i.bytes) (by omega) (by omega)
      have hfit' : ¬ (Builtin.nextslicecap (0 + m) 0 * i.bytes > 2 ^ 48) := by omega
      have hle : ¬ (0 + m ≤ 0) := by omega
      have hq : (Question.appendCap (0 + m) 0 e).forced = false := rfl
      obtain ⟨r, hr⟩ : ∃ r, (Question.appendCap (0 + m) 0 e).cut (w.tape w.drawn (.appendCap (0 + m) 0 e)) = m + r :=
        ⟨(w.tape w.drawn (.appendCap (0 + m) 0 e)) % (2 ^ 63 - (0 + m)), by simp only [Question.cut]; omega⟩
      have : (nA .append #[t, t2] ty [.slice none 0 0, x]).run P w = .ok (.value (.slice (some ⟨w.heap.size, 0, none⟩) (0 + m) (m + r))) ((dr w).alloc (.cells (news ++ (Builtin.zeroCells z.cells (m + r - (0 + m))).toList).toArray e)) := by
        have hfx' := uI (P := P) (w := dr w) hx
        unfold nA builtin
        simp only [Builtin.append_, List.getElem?_toArray, List.getElem?_cons_zero, List.getElem?_cons_succ]
        simp only [underlying, typeInfo, Sem.run_bind, run_program, Result.andThen_ok, hu, hu2, hi, Sem.run_pure, kO hi, hsz, Bool.false_eq_true, if_false, hlx, hle, Bool.not_false, if_true, hnot, hfit', run_choose, hq, hr, run_askRoom]
        change ((Sem.run P _ (dr w)).andThen _).andThen _ = _
        simp only [Sem.run_bind, hfx', run_firstCells_none, Result.andThen_ok, hz', Sem.run_pure, newRow, run_newObj]
        have e1 : (#[] ++ news.toArray ++ Builtin.zeroCells z.cells (m + r - (0 + m)) : Array Value) = (news ++ (Builtin.zeroCells z.cells (m + r - (0 + m))).toList).toArray := by
          apply Array.ext'; simp
        rw [e1]
        rfl
      unfold cO
      rw [this]
      refine hk _ _ ⟨by simp only [List.nil_append]; rw [hnl, Nat.zero_add], .inr ⟨w.heap.size, m + r, (Builtin.zeroCells z.cells (m + r - (0 + m))).toList, by rw [Nat.zero_add], hb _ (Nat.le_refl _), jL.alloc (dr w) _ _, ?_, by omega⟩⟩ ((gS.dr w _).seq (gS.alloc _ _ _))
      simp only [List.nil_append, List.length_append, Array.length_toList, oC, hzs, hnl]
      rw [show m + r - (0 + m) = r from by omega, Nat.add_mul]
  · by_cases hc : n + m ≤ c
    ·
      have hroom : news.length ≤ rest.length := by
        rw [List.length_append, hlen] at h4
        have : (n + m) * sz ≤ c * sz := Nat.mul_le_mul_right _ hc
        rw [Nat.add_mul] at this; omega
      obtain ⟨w', s1, s2, s3, s4, _⟩ := C0 (P := P) (M := S) h2 news w (n * sz) 0 (l ++ rest) h3 (by rw [List.length_append, hlen]; omega) hone
      have : (nA .append #[t, t2] ty [.slice (some ⟨b, 0, none⟩) n c, x]).run P w = .ok (.value (.slice (some ⟨b, 0, none⟩) (n + m) c)) w' := by
        unfold nA builtin
        simp only [Builtin.append_, List.getElem?_toArray, List.getElem?_cons_zero, List.getElem?_cons_succ]
        simp only [underlying, Sem.run_bind, run_program, Result.andThen_ok, hu, hu2, Sem.run_pure, kO hi, hsz, Bool.false_eq_true, if_false, hlx, hc, if_true, Bool.not_false, hfx, B7, Nat.zero_add, s1]
      unfold cO
      rw [this]
      rw [Nat.add_zero, ← hlen, F3 _ _ _ hroom] at s2
      refine hk _ _ ⟨by rw [List.length_append, hlen, hnl, Nat.add_mul], .inr ⟨b, c, rest.drop news.length, rfl, h2, s2, ?_, hc⟩⟩ s3
      rw [← h4]; simp; omega
    ·
      have hfit := growslice_fits (need := n + m) (old := c) (bytes := i.bytes) (by omega) hbytes
      have hfit' : ¬ (Builtin.nextslicecap (n + m) c * i.bytes > 2 ^ 48) := by omega
      have hq : (Question.appendCap (n + m) c e).forced = false := rfl
      obtain ⟨r, hr⟩ : ∃ r, (Question.appendCap (n + m) c e).cut (w.tape w.drawn (.appendCap (n + m) c e)) = n + m + r :=
        ⟨(w.tape w.drawn (.appendCap (n + m) c e)) % (2 ^ 63 - (n + m)), by simp only [Question.cut]⟩
      have hold : Cl (dr w) sz (.slice (some ⟨b, 0, none⟩) n c) n l := ⟨_, _, rfl, hlen, fun _ => ⟨b, 0, rfl, fun i hi => by
        show w.cell? _ = _
        rw [h3.cell, Nat.zero_add, List.getElem?_append_left hi]⟩⟩
      have : (nA .append #[t, t2] ty [.slice (some ⟨b, 0, none⟩) n c, x]).run P w = .ok (.value (.slice (some ⟨w.heap.size, 0, none⟩) (n + m) (n + m + r))) ((dr w).alloc (.cells (l ++ news ++ (Builtin.zeroCells z.cells (n + m + r - (n + m))).toList).toArray e)) := by
        have hfx' := uI (P := P) (w := dr w) hx
        have hfo := uI (P := P) hold
        unfold nA builtin
        simp only [Builtin.append_, List.getElem?_toArray, List.getElem?_cons_zero, List.getElem?_cons_succ]
        simp only [underlying, typeInfo, Sem.run_bind, run_program, Result.andThen_ok, hu, hu2, hi, Sem.run_pure, kO hi, hsz, Bool.false_eq_true, if_false, hlx, hc, Bool.not_false, if_true, hnot, hfit', run_choose, hq, hr, run_askRoom]
        change ((Sem.run P _ (dr w)).andThen _).andThen _ = _
        simp only [Sem.run_bind, hfx', hfo, Result.andThen_ok, hz', Sem.run_pure, newRow, run_newObj]
        have e1 : (l.toArray ++ news.toArray ++ Builtin.zeroCells z.cells (n + m + r - (n + m)) : Array Value) = (l ++ news ++ (Builtin.zeroCells z.cells (n + m + r - (n + m))).toList).toArray := by
          apply Array.ext'; simp
        rw [e1]
        rfl
      unfold cO
      rw [this]
      refine hk _ _ ⟨by rw [List.length_append, hlen, hnl, Nat.add_mul], .inr ⟨w.heap.size, n + m + r, _, rfl, hb _ (Nat.le_refl _), jL.alloc (dr w) _ _, ?_, by omega⟩⟩ ((gS.dr w _).seq (gS.alloc _ _ _))
      simp only [List.length_append, Array.length_toList, oC, hzs, hnl, hlen]
      rw [show n + m + r - (n + m) = r from by omega, Nat.add_mul, Nat.add_mul]
theorem C7 {base sz n m : Nat} {i : TypeInfo} {z : Value} {ty t2 e2 : TypeId} (hu : P.underlying t = some (.slice e)) (hu2 : P.underlying t2 = some (.slice e2)) (hi : P.info? e = some i) (hsz : i.size = sz) (hz : i.zero = some z) (hzs : z.cells.size = sz)
    {v x : Value} {l news : List Value} (h : uE w base sz v n l) (hx : Cl w sz x m news) (hone : ∀ y ∈ news, one y = true) (hb : base ≤ w.heap.size)
    (hn : n + m ≤ 9223372036854775807) (hbytes : (n + m) * i.bytes ≤ 140737488355328) (_hpos : i.bytes ≠ 0)
    {K : Value → World → Prop} (hk : ∀ v' w', uE w' base sz v' (n + m) (l ++ news) → gS w w' (fun y => base ≤ y) → K v' w') : cO P (nA .append #[t, t2] ty [v, x]) w K :=
  Qp (S := fun y => base ≤ y) hu hu2 hi hsz hz hzs h hx hone (fun _ h => Nat.le_trans hb h) hn hbytes _hpos hk
end
end Go.En
namespace Go.En
open Go
section
variable {P : Program} {w : World} {t e : TypeId}
theorem zX {i : TypeInfo} {z : Value} {n : Nat} {ps : List (Nat × Value)} {cells : Array Value} (hu : P.underlying t = some (.slice e)) (hi : P.info? e = some i) (hz : i.zero = some z)
    (h1 : ¬ n * i.size > 2 ^ 24) (h0 : ¬ n * i.size = 0) (hf : Instr.fill (fun j => some (j * i.size, i.size)) ((Array.range (n * i.size)).map (z.cells[· % z.cells.size]!)) ps = some cells)
    {K : Value → World → Prop} (hk : ∀ w', jL w' w.heap.size cells.toList → gS w w' jR → w'.heap.size = w.heap.size + 1 → K (.slice (some ⟨w.heap.size, 0, none⟩) n n) w') :
    cO P (iE t n ps) w K := by
  have hz' : (zeroValue e).run P w = .ok z w := by simp [zeroValue, typeInfo, hi, hz]
  have : (iE t n ps).run P w = .ok (.value (.slice (some ⟨w.heap.size, 0, none⟩) n n)) (w.alloc (.cells cells.toList.toArray e)) := by
    unfold iE; rw [pU]
    simp only [Instr.buildSlice, underlying, pure_bind, Sem.run_bind, run_program, Result.andThen_ok, hu, Sem.run_pure, kO hi, h1, h0, if_false, hz', hf, newRow, run_newObj]
    rfl
  unfold cO
  rw [this]
  exact hk _ (jL.alloc _ _ _) (gS.alloc _ _ _) (by simp)
end
end Go.En
namespace Go.En
open Go
section
variable {P : Program} {w : World} {t e : TypeId}
def Z1 (es : Array MapEntry) (clock : Nat) : Prop := (es.toList.map (·.born)).Pairwise (· < ·) ∧ ∀ e ∈ es.toList, e.born < clock
def Mp {κ : Type} (w : World) (m : Nat) (enc : κ → Value) (l : List (κ × Value)) : Prop :=
  ∃ es clock, w.heap[m]? = some (.map es clock) ∧ es.toList.map (fun e => (e.key, e.val)) = l.map (fun p => (enc p.1, p.2)) ∧ Z1 es clock ∧ (l.map (·.1)).Nodup
theorem Mp.lt {κ : Type} {m : Nat} {enc : κ → Value} {l : List (κ × Value)} (h : Mp w m enc l) : m < w.heap.size := by
  obtain ⟨es, c, h, _⟩ := h
  rcases Nat.lt_or_ge m w.heap.size with h' | h'
  · exact h'
  · rw [Array.getElem?_eq_none h'] at h; cases h
theorem Mp.ext {κ : Type} {w w' : World} {m : Nat} {enc : κ → Value} {l : List (κ × Value)} {M : Nat → Prop} (h : Mp w m enc l) (hx : gS w w' M) (hM : ¬ M m) : Mp w' m enc l := by
  have := h.lt
  obtain ⟨es, c, h, k⟩ := h
  exact ⟨es, c, by rw [hx.keep m this hM]; exact h, k⟩
theorem Mp.dr {κ : Type} {w : World} {m : Nat} {enc : κ → Value} {l : List (κ × Value)} (h : Mp w m enc l) : Mp (dr w) m enc l := h
variable {κ : Type} [DecidableEq κ] {enc : κ → Value}
theorem MX {d : TypeDesc} {i : TypeInfo} (hu : P.underlying t = some d) (hd : WP d = true) (hi : P.info? t = some i) {b off : Nat} {l : List Value} (hl : i.size = l.length) (h : ∀ j, j < l.length → w.cell? ⟨b, off + j, none⟩ = l[j]?) :
    (eQ t (.pointer (some ⟨b, off, none⟩))).run P w = .ok (.value (.agg l.toArray)) w := by
  unfold eQ
  rw [pU]
  simp only [Instr.loadAt, Instr.sureAddr, loadVar, pure_bind, Sem.run_bind, ID hu, hd, Result.andThen_ok, if_true, kO hi, hl, MR h, Sem.run_pure]
end
theorem lA {w : World} {b : Nat} {cs : List Value} (h : jL w b cs) : jL (dr w) b cs := h.ext (gS.dr w jR) (fun h => h)
theorem Sl.dr {w : World} {v : Value} {l : List Value} (h : Sl w v l) : Sl (dr w) v l := h
theorem Sl.open {w : World} {v : Value} {l : List UInt8} (h : Bs w v l) (h0 : 0 < l.length) : ∃ b off c, v = .slice (some ⟨b, off, none⟩) l.length c ∧ l.length ≤ c ∧ ∀ i, (h : i < l.length) → w.cell? ⟨b, off + i, none⟩ = some (RD l[i]) := by
  obtain ⟨a, n, c, rfl, hn, hc, h⟩ := h
  simp only [List.length_map] at hn
  subst hn
  obtain ⟨b, off, rfl, hh⟩ := h h0
  exact ⟨b, off, c, rfl, hc, fun i hi => by rw [hh i hi]; simp [hi]⟩
theorem Sl.len {w : World} {v : Value} {l : List Value} (h : Sl w v l) : ∃ a c, v = .slice a l.length c ∧ l.length ≤ c := by
  obtain ⟨a, n, c, rfl, rfl, hc, _⟩ := h
  exact ⟨a, c, rfl, hc⟩
theorem iQ (v : Value) : ¬ Vy v jR := by unfold Vy jR; split <;> simp
theorem Vq {b o m l : Nat} (h : l ≠ m) : sL (some ⟨b, o, none⟩) m l 1 = some ⟨b, o + l, none⟩ := by
  unfold sL; rw [if_neg (fun e => h e.symm)]; simp [B7]
theorem Uu {v : Value} {M N : Nat → Prop} (h : Vy v M) (hm : ∀ b, M b → N b) : Vy v N := by
  unfold Vy at *
  split at h
  · exact hm _ h
  · exact h
end Go.En

/- Parts of the proof of SequencesMany: merged and given short names by a program of ours. -/
import Derived.Test.YtaggdjhhmbnhoaaDoorSmA
set_option linter.unusedVariables false
set_option linter.unusedSimpArgs false
namespace Go.Proofs.YtaggdjhhmbnhoaaDoor
open Go Go.En
set_option maxRecDepth 20000
attribute [local irreducible] Go.En.bH
variable (Q : Exit -> Env -> aJa -> Prop) (g : Env) (w : aJa)
def eZ : FA := ⟨xC, fun i => .leaf ([], []) []⟩
def jC : List ResultVar := [.cell 2 98, .tmp 3]
noncomputable def eL : Code := cU Tryd.f39
def vF (R : K1) (t2 bF : aJb) (w : aJa) : Prop :=
 aC pg (aH 98 bF) w fun t44 w =>
 aC pg (aJ 98 t2 t44) w fun _u w =>
 kC pg 98 t2 w fun r0 => R (.tuple #[r0, (.int .i64 0)]) w
theorem RU (R : K1) (hr : HR jC R Q) (h : vF R (g 2) (g 4) w) : bH pg eZ (aB 1 (aB 2 eL)) Q g w :=
 dR (kn := no) (l := []) h eQ hr trivial
def vC (kn : K5) (t2 bF t12 t13 t14 : aJb) (w : aJa) : Prop :=
 aC pg (aG .add 3 aM aM t14 (.int .i64 1)) w fun t43 w =>
 kn t2 bF t12 t13 t43 w
theorem Sf (kn : K5) (hn : N5 Q kn 2 4 12 13 14) (h : vC kn (g 2) (g 4) (g 12) (g 13) (g 14) w) : bH pg eZ (aB 1 (aB 2 (bI (bI (aB 1 (aD 1 (aB 2 eL))))))) Q g w :=
 dR (kr := no) (l := []) h hn eQ trivial
def uQ (kn : K7) (k2 : K5) (R : K1) (t2 bF t12 t13 t14 t19 t20 : aJb) (w : aJa) : Prop :=
 aC pg (aG .lss 3 aM aM t20 (.int .i64 3)) w fun t21 w =>
 eN t21
  (aC pg (G4 142 t19 t20) w fun t23 w =>
  aR pg QM #[t20, t23] w fun t27 w =>
  aC pg (bB t27 0) w fun t28 w =>
  aC pg (bB t27 1) w fun t29 w =>
  aC pg (bB t27 2) w fun t30 w =>
  aC pg (aG .neq 30 (.tmp 31) (.const (.int .i64 0)) t30 (.int .i64 0)) w fun t32 w =>
  eN t32
   (aC pg (aH 98 bF) w fun t33 w =>
   aC pg (aJ 98 t2 t33) w fun _u w =>
   kC pg 98 t2 w fun r0 => R (.tuple #[r0, (.int .i64 1)]) w)
   (aC pg (bA 98 bF t20) w fun t36 w =>
   aC pg (aH 77 t36) w fun t37 w =>
   aC pg (bX 77 1 [(0, t28)]) w fun t39 w =>
   aC pg (jS .append #[77, 77] 77 [t37, t39]) w fun t40 w =>
   aC pg (bA 98 bF t20) w fun t41 w =>
   aC pg (aJ 77 t41 t40) w fun _u w =>
   aC pg (aG .add 3 aM aM t20 (.int .i64 1)) w fun t42 w =>
   kn t2 bF t12 t13 t14 t19 t42 w))
  (k2 t2 bF t12 t13 t14 w)
theorem R1 (kn : K7) (k2 : K5) (R : K1) (hn : N7 Q kn 2 4 12 13 14 19 20) (h2 : E5 Q k2 2 2 4 12 13 14) (hr : HR jC R Q) (h : uQ kn k2 R (g 2) (g 4) (g 12) (g 13) (g 14) (g 19) (g 20) w) : bH pg eZ (bI (bI (aB 2 (bI (aD 1 (aB 2 (bI (bI (aB 1 (aD 1 (aB 2 eL))))))))))) Q g w :=
 dR (l := [(2, fun g w => k2 (g 2) (g 4) (g 12) (g 13) (g 14) w)]) h hn hr ⟨h2, trivial⟩
def BS (k2 : K5) (R : K1) (t2 bF t12 t13 t14 t19 t20 : aJb) (w : aJa) : Prop :=
 cG (fun (X : aJb -> K0) (t : aJb) (w : aJa) => uQ (fun _ _ _ _ _ _ t20 w => X t20 w) k2 R t2 bF t12 t13 t14 t19 t w) t20 w
theorem RO (k2 : K5) (R : K1) (h2 : E5 Q k2 2 2 4 12 13 14) (hr : HR jC R Q) (h : BS k2 R (g 2) (g 4) (g 12) (g 13) (g 14) (g 19) (g 20) w) : bH pg eZ (bI (aB 2 (bI (aD 1 (aB 2 (bI (bI (aB 1 (aD 1 (aB 2 eL)))))))))) Q g w := by
 refine DO (fun g : Env => g 20) (fun X t w => uQ (fun _ _ _ _ _ _ t20 w => X t20 w) k2 R (g 2) (g 4) (g 12) (g 13) (g 14) (g 19) t w) h (fun X g1 w1 ha hL => ?_)
 rw [<- fE 2 ha, <- fE 4 ha, <- fE 12 ha, <- fE 13 ha, <- fE 14 ha, <- fE 19 ha] at hL
 exact (R1 _ g1 w1 (fun _ _ _ _ _ _ t20 w => X t20 w) k2 R (fun _ _ h => h) h2 hr hL)
def B3 (kn : K5) (R : K1) (t2 bF t12 t13 t14 t19 t20 : aJb) (w : aJa) : Prop :=
 BS kn R t2 bF t12 t13 t14 t19 t20 w
def BQ (kn : K7) (t2 bF t12 t13 t14 : aJb) (w : aJa) : Prop :=
 aC pg (bA 24 t12 t14) w fun t16 w =>
 aC pg (aH 47 t16) w fun t17 w =>
 aC pg (bT 47) w fun s_6 w =>
 aC pg (aJ 47 s_6 t17) w fun _u w =>
 aC pg (aH 47 s_6) w fun t18 w =>
 aR pg qB #[t18] w fun t19 w =>
 kn t2 bF t12 t13 t14 t19 (.int .i64 0) w
theorem Sx (kn : K7) (hn : N7 Q kn 2 4 12 13 14 19 20) (h : BQ kn (g 2) (g 4) (g 12) (g 13) (g 14) w) : bH pg eZ (aD 2 (bI (aD 1 (aB 2 (bI (bI (aB 1 (aD 1 (aB 2 eL))))))))) Q g w :=
 dR (kr := no) (l := []) h hn eQ trivial
def JM (kn : K5) (R : K1) (t2 bF t12 t13 t14 : aJb) (w : aJa) : Prop :=
 BQ (fun t2 bF t12 t13 t14 t19 t20 w => B3 kn R t2 bF t12 t13 t14 t19 t20 w) t2 bF t12 t13 t14 w
def B4 (kn : K5) (R : K1) (t2 bF t12 t13 t14 : aJb) (w : aJa) : Prop :=
 JM kn R t2 bF t12 t13 t14 w
def Bh (kn : K5) (R : K1) (t2 bF t12 t13 t14 : aJb) (w : aJa) : Prop :=
 B4 (fun t2 bF t12 t13 t14 w => vC kn t2 bF t12 t13 t14 w) R t2 bF t12 t13 t14 w
theorem SA (kn : K5) (R : K1) (hn : N5 Q kn 2 4 12 13 14) (hr : HR jC R Q) (h : B4 kn R (g 2) (g 4) (g 12) (g 13) (g 14) w) : bH pg eZ (aD 1 (aB 2 (bI (bI (aB 1 (aD 1 (aB 2 eL))))))) Q g w :=
 tX 1 (fQ 2 (Sx _ g w (B3 kn R) (fun g w h => aK (tX 2 (RO _ g w kn R hn hr h))) h))
def Ai (kn : K5) (k0 : K2) (t2 bF t12 t13 t14 : aJb) (w : aJa) : Prop :=
 aC pg (aG .lss 3 aM aM t14 t13) w fun t15 w =>
 eN t15
  (kn t2 bF t12 t13 t14 w)
  (k0 t2 bF w)
theorem P7 (kn : K5) (k0 : K2) (hn : N5 Q kn 2 4 12 13 14) (h0 : E2 Q k0 0 2 4) (h : Ai kn k0 (g 2) (g 4) (g 12) (g 13) (g 14) w) : bH pg eZ (aD 2 (bI (bI (aB 1 (aD 1 (aB 2 eL)))))) Q g w :=
 dR (kr := no) (l := [(0, fun g w => k0 (g 2) (g 4) w)]) h hn eQ ⟨h0, trivial⟩
def sW (kn : K5) (k0 : K2) (R : K1) (t2 bF t12 t13 t14 : aJb) (w : aJa) : Prop :=
 Ai (fun t2 bF t12 t13 t14 w => Bh kn R t2 bF t12 t13 t14 w) k0 t2 bF t12 t13 t14 w
def An (k0 : K2) (R : K1) (t2 bF t12 t13 t14 : aJb) (w : aJa) : Prop :=
 cG (fun (X : aJb -> K0) (t : aJb) (w : aJa) => sW (fun _ _ _ _ t14 w => X t14 w) k0 R t2 bF t12 t13 t w) t14 w
theorem Qc (kn : K5) (k0 : K2) (R : K1) (hn : N5 Q kn 2 4 12 13 14) (h0 : E2 Q k0 0 2 4) (hr : HR jC R Q) (h : sW kn k0 R (g 2) (g 4) (g 12) (g 13) (g 14) w) : bH pg eZ (bI (bI (aB 1 (aD 1 (aB 2 eL))))) Q g w :=
 fQ 2 (P7 _ g w (Bh kn R) k0 (fun g w h => aK (fQ 1 (SA _ g w (vC kn) R (fun g w h => aK (Sf _ g w kn hn h)) hr h))) h0 h)
theorem QZ (k0 : K2) (R : K1) (h0 : E2 Q k0 0 2 4) (hr : HR jC R Q) (h : An k0 R (g 2) (g 4) (g 12) (g 13) (g 14) w) : bH pg eZ (bI (aB 1 (aD 1 (aB 2 eL)))) Q g w := by
 refine DO (fun g : Env => g 14) (fun X t w => sW (fun _ _ _ _ t14 w => X t14 w) k0 R (g 2) (g 4) (g 12) (g 13) t w) h (fun X g1 w1 ha hL => ?_)
 rw [<- fE 2 ha, <- fE 4 ha, <- fE 12 ha, <- fE 13 ha] at hL
 exact (Qc _ g1 w1 (fun _ _ _ _ t14 w => X t14 w) k0 R (fun _ _ h => h) h0 hr hL)
def zY (kn : K2) (R : K1) (t2 bF t12 t13 t14 : aJb) (w : aJa) : Prop :=
 An kn R t2 bF t12 t13 t14 w
def Ao (kn : K5) (hZ t2 bF : aJb) (w : aJa) : Prop :=
 aC pg (jS .len #[24] 3 [hZ]) w fun t13 w =>
 kn t2 bF hZ t13 (.int .i64 0) w
theorem PK (kn : K5) (hn : N5 Q kn 2 4 12 13 14) (h : Ao kn (g 0) (g 2) (g 4) w) : bH pg eZ (aD 1 (aD 1 (aB 2 eL))) Q g w :=
 dR (kr := no) (l := []) h hn eQ trivial
def Ae (kn : K2) (R : K1) (hZ t2 bF : aJb) (w : aJa) : Prop :=
 Ao (fun t2 bF t12 t13 t14 w => zY kn R t2 bF t12 t13 t14 w) hZ t2 bF w
def Ad (R : K1) (hZ t2 bF : aJb) (w : aJa) : Prop :=
 Ae (fun t2 bF w => vF R t2 bF w) R hZ t2 bF w
theorem QT (kn : K2) (R : K1) (hn : N2 Q kn 2 4) (hr : HR jC R Q) (h : Ae kn R (g 0) (g 2) (g 4) w) : bH pg eZ (aD 1 (aB 2 eL)) Q g w :=
 fQ 1 (PK _ g w (zY kn R) (fun g w h => aK (tX 0 (QZ _ g w kn R hn hr h))) h)
def Af (kn : K3) (hZ : aJb) (w : aJa) : Prop :=
 aC pg (bT 98) w fun t2 w =>
 aC pg (bT 98) w fun bF w =>
 kn hZ t2 bF w
theorem Qp (kn : K3) (hn : N3 Q kn 0 2 4) (h : Af kn (g 0) w) : bH pg eZ (aD 2 eL) Q g w :=
 dR (kr := no) (l := []) h hn eQ trivial
def zZ (R : K1) (hZ : aJb) (w : aJa) : Prop :=
 Af (fun hZ t2 bF w => Ad R hZ t2 bF w) hZ w
theorem Qy (R : K1) (hr : HR jC R Q) (h : zZ R (g 0) w) : bH pg eZ eL Q g w :=
 fQ 2 (Qp _ g w (Ad R) (fun g w h => aK (fQ 1 (QT _ g w (vF R) R (fun g w h => aK (RU _ g w R hr h)) hr h))) h)
def Rv (a0 : aJb) (w : aJa) (R : K1) : Prop :=
 zZ R a0 w
theorem TI {a0 : aJb} {w : aJa} {R : K1} (h : Rv a0 w R) : aR pg xC #[a0] w R := by
 refine rI (ann := eZ) Tryd.f39 eL [a0] jC 45 TrydM.mixed Tryd.func39 ?_
 exact (Qy _ _ _ R (fun _ _ h => h) h)
def eB : FA := ⟨nV, fun i => match Nat.beq i 18 with | true => .split 4 9 (.split 9 10 (.perm [0, 1, 2, 3, 4, 5, 6, 7, 8, 9, 10, 11, 12, 13] [(9, 10), (4, 9)] ([4, 9, 10], [(4, 6), (4, 7), (4, 8)]) [(false, []), (false, []), (false, []), (false, []), (true, []), (false, []), (false, [1]), (false, [2]), (false, [3]), (true, []), (true, []), (false, []), (false, []), (false, [])]) (.perm [0, 1, 2, 3, 4, 5, 6, 7, 8, 10, 9, 11, 12, 13] [(10, 9), (4, 9)] ([4, 9, 10], [(4, 6), (4, 7), (4, 8), (6, 9), (7, 9), (8, 9)]) [(false, []), (false, []), (false, []), (false, []), (true, []), (false, []), (false, [1]), (false, [2]), (false, [3]), (true, [0, 1, 2]), (true, []), (false, []), (false, []), (false, [])])) (.perm [0, 1, 2, 3, 5, 6, 7, 8, 9, 4, 10, 11, 12, 13] [(9, 4)] ([8, 9, 10], [(1, 8), (2, 8), (3, 8)]) [(false, []), (false, []), (false, []), (false, []), (false, []), (false, []), (false, []), (false, []), (true, [4, 5, 6]), (true, []), (true, []), (false, []), (false, []), (false, [])]) | false => match Nat.beq i 22 with | true => .split 4 9 (.split 5 9 (.perm [0, 1, 2, 3, 4, 5, 6, 7, 8, 9, 10, 11] [(5, 9), (4, 9)] ([4, 5, 9, 10], [(1, 4), (2, 4), (7, 9), (8, 9), (8, 10)]) [(false, []), (false, []), (false, []), (false, []), (true, [1, 2]), (true, []), (false, []), (false, []), (false, []), (true, [0, 1]), (true, [1]), (false, [])]) (.perm [0, 1, 2, 3, 4, 9, 5, 6, 7, 8, 10, 11] [(9, 5), (4, 9)] ([4, 5, 6, 10], [(1, 4), (1, 5), (2, 4), (2, 5), (9, 10)]) [(false, []), (false, []), (false, []), (false, []), (true, [1, 2]), (true, [2, 3]), (true, []), (false, []), (false, []), (false, []), (true, [0]), (false, [])])) (.perm [0, 1, 2, 3, 9, 4, 5, 6, 7, 8, 10, 11] [(9, 4)] ([4, 5, 6, 10], [(1, 4), (1, 5), (2, 4), (2, 5), (9, 10)]) [(false, []), (false, []), (false, []), (false, []), (true, [1, 2]), (true, [2, 3]), (true, []), (false, []), (false, []), (false, []), (true, [0]), (false, [])]) | false => .leaf ([], []) []⟩
def iN : List ResultVar := [.cell 4 27, .tmp 5, .tmp 6, .tmp 7]
noncomputable def cP : Code := cU Tryd.f40
def vY (R : K1) (t4 V4 aBm : aJb) (w : aJa) : Prop :=
 aC pg (aG .neq 30 (.tmp 107) (.const (.int .i64 0)) aBm (.int .i64 0)) w fun t108 w =>
 eN t108
  (aC pg (bV 27 []) w fun t109 w =>
  aC pg (aJ 27 t4 t109) w fun _u w =>
  kC pg 27 t4 w fun r0 => R (.tuple #[r0, (.int .i64 0), (.slice none 0 0), aBm]) w)
  (aC pg (aH 145 V4) w fun t112 w =>
  aR pg CK #[t112] w fun t113 w =>
  aC pg (bB t113 0) w fun t114 w =>
  aC pg (bB t113 1) w fun t115 w =>
  aC pg (aG .neq 30 (.tmp 116) (.const (.int .i64 0)) t115 (.int .i64 0)) w fun t117 w =>
  eN t117
   (aC pg (bV 27 []) w fun t118 w =>
   aC pg (aJ 27 t4 t118) w fun _u w =>
   kC pg 27 t4 w fun r0 => R (.tuple #[r0, (.int .i64 0), (.slice none 0 0), t115]) w)
   (aC pg (aH 145 V4) w fun t121 w =>
   aR pg rZ #[t121] w fun t122 w =>
   aC pg (bB t122 0) w fun t123 w =>
   aC pg (bB t122 1) w fun t124 w =>
   aC pg (bT 27) w fun t20 w =>
   aC pg (aJ 27 t20 t123) w fun _u w =>
   aC pg (aH 27 t20) w fun t125 w =>
   aC pg (aJ 27 t4 t125) w fun _u w =>
   kC pg 27 t4 w fun r0 => R (.tuple #[r0, (.int .i64 2), t114, t124]) w))
theorem XD (R : K1) (hr : HR iN R Q) (h : vY R (g 4) (g 17) (g 18) w) : bH pg eB (aB 1 (aB 1 (aB 1 (aB 1 (aB 5 cP))))) Q g w :=
 dR (kn := no) (l := []) h eQ hr trivial
def Hp (kn : K3) (aQ t4 bR aP : aJb) (w : aJa) : Prop :=
 Ord (aoR nV 22 (Ia 22 cP) 4 9 w)
  (Ord (aoR nV 22 (Ia 22 cP) 5 9 w)
   ((dr w) = (dr w) /\
   aC pg (aG .add 3 aM aM aP (.int .i64 1)) (dr w) fun t100 w_ => w_ = (dr w) /\
   aC pg (fJ 144 bR none (some t100) none) (dr w) fun t101 w_ => w_ = (dr w) /\
   (dr w) = (dr w) /\
   aR pg sK #[aQ] (dr w) fun t103 Tc =>
   (eC pg (fJ 144 bR none (some t100) none) t101 Tc /\ eC pg (aG .add 3 aM aM aP (.int .i64 1)) t100 Tc /\ True) /\
   aR pg B9 #[t101, t103] Tc fun t104 Kb =>
   Kb = Kb /\
   aC pg (bB t104 0) Kb fun t105 w_ => w_ = Kb /\
   aC pg (bB t104 1) Kb fun t106 w_ => w_ = Kb /\
   aC pg (bT 145) Kb fun V4 aBS =>
   (eC pg (bB t104 1) t106 aBS /\ eC pg (bB t104 0) t105 aBS /\ True) /\
   aC pg (aJ 145 V4 t105) aBS fun _u10 Dz =>
   (eC pg (bB t104 1) t106 Dz /\ True) /\
   Dz = Dz /\
   kn t4 V4 t106 Dz)
   ((dr w) = (dr w) /\
   aC pg (aG .add 3 aM aM aP (.int .i64 1)) (dr w) fun t100 w_ => w_ = (dr w) /\
   aC pg (fJ 144 bR none (some t100) none) (dr w) fun t101 w_ => w_ = (dr w) /\
   (dr w) = (dr w) /\
   aR pg sK #[aQ] (dr w) fun t103 Tc =>
   (eC pg (fJ 144 bR none (some t100) none) t101 Tc /\ eC pg (aG .add 3 aM aM aP (.int .i64 1)) t100 Tc /\ True) /\
   aC pg (bT 145) Tc fun V4 Kb =>
   (eC pg (fJ 144 bR none (some t100) none) t101 Kb /\ eC pg (aG .add 3 aM aM aP (.int .i64 1)) t100 Kb /\ True) /\
   aR pg B9 #[t101, t103] Kb fun t104 Kd =>
   Kd = Kd /\
   aC pg (bB t104 0) Kd fun t105 w_ => w_ = Kd /\
   aC pg (bB t104 1) Kd fun t106 w_ => w_ = Kd /\
   aC pg (aJ 145 V4 t105) Kd fun _u10 Dz =>
   (eC pg (bB t104 1) t106 Dz /\ True) /\
   Dz = Dz /\
   kn t4 V4 t106 Dz))
  ((dr w) = (dr w) /\
  aC pg (aG .add 3 aM aM aP (.int .i64 1)) (dr w) fun t100 w_ => w_ = (dr w) /\
  aC pg (fJ 144 bR none (some t100) none) (dr w) fun t101 w_ => w_ = (dr w) /\
  (dr w) = (dr w) /\
  aC pg (bT 145) (dr w) fun V4 Tc =>
  (eC pg (fJ 144 bR none (some t100) none) t101 Tc /\ eC pg (aG .add 3 aM aM aP (.int .i64 1)) t100 Tc /\ True) /\
  aR pg sK #[aQ] Tc fun t103 Kb =>
  (eC pg (fJ 144 bR none (some t100) none) t101 Kb /\ eC pg (aG .add 3 aM aM aP (.int .i64 1)) t100 Kb /\ True) /\
  aR pg B9 #[t101, t103] Kb fun t104 Kd =>
  Kd = Kd /\
  aC pg (bB t104 0) Kd fun t105 w_ => w_ = Kd /\
  aC pg (bB t104 1) Kd fun t106 w_ => w_ = Kd /\
  aC pg (aJ 145 V4 t105) Kd fun _u10 Dz =>
  (eC pg (bB t104 1) t106 Dz /\ True) /\
  Dz = Dz /\
  kn t4 V4 t106 Dz)
theorem Xm (kn : K3) (hn : N3 Q kn 4 17 18) (h : Hp kn (g 0) (g 4) (g 9) (g 11) w) : bH pg eB (aD 1 (aB 1 (aB 1 (aB 1 (aB 5 cP))))) Q g w :=
 dR (kr := no) (l := []) h hn eQ trivial
def vN (R : K1) (aQ t4 bR aP : aJb) (w : aJa) : Prop :=
 Hp (fun t4 V4 aBm w => vY R t4 V4 aBm w) aQ t4 bR aP w
def vW (R : K1) (t4 t5 t6 t7 : aJb) (w : aJa) : Prop :=
 kC pg 27 t4 w fun r0 => R (.tuple #[r0, t5, t6, t7]) w
theorem VZ (R : K1) (hr : HR iN R Q) (h : vW R (g 4) (g 5) (g 6) (g 7) w) : bH pg eB (aB 1 (cT (aB 1 (bI (aD 1 (aB 1 (aB 1 (aB 5 cP)))))))) Q g w :=
 dR (kn := no) (l := []) h eQ hr trivial
def GG (kn : K4) (qA t4 : aJb) (w : aJa) : Prop :=
 Ord (aoR nV 18 (Ia 18 cP) 4 9 w)
  (Ord (aoR nV 18 (Ia 18 cP) 9 10 w)
   ((dr w) = (dr w) /\
   aC pg (bA 77 qA (.int .i64 0)) (dr w) fun t71 w_ => w_ = (dr w) /\
   aC pg (aH 3 t71) (dr w) fun t72 w_ => w_ = (dr w) /\
   aC pg (fM 3 5 t72) (dr w) fun t73 w_ => w_ = (dr w) /\
   aR pg EG #[t73] (dr w) fun t74 Dr =>
   Dr = Dr /\
   aC pg (bA 77 qA (.int .i64 0)) Dr fun t76 w_ => w_ = Dr /\
   (eC pg (bA 77 qA (.int .i64 0)) t76 (dr w) /\ True) /\
   aC pg (aH 3 t76) Dr fun t77 w_ => w_ = Dr /\
   (eC pg (aH 3 t76) t77 (dr w) /\ True) /\
   aC pg (fM 3 5 t77) Dr fun t78 w_ => w_ = Dr /\
   (eC pg (fM 3 5 t77) t78 (dr w) /\ True) /\
   aC pg (bX 22 1 [(0, t78)]) Dr fun t79 agT =>
   aC pg (aJ 27 t4 t74) agT fun _u10 qJ =>
   qJ = qJ /\
   qJ = qJ /\
   qJ = qJ /\
   kn t4 (.int .i64 1) t79 (.int .i64 0) qJ)
   ((dr w) = (dr w) /\
   aC pg (bA 77 qA (.int .i64 0)) (dr w) fun t71 w_ => w_ = (dr w) /\
   aC pg (aH 3 t71) (dr w) fun t72 w_ => w_ = (dr w) /\
   aC pg (fM 3 5 t72) (dr w) fun t73 w_ => w_ = (dr w) /\
   aR pg EG #[t73] (dr w) fun t74 Dr =>
   Dr = Dr /\
   aC pg (bA 77 qA (.int .i64 0)) Dr fun t76 w_ => w_ = Dr /\
   (eC pg (bA 77 qA (.int .i64 0)) t76 (dr w) /\ True) /\
   aC pg (aH 3 t76) Dr fun t77 w_ => w_ = Dr /\
   (eC pg (aH 3 t76) t77 (dr w) /\ True) /\
   aC pg (fM 3 5 t77) Dr fun t78 w_ => w_ = Dr /\
   (eC pg (fM 3 5 t77) t78 (dr w) /\ True) /\
   aC pg (aJ 27 t4 t74) Dr fun _u9 agT =>
   (eC pg (fM 3 5 t77) t78 agT /\ eC pg (aH 3 t76) t77 agT /\ eC pg (bA 77 qA (.int .i64 0)) t76 agT /\ True) /\
   aC pg (bX 22 1 [(0, t78)]) agT fun t79 qJ =>
   qJ = qJ /\
   qJ = qJ /\
   qJ = qJ /\
   kn t4 (.int .i64 1) t79 (.int .i64 0) qJ))
  ((dr w) = (dr w) /\
  aC pg (bA 77 qA (.int .i64 0)) (dr w) fun t71 w_ => w_ = (dr w) /\
  aC pg (aH 3 t71) (dr w) fun t72 w_ => w_ = (dr w) /\
  aC pg (fM 3 5 t72) (dr w) fun t73 w_ => w_ = (dr w) /\
  (dr w) = (dr w) /\
  aC pg (bA 77 qA (.int .i64 0)) (dr w) fun t76 w_ => w_ = (dr w) /\
  aC pg (aH 3 t76) (dr w) fun t77 w_ => w_ = (dr w) /\
  aC pg (fM 3 5 t77) (dr w) fun t78 w_ => w_ = (dr w) /\
  aC pg (bX 22 1 [(0, t78)]) (dr w) fun t79 aAm =>
  (eC pg (fM 3 5 t72) t73 aAm /\ eC pg (aH 3 t71) t72 aAm /\ eC pg (bA 77 qA (.int .i64 0)) t71 aAm /\ True) /\
  aR pg EG #[t73] aAm fun t74 agT =>
  aC pg (aJ 27 t4 t74) agT fun _u10 qJ =>
  qJ = qJ /\
  qJ = qJ /\
  qJ = qJ /\
  kn t4 (.int .i64 1) t79 (.int .i64 0) qJ)
theorem WO (kn : K4) (hn : N4 Q kn 4 5 6 7) (h : GG kn (g 1) (g 4) w) : bH pg eB (aD 1 (cT (aB 1 (bI (aD 1 (aB 1 (aB 1 (aB 5 cP)))))))) Q g w :=
 dR (kr := no) (l := []) h hn eQ trivial
def Hs (R : K1) (qA t4 : aJb) (w : aJa) : Prop :=
 GG (fun t4 t5 t6 t7 w => vW R t4 t5 t6 t7 w) qA t4 w
def HM (kn : K4) (R : K1) (aQ qA t4 bR aP Ko : aJb) (w : aJa) : Prop :=
 aC pg (jS .len #[77] 3 [qA]) w fun t82 w =>
 aC pg (aG .lss 3 aM aM t82 (.int .i64 64)) w fun t83 w =>
 Gd (fI t83 true) (fun K => K aP w) w fun t85 w =>
 Gd (fI t83 true) (fun K => aC pg (aL 145 Ko 1) w K) w fun t86 w =>
 Gd (fI t83 true) (fun K => aC pg (aH 77 t86) w K) w fun t87 w =>
 Gd (fI t83 true) (fun K => aC pg (jS .len #[77] 3 [t87]) w K) w fun t88 w =>
 Gd (fI t83 true) (fun K => aC pg (aG .lss 3 aM aM t85 t88) w K) w fun t89 w =>
 aC pg (fR t83 t89 (.bool false)) w fun t90 w =>
 eN t90
  (aC pg (aH 145 Ko) w fun t92 w =>
  aR pg rZ #[t92] w fun t93 w =>
  aC pg (bB t93 0) w fun t94 w =>
  aC pg (bB t93 1) w fun t95 w =>
  aC pg (bT 27) w fun t15 w =>
  aC pg (aJ 27 t15 t94) w fun _u w =>
  aC pg (aH 27 t15) w fun t96 w =>
  aC pg (aJ 27 t4 t96) w fun _u w =>
  kC pg 27 t4 w fun r0 => R (.tuple #[r0, (.int .i64 0), (.slice none 0 0), t95]) w)
  (kn aQ t4 bR aP w)
theorem WG (kn : K4) (R : K1) (hn : N4 Q kn 0 4 9 11) (hr : HR iN R Q) (h : HM kn R (g 0) (g 1) (g 4) (g 9) (g 11) (g 14) w) : bH pg eB (cE (aB 1 (bI (aD 1 (aB 1 (aB 1 (aB 5 cP))))))) Q g w :=
 dR (l := []) h hn hr trivial
def GB (kn : K4) (R : K1) (aQ qA t4 bR aP Ko t67 : aJb) (w : aJa) : Prop :=
 eN t67 (Hs R qA t4 w) (HM kn R aQ qA t4 bR aP Ko w)
def GY (kn : K7) (aQ qA t4 bR t10 aP Ko : aJb) (w : aJa) : Prop :=
 aC pg (aG .eql 3 (.tmp 68) (.const (.int .i64 1)) t10 (.int .i64 1)) w fun t69 w =>
 kn aQ qA t4 bR aP Ko t69 w
theorem Xq (kn : K7) (hn : N7 Q kn 0 1 4 9 11 14 67) (h : GY kn (g 0) (g 1) (g 4) (g 9) (g 10) (g 11) (g 14) w) : bH pg eB (aD 1 (bI (aD 1 (aB 1 (aB 1 (aB 5 cP)))))) Q g w :=
 dR (kr := no) (l := []) h hn eQ trivial
def Pe (kn : K4) (R : K1) (aQ qA t4 bR t10 aP Ko : aJb) (w : aJa) : Prop :=
 GY (fun aQ qA t4 bR aP Ko t67 w => GB kn R aQ qA t4 bR aP Ko t67 w) aQ qA t4 bR t10 aP Ko w
def Ey (kn : K4) (R : K1) (aQ qA t4 bR t10 aP Ko : aJb) (w : aJa) : Prop :=
 Pe kn R aQ qA t4 bR t10 aP Ko w
def ES (R : K1) (aQ qA t4 bR t10 aP Ko : aJb) (w : aJa) : Prop :=
 Ey (fun aQ t4 bR aP w => vN R aQ t4 bR aP w) R aQ qA t4 bR t10 aP Ko w
theorem UD (kn : K4) (R : K1) (hn : N4 Q kn 0 4 9 11) (hr : HR iN R Q) (h : Ey kn R (g 0) (g 1) (g 4) (g 9) (g 10) (g 11) (g 14) w) : bH pg eB (aD 1 (aB 1 (aB 1 (aB 5 cP)))) Q g w :=
 tX 2 (fQ 1 (Xq _ g w (GB kn R) (fun g w h => aK (cdD (.tmp 67) (fun h => (fQ 1 (WO _ g w (vW R) (fun g w h => aK (VZ _ g w R hr h)) h))) (fun h => (WG _ g w kn R hn hr h)) h)) h))
def Ec (kn : K7) (aQ qA t4 bR t10 aP : aJb) (w : aJa) : Prop :=
 aR pg yP #[aQ] w fun t66 w =>
 aC pg (bT 145) w fun Ko w =>
 aC pg (aJ 145 Ko t66) w fun _u w =>
 kn aQ qA t4 bR t10 aP Ko w
theorem UH (kn : K7) (hn : N7 Q kn 0 1 4 9 10 11 14) (h : Ec kn (g 0) (g 1) (g 4) (g 9) (g 10) (g 11) w) : bH pg eB (aD 1 (aB 1 (aB 5 cP))) Q g w :=
 dR (kr := no) (l := []) h hn eQ trivial
def Eh (R : K1) (aQ qA t4 bR t10 aP : aJb) (w : aJa) : Prop :=
 Ec (fun aQ qA t4 bR t10 aP Ko w => ES R aQ qA t4 bR t10 aP Ko w) aQ qA t4 bR t10 aP w
def zC (kn : Aw) (aQ qA t4 cB bR t10 aP t36 t37 t38 : aJb) (w : aJa) : Prop :=
 aC pg (aG .add 3 aM aM t38 (.int .i64 1)) w fun t64 w =>
 kn aQ qA t4 cB bR t10 aP t36 t37 t64 w
theorem UJ (kn : Aw) (hn : N10 Q kn 0 1 4 8 9 10 11 36 37 38) (h : zC kn (g 0) (g 1) (g 4) (g 8) (g 9) (g 10) (g 11) (g 36) (g 37) (g 38) w) : bH pg eB (aB 1 (aB 2 (bI (bI (aB 1 (aD 1 (aB 5 cP))))))) Q g w :=
 dR (kr := no) (l := []) h hn eQ trivial
def zS (kn : Aw) (aQ qA t4 cB bR t10 aP aCA t36 t37 t38 : aJb) (w : aJa) : Prop :=
 aC pg (jS .max #[3, 3] 3 [aP, aCA]) w fun t63 w =>
 kn aQ qA t4 cB bR t10 t63 t36 t37 t38 w
theorem U5 (kn : Aw) (hn : N10 Q kn 0 1 4 8 9 10 11 36 37 38) (h : zS kn (g 0) (g 1) (g 4) (g 8) (g 9) (g 10) (g 11) (g 13) (g 36) (g 37) (g 38) w) : bH pg eB (aB 3 (bI (aD 1 (aB 2 (bI (bI (aB 1 (aD 1 (aB 5 cP))))))))) Q g w :=
 dR (kr := no) (l := []) h hn eQ trivial
def Eg (kn : K11) (R : K1) (aQ qA t4 cB bR t10 aP t36 t37 t38 : aJb) (w : aJa) : Prop :=
 aC pg (bA 77 t36 t38) w fun t40 w =>
 aC pg (aH 3 t40) w fun t41 w =>
 aC pg (aG .lss 3 aM aM t41 (.int .i64 0)) w fun t43 w =>
 Gd (fI t43 false) (fun K => K t41 w) w fun t45 w =>
 Gd (fI t43 false) (fun K => K cB w) w fun t46 w =>
 Gd (fI t43 false) (fun K => aC pg (aG .gtr 3 aM aM t45 t46) w K) w fun t47 w =>
 aC pg (fR t43 (.bool true) t47) w fun t48 w =>
 eN t48
  (aC pg (bV 27 []) w fun t49 w =>
  aC pg (aJ 27 t4 t49) w fun _u w =>
  kC pg 27 t4 w fun r0 => R (.tuple #[r0, (.int .i64 0), (.slice none 0 0), (.int .i64 1)]) w)
  (aC pg (bA 144 bR t41) w fun t51 w =>
  aC pg (aH 43 t51) w fun t52 w =>
  aC pg (aG .add 43 aM aM t52 (.int .u32 1)) w fun t53 w =>
  aC pg (bA 144 bR t41) w fun t54 w =>
  aC pg (aJ 43 t54 t53) w fun _u w =>
  aC pg (bA 144 bR t41) w fun t56 w =>
  aC pg (aH 43 t56) w fun t57 w =>
  aC pg (aG .eql 43 (.tmp 57) (.const (.int .u32 1)) t57 (.int .u32 1)) w fun t58 w =>
  eN t58
   (aC pg (aG .add 3 aM aM t10 (.int .i64 1)) w fun t60 w =>
   kn aQ qA t4 cB bR t60 aP t41 t36 t37 t38 w)
   (kn aQ qA t4 cB bR t10 aP t41 t36 t37 t38 w))
theorem UU (kn : K11) (R : K1) (hn : N11 Q kn 0 1 4 8 9 10 11 13 36 37 38) (hr : HR iN R Q) (h : Eg kn R (g 0) (g 1) (g 4) (g 8) (g 9) (g 10) (g 11) (g 36) (g 37) (g 38) w) : bH pg eB (aD 3 (bI (aD 1 (aB 2 (bI (bI (aB 1 (aD 1 (aB 5 cP))))))))) Q g w :=
 dR (l := []) h hn hr trivial
def OO (kn : Aw) (R : K1) (aQ qA t4 cB bR t10 aP t36 t37 t38 : aJb) (w : aJa) : Prop :=
 Eg (fun aQ qA t4 cB bR t10 aP aCA t36 t37 t38 w => zS kn aQ qA t4 cB bR t10 aP aCA t36 t37 t38 w) R aQ qA t4 cB bR t10 aP t36 t37 t38 w
def EL (kn : Aw) (R : K1) (aQ qA t4 cB bR t10 aP t36 t37 t38 : aJb) (w : aJa) : Prop :=
 OO kn R aQ qA t4 cB bR t10 aP t36 t37 t38 w
def EA (kn : Aw) (R : K1) (aQ qA t4 cB bR t10 aP t36 t37 t38 : aJb) (w : aJa) : Prop :=
 EL (fun aQ qA t4 cB bR t10 aP t36 t37 t38 w => zC kn aQ qA t4 cB bR t10 aP t36 t37 t38 w) R aQ qA t4 cB bR t10 aP t36 t37 t38 w
theorem UX (kn : Aw) (R : K1) (hn : N10 Q kn 0 1 4 8 9 10 11 36 37 38) (hr : HR iN R Q) (h : EL kn R (g 0) (g 1) (g 4) (g 8) (g 9) (g 10) (g 11) (g 36) (g 37) (g 38) w) : bH pg eB (aD 1 (aB 2 (bI (bI (aB 1 (aD 1 (aB 5 cP))))))) Q g w :=
 tX 1 (fQ 3 (UU _ g w (zS kn) R (fun g w h => aK (U5 _ g w kn hn h)) hr h))
def Er (kn : Aw) (k0 : K6) (aQ qA t4 cB bR t10 aP t36 t37 t38 : aJb) (w : aJa) : Prop :=
 aC pg (aG .lss 3 aM aM t38 t37) w fun t39 w =>
 eN t39
  (kn aQ qA t4 cB bR t10 aP t36 t37 t38 w)
  (k0 aQ qA t4 bR t10 aP w)
theorem UF (kn : Aw) (k0 : K6) (hn : N10 Q kn 0 1 4 8 9 10 11 36 37 38) (h0 : E6 Q k0 0 0 1 4 9 10 11) (h : Er kn k0 (g 0) (g 1) (g 4) (g 8) (g 9) (g 10) (g 11) (g 36) (g 37) (g 38) w) : bH pg eB (aD 2 (bI (bI (aB 1 (aD 1 (aB 5 cP)))))) Q g w :=
 dR (kr := no) (l := [(0, fun g w => k0 (g 0) (g 1) (g 4) (g 9) (g 10) (g 11) w)]) h hn eQ ⟨h0, trivial⟩
def zN (kn : Aw) (k0 : K6) (R : K1) (aQ qA t4 cB bR t10 aP t36 t37 t38 : aJb) (w : aJa) : Prop :=
 Er (fun aQ qA t4 cB bR t10 aP t36 t37 t38 w => EA kn R aQ qA t4 cB bR t10 aP t36 t37 t38 w) k0 aQ qA t4 cB bR t10 aP t36 t37 t38 w
def EC (k0 : K6) (R : K1) (aQ qA t4 cB bR t10 aP t36 t37 t38 : aJb) (w : aJa) : Prop :=
 cG (fun (X : (aJb × aJb × aJb) -> K0) (t : aJb × aJb × aJb) (w : aJa) => zN (fun _ _ _ _ _ t10 aP _ _ t38 w => X (t10, aP, t38) w) k0 R aQ qA t4 cB bR t.1 t.2.1 t36 t37 t.2.2 w) (t10, aP, t38) w
theorem Vc (kn : Aw) (k0 : K6) (R : K1) (hn : N10 Q kn 0 1 4 8 9 10 11 36 37 38) (h0 : E6 Q k0 0 0 1 4 9 10 11) (hr : HR iN R Q) (h : zN kn k0 R (g 0) (g 1) (g 4) (g 8) (g 9) (g 10) (g 11) (g 36) (g 37) (g 38) w) : bH pg eB (bI (bI (aB 1 (aD 1 (aB 5 cP))))) Q g w :=
 fQ 2 (UF _ g w (EA kn R) k0 (fun g w h => aK (fQ 1 (UX _ g w (zC kn) R (fun g w h => aK (UJ _ g w kn hn h)) hr h))) h0 h)
theorem UP (k0 : K6) (R : K1) (h0 : E6 Q k0 0 0 1 4 9 10 11) (hr : HR iN R Q) (h : EC k0 R (g 0) (g 1) (g 4) (g 8) (g 9) (g 10) (g 11) (g 36) (g 37) (g 38) w) : bH pg eB (bI (aB 1 (aD 1 (aB 5 cP)))) Q g w := by
 refine DO (fun g : Env => (g 10, g 11, g 38)) (fun X t w => zN (fun _ _ _ _ _ t10 aP _ _ t38 w => X (t10, aP, t38) w) k0 R (g 0) (g 1) (g 4) (g 8) (g 9) t.1 t.2.1 (g 36) (g 37) t.2.2 w) h (fun X g1 w1 ha hL => ?_)
 rw [<- fE 0 ha, <- fE 1 ha, <- fE 4 ha, <- fE 8 ha, <- fE 9 ha, <- fE 36 ha, <- fE 37 ha] at hL
 exact (Vc _ g1 w1 (fun _ _ _ _ _ t10 aP _ _ t38 w => X (t10, aP, t38) w) k0 R (fun _ _ h => h) h0 hr hL)
def EB (kn : K6) (R : K1) (aQ qA t4 cB bR t10 aP t36 t37 t38 : aJb) (w : aJa) : Prop :=
 EC kn R aQ qA t4 cB bR t10 aP t36 t37 t38 w
def Et (kn : Aw) (aQ qA t4 cB bR t10 aP : aJb) (w : aJa) : Prop :=
 aC pg (jS .len #[77] 3 [qA]) w fun t37 w =>
 kn aQ qA t4 cB bR t10 aP qA t37 (.int .i64 0) w
theorem U6 (kn : Aw) (hn : N10 Q kn 0 1 4 8 9 10 11 36 37 38) (h : Et kn (g 0) (g 1) (g 4) (g 8) (g 9) (g 10) (g 11) w) : bH pg eB (aD 1 (aD 1 (aB 5 cP))) Q g w :=
 dR (kr := no) (l := []) h hn eQ trivial
def zH (kn : K6) (R : K1) (aQ qA t4 cB bR t10 aP : aJb) (w : aJa) : Prop :=
 Et (fun aQ qA t4 cB bR t10 aP t36 t37 t38 w => EB kn R aQ qA t4 cB bR t10 aP t36 t37 t38 w) aQ qA t4 cB bR t10 aP w
def EP (R : K1) (aQ qA t4 cB bR t10 aP : aJb) (w : aJa) : Prop :=
 zH (fun aQ qA t4 bR t10 aP w => Eh R aQ qA t4 bR t10 aP w) R aQ qA t4 cB bR t10 aP w
theorem U1 (kn : K6) (R : K1) (hn : N6 Q kn 0 1 4 9 10 11) (hr : HR iN R Q) (h : zH kn R (g 0) (g 1) (g 4) (g 8) (g 9) (g 10) (g 11) w) : bH pg eB (aD 1 (aB 5 cP)) Q g w :=
 fQ 1 (U6 _ g w (EB kn R) (fun g w h => aK (tX 0 (UP _ g w kn R hn hr h))) h)
def Eb (kn : K7) (R : K1) (aQ qA : aJb) (w : aJa) : Prop :=
 aC pg (bT 27) w fun t4 w =>
 aR pg uV #[aQ] w fun t22 w =>
 aC pg (aG .lss 3 aM aM t22 (.int .i64 0)) w fun t24 w =>
 Gd (fI t24 false) (fun K => K qA w) w fun t26 w =>
 Gd (fI t24 false) (fun K => aC pg (jS .len #[77] 3 [t26]) w K) w fun t27 w =>
 Gd (fI t24 false) (fun K => aC pg (aG .eql 3 (.tmp 27) (.const (.int .i64 0)) t27 (.int .i64 0)) w K) w fun t28 w =>
 aC pg (fR t24 (.bool true) t28) w fun t29 w =>
 Gd (fI t29 false) (fun K => K qA w) w fun t31 w =>
 Gd (fI t29 false) (fun K => aC pg (jS .len #[77] 3 [t31]) w K) w fun t32 w =>
 Gd (fI t29 false) (fun K => aC pg (aG .gtr 3 aM aM t32 (.int .i64 131072)) w K) w fun t33 w =>
 aC pg (fR t29 (.bool true) t33) w fun t34 w =>
 eN t34
  (aC pg (bV 27 []) w fun t35 w =>
  aC pg (aJ 27 t4 t35) w fun _u w =>
  kC pg 27 t4 w fun r0 => R (.tuple #[r0, (.int .i64 0), (.slice none 0 0), (.int .i64 1)]) w)
  (aC pg (bT 144) w fun bR w =>
  kn aQ qA t4 t22 bR (.int .i64 0) (.int .i64 0) w)
theorem U2 (kn : K7) (R : K1) (hn : N7 Q kn 0 1 4 8 9 10 11) (hr : HR iN R Q) (h : Eb kn R (g 0) (g 1) w) : bH pg eB (aD 5 cP) Q g w :=
 dR (l := []) h hn hr trivial
def Ep (R : K1) (aQ qA : aJb) (w : aJa) : Prop :=
 Eb (fun aQ qA t4 cB bR t10 aP w => EP R aQ qA t4 cB bR t10 aP w) R aQ qA w
theorem UM (R : K1) (hr : HR iN R Q) (h : Ep R (g 0) (g 1) w) : bH pg eB cP Q g w :=
 fQ 5 (U2 _ g w (EP R) R (fun g w h => aK (fQ 1 (U1 _ g w (Eh R) R (fun g w h => aK (fQ 1 (UH _ g w (ES R) (fun g w h => aK (fQ 1 (UD _ g w (vN R) R (fun g w h => aK (fQ 1 (Xm _ g w (vY R) (fun g w h => aK (XD _ g w R hr h)) h))) hr h))) h))) hr h))) hr h)
def YV (a0 a1 : aJb) (w : aJa) (R : K1) : Prop :=
 Ep R a0 a1 w
theorem Zl {a0 a1 : aJb} {w : aJa} {R : K1} (h : YV a0 a1 w R) : aR pg nV #[a0, a1] w R := by
 refine rI (ann := eB) Tryd.f40 cP [a0, a1] iN 128 TrydM.mixed Tryd.func40 ?_
 exact (UM _ _ _ R (fun _ _ h => h) h)
def bW : FA := ⟨uR, fun i => match Nat.beq i 15 with | true => .leaf ([7], []) [(false, []), (false, []), (false, []), (false, []), (false, []), (false, []), (false, []), (true, []), (false, []), (false, []), (false, []), (false, []), (false, []), (false, []), (false, []), (false, []), (false, [])] | false => match Nat.beq i 31 with | true => .leaf ([9], []) [(false, []), (false, []), (false, []), (false, []), (false, []), (false, []), (false, []), (false, []), (false, []), (true, [])] | false => .leaf ([], []) []⟩
def gN : List ResultVar := [.tmp 6, .tmp 7]
noncomputable def bS : Code := cU Tryd.f41
def sX (R : K1) (nH : aJb) (w : aJa) : Prop :=
 aR pg rS #[nH] w fun t137 w =>
 R (.tuple #[t137, (.int .i64 0)]) w
theorem Qa (R : K1) (hr : HR gN R Q) (h : sX R (g 8) w) : bH pg bW (aB 1 (aB 1 (aB 3 bS))) Q g w :=
 dR (kn := no) (l := []) h eQ hr trivial
def sY (kn : K5) (k6 : K1) (t5 nH aZ t121 t122 : aJb) (w : aJa) : Prop :=
 aC pg (aG .lss 3 aM aM t122 (.int .i64 3)) w fun t123 w =>
 eN t123
  (aC pg (G4 67 t121 t122) w fun t124 w =>
  (dr w) = (dr w) /\
  (dr w) = (dr w) /\
  aC pg (bA 67 aZ t124) (dr w) fun t127 w_ => w_ = (dr w) /\
  aC pg (aH 3 t127) (dr w) fun t128 w_ => w_ = (dr w) /\
  aC pg (fM 3 73 t128) (dr w) fun t129 w_ => w_ = (dr w) /\
  (dr w) = (dr w) /\
  aC pg (bA 29 t5 t124) (dr w) fun t131 w_ => w_ = (dr w) /\
  aC pg (aL 27 t131 0) (dr w) fun t132 w_ => w_ = (dr w) /\
  aC pg (aH 3 t132) (dr w) fun t133 w_ => w_ = (dr w) /\
  aR pg eY #[nH, t129, t133] (dr w) fun t134 aF2 =>
  aC pg (aG .add 3 aM aM t122 (.int .i64 1)) aF2 fun t135 w =>
  kn t5 nH aZ t121 t135 w)
  (k6 nH w)
theorem Qj (kn : K5) (k6 : K1) (hn : N5 Q kn 5 8 9 121 122) (h6 : E1 Q k6 6 8) (h : sY kn k6 (g 5) (g 8) (g 9) (g 121) (g 122) w) : bH pg bW (bI (bI (aB 1 (aD 1 (aB 1 (aB 3 bS)))))) Q g w :=
 dR (kr := no) (l := [(6, fun g w => k6 (g 8) w)]) h hn eQ ⟨h6, trivial⟩
def sT (k6 : K1) (t5 nH aZ t121 t122 : aJb) (w : aJa) : Prop :=
 cG (fun (X : aJb -> K0) (t : aJb) (w : aJa) => sY (fun _ _ _ _ t122 w => X t122 w) k6 t5 nH aZ t121 t w) t122 w
theorem PD (k6 : K1) (h6 : E1 Q k6 6 8) (h : sT k6 (g 5) (g 8) (g 9) (g 121) (g 122) w) : bH pg bW (bI (aB 1 (aD 1 (aB 1 (aB 3 bS))))) Q g w := by
 refine DO (fun g : Env => g 122) (fun X t w => sY (fun _ _ _ _ t122 w => X t122 w) k6 (g 5) (g 8) (g 9) (g 121) t w) h (fun X g1 w1 ha hL => ?_)
 rw [<- fE 5 ha, <- fE 8 ha, <- fE 9 ha, <- fE 121 ha] at hL
 exact (Qj _ g1 w1 (fun _ _ _ _ t122 w => X t122 w) k6 (fun _ _ h => h) h6 hL)
def Ak (kn : K1) (t5 nH aZ t121 t122 : aJb) (w : aJa) : Prop :=
 sT kn t5 nH aZ t121 t122 w
def Ar (kn : K5) (t5 nH aZ : aJb) (w : aJa) : Prop :=
 aC pg (bV 67 [(0, (.int .i64 2)), (1, (.int .i64 1)), (2, (.int .i64 0))]) w fun t121 w =>
 kn t5 nH aZ t121 (.int .i64 0) w
theorem QI (kn : K5) (hn : N5 Q kn 5 8 9 121 122) (h : Ar kn (g 5) (g 8) (g 9) w) : bH pg bW (aD 1 (aD 1 (aB 1 (aB 3 bS)))) Q g w :=
 dR (kr := no) (l := []) h hn eQ trivial
def Aq (kn : K1) (t5 nH aZ : aJb) (w : aJa) : Prop :=
 Ar (fun t5 nH aZ t121 t122 w => Ak kn t5 nH aZ t121 t122 w) t5 nH aZ w
def Ag (R : K1) (t5 nH aZ : aJb) (w : aJa) : Prop :=
 Aq (fun nH w => sX R nH w) t5 nH aZ w
theorem PW (kn : K1) (hn : N1 Q kn 8) (h : Aq kn (g 5) (g 8) (g 9) w) : bH pg bW (aD 1 (aB 1 (aB 3 bS))) Q g w :=
 fQ 1 (QI _ g w (Ak kn) (fun g w h => aK (tX 6 (PD _ g w kn hn h))) h)
def sU (kn : K6) (hZ dE t5 nH aZ iZ : aJb) (w : aJa) : Prop :=
 aC pg (aG .sub 3 aM aM iZ (.int .i64 1)) w fun t35 w =>
 kn hZ dE t5 nH aZ t35 w
theorem PF (kn : K6) (hn : N6 Q kn 0 4 5 8 9 10) (h : sU kn (g 0) (g 4) (g 5) (g 8) (g 9) (g 10) w) : bH pg bW (aB 1 (aB 1 (bI (bI (aB 1 (aD 1 (aB 3 bS))))))) Q g w :=
 dR (kr := no) (l := []) h hn eQ trivial
def sQ (kn : K9) (k4 : K6) (hZ dE t5 nH aZ iZ acQ t95 t96 : aJb) (w : aJa) : Prop :=
 aC pg (aG .lss 3 aM aM t96 (.int .i64 3)) w fun t97 w =>
 eN t97
  (aC pg (G4 67 t95 t96) w fun t98 w =>
  aC pg (bA 98 dE t98) w fun t102 w =>
  aC pg (aH 77 t102) w fun t103 w =>
  aC pg (bA 77 t103 iZ) w fun t105 w =>
  aC pg (aH 3 t105) w fun t106 w =>
  aR pg CU #[t98, t106] w fun t107 w =>
  aC pg (bB t107 0) w fun t108 w =>
  aC pg (bB t107 1) w fun t109 w =>
  aC pg (bB t107 2) w fun t110 w =>
  aC pg (bA 142 acQ t98) w fun t113 w =>
  aC pg (aH 43 t113) w fun t114 w =>
  aC pg (aG .sub 43 aM aM t114 t108) w fun t116 w =>
  aC pg (fM 43 73 t116) w fun t117 w =>
  aR pg eY #[nH, t117, t109] w fun t119 w =>
  aC pg (aG .add 3 aM aM t96 (.int .i64 1)) w fun t120 w =>
  kn hZ dE t5 nH aZ iZ acQ t95 t120 w)
  (k4 hZ dE t5 nH aZ iZ w)
theorem Qo (kn : K9) (k4 : K6) (hn : N9 Q kn 0 4 5 8 9 10 20 95 96) (h4 : E6 Q k4 4 0 4 5 8 9 10) (h : sQ kn k4 (g 0) (g 4) (g 5) (g 8) (g 9) (g 10) (g 20) (g 95) (g 96) w) : bH pg bW (bI (bI (aB 2 (aB 1 (bI (aD 1 (aB 1 (bI (bI (aB 1 (aD 1 (aB 3 bS)))))))))))) Q g w :=
 dR (kr := no) (l := [(4, fun g w => k4 (g 0) (g 4) (g 5) (g 8) (g 9) (g 10) w)]) h hn eQ ⟨h4, trivial⟩
def rY (k4 : K6) (hZ dE t5 nH aZ iZ acQ t95 t96 : aJb) (w : aJa) : Prop :=
 cG (fun (X : aJb -> K0) (t : aJb) (w : aJa) => sQ (fun _ _ _ _ _ _ _ _ t96 w => X t96 w) k4 hZ dE t5 nH aZ iZ acQ t95 t w) t96 w
theorem O1 (k4 : K6) (h4 : E6 Q k4 4 0 4 5 8 9 10) (h : rY k4 (g 0) (g 4) (g 5) (g 8) (g 9) (g 10) (g 20) (g 95) (g 96) w) : bH pg bW (bI (aB 2 (aB 1 (bI (aD 1 (aB 1 (bI (bI (aB 1 (aD 1 (aB 3 bS))))))))))) Q g w := by
 refine DO (fun g : Env => g 96) (fun X t w => sQ (fun _ _ _ _ _ _ _ _ t96 w => X t96 w) k4 (g 0) (g 4) (g 5) (g 8) (g 9) (g 10) (g 20) (g 95) t w) h (fun X g1 w1 ha hL => ?_)
 rw [<- fE 0 ha, <- fE 4 ha, <- fE 5 ha, <- fE 8 ha, <- fE 9 ha, <- fE 10 ha, <- fE 20 ha, <- fE 95 ha] at hL
 exact (Qo _ g1 w1 (fun _ _ _ _ _ _ _ _ t96 w => X t96 w) k4 (fun _ _ h => h) h4 hL)
def xY (kn : K6) (hZ dE t5 nH aZ iZ acQ t95 t96 : aJb) (w : aJa) : Prop :=
 rY kn hZ dE t5 nH aZ iZ acQ t95 t96 w
def yE (kn : K9) (hZ dE t5 nH aZ iZ : aJb) (w : aJa) : Prop :=
 aC pg (bA 24 hZ iZ) w fun t92 w =>
 aC pg (aH 47 t92) w fun t93 w =>
 aR pg qB #[t93] w fun t94 w =>
 aC pg (bT 142) w fun acQ w =>
 aC pg (aJ 142 acQ t94) w fun _u w =>
 aC pg (bV 67 [(0, (.int .i64 0)), (1, (.int .i64 2)), (2, (.int .i64 1))]) w fun t95 w =>
 kn hZ dE t5 nH aZ iZ acQ t95 (.int .i64 0) w
theorem OM (kn : K9) (hn : N9 Q kn 0 4 5 8 9 10 20 95 96) (h : yE kn (g 0) (g 4) (g 5) (g 8) (g 9) (g 10) w) : bH pg bW (aD 2 (aB 1 (bI (aD 1 (aB 1 (bI (bI (aB 1 (aD 1 (aB 3 bS)))))))))) Q g w :=
 dR (kr := no) (l := []) h hn eQ trivial
def yV (kn : K6) (hZ dE t5 nH aZ iZ : aJb) (w : aJa) : Prop :=
 yE (fun hZ dE t5 nH aZ iZ acQ t95 t96 w => xY kn hZ dE t5 nH aZ iZ acQ t95 t96 w) hZ dE t5 nH aZ iZ w
def nU (kn : K8) (hZ dE t5 nH aZ iZ t36 t37 : aJb) (w : aJa) : Prop :=
 aC pg (aG .add 3 aM aM t37 (.int .i64 1)) w fun t89 w =>
 kn hZ dE t5 nH aZ iZ t36 t89 w
theorem Py (kn : K8) (hn : N8 Q kn 0 4 5 8 9 10 36 37) (h : nU kn (g 0) (g 4) (g 5) (g 8) (g 9) (g 10) (g 36) (g 37) w) : bH pg bW (aB 3 (bI (bI (aB 1 (aD 1 (bI (aD 1 (aB 1 (bI (bI (aB 1 (aD 1 (aB 3 bS))))))))))))) Q g w :=
 dR (kr := no) (l := []) h hn eQ trivial
def yU (kn : K8) (k2 : K6) (R : K1) (hZ dE t5 nH aZ iZ t36 t37 : aJb) (w : aJa) : Prop :=
 aC pg (aG .lss 3 aM aM t37 (.int .i64 3)) w fun t38 w =>
 eN t38
  (aC pg (G4 67 t36 t37) w fun t39 w =>
  aC pg (bA 98 dE t39) w fun t41 w =>
  aC pg (aH 77 t41) w fun t42 w =>
  aC pg (bA 77 t42 iZ) w fun t44 w =>
  aC pg (aH 3 t44) w fun t45 w =>
  aC pg (fM 3 5 t45) w fun t46 w =>
  aC pg (jS .len #[24] 3 [hZ]) w fun t49 w =>
  aC pg (aG .sub 3 aM aM t49 (.int .i64 1)) w fun t50 w =>
  aC pg (aG .eql 3 (.tmp 47) (.tmp 50) iZ t50) w fun t51 w =>
  eN t51
   (aC pg (bA 29 t5 t39) w fun t54 w =>
   aC pg (aH 27 t54) w fun t55 w =>
   aR pg L9 #[t55, t46] w fun t57 w =>
   aC pg (bB t57 0) w fun t58 w =>
   aC pg (bB t57 1) w fun t59 w =>
   aC pg (aG .neq 30 (.tmp 60) (.const (.int .i64 0)) t59 (.int .i64 0)) w fun t61 w =>
   eN t61
    (R (.tuple #[(.slice none 0 0), t59]) w)
    (aC pg (bA 67 aZ t39) w fun t65 w =>
    aC pg (aJ 3 t65 t58) w fun _u w =>
    kn hZ dE t5 nH aZ iZ t36 t37 w))
   ((dr w) = (dr w) /\
   aC pg (bA 29 t5 t39) (dr w) fun t68 w_ => w_ = (dr w) /\
   aC pg (aH 27 t68) (dr w) fun t69 w_ => w_ = (dr w) /\
   (dr w) = (dr w) /\
   aC pg (bA 67 aZ t39) (dr w) fun t71 w_ => w_ = (dr w) /\
   aC pg (aH 3 t71) (dr w) fun t72 w_ => w_ = (dr w) /\
   (dr w) = (dr w) /\
   aR pg IA #[t69, t72, t46] (dr w) fun t74 Ct =>
   Ct = Ct /\
   aC pg (bB t74 0) Ct fun t75 w_ => w_ = Ct /\
   aC pg (bB t74 1) Ct fun t76 w_ => w_ = Ct /\
   aC pg (bB t74 2) Ct fun t77 w_ => w_ = Ct /\
   aC pg (bB t74 3) Ct fun t78 w_ => w_ = Ct /\
   Ct = Ct /\
   Ct = Ct /\
   Ct = Ct /\
   Ct = Ct /\
   aC pg (aG .neq 30 (.tmp 79) (.const (.int .i64 0)) t78 (.int .i64 0)) Ct fun t80 w =>
   eN t80
    (R (.tuple #[(.slice none 0 0), t78]) w)
    (aR pg eY #[nH, t76, t77] w fun t85 w =>
    aC pg (bA 67 aZ t39) w fun t88 w =>
    aC pg (aJ 3 t88 t75) w fun _u w =>
    kn hZ dE t5 nH aZ iZ t36 t37 w)))
  (k2 hZ dE t5 nH aZ iZ w)
theorem OE (kn : K8) (k2 : K6) (R : K1) (hn : N8 Q kn 0 4 5 8 9 10 36 37) (h2 : E6 Q k2 2 0 4 5 8 9 10) (hr : HR gN R Q) (h : yU kn k2 R (g 0) (g 4) (g 5) (g 8) (g 9) (g 10) (g 36) (g 37) w) : bH pg bW (aD 3 (bI (bI (aB 1 (aD 1 (bI (aD 1 (aB 1 (bI (bI (aB 1 (aD 1 (aB 3 bS))))))))))))) Q g w :=
 dR (l := [(2, fun g w => k2 (g 0) (g 4) (g 5) (g 8) (g 9) (g 10) w)]) h hn hr ⟨h2, trivial⟩
def rJ (kn : K8) (k2 : K6) (R : K1) (hZ dE t5 nH aZ iZ t36 t37 : aJb) (w : aJa) : Prop :=
 yU (fun hZ dE t5 nH aZ iZ t36 t37 w => nU kn hZ dE t5 nH aZ iZ t36 t37 w) k2 R hZ dE t5 nH aZ iZ t36 t37 w
def rR (k2 : K6) (R : K1) (hZ dE t5 nH aZ iZ t36 t37 : aJb) (w : aJa) : Prop :=
 cG (fun (X : aJb -> K0) (t : aJb) (w : aJa) => rJ (fun _ _ _ _ _ _ _ t37 w => X t37 w) k2 R hZ dE t5 nH aZ iZ t36 t w) t37 w
theorem Pb (kn : K8) (k2 : K6) (R : K1) (hn : N8 Q kn 0 4 5 8 9 10 36 37) (h2 : E6 Q k2 2 0 4 5 8 9 10) (hr : HR gN R Q) (h : rJ kn k2 R (g 0) (g 4) (g 5) (g 8) (g 9) (g 10) (g 36) (g 37) w) : bH pg bW (bI (bI (aB 1 (aD 1 (bI (aD 1 (aB 1 (bI (bI (aB 1 (aD 1 (aB 3 bS)))))))))))) Q g w :=
 fQ 3 (OE _ g w (nU kn) k2 R (fun g w h => aK (Py _ g w kn hn h)) h2 hr h)
theorem Pq (k2 : K6) (R : K1) (h2 : E6 Q k2 2 0 4 5 8 9 10) (hr : HR gN R Q) (h : rR k2 R (g 0) (g 4) (g 5) (g 8) (g 9) (g 10) (g 36) (g 37) w) : bH pg bW (bI (aB 1 (aD 1 (bI (aD 1 (aB 1 (bI (bI (aB 1 (aD 1 (aB 3 bS))))))))))) Q g w := by
 refine DO (fun g : Env => g 37) (fun X t w => rJ (fun _ _ _ _ _ _ _ t37 w => X t37 w) k2 R (g 0) (g 4) (g 5) (g 8) (g 9) (g 10) (g 36) t w) h (fun X g1 w1 ha hL => ?_)
 rw [<- fE 0 ha, <- fE 4 ha, <- fE 5 ha, <- fE 8 ha, <- fE 9 ha, <- fE 10 ha, <- fE 36 ha] at hL
 exact (Pb _ g1 w1 (fun _ _ _ _ _ _ _ t37 w => X t37 w) k2 R (fun _ _ h => h) h2 hr hL)
def xI (kn : K6) (R : K1) (hZ dE t5 nH aZ iZ t36 t37 : aJb) (w : aJa) : Prop :=
 rR kn R hZ dE t5 nH aZ iZ t36 t37 w
def yL (kn : K8) (hZ dE t5 nH aZ iZ : aJb) (w : aJa) : Prop :=
 aC pg (bV 67 [(0, (.int .i64 1)), (1, (.int .i64 2)), (2, (.int .i64 0))]) w fun t36 w =>
 kn hZ dE t5 nH aZ iZ t36 (.int .i64 0) w
theorem OL (kn : K8) (hn : N8 Q kn 0 4 5 8 9 10 36 37) (h : yL kn (g 0) (g 4) (g 5) (g 8) (g 9) (g 10) w) : bH pg bW (aD 1 (aD 1 (bI (aD 1 (aB 1 (bI (bI (aB 1 (aD 1 (aB 3 bS)))))))))) Q g w :=
 dR (kr := no) (l := []) h hn eQ trivial
def yM (kn : K6) (R : K1) (hZ dE t5 nH aZ iZ : aJb) (w : aJa) : Prop :=
 yL (fun hZ dE t5 nH aZ iZ t36 t37 w => xI kn R hZ dE t5 nH aZ iZ t36 t37 w) hZ dE t5 nH aZ iZ w
def Gh (kn : K6) (R : K1) (hZ dE t5 nH aZ iZ : aJb) (w : aJa) : Prop :=
 yM (fun hZ dE t5 nH aZ iZ w => yV kn hZ dE t5 nH aZ iZ w) R hZ dE t5 nH aZ iZ w
theorem OG (kn : K6) (R : K1) (hn : N6 Q kn 0 4 5 8 9 10) (hr : HR gN R Q) (h : yM kn R (g 0) (g 4) (g 5) (g 8) (g 9) (g 10) w) : bH pg bW (aD 1 (bI (aD 1 (aB 1 (bI (bI (aB 1 (aD 1 (aB 3 bS))))))))) Q g w :=
 fQ 1 (OL _ g w (xI kn R) (fun g w h => aK (tX 2 (Pq _ g w kn R hn hr h))) h)
def xW (kn : K6) (R : K1) (hZ dE t5 nH aZ iZ : aJb) (w : aJa) : Prop :=
 Gh kn R hZ dE t5 nH aZ iZ w
def yG (kn : K6) (R : K1) (hZ dE t5 nH aZ iZ : aJb) (w : aJa) : Prop :=
 xW (fun hZ dE t5 nH aZ iZ w => sU kn hZ dE t5 nH aZ iZ w) R hZ dE t5 nH aZ iZ w
theorem Ox (kn : K6) (R : K1) (hn : N6 Q kn 0 4 5 8 9 10) (hr : HR gN R Q) (h : xW kn R (g 0) (g 4) (g 5) (g 8) (g 9) (g 10) w) : bH pg bW (aD 1 (aB 1 (bI (bI (aB 1 (aD 1 (aB 3 bS))))))) Q g w :=
 tX 1 (fQ 1 (OG _ g w (yV kn) R (fun g w h => aK (fQ 2 (OM _ g w (xY kn) (fun g w h => aK (tX 4 (O1 _ g w kn hn h))) h))) hr h))
def xG (kn : K6) (k0 : K3) (hZ dE t5 nH aZ iZ : aJb) (w : aJa) : Prop :=
 aC pg (aG .geq 3 aM aM iZ (.int .i64 0)) w fun t33 w =>
 eN t33
  (kn hZ dE t5 nH aZ iZ w)
  (k0 t5 nH aZ w)
theorem Oq (kn : K6) (k0 : K3) (hn : N6 Q kn 0 4 5 8 9 10) (h0 : E3 Q k0 0 5 8 9) (h : xG kn k0 (g 0) (g 4) (g 5) (g 8) (g 9) (g 10) w) : bH pg bW (aD 1 (bI (bI (aB 1 (aD 1 (aB 3 bS)))))) Q g w :=
 dR (kr := no) (l := [(0, fun g w => k0 (g 5) (g 8) (g 9) w)]) h hn eQ ⟨h0, trivial⟩
def rW (kn : K6) (k0 : K3) (R : K1) (hZ dE t5 nH aZ iZ : aJb) (w : aJa) : Prop :=
 xG (fun hZ dE t5 nH aZ iZ w => yG kn R hZ dE t5 nH aZ iZ w) k0 hZ dE t5 nH aZ iZ w
def yX (k0 : K3) (R : K1) (hZ dE t5 nH aZ iZ : aJb) (w : aJa) : Prop :=
 cG (fun (X : aJb -> K0) (t : aJb) (w : aJa) => rW (fun _ _ _ _ _ iZ w => X iZ w) k0 R hZ dE t5 nH aZ t w) iZ w
theorem OF (kn : K6) (k0 : K3) (R : K1) (hn : N6 Q kn 0 4 5 8 9 10) (h0 : E3 Q k0 0 5 8 9) (hr : HR gN R Q) (h : rW kn k0 R (g 0) (g 4) (g 5) (g 8) (g 9) (g 10) w) : bH pg bW (bI (bI (aB 1 (aD 1 (aB 3 bS))))) Q g w :=
 fQ 1 (Oq _ g w (yG kn R) k0 (fun g w h => aK (fQ 1 (Ox _ g w (sU kn) R (fun g w h => aK (PF _ g w kn hn h)) hr h))) h0 h)
theorem Oo (k0 : K3) (R : K1) (h0 : E3 Q k0 0 5 8 9) (hr : HR gN R Q) (h : yX k0 R (g 0) (g 4) (g 5) (g 8) (g 9) (g 10) w) : bH pg bW (bI (aB 1 (aD 1 (aB 3 bS)))) Q g w := by
 refine DO (fun g : Env => g 10) (fun X t w => rW (fun _ _ _ _ _ iZ w => X iZ w) k0 R (g 0) (g 4) (g 5) (g 8) (g 9) t w) h (fun X g1 w1 ha hL => ?_)
 rw [<- fE 0 ha, <- fE 4 ha, <- fE 5 ha, <- fE 8 ha, <- fE 9 ha] at hL
 exact (OF _ g1 w1 (fun _ _ _ _ _ iZ w => X iZ w) k0 R (fun _ _ h => h) h0 hr hL)
def yD (kn : K3) (R : K1) (hZ dE t5 nH aZ iZ : aJb) (w : aJa) : Prop :=
 yX kn R hZ dE t5 nH aZ iZ w
def xK (kn : K6) (hZ dE t5 nH aZ : aJb) (w : aJa) : Prop :=
 aC pg (jS .len #[24] 3 [hZ]) w fun t30 w =>
 aC pg (aG .sub 3 aM aM t30 (.int .i64 1)) w fun t31 w =>
 kn hZ dE t5 nH aZ t31 w
theorem Po (kn : K6) (hn : N6 Q kn 0 4 5 8 9 10) (h : xK kn (g 0) (g 4) (g 5) (g 8) (g 9) w) : bH pg bW (aD 1 (aD 1 (aB 3 bS))) Q g w :=
 dR (kr := no) (l := []) h hn eQ trivial
def xL (kn : K3) (R : K1) (hZ dE t5 nH aZ : aJb) (w : aJa) : Prop :=
 xK (fun hZ dE t5 nH aZ iZ w => yD kn R hZ dE t5 nH aZ iZ w) hZ dE t5 nH aZ w
def yH (R : K1) (hZ dE t5 nH aZ : aJb) (w : aJa) : Prop :=
 xL (fun t5 nH aZ w => Ag R t5 nH aZ w) R hZ dE t5 nH aZ w
theorem O7 (kn : K3) (R : K1) (hn : N3 Q kn 5 8 9) (hr : HR gN R Q) (h : xL kn R (g 0) (g 4) (g 5) (g 8) (g 9) w) : bH pg bW (aD 1 (aB 3 bS)) Q g w :=
 fQ 1 (Po _ g w (yD kn R) (fun g w h => aK (tX 0 (Oo _ g w kn R hn hr h))) h)
def xJ (kn : K5) (hZ ayV t2 : aJb) (w : aJa) : Prop :=
 aC pg (rA 98 ayV) w fun dE w =>
 aC pg (rA 29 t2) w fun t5 w =>
 aR pg pY #[] w fun t28 w =>
 aC pg (bT 67) w fun aZ w =>
 kn hZ dE t5 t28 aZ w
theorem OH (kn : K5) (hn : N5 Q kn 0 4 5 8 9) (h : xJ kn (g 0) (g 1) (g 2) w) : bH pg bW (aD 3 bS) Q g w :=
 dR (kr := no) (l := []) h hn eQ trivial
def yC (R : K1) (hZ ayV t2 : aJb) (w : aJa) : Prop :=
 xJ (fun hZ dE t5 nH aZ w => yH R hZ dE t5 nH aZ w) hZ ayV t2 w
theorem ON (R : K1) (hr : HR gN R Q) (h : yC R (g 0) (g 1) (g 2) w) : bH pg bW bS Q g w :=
 fQ 3 (OH _ g w (yH R) (fun g w h => aK (fQ 1 (O7 _ g w (Ag R) R (fun g w h => aK (fQ 1 (PW _ g w (sX R) (fun g w h => aK (Qa _ g w R hr h)) h))) hr h))) h)
def Pk (a0 a1 a2 : aJb) (w : aJa) (R : K1) : Prop :=
 yC R a0 a1 a2 w
theorem Se {a0 a1 a2 : aJb} {w : aJa} {R : K1} (h : Pk a0 a1 a2 w R) : aR pg uR #[a0, a1, a2] w R := by
 refine rI (ann := bW) Tryd.f41 bS [a0, a1, a2] gN 138 TrydM.mixed Tryd.func41 ?_
 exact (ON _ _ _ R (fun _ _ h => h) h)
def Cj : FA := ⟨nC, fun i => .leaf ([], []) []⟩
def Qn : List ResultVar := []
noncomputable def Az : Code := cU Tryd.f42
def vE (kn : K0) (tV VI : aJb) (w : aJa) : Prop :=
 aC pg (aG .neq 95 (.tmp 4) (.const (.pointer none)) tV (.pointer none)) w fun t5 w =>
 eN t5
  (aC pg (pV tV) w fun t8 w =>
  aC pg (aL 141 t8 0) w fun t9 w =>
  aC pg (aH 22 t9) w fun t10 w =>
  aC pg (jS .append #[22, 22] 22 [t10, VI]) w fun t12 w =>
  aC pg (pV tV) w fun t13 w =>
  aC pg (aL 141 t13 0) w fun t14 w =>
  aC pg (aJ 22 t14 t12) w fun _u w =>
  kn w)
  (kn w)
theorem Ly (kn : K0) (hn : N0 Q kn) (h : vE kn (g 0) (g 1) w) : bH pg Cj Az Q g w :=
 dR (kr := no) (l := []) h hn eQ trivial
def Ii (a0 a1 : aJb) (w : aJa) (R : K1) : Prop :=
 vE (fun  w => R (.tuple #[]) w) a0 a1 w
theorem MQ {a0 a1 : aJb} {w : aJa} {R : K1} (h : Ii a0 a1 w R) : aR pg nC #[a0, a1] w R := by
 refine rI (ann := Cj) Tryd.f42 Az [a0, a1] Qn 15 TrydM.mixed Tryd.func42 ?_
 exact (Ly _ _ _ (fun  w => R (.tuple #[]) w) (fun _ _ h => h) h)
def D0 : FA := ⟨sR, fun i => .leaf ([], []) []⟩
def Ga : List ResultVar := [.tmp 2]
noncomputable def DJ : Code := cU Tryd.f43
def yS (R : K1) (tV : aJb) (w : aJa) : Prop :=
 aC pg (aG .eql 95 (.tmp 3) (.const (.pointer none)) tV (.pointer none)) w fun t4 w =>
 eN t4
  (R (.slice none 0 0) w)
  (aC pg (pV tV) w fun t6 w =>
  aC pg (aL 141 t6 0) w fun t7 w =>
  aC pg (aH 22 t7) w fun t8 w =>
  aR pg iM #[t8] w fun t9 w =>
  R t9 w)
theorem Pv (R : K1) (hr : HR Ga R Q) (h : yS R (g 0) w) : bH pg D0 DJ Q g w :=
 dR (kn := no) (l := []) h eQ hr trivial
def L4 (a0 : aJb) (w : aJa) (R : K1) : Prop :=
 yS R a0 w
theorem Qx {a0 : aJb} {w : aJa} {R : K1} (h : L4 a0 w R) : aR pg sR #[a0] w R := by
 refine rI (ann := D0) Tryd.f43 DJ [a0] Ga 10 TrydM.mixed Tryd.func43 ?_
 exact (Pv _ _ _ R (fun _ _ h => h) h)
def J7 : FA := ⟨zI, fun i => .leaf ([], []) []⟩
def LR : List ResultVar := [.cell 2 27, .tmp 3]
noncomputable def Io : Code := cU Tryd.f44
def Dm (R : K1) (aQ : aJb) (w : aJa) : Prop :=
 aC pg (bT 27) w fun t2 w =>
 aR pg yP #[aQ] w fun t5 w =>
 aR pg rZ #[t5] w fun t6 w =>
 aC pg (bB t6 0) w fun t7 w =>
 aC pg (bB t6 1) w fun t8 w =>
 aC pg (aJ 27 t2 t7) w fun _u w =>
 kC pg 27 t2 w fun r0 => R (.tuple #[r0, t8]) w
theorem S4 (R : K1) (hr : HR LR R Q) (h : Dm R (g 0) w) : bH pg J7 Io Q g w :=
 dR (kn := no) (l := []) h eQ hr trivial
def SU (a0 : aJb) (w : aJa) (R : K1) : Prop :=
 Dm R a0 w
theorem Vk {a0 : aJb} {w : aJa} {R : K1} (h : SU a0 w R) : aR pg zI #[a0] w R := by
 refine rI (ann := J7) Tryd.f44 Io [a0] LR 9 TrydM.mixed Tryd.func44 ?_
 exact (S4 _ _ _ R (fun _ _ h => h) h)
def agR : FA := ⟨EG, fun i => .leaf ([], []) []⟩
def akO : List ResultVar := [.cell 2 27]
noncomputable def Zh : Code := cU Tryd.f45
def VU (R : K1) (aoA : aJb) (w : aJa) : Prop :=
 aC pg (bT 27) w fun t2 w =>
 aC pg (bV 123 [(0, aoA)]) w fun t4 w =>
 aC pg (bX 25 1 [(0, t4)]) w fun t5 w =>
 aC pg (bV 27 [(1, t5)]) w fun t6 w =>
 aC pg (aJ 27 t2 t6) w fun _u w =>
 kC pg 27 t2 w fun r0 => R r0 w
theorem aoX (R : K1) (hr : HR akO R Q) (h : VU R (g 0) w) : bH pg agR Zh Q g w :=
 dR (kn := no) (l := []) h eQ hr trivial
def azX (a0 : aJb) (w : aJa) (R : K1) : Prop :=
 VU R a0 w
theorem arX {a0 : aJb} {w : aJa} {R : K1} (h : azX a0 w R) : aR pg EG #[a0] w R := by
 refine rI (ann := agR) Tryd.f45 Zh [a0] akO 7 TrydM.mixed Tryd.func45 ?_
 exact (aoX _ _ _ R (fun _ _ h => h) h)
def DR : FA := ⟨iM, fun i => .leaf ([], []) []⟩
def Gc : List ResultVar := [.tmp 2]
noncomputable def Dl : Code := cU Tryd.f47
def yF (R : K1) (wB : aJb) (w : aJa) : Prop :=
 aC pg (aG .eql 22 (.tmp 3) (.const (.slice none 0 0)) wB (.slice none 0 0)) w fun t4 w =>
 eN t4
  (R (.slice none 0 0) w)
  (aC pg (bX 22 0 []) w fun t5 w =>
  aC pg (jS .append #[22, 22] 22 [t5, wB]) w fun t7 w =>
  R t7 w)
theorem Pg (R : K1) (hr : HR Gc R Q) (h : yF R (g 0) w) : bH pg DR Dl Q g w :=
 dR (kn := no) (l := []) h eQ hr trivial
def L3 (a0 : aJb) (w : aJa) (R : K1) : Prop :=
 yF R a0 w
theorem Qs {a0 : aJb} {w : aJa} {R : K1} (h : L3 a0 w R) : aR pg iM #[a0] w R := by
 refine rI (ann := DR) Tryd.f47 Dl [a0] Gc 8 TrydM.mixed Tryd.func47 ?_
 exact (Pg _ _ _ R (fun _ _ h => h) h)
def gU : FA := ⟨jF, fun i => .leaf ([], []) []⟩
def pC : List ResultVar := [.tmp 4]
noncomputable def gL : Code := cU Tryd.f48
def pB (R : K1) (Vx : aJb) (w : aJa) : Prop :=
 R Vx w
theorem Jn (R : K1) (hr : HR pC R Q) (h : pB R (g 5) w) : bH pg gU (aB 1 (aB 3 gL)) Q g w :=
 dR (kn := no) (l := []) h eQ hr trivial
def oX (kn : K4) (k0 : K1) (Vx t18 t19 t20 : aJb) (w : aJa) : Prop :=
 aC pg (aG .lss 3 aM aM t20 t19) w fun t21 w =>
 eN t21
  (aC pg (bA 22 t18 t20) w fun t23 w =>
  aC pg (aH 5 t23) w fun t24 w =>
  aC pg (fM 5 73 t24) w fun t27 w =>
  aC pg (aG .mul 3 aM aM (.int .i64 8) t20) w fun t29 w =>
  aC pg (fM 3 94 t29) w fun t30 w =>
  aC pg (aG .shl 73 aM aM t27 t30) w fun t31 w =>
  aC pg (aG .or 73 aM aM Vx t31) w fun t32 w =>
  aC pg (aG .add 3 aM aM t20 (.int .i64 1)) w fun t33 w =>
  kn t32 t18 t19 t33 w)
  (k0 Vx w)
theorem Ja (kn : K4) (k0 : K1) (hn : N4 Q kn 5 18 19 20) (h0 : E1 Q k0 0 5) (h : oX kn k0 (g 5) (g 18) (g 19) (g 20) w) : bH pg gU (bI (bI (aB 1 (aD 1 (aB 3 gL))))) Q g w :=
 dR (kr := no) (l := [(0, fun g w => k0 (g 5) w)]) h hn eQ ⟨h0, trivial⟩
def tO (k0 : K1) (Vx t18 t19 t20 : aJb) (w : aJa) : Prop :=
 cG (fun (X : (aJb × aJb) -> K0) (t : aJb × aJb) (w : aJa) => oX (fun Vx _ _ t20 w => X (Vx, t20) w) k0 t.1 t18 t19 t.2 w) (Vx, t20) w
theorem Kg (k0 : K1) (h0 : E1 Q k0 0 5) (h : tO k0 (g 5) (g 18) (g 19) (g 20) w) : bH pg gU (bI (aB 1 (aD 1 (aB 3 gL)))) Q g w := by
 refine DO (fun g : Env => (g 5, g 20)) (fun X t w => oX (fun Vx _ _ t20 w => X (Vx, t20) w) k0 t.1 (g 18) (g 19) t.2 w) h (fun X g1 w1 ha hL => ?_)
 rw [<- fE 18 ha, <- fE 19 ha] at hL
 exact (Ja _ g1 w1 (fun Vx _ _ t20 w => X (Vx, t20) w) k0 (fun _ _ h => h) h0 hL)
def tM (kn : K1) (Vx t18 t19 t20 : aJb) (w : aJa) : Prop :=
 tO kn Vx t18 t19 t20 w
def tA (kn : K4) (mR pK Vx : aJb) (w : aJa) : Prop :=
 aC pg (aG .geq 3 aM aM pK (.int .i64 1)) w fun t13 w =>
 Gd (fI t13 true) (fun K => K pK w) w fun t15 w =>
 Gd (fI t13 true) (fun K => aC pg (aG .leq 3 aM aM t15 (.int .i64 8)) w K) w fun t16 w =>
 aC pg (fR t13 t16 (.bool false)) w fun t17 w =>
 aR pg nZ #[mR, pK, t17] w fun t18 w =>
 aC pg (jS .len #[22] 3 [t18]) w fun t19 w =>
 kn Vx t18 t19 (.int .i64 0) w
theorem Jt (kn : K4) (hn : N4 Q kn 5 18 19 20) (h : tA kn (g 0) (g 1) (g 5) w) : bH pg gU (aD 1 (aD 1 (aB 3 gL))) Q g w :=
 dR (kr := no) (l := []) h hn eQ trivial
def tF (kn : K1) (mR pK Vx : aJb) (w : aJa) : Prop :=
 tA (fun Vx t18 t19 t20 w => tM kn Vx t18 t19 t20 w) mR pK Vx w
def tD (R : K1) (mR pK Vx : aJb) (w : aJa) : Prop :=
 tF (fun Vx w => pB R Vx w) mR pK Vx w
theorem Lo (kn : K1) (hn : N1 Q kn 5) (h : tF kn (g 0) (g 1) (g 5) w) : bH pg gU (aD 1 (aB 3 gL)) Q g w :=
 fQ 1 (Jt _ g w (tM kn) (fun g w h => aK (tX 0 (Kg _ g w kn hn h))) h)
def tG (kn : K3) (R : K1) (mR pK : aJb) (w : aJa) : Prop :=
 aC pg (aG .eql 56 (.tmp 8) (.const (.pointer none)) mR (.pointer none)) w fun t9 w =>
 eN t9
  (R (.int .u64 0) w)
  (kn mR pK (.int .u64 0) w)
theorem Lb (kn : K3) (R : K1) (hn : N3 Q kn 0 1 5) (hr : HR pC R Q) (h : tG kn R (g 0) (g 1) w) : bH pg gU (aD 3 gL) Q g w :=
 dR (l := []) h hn hr trivial
def tN (R : K1) (mR pK : aJb) (w : aJa) : Prop :=
 tG (fun mR pK Vx w => tD R mR pK Vx w) R mR pK w
theorem Lu (R : K1) (hr : HR pC R Q) (h : tN R (g 0) (g 1) w) : bH pg gU gL Q g w :=
 fQ 3 (Lb _ g w (tD R) R (fun g w h => aK (fQ 1 (Lo _ g w (pB R) (fun g w h => aK (Jn _ g w R hr h)) h))) hr h)
def Gg (a0 a1 : aJb) (w : aJa) (R : K1) : Prop :=
 tN R a0 a1 w
theorem LC {a0 a1 : aJb} {w : aJa} {R : K1} (h : Gg a0 a1 w R) : aR pg jF #[a0, a1] w R := by
 refine rI (ann := gU) Tryd.f48 gL [a0, a1] pC 35 TrydM.mixed Tryd.func48 ?_
 exact (Lu _ _ _ R (fun _ _ h => h) h)
def Rj : FA := ⟨AD, fun i => .leaf ([], []) []⟩
def TA : List ResultVar := [.cell 8 27, .tmp 9, .tmp 10]
noncomputable def O3 : Code := cU Tryd.f49
def Lt (R : K1) (aQ Ki CS cI : aJb) (w : aJa) : Prop :=
 aC pg (rA 27 cI) w fun avB w =>
 aC pg (bT 27) w fun t8 w =>
 aR pg uV #[aQ] w fun t19 w =>
 aC pg (aG .lss 3 aM aM t19 (.int .i64 0)) w fun t21 w =>
 Gd (fI t21 false) (fun K => K Ki w) w fun t23 w =>
 Gd (fI t21 false) (fun K => aC pg (aG .lss 3 aM aM t23 (.int .i64 0)) w K) w fun t24 w =>
 aC pg (fR t21 (.bool true) t24) w fun t25 w =>
 Gd (fI t25 false) (fun K => K Ki w) w fun t27 w =>
 Gd (fI t25 false) (fun K => aC pg (aG .gtr 3 aM aM t27 (.int .i64 3)) w K) w fun t28 w =>
 aC pg (fR t25 (.bool true) t28) w fun t29 w =>
 eN t29
  (aC pg (bV 27 []) w fun t30 w =>
  aC pg (aJ 27 t8 t30) w fun _u w =>
  kC pg 27 t8 w fun r0 => R (.tuple #[r0, (.int .i64 0), (.int .i64 1)]) w)
  (aC pg (aG .eql 3 (.tmp 31) (.const (.int .i64 0)) Ki (.int .i64 0)) w fun t33 w =>
  eN t33
   (aR pg zI #[aQ] w fun t36 w =>
   aC pg (bB t36 0) w fun t37 w =>
   aC pg (bB t36 1) w fun t38 w =>
   aC pg (bT 27) w fun t12 w =>
   aC pg (aJ 27 t12 t37) w fun _u w =>
   aC pg (aH 27 t12) w fun t39 w =>
   aC pg (aJ 27 t8 t39) w fun _u w =>
   kC pg 27 t8 w fun r0 => R (.tuple #[r0, (.int .i64 0), t38]) w)
   (aC pg (aG .eql 3 (.tmp 31) (.const (.int .i64 1)) Ki (.int .i64 1)) w fun t42 w =>
   eN t42
    (aC pg (jS .len #[22] 3 [CS]) w fun t45 w =>
    aC pg (aG .eql 3 (.tmp 45) (.const (.int .i64 0)) t45 (.int .i64 0)) w fun t46 w =>
    eN t46
     (aC pg (bV 27 []) w fun t47 w =>
     aC pg (aJ 27 t8 t47) w fun _u w =>
     kC pg 27 t8 w fun r0 => R (.tuple #[r0, (.int .i64 0), (.int .i64 10)]) w)
     (aC pg (bA 22 CS (.int .i64 0)) w fun t50 w =>
     aC pg (aH 5 t50) w fun t51 w =>
     aC pg (fM 5 3 t51) w fun t52 w =>
     aC pg (aG .gtr 3 aM aM t52 t19) w fun t54 w =>
     eN t54
      (aC pg (bV 27 []) w fun t55 w =>
      aC pg (aJ 27 t8 t55) w fun _u w =>
      kC pg 27 t8 w fun r0 => R (.tuple #[r0, (.int .i64 0), (.int .i64 11)]) w)
      (aC pg (bA 22 CS (.int .i64 0)) w fun t57 w =>
      aC pg (aH 5 t57) w fun t58 w =>
      aR pg EG #[t58] w fun t59 w =>
      aC pg (aJ 27 t8 t59) w fun _u w =>
      kC pg 27 t8 w fun r0 => R (.tuple #[r0, (.int .i64 1), (.int .i64 0)]) w)))
    (aC pg (aG .eql 3 (.tmp 31) (.const (.int .i64 3)) Ki (.int .i64 3)) w fun t61 w =>
    eN t61
     (aC pg (aL 27 avB 1) w fun t62 w =>
     aC pg (aH 25 t62) w fun t63 w =>
     aC pg (jS .len #[25] 3 [t63]) w fun t64 w =>
     aC pg (aG .eql 3 (.tmp 64) (.const (.int .i64 0)) t64 (.int .i64 0)) w fun t65 w =>
     eN t65
      (aC pg (bV 27 []) w fun t66 w =>
      aC pg (aJ 27 t8 t66) w fun _u w =>
      kC pg 27 t8 w fun r0 => R (.tuple #[r0, (.int .i64 0), (.int .i64 11)]) w)
      (aC pg (aH 27 avB) w fun t67 w =>
      aC pg (aJ 27 t8 t67) w fun _u w =>
      kC pg 27 t8 w fun r0 => R (.tuple #[r0, (.int .i64 0), (.int .i64 0)]) w))
     (aR pg sK #[aQ] w fun t71 w =>
     aC pg (aG .add 3 aM aM t19 (.int .i64 1)) w fun t73 w =>
     aR pg Fj #[CS, t71, t73] w fun t74 w =>
     aC pg (bB t74 0) w fun t75 w =>
     aC pg (bB t74 1) w fun t76 w =>
     aC pg (bB t74 2) w fun t77 w =>
     aC pg (bT 145) w fun aCt w =>
     aC pg (aJ 145 aCt t75) w fun _u w =>
     aC pg (aG .neq 30 (.tmp 78) (.const (.int .i64 0)) t77 (.int .i64 0)) w fun t79 w =>
     eN t79
      (aC pg (bV 27 []) w fun t80 w =>
      aC pg (aJ 27 t8 t80) w fun _u w =>
      kC pg 27 t8 w fun r0 => R (.tuple #[r0, (.int .i64 0), t77]) w)
      (aC pg (aH 145 aCt) w fun t83 w =>
      aR pg rZ #[t83] w fun t84 w =>
      aC pg (bB t84 0) w fun t85 w =>
      aC pg (bB t84 1) w fun t86 w =>
      aC pg (bT 27) w fun t17 w =>
      aC pg (aJ 27 t17 t85) w fun _u w =>
      aC pg (aG .neq 30 (.tmp 87) (.const (.int .i64 0)) t86 (.int .i64 0)) w fun t88 w =>
      eN t88
       (aC pg (bV 27 []) w fun t89 w =>
       aC pg (aJ 27 t8 t89) w fun _u w =>
       kC pg 27 t8 w fun r0 => R (.tuple #[r0, (.int .i64 0), t86]) w)
       (aC pg (aH 27 t17) w fun t91 w =>
       aC pg (aJ 27 t8 t91) w fun _u w =>
       kC pg 27 t8 w fun r0 => R (.tuple #[r0, t76, (.int .i64 0)]) w))))))
theorem YA (R : K1) (hr : HR TA R Q) (h : Lt R (g 0) (g 1) (g 2) (g 3) w) : bH pg Rj O3 Q g w :=
 dR (kn := no) (l := []) h eQ hr trivial
def agE (a0 a1 a2 a3 : aJb) (w : aJa) (R : K1) : Prop :=
 Lt R a0 a1 a2 a3 w
theorem abQ {a0 a1 a2 a3 : aJb} {w : aJa} {R : K1} (h : agE a0 a1 a2 a3 w R) : aR pg AD #[a0, a1, a2, a3] w R := by
 refine rI (ann := Rj) Tryd.f49 O3 [a0, a1, a2, a3] TA 93 TrydM.mixed Tryd.func49 ?_
 exact (YA _ _ _ R (fun _ _ h => h) h)
def KW : FA := ⟨zV, fun i => .leaf ([], []) []⟩
def L6 : List ResultVar := [.tmp 2]
noncomputable def H6 : Code := cU Tryd.f50
def Dx (R : K1) (tT : aJb) (w : aJa) : Prop :=
 aC pg (G4 9 (.string ⟨#[0, 1, 2, 2, 3, 3, 3, 3, 4, 4, 4, 4, 4, 4, 4, 4, 5, 5, 5, 5, 5, 5, 5, 5, 5, 5, 5, 5, 5, 5, 5, 5, 6, 6, 6, 6, 6, 6, 6, 6, 6, 6, 6, 6, 6, 6, 6, 6, 6, 6, 6, 6, 6, 6, 6, 6, 6, 6, 6, 6, 6, 6, 6, 6, 7, 7, 7, 7, 7, 7, 7, 7, 7, 7, 7, 7, 7, 7, 7, 7, 7, 7, 7, 7, 7, 7, 7, 7, 7, 7, 7, 7, 7, 7, 7, 7, 7, 7, 7, 7, 7, 7, 7, 7, 7, 7, 7, 7, 7, 7, 7, 7, 7, 7, 7, 7, 7, 7, 7, 7, 7, 7, 7, 7, 7, 7, 7, 7, 8, 8, 8, 8, 8, 8, 8, 8, 8, 8, 8, 8, 8, 8, 8, 8, 8, 8, 8, 8, 8, 8, 8, 8, 8, 8, 8, 8, 8, 8, 8, 8, 8, 8, 8, 8, 8, 8, 8, 8, 8, 8, 8, 8, 8, 8, 8, 8, 8, 8, 8, 8, 8, 8, 8, 8, 8, 8, 8, 8, 8, 8, 8, 8, 8, 8, 8, 8, 8, 8, 8, 8, 8, 8, 8, 8, 8, 8, 8, 8, 8, 8, 8, 8, 8, 8, 8, 8, 8, 8, 8, 8, 8, 8, 8, 8, 8, 8, 8, 8, 8, 8, 8, 8, 8, 8, 8, 8, 8, 8, 8, 8, 8, 8, 8, 8, 8, 8, 8, 8, 8, 8, 8, 8, 8, 8, 8, 8]⟩) tT) w fun t4 w =>
 aC pg (fM 5 3 t4) w fun t5 w =>
 R t5 w
theorem SR (R : K1) (hr : HR L6 R Q) (h : Dx R (g 0) w) : bH pg KW H6 Q g w :=
 dR (kn := no) (l := []) h eQ hr trivial
def Ts (a0 : aJb) (w : aJa) (R : K1) : Prop :=
 Dx R a0 w
theorem UG {a0 : aJb} {w : aJa} {R : K1} (h : Ts a0 w R) : aR pg zV #[a0] w R := by
 refine rI (ann := KW) Tryd.f50 H6 [a0] L6 6 TrydM.mixed Tryd.func50 ?_
 exact (SR _ _ _ R (fun _ _ h => h) h)
def CA : FA := ⟨nZ, fun i => .leaf ([], []) []⟩
def DZ : List ResultVar := [.tmp 6]
noncomputable def Cg : Code := cU Tryd.f51
def wH (R : K1) (mR pK aGh : aJb) (w : aJa) : Prop :=
 aC pg (pV mR) w fun t10 w =>
 aC pg (aL 112 t10 1) w fun t11 w =>
 aC pg (aH 30 t11) w fun t12 w =>
 aC pg (aG .neq 30 (.tmp 12) (.const (.int .i64 0)) t12 (.int .i64 0)) w fun t13 w =>
 eN t13
  (R (.slice none 0 0) w)
  (aC pg (sUn .not aGh) w fun t16 w =>
  eN t16
   (aC pg (pV mR) w fun t18 w =>
   aC pg (aL 112 t18 1) w fun t19 w =>
   aC pg (aJ 30 t19 (.int .i64 1)) w fun _u w =>
   R (.slice none 0 0) w)
   (aC pg (pV mR) w fun t23 w =>
   aC pg (aL 112 t23 0) w fun t24 w =>
   aC pg (aH 22 t24) w fun t25 w =>
   aC pg (jS .len #[22] 3 [t25]) w fun t26 w =>
   aC pg (aG .gtr 3 aM aM pK t26) w fun t27 w =>
   eN t27
    (aC pg (pV mR) w fun t29 w =>
    aC pg (aL 112 t29 1) w fun t30 w =>
    aC pg (aJ 30 t30 (.int .i64 10)) w fun _u w =>
    R (.slice none 0 0) w)
    (aC pg (pV mR) w fun t32 w =>
    aC pg (aL 112 t32 0) w fun t33 w =>
    aC pg (aH 22 t33) w fun t34 w =>
    aC pg (fJ 22 t34 none (some pK) (some pK)) w fun t37 w =>
    aC pg (pV mR) w fun t40 w =>
    aC pg (aL 112 t40 0) w fun t41 w =>
    aC pg (aH 22 t41) w fun t42 w =>
    aC pg (fJ 22 t42 (some pK) none none) w fun t44 w =>
    aC pg (pV mR) w fun t45 w =>
    aC pg (aL 112 t45 0) w fun t46 w =>
    aC pg (aJ 22 t46 t44) w fun _u w =>
    R t37 w)))
theorem MM (R : K1) (hr : HR DZ R Q) (h : wH R (g 0) (g 1) (g 2) w) : bH pg CA Cg Q g w :=
 dR (kn := no) (l := []) h eQ hr trivial
def Le (a0 a1 a2 : aJb) (w : aJa) (R : K1) : Prop :=
 wH R a0 a1 a2 w
theorem OB {a0 a1 a2 : aJb} {w : aJa} {R : K1} (h : Le a0 a1 a2 w R) : aR pg nZ #[a0, a1, a2] w R := by
 refine rI (ann := CA) Tryd.f51 Cg [a0, a1, a2] DZ 48 TrydM.mixed Tryd.func51 ?_
 exact (MM _ _ _ R (fun _ _ h => h) h)
def Du : FA := ⟨lT, fun i => match Nat.beq i 4 with | true => .leaf ([12], [(12, 15), (12, 16)]) [(false, []), (false, []), (false, []), (false, []), (false, []), (false, []), (false, []), (false, []), (false, []), (false, []), (false, []), (false, []), (true, []), (false, []), (false, []), (false, [2]), (false, [3]), (false, []), (false, [])] | false => .leaf ([], []) []⟩
def DS : List ResultVar := [.tmp 4]
noncomputable def Cm : Code := cU Tryd.f52
def wJ (R : K1) (mR pK : aJb) (w : aJa) : Prop :=
 aC pg (aG .eql 63 (.tmp 7) (.const (.pointer none)) mR (.pointer none)) w fun t8 w =>
 Gd (fI t8 false) (fun K => K pK w) w fun t10 w =>
 Gd (fI t8 false) (fun K => aC pg (aG .lss 3 aM aM t10 (.int .i64 1)) w K) w fun t11 w =>
 aC pg (fR t8 (.bool true) t11) w fun t12 w =>
 Gd (fI t12 false) (fun K => K pK w) w fun t14 w =>
 Gd (fI t12 false) (fun K => aC pg (aG .gtr 3 aM aM t14 (.int .i64 56)) w K) w fun t15 w =>
 aC pg (fR t12 (.bool true) t15) w fun t16 w =>
 eN t16
  (R (.int .u64 0) w)
  (aC pg (pV mR) w fun t18 w =>
  aC pg (aL 118 t18 1) w fun t19 w =>
  aC pg (aH 3 t19) w fun t20 w =>
  aC pg (jS .max #[3, 3] 3 [t20, (.int .i64 0)]) w fun t21 w =>
  aC pg (jS .min #[3, 3] 3 [t21, pK]) w fun t23 w =>
  (dr w) = (dr w) /\
  aC pg (pV mR) (dr w) fun t25 w_ => w_ = (dr w) /\
  aC pg (aL 118 t25 0) (dr w) fun t26 w_ => w_ = (dr w) /\
  aC pg (aH 22 t26) (dr w) fun t27 w_ => w_ = (dr w) /\
  (dr w) = (dr w) /\
  aC pg (pV mR) (dr w) fun t29 w_ => w_ = (dr w) /\
  aC pg (aL 118 t29 1) (dr w) fun t30 w_ => w_ = (dr w) /\
  aC pg (aH 3 t30) (dr w) fun t31 w_ => w_ = (dr w) /\
  aC pg (jS .max #[3, 3] 3 [t31, (.int .i64 0)]) (dr w) fun t32 w_ => w_ = (dr w) /\
  (dr w) = (dr w) /\
  aC pg (aG .sub 3 aM aM t32 t23) (dr w) fun t34 w_ => w_ = (dr w) /\
  (dr w) = (dr w) /\
  aR pg Ge #[t27, t34, t23] (dr w) fun t36 OI =>
  OI = OI /\
  OI = OI /\
  aC pg (aG .sub 3 aM aM pK t23) OI fun t39 w_ => w_ = OI /\
  (eC pg (aG .sub 3 aM aM pK t23) t39 (dr w) /\ True) /\
  aC pg (fM 3 94 t39) OI fun t40 w_ => w_ = OI /\
  (eC pg (fM 3 94 t39) t40 (dr w) /\ True) /\
  aC pg (aG .shl 73 aM aM t36 t40) OI fun t41 w_ => w_ = OI /\
  OI = OI /\
  aC pg (pV mR) OI fun t43 w =>
  aC pg (aL 118 t43 1) w fun t44 w =>
  aC pg (aH 3 t44) w fun t45 w =>
  aC pg (aG .sub 3 aM aM t45 pK) w fun t47 w =>
  aC pg (pV mR) w fun t48 w =>
  aC pg (aL 118 t48 1) w fun t49 w =>
  aC pg (aJ 3 t49 t47) w fun _u w =>
  R t41 w)
theorem Oi (R : K1) (hr : HR DS R Q) (h : wJ R (g 0) (g 1) w) : bH pg Du Cm Q g w :=
 dR (kn := no) (l := []) h eQ hr trivial
def J0 (a0 a1 : aJb) (w : aJa) (R : K1) : Prop :=
 wJ R a0 a1 w
theorem OS {a0 a1 : aJb} {w : aJa} {R : K1} (h : J0 a0 a1 w R) : aR pg lT #[a0, a1] w R := by
 refine rI (ann := Du) Tryd.f52 Cm [a0, a1] DS 51 TrydM.mixed Tryd.func52 ?_
 exact (Oi _ _ _ R (fun _ _ h => h) h)
def oH : FA := ⟨CU, fun i => match Nat.beq i 17 with | true => .leaf ([], []) [(false, []), (false, []), (false, []), (false, []), (false, []), (false, []), (false, []), (false, []), (false, []), (false, [])] | false => .leaf ([], []) []⟩
def FV : List ResultVar := [.tmp 4, .tmp 5, .tmp 6]
noncomputable def mP : Code := cU Tryd.f53
def Ff (R : K1) (iF kO Ax kS : aJb) (w : aJa) : Prop :=
 (dr w) = (dr w) /\
 (dr w) = (dr w) /\
 (dr w) = (dr w) /\
 (dr w) = (dr w) /\
 aC pg (aG .sub 3 aM aM iF kO) (dr w) fun t68 w_ => w_ = (dr w) /\
 aC pg (bA 77 kS t68) (dr w) fun t69 w_ => w_ = (dr w) /\
 aC pg (aH 3 t69) (dr w) fun t70 w_ => w_ = (dr w) /\
 (dr w) = (dr w) /\
 (dr w) = (dr w) /\
 (dr w) = (dr w) /\
 R (.tuple #[Ax, t70, (.int .i64 0)]) (dr w)
theorem adL (R : K1) (hr : HR FV R Q) (h : Ff R (g 1) (g 8) (g 9) (g 10) w) : bH pg oH (aB 1 (aB 5 mP)) Q g w :=
 dR (kn := no) (l := []) h eQ hr trivial
def FK (kn : K7) (k1 : K4) (iF kO Ax kS t53 t54 t55 : aJb) (w : aJa) : Prop :=
 aC pg (aG .lss 3 aM aM t55 t54) w fun t56 w =>
 eN t56
  (aC pg (bA 77 t53 t55) w fun t57 w =>
  aC pg (aH 3 t57) w fun t58 w =>
  aC pg (aG .shl 43 aM aM (.int .u32 1) t58) w fun t61 w =>
  aC pg (aG .add 43 aM aM Ax t61) w fun t62 w =>
  aC pg (aG .add 3 aM aM t55 (.int .i64 1)) w fun t63 w =>
  kn iF kO t62 kS t53 t54 t63 w)
  (k1 iF kO Ax kS w)
theorem acJ (kn : K7) (k1 : K4) (hn : N7 Q kn 1 8 9 10 53 54 55) (h1 : E4 Q k1 1 1 8 9 10) (h : FK kn k1 (g 1) (g 8) (g 9) (g 10) (g 53) (g 54) (g 55) w) : bH pg oH (bI (bI (aB 1 (aD 1 (aB 5 mP))))) Q g w :=
 dR (kr := no) (l := [(1, fun g w => k1 (g 1) (g 8) (g 9) (g 10) w)]) h hn eQ ⟨h1, trivial⟩
def Mv (k1 : K4) (iF kO Ax kS t53 t54 t55 : aJb) (w : aJa) : Prop :=
 cG (fun (X : (aJb × aJb) -> K0) (t : aJb × aJb) (w : aJa) => FK (fun _ _ Ax _ _ _ t55 w => X (Ax, t55) w) k1 iF kO t.1 kS t53 t54 t.2 w) (Ax, t55) w
theorem aeR (k1 : K4) (h1 : E4 Q k1 1 1 8 9 10) (h : Mv k1 (g 1) (g 8) (g 9) (g 10) (g 53) (g 54) (g 55) w) : bH pg oH (bI (aB 1 (aD 1 (aB 5 mP)))) Q g w := by
 refine DO (fun g : Env => (g 9, g 55)) (fun X t w => FK (fun _ _ Ax _ _ _ t55 w => X (Ax, t55) w) k1 (g 1) (g 8) t.1 (g 10) (g 53) (g 54) t.2 w) h (fun X g1 w1 ha hL => ?_)
 rw [<- fE 1 ha, <- fE 8 ha, <- fE 10 ha, <- fE 53 ha, <- fE 54 ha] at hL
 exact (acJ _ g1 w1 (fun _ _ Ax _ _ _ t55 w => X (Ax, t55) w) k1 (fun _ _ h => h) h1 hL)
def MI (kn : K4) (iF kO Ax kS t53 t54 t55 : aJb) (w : aJa) : Prop :=
 Mv kn iF kO Ax kS t53 t54 t55 w
def Nt (kn : K7) (iF kO Ax kS : aJb) (w : aJa) : Prop :=
 aC pg (aG .sub 3 aM aM iF kO) w fun t52 w =>
 aC pg (fJ 77 kS none (some t52) none) w fun t53 w =>
 aC pg (jS .len #[77] 3 [t53]) w fun t54 w =>
 kn iF kO Ax kS t53 t54 (.int .i64 0) w
theorem afL (kn : K7) (hn : N7 Q kn 1 8 9 10 53 54 55) (h : Nt kn (g 1) (g 8) (g 9) (g 10) w) : bH pg oH (aD 1 (aD 1 (aB 5 mP))) Q g w :=
 dR (kr := no) (l := []) h hn eQ trivial
def Nz (kn : K4) (iF kO Ax kS : aJb) (w : aJa) : Prop :=
 Nt (fun iF kO Ax kS t53 t54 t55 w => MI kn iF kO Ax kS t53 t54 t55 w) iF kO Ax kS w
def Oa (R : K1) (iF kO Ax kS : aJb) (w : aJa) : Prop :=
 Nz (fun iF kO Ax kS w => Ff R iF kO Ax kS w) iF kO Ax kS w
theorem aeP (kn : K4) (hn : N4 Q kn 1 8 9 10) (h : Nz kn (g 1) (g 8) (g 9) (g 10) w) : bH pg oH (aD 1 (aB 5 mP)) Q g w :=
 fQ 1 (afL _ g w (MI kn) (fun g w h => aK (tX 1 (aeR _ g w kn hn h))) h)
def Ns (kn : K4) (R : K1) (aQ iF : aJb) (w : aJa) : Prop :=
 aR pg uV #[aQ] w fun t14 w =>
 aC pg (aG .lss 3 aM aM t14 (.int .i64 0)) w fun t17 w =>
 eN t17
  (R (.tuple #[(.int .u32 0), (.int .i64 0), (.int .i64 1)]) w)
  (aC pg (aG .lss 3 aM aM iF (.int .i64 0)) w fun t20 w =>
  Gd (fI t20 false) (fun K => K iF w) w fun t22 w =>
  Gd (fI t20 false) (fun K => K t14 w) w fun t23 w =>
  Gd (fI t20 false) (fun K => aC pg (aG .gtr 3 aM aM t22 t23) w K) w fun t24 w =>
  aC pg (fR t20 (.bool true) t24) w fun t25 w =>
  eN t25
   (R (.tuple #[(.int .u32 0), (.int .i64 0), (.int .i64 17)]) w)
   (aC pg (aG .eql 3 (.tmp 27) (.const (.int .i64 1)) aQ (.int .i64 1)) w fun t28 w =>
   eN t28
    (aC pg (aG .shl 43 aM aM (.int .u32 1) iF) w fun t30 w =>
    R (.tuple #[t30, iF, (.int .i64 0)]) w)
    (aR pg Ck #[aQ] w fun t34 w =>
    aC pg (bB t34 0) w fun t35 w =>
    aC pg (bB t34 1) w fun t36 w =>
    aC pg (bB t34 2) w fun t37 w =>
    aC pg (aG .lss 3 aM aM iF t35) w fun t40 w =>
    eN t40
     (aC pg (fM 3 43 iF) w fun t43 w =>
     aC pg (aG .add 43 aM aM t36 t43) w fun t44 w =>
     R (.tuple #[t44, (.int .i64 0), (.int .i64 0)]) w)
     (aC pg (fM 3 43 t35) w fun t47 w =>
     aC pg (aG .add 43 aM aM t36 t47) w fun t48 w =>
     kn iF t35 t48 t37 w))))
theorem acE (kn : K4) (R : K1) (hn : N4 Q kn 1 8 9 10) (hr : HR FV R Q) (h : Ns kn R (g 0) (g 1) w) : bH pg oH (aD 5 mP) Q g w :=
 dR (l := []) h hn hr trivial
def MT (R : K1) (aQ iF : aJb) (w : aJa) : Prop :=
 Ns (fun iF kO Ax kS w => Oa R iF kO Ax kS w) R aQ iF w
theorem adQ (R : K1) (hr : HR FV R Q) (h : MT R (g 0) (g 1) w) : bH pg oH mP Q g w :=
 fQ 5 (acE _ g w (Oa R) R (fun g w h => aK (fQ 1 (aeP _ g w (Ff R) (fun g w h => aK (adL _ g w R hr h)) h))) hr h)
def akW (a0 a1 : aJb) (w : aJa) (R : K1) : Prop :=
 MT R a0 a1 w
theorem ajE {a0 a1 : aJb} {w : aJa} {R : K1} (h : akW a0 a1 w R) : aR pg CU #[a0, a1] w R := by
 refine rI (ann := oH) Tryd.f53 mP [a0, a1] FV 71 TrydM.mixed Tryd.func53 ?_
 exact (adQ _ _ _ R (fun _ _ h => h) h)
def Tw : FA := ⟨IK, fun i => .leaf ([], []) []⟩
def VF : List ResultVar := [.cell 4 72, .tmp 5]
noncomputable def Rx : Code := cU Tryd.f54
def MN (R : K1) (mR pK : aJb) (w : aJa) : Prop :=
 aC pg (rA 72 mR) w fun EI w =>
 aC pg (bT 72) w fun t4 w =>
 aC pg (aL 72 EI 1) w fun t7 w =>
 aC pg (aH 30 t7) w fun t8 w =>
 aC pg (aG .neq 30 (.tmp 8) (.const (.int .i64 0)) t8 (.int .i64 0)) w fun t9 w =>
 eN t9
  (aC pg (aH 72 EI) w fun t10 w =>
  aC pg (aJ 72 t4 t10) w fun _u w =>
  kC pg 72 t4 w fun r0 => R (.tuple #[r0, (.string ⟨#[]⟩)]) w)
  (aC pg (aG .lss 3 aM aM pK (.int .i64 0)) w fun t12 w =>
  eN t12
   (aC pg (aL 72 EI 1) w fun t13 w =>
   aC pg (aJ 30 t13 (.int .i64 1)) w fun _u w =>
   aC pg (aH 72 EI) w fun t14 w =>
   aC pg (aJ 72 t4 t14) w fun _u w =>
   kC pg 72 t4 w fun r0 => R (.tuple #[r0, (.string ⟨#[]⟩)]) w)
   (aC pg (aL 72 EI 0) w fun t16 w =>
   aC pg (aH 9 t16) w fun t17 w =>
   aC pg (jS .len #[9] 3 [t17]) w fun t18 w =>
   aC pg (aG .gtr 3 aM aM pK t18) w fun t19 w =>
   eN t19
    (aC pg (aL 72 EI 1) w fun t20 w =>
    aC pg (aJ 30 t20 (.int .i64 10)) w fun _u w =>
    aC pg (aH 72 EI) w fun t21 w =>
    aC pg (aJ 72 t4 t21) w fun _u w =>
    kC pg 72 t4 w fun r0 => R (.tuple #[r0, (.string ⟨#[]⟩)]) w)
    (aC pg (aL 72 EI 0) w fun t22 w =>
    aC pg (aH 9 t22) w fun t23 w =>
    aC pg (fJ 9 t23 none (some pK) none) w fun t25 w =>
    aC pg (aL 72 EI 0) w fun t26 w =>
    aC pg (aH 9 t26) w fun t27 w =>
    aC pg (fJ 9 t27 (some pK) none none) w fun t29 w =>
    aC pg (aL 72 EI 0) w fun t30 w =>
    aC pg (aJ 9 t30 t29) w fun _u w =>
    aC pg (aH 72 EI) w fun t31 w =>
    aC pg (aJ 72 t4 t31) w fun _u w =>
    kC pg 72 t4 w fun r0 => R (.tuple #[r0, t25]) w)))
theorem adM (R : K1) (hr : HR VF R Q) (h : MN R (g 0) (g 1) w) : bH pg Tw Rx Q g w :=
 dR (kn := no) (l := []) h eQ hr trivial
def amM (a0 a1 : aJb) (w : aJa) (R : K1) : Prop :=
 MN R a0 a1 w
theorem aiZ {a0 a1 : aJb} {w : aJa} {R : K1} (h : amM a0 a1 w R) : aR pg IK #[a0, a1] w R := by
 refine rI (ann := Tw) Tryd.f54 Rx [a0, a1] VF 33 TrydM.mixed Tryd.func54 ?_
 exact (adM _ _ _ R (fun _ _ h => h) h)
def LN : FA := ⟨A6, fun i => .leaf ([], []) []⟩
def Pz : List ResultVar := [.cell 2 35, .tmp 3]
noncomputable def J2 : Code := cU Tryd.f55
def EU (R : K1) (aQ : aJb) (w : aJa) : Prop :=
 aC pg (bT 35) w fun t2 w =>
 aC pg (aG .lss 3 aM aM aQ (.int .i64 0)) w fun t5 w =>
 Gd (fI t5 false) (fun K => K aQ w) w fun t7 w =>
 Gd (fI t5 false) (fun K => aC pg (aG .gtr 3 aM aM t7 (.int .i64 2)) w K) w fun t8 w =>
 aC pg (fR t5 (.bool true) t8) w fun t9 w =>
 eN t9
  (aC pg (bV 35 []) w fun t10 w =>
  aC pg (aJ 35 t2 t10) w fun _u w =>
  kC pg 35 t2 w fun r0 => R (.tuple #[r0, (.int .i64 1)]) w)
  (aR pg FG #[aQ] w fun t12 w =>
  aR pg AA #[t12] w fun t13 w =>
  aC pg (bB t13 0) w fun t14 w =>
  aC pg (bB t13 1) w fun t15 w =>
  aC pg (aJ 35 t2 t14) w fun _u w =>
  kC pg 35 t2 w fun r0 => R (.tuple #[r0, t15]) w)
theorem Vf (R : K1) (hr : HR Pz R Q) (h : EU R (g 0) w) : bH pg LN J2 Q g w :=
 dR (kn := no) (l := []) h eQ hr trivial
def VE (a0 : aJb) (w : aJa) (R : K1) : Prop :=
 EU R a0 w
theorem WU {a0 : aJb} {w : aJa} {R : K1} (h : VE a0 w R) : aR pg A6 #[a0] w R := by
 refine rI (ann := LN) Tryd.f55 J2 [a0] Pz 16 TrydM.mixed Tryd.func55 ?_
 exact (Vf _ _ _ R (fun _ _ h => h) h)
def VK : FA := ⟨LS, fun i => .leaf ([], []) []⟩
def Z6 : List ResultVar := [.cell 2 35]
noncomputable def TD : Code := cU Tryd.f56
def Qv (R : K1) (aoA : aJb) (w : aJa) : Prop :=
 aC pg (bT 35) w fun t2 w =>
 aC pg (bV 139 [(0, aoA)]) w fun t4 w =>
 aC pg (bX 33 1 [(0, t4)]) w fun t5 w =>
 aC pg (bV 35 [(1, t5)]) w fun t6 w =>
 aC pg (aJ 35 t2 t6) w fun _u w =>
 kC pg 35 t2 w fun r0 => R r0 w
theorem ajB (R : K1) (hr : HR Z6 R Q) (h : Qv R (g 0) w) : bH pg VK TD Q g w :=
 dR (kn := no) (l := []) h eQ hr trivial
def apU (a0 : aJb) (w : aJa) (R : K1) : Prop :=
 Qv R a0 w
theorem amK {a0 : aJb} {w : aJa} {R : K1} (h : apU a0 w R) : aR pg LS #[a0] w R := by
 refine rI (ann := VK) Tryd.f56 TD [a0] Z6 7 TrydM.mixed Tryd.func56 ?_
 exact (ajB _ _ _ R (fun _ _ h => h) h)
def eP : FA := ⟨IB, fun i => match Nat.beq i 30 with | true => .leaf ([2, 3], [(0, 2)]) [(false, []), (false, []), (true, [1]), (true, []), (false, []), (false, [])] | false => .leaf ([], []) []⟩
def jL : List ResultVar := [.cell 6 130, .tmp 7, .tmp 8]
noncomputable def eD : Code := cU Tryd.f57
def FW (R : K1) (t6 jZ dM : aJb) (w : aJa) : Prop :=
 aC pg (aH 130 dM) (dr w) fun t111 w_ => w_ = (dr w) /\
 aC pg (aH 164 jZ) (dr w) fun t112 w_ => w_ = (dr w) /\
 aR pg IE #[t112] (dr w) fun t113 aEw =>
 (eC pg (aH 130 dM) t111 aEw /\ True) /\
 aC pg (aJ 130 t6 t111) aEw fun _u3 aoZ =>
 aoZ = aoZ /\
 aoZ = aoZ /\
 kC pg 130 t6 aoZ fun r0 => R (.tuple #[r0, t113, (.int .i64 0)]) aoZ
theorem aaQ (R : K1) (hr : HR jL R Q) (h : FW R (g 6) (g 9) (g 12) w) : bH pg eP (aB 1 (aB 7 eD)) Q g w :=
 dR (kn := no) (l := []) h eQ hr trivial
def FU (kn : K5) (R : K1) (aO t6 jZ dM aU : aJb) (w : aJa) : Prop :=
 aC pg (aL 130 dM 1) w fun t101 w =>
 aC pg (aH 77 t101) w fun t102 w =>
 aC pg (jS .len #[77] 3 [t102]) w fun t103 w =>
 aC pg (aG .gtr 3 aM aM t103 aO) w fun t105 w =>
 Gd (fI t105 false) (fun K => K aU w) w fun t107 w =>
 Gd (fI t105 false) (fun K => aC pg (aG .lss 3 aM aM t107 (.int .i64 0)) w K) w fun t108 w =>
 aC pg (fR t105 (.bool true) t108) w fun t109 w =>
 eN t109
  (aC pg (bV 130 []) w fun t110 w =>
  aC pg (aJ 130 t6 t110) w fun _u w =>
  kC pg 130 t6 w fun r0 => R (.tuple #[r0, (.int .i64 0), (.int .i64 11)]) w)
  (kn aO t6 jZ dM aU w)
theorem aeF (kn : K5) (R : K1) (hn : N5 Q kn 2 6 9 12 13) (hr : HR jL R Q) (h : FU kn R (g 2) (g 6) (g 9) (g 12) (g 13) w) : bH pg eP (aB 1 (aB 1 (aB 5 (bI (aB 1 (bI (bI (aD 1 (aB 7 eD))))))))) Q g w :=
 dR (l := []) h hn hr trivial
def Fx (kn : K6) (aO t6 jZ uE dM aU : aJb) (w : aJa) : Prop :=
 aC pg (aG .eql 73 (.tmp 99) (.const (.int .u64 3)) uE (.int .u64 3)) w fun t100 w =>
 kn aO t6 jZ dM aU t100 w
theorem afQ (kn : K6) (hn : N6 Q kn 2 6 9 12 13 15) (h : Fx kn (g 2) (g 6) (g 9) (g 10) (g 12) (g 13) w) : bH pg eP (aB 1 (aB 2 (bI (aB 1 (bI (bI (aD 1 (aB 1 (aB 5 (bI (aB 1 (bI (bI (aD 1 (aB 7 eD))))))))))))))) Q g w :=
 dR (kr := no) (l := []) h hn eQ trivial
def FN (kn : K7) (k4 : K6) (aO t6 jZ uE dM aU UI : aJb) (w : aJa) : Prop :=
 aC pg (fM 73 3 uE) w fun t90 w =>
 aC pg (aG .lss 3 aM aM UI t90) w fun t91 w =>
 eN t91
  (aC pg (aL 130 dM 1) w fun t94 w =>
  aC pg (aH 77 t94) w fun t95 w =>
  aC pg (bX 77 1 [(0, (.int .i64 0))]) w fun t96 w =>
  aC pg (jS .append #[77, 77] 77 [t95, t96]) w fun t97 w =>
  aC pg (aL 130 dM 1) w fun t98 w =>
  aC pg (aJ 77 t98 t97) w fun _u w =>
  aC pg (aG .add 3 aM aM UI (.int .i64 1)) w fun t93 w =>
  kn aO t6 jZ uE dM aU t93 w)
  (k4 aO t6 jZ uE dM aU w)
theorem acR (kn : K7) (k4 : K6) (hn : N7 Q kn 2 6 9 10 12 13 16) (h4 : E6 Q k4 4 2 6 9 10 12 13) (h : FN kn k4 (g 2) (g 6) (g 9) (g 10) (g 12) (g 13) (g 16) w) : bH pg eP (bI (bI (aB 1 (aD 1 (aB 2 (bI (aB 1 (bI (bI (aD 1 (aB 1 (aB 5 (bI (aB 1 (bI (bI (aD 1 (aB 7 eD)))))))))))))))))) Q g w :=
 dR (kr := no) (l := [(4, fun g w => k4 (g 2) (g 6) (g 9) (g 10) (g 12) (g 13) w)]) h hn eQ ⟨h4, trivial⟩
def NI (k4 : K6) (aO t6 jZ uE dM aU UI : aJb) (w : aJa) : Prop :=
 cG (fun (X : aJb -> K0) (t : aJb) (w : aJa) => FN (fun _ _ _ _ _ _ UI w => X UI w) k4 aO t6 jZ uE dM aU t w) UI w
theorem acG (k4 : K6) (h4 : E6 Q k4 4 2 6 9 10 12 13) (h : NI k4 (g 2) (g 6) (g 9) (g 10) (g 12) (g 13) (g 16) w) : bH pg eP (bI (aB 1 (aD 1 (aB 2 (bI (aB 1 (bI (bI (aD 1 (aB 1 (aB 5 (bI (aB 1 (bI (bI (aD 1 (aB 7 eD))))))))))))))))) Q g w := by
 refine DO (fun g : Env => g 16) (fun X t w => FN (fun _ _ _ _ _ _ UI w => X UI w) k4 (g 2) (g 6) (g 9) (g 10) (g 12) (g 13) t w) h (fun X g1 w1 ha hL => ?_)
 rw [<- fE 2 ha, <- fE 6 ha, <- fE 9 ha, <- fE 10 ha, <- fE 12 ha, <- fE 13 ha] at hL
 exact (acR _ g1 w1 (fun _ _ _ _ _ _ UI w => X UI w) k4 (fun _ _ h => h) h4 hL)
def Oh (kn : K6) (aO t6 jZ uE dM aU UI : aJb) (w : aJa) : Prop :=
 NI kn aO t6 jZ uE dM aU UI w
def Nl (kn : K7) (aO t6 jZ uE dM aU : aJb) (w : aJa) : Prop :=
 kn aO t6 jZ uE dM aU (.int .i64 0) w
theorem abL (kn : K7) (hn : N7 Q kn 2 6 9 10 12 13 16) (h : Nl kn (g 2) (g 6) (g 9) (g 10) (g 12) (g 13) w) : bH pg eP (aD 1 (aD 1 (aB 2 (bI (aB 1 (bI (bI (aD 1 (aB 1 (aB 5 (bI (aB 1 (bI (bI (aD 1 (aB 7 eD)))))))))))))))) Q g w :=
 dR (kr := no) (l := []) h hn eQ trivial
def ME (kn : K6) (aO t6 jZ uE dM aU : aJb) (w : aJa) : Prop :=
 Nl (fun aO t6 jZ uE dM aU UI w => Oh kn aO t6 jZ uE dM aU UI w) aO t6 jZ uE dM aU w
def Fi (kn : K6) (aO t6 jZ uE dM aU : aJb) (w : aJa) : Prop :=
 ME (fun aO t6 jZ uE dM aU w => Fx kn aO t6 jZ uE dM aU w) aO t6 jZ uE dM aU w
theorem acH (kn : K6) (hn : N6 Q kn 2 6 9 10 12 13) (h : ME kn (g 2) (g 6) (g 9) (g 10) (g 12) (g 13) w) : bH pg eP (aD 1 (aB 2 (bI (aB 1 (bI (bI (aD 1 (aB 1 (aB 5 (bI (aB 1 (bI (bI (aD 1 (aB 7 eD))))))))))))))) Q g w :=
 fQ 1 (abL _ g w (Oh kn) (fun g w h => aK (tX 4 (acG _ g w kn hn h))) h)
def JR (kn : K6) (R : K1) (aO t6 jZ dM aU : aJb) (w : aJa) : Prop :=
 aC pg (aH 164 jZ) w fun t79 w =>
 aR pg pM #[t79, (.int .i64 2)] w fun t80 w =>
 aC pg (bB t80 0) w fun t81 w =>
 aC pg (bB t80 1) w fun t82 w =>
 aC pg (bB t80 2) w fun t83 w =>
 aC pg (aJ 164 jZ t81) w fun _u w =>
 aC pg (aG .neq 30 (.tmp 84) (.const (.int .i64 0)) t83 (.int .i64 0)) w fun t85 w =>
 eN t85
  (aC pg (bV 130 []) w fun t86 w =>
  aC pg (aJ 130 t6 t86) w fun _u w =>
  kC pg 130 t6 w fun r0 => R (.tuple #[r0, (.int .i64 0), t83]) w)
  (kn aO t6 jZ t82 dM aU w)
theorem XJ (kn : K6) (R : K1) (hn : N6 Q kn 2 6 9 10 12 13) (hr : HR jL R Q) (h : JR kn R (g 2) (g 6) (g 9) (g 12) (g 13) w) : bH pg eP (aD 2 (bI (aB 1 (bI (bI (aD 1 (aB 1 (aB 5 (bI (aB 1 (bI (bI (aD 1 (aB 7 eD)))))))))))))) Q g w :=
 dR (l := []) h hn hr trivial
def T2 (kn : K6) (R : K1) (aO t6 jZ dM aU : aJb) (w : aJa) : Prop :=
 JR (fun aO t6 jZ uE dM aU w => Fi kn aO t6 jZ uE dM aU w) R aO t6 jZ dM aU w
def Jj (kn : K6) (R : K1) (aO t6 jZ dM aU : aJb) (w : aJa) : Prop :=
 T2 kn R aO t6 jZ dM aU w
def J6 (kn : K5) (k2 : K5) (aO t6 jZ dM aU t15 : aJb) (w : aJa) : Prop :=
 eN t15
  (kn aO t6 jZ dM aU w)
  (k2 aO t6 jZ dM aU w)
theorem Zo (kn : K5) (k2 : K5) (hn : N5 Q kn 2 6 9 12 13) (h2 : E5 Q k2 2 2 6 9 12 13) (h : J6 kn k2 (g 2) (g 6) (g 9) (g 12) (g 13) (g 15) w) : bH pg eP (aD 1 (bI (bI (aD 1 (aB 1 (aB 5 (bI (aB 1 (bI (bI (aD 1 (aB 7 eD)))))))))))) Q g w :=
 dR (kr := no) (l := [(2, fun g w => k2 (g 2) (g 6) (g 9) (g 12) (g 13) w)]) h hn eQ ⟨h2, trivial⟩
def Dj (kn : K6) (k2 : K5) (R : K1) (aO t6 jZ dM aU t15 : aJb) (w : aJa) : Prop :=
 J6 (fun aO t6 jZ dM aU w => Jj kn R aO t6 jZ dM aU w) k2 aO t6 jZ dM aU t15 w
def Lk (k2 : K5) (R : K1) (aO t6 jZ dM aU t15 : aJb) (w : aJa) : Prop :=
 cG (fun (X : aJb -> K0) (t : aJb) (w : aJa) => Dj (fun _ _ _ _ _ t15 w => X t15 w) k2 R aO t6 jZ dM aU t w) t15 w
theorem Yy (kn : K6) (k2 : K5) (R : K1) (hn : N6 Q kn 2 6 9 12 13 15) (h2 : E5 Q k2 2 2 6 9 12 13) (hr : HR jL R Q) (h : Dj kn k2 R (g 2) (g 6) (g 9) (g 12) (g 13) (g 15) w) : bH pg eP (bI (bI (aD 1 (aB 1 (aB 5 (bI (aB 1 (bI (bI (aD 1 (aB 7 eD))))))))))) Q g w :=
 fQ 1 (Zo _ g w (Jj kn R) k2 (fun g w h => aK (tX 3 (fQ 2 (XJ _ g w (Fi kn) R (fun g w h => aK (fQ 1 (acH _ g w (Fx kn) (fun g w h => aK (afQ _ g w kn hn h)) h))) hr h)))) h2 h)
theorem Y7 (k2 : K5) (R : K1) (h2 : E5 Q k2 2 2 6 9 12 13) (hr : HR jL R Q) (h : Lk k2 R (g 2) (g 6) (g 9) (g 12) (g 13) (g 15) w) : bH pg eP (bI (aD 1 (aB 1 (aB 5 (bI (aB 1 (bI (bI (aD 1 (aB 7 eD)))))))))) Q g w := by
 refine DO (fun g : Env => g 15) (fun X t w => Dj (fun _ _ _ _ _ t15 w => X t15 w) k2 R (g 2) (g 6) (g 9) (g 12) (g 13) t w) h (fun X g1 w1 ha hL => ?_)
 rw [<- fE 2 ha, <- fE 6 ha, <- fE 9 ha, <- fE 12 ha, <- fE 13 ha] at hL
 exact (Yy _ g1 w1 (fun _ _ _ _ _ t15 w => X t15 w) k2 R (fun _ _ h => h) h2 hr hL)
def KN (kn : K5) (R : K1) (aO t6 jZ dM aU t15 : aJb) (w : aJa) : Prop :=
 Lk kn R aO t6 jZ dM aU t15 w
def JT (kn : K5) (R : K1) (aO t6 jZ dM aU t15 : aJb) (w : aJa) : Prop :=
 KN (fun aO t6 jZ dM aU w => FU kn R aO t6 jZ dM aU w) R aO t6 jZ dM aU t15 w
theorem ZH (kn : K5) (R : K1) (hn : N5 Q kn 2 6 9 12 13) (hr : HR jL R Q) (h : KN kn R (g 2) (g 6) (g 9) (g 12) (g 13) (g 15) w) : bH pg eP (aD 1 (aB 1 (aB 5 (bI (aB 1 (bI (bI (aD 1 (aB 7 eD))))))))) Q g w :=
 tX 2 (Y7 _ g w kn R hn hr h)
def KB (kn : K6) (aO t6 jZ dM aU ayD : aJb) (w : aJa) : Prop :=
 aC pg (aG .eql 3 (.tmp 75) (.const (.int .i64 1)) ayD (.int .i64 1)) w fun t76 w =>
 kn aO t6 jZ dM aU t76 w
theorem Yi (kn : K6) (hn : N6 Q kn 2 6 9 12 13 15) (h : KB kn (g 2) (g 6) (g 9) (g 12) (g 13) (g 14) w) : bH pg eP (aD 1 (aB 5 (bI (aB 1 (bI (bI (aD 1 (aB 7 eD)))))))) Q g w :=
 dR (kr := no) (l := []) h hn eQ trivial
def xU (kn : K5) (R : K1) (aO t6 jZ dM aU ayD : aJb) (w : aJa) : Prop :=
 KB (fun aO t6 jZ dM aU t15 w => JT kn R aO t6 jZ dM aU t15 w) aO t6 jZ dM aU ayD w
def Ky (kn : K6) (R : K1) (aO t6 jZ dM aU : aJb) (w : aJa) : Prop :=
 aC pg (aH 164 jZ) w fun t50 w =>
 aR pg Ix #[t50, aU] w fun t52 w =>
 aC pg (bB t52 0) w fun t53 w =>
 aC pg (bB t52 1) w fun t54 w =>
 aC pg (bB t52 2) w fun t55 w =>
 aC pg (aJ 164 jZ t53) w fun _u w =>
 aC pg (aG .neq 30 (.tmp 56) (.const (.int .i64 0)) t55 (.int .i64 0)) w fun t57 w =>
 eN t57
  (aC pg (bV 130 []) w fun t58 w =>
  aC pg (aJ 130 t6 t58) w fun _u w =>
  kC pg 130 t6 w fun r0 => R (.tuple #[r0, (.int .i64 0), t55]) w)
  (aC pg (aL 130 dM 1) w fun t60 w =>
  aC pg (aH 77 t60) w fun t61 w =>
  aC pg (aG .sub 3 aM aM t54 (.int .i64 1)) w fun t63 w =>
  aC pg (bX 77 1 [(0, t63)]) w fun t64 w =>
  aC pg (jS .append #[77, 77] 77 [t61, t64]) w fun t65 w =>
  aC pg (aL 130 dM 1) w fun t66 w =>
  aC pg (aJ 77 t66 t65) w fun _u w =>
  aC pg (aG .eql 3 (.tmp 67) (.const (.int .i64 0)) t54 (.int .i64 0)) w fun t68 w =>
  eN t68
   (aC pg (aG .sub 3 aM aM aU (.int .i64 1)) w fun t70 w =>
   kn aO t6 jZ dM t70 t54 w)
   (aC pg (aG .sub 3 aM aM t54 (.int .i64 1)) w fun t73 w =>
   aC pg (aG .sub 3 aM aM aU t73) w fun t74 w =>
   kn aO t6 jZ dM t74 t54 w))
theorem Yn (kn : K6) (R : K1) (hn : N6 Q kn 2 6 9 12 13 14) (hr : HR jL R Q) (h : Ky kn R (g 2) (g 6) (g 9) (g 12) (g 13) w) : bH pg eP (aD 5 (bI (aB 1 (bI (bI (aD 1 (aB 7 eD))))))) Q g w :=
 dR (l := []) h hn hr trivial
def Ug (kn : K5) (R : K1) (aO t6 jZ dM aU : aJb) (w : aJa) : Prop :=
 Ky (fun aO t6 jZ dM aU ayD w => xU kn R aO t6 jZ dM aU ayD w) R aO t6 jZ dM aU w
def JX (kn : K5) (R : K1) (aO t6 jZ dM aU : aJb) (w : aJa) : Prop :=
 Ug kn R aO t6 jZ dM aU w
def JG (kn : K5) (k0 : K3) (aO t6 jZ dM aU : aJb) (w : aJa) : Prop :=
 aC pg (aG .gtr 3 aM aM aU (.int .i64 0)) w fun t48 w =>
 eN t48
  (kn aO t6 jZ dM aU w)
  (k0 t6 jZ dM w)
theorem Y8 (kn : K5) (k0 : K3) (hn : N5 Q kn 2 6 9 12 13) (h0 : E3 Q k0 0 6 9 12) (h : JG kn k0 (g 2) (g 6) (g 9) (g 12) (g 13) w) : bH pg eP (aD 1 (bI (bI (aD 1 (aB 7 eD))))) Q g w :=
 dR (kr := no) (l := [(0, fun g w => k0 (g 6) (g 9) (g 12) w)]) h hn eQ ⟨h0, trivial⟩
def DM (kn : K5) (k0 : K3) (R : K1) (aO t6 jZ dM aU : aJb) (w : aJa) : Prop :=
 JG (fun aO t6 jZ dM aU w => JX kn R aO t6 jZ dM aU w) k0 aO t6 jZ dM aU w
def Kn (k0 : K3) (R : K1) (aO t6 jZ dM aU : aJb) (w : aJa) : Prop :=
 cG (fun (X : aJb -> K0) (t : aJb) (w : aJa) => DM (fun _ _ _ _ aU w => X aU w) k0 R aO t6 jZ dM t w) aU w
theorem Y6 (kn : K5) (k0 : K3) (R : K1) (hn : N5 Q kn 2 6 9 12 13) (h0 : E3 Q k0 0 6 9 12) (hr : HR jL R Q) (h : DM kn k0 R (g 2) (g 6) (g 9) (g 12) (g 13) w) : bH pg eP (bI (bI (aD 1 (aB 7 eD)))) Q g w :=
 fQ 1 (Y8 _ g w (JX kn R) k0 (fun g w h => aK (tX 1 (fQ 5 (Yn _ g w (xU kn R) R (fun g w h => aK (fQ 1 (Yi _ g w (JT kn R) (fun g w h => aK (fQ 1 (ZH _ g w (FU kn R) R (fun g w h => aK (aeF _ g w kn R hn hr h)) hr h))) h))) hr h)))) h0 h)
theorem ZT (k0 : K3) (R : K1) (h0 : E3 Q k0 0 6 9 12) (hr : HR jL R Q) (h : Kn k0 R (g 2) (g 6) (g 9) (g 12) (g 13) w) : bH pg eP (bI (aD 1 (aB 7 eD))) Q g w := by
 refine DO (fun g : Env => g 13) (fun X t w => DM (fun _ _ _ _ aU w => X aU w) k0 R (g 2) (g 6) (g 9) (g 12) t w) h (fun X g1 w1 ha hL => ?_)
 rw [<- fE 2 ha, <- fE 6 ha, <- fE 9 ha, <- fE 12 ha] at hL
 exact (Y6 _ g1 w1 (fun _ _ _ _ aU w => X aU w) k0 R (fun _ _ h => h) h0 hr hL)
def J4 (kn : K3) (R : K1) (aO t6 jZ dM aU : aJb) (w : aJa) : Prop :=
 Kn kn R aO t6 jZ dM aU w
def CE (R : K1) (aO t6 jZ dM aU : aJb) (w : aJa) : Prop :=
 J4 (fun t6 jZ dM w => FW R t6 jZ dM w) R aO t6 jZ dM aU w
theorem X6 (kn : K3) (R : K1) (hn : N3 Q kn 6 9 12) (hr : HR jL R Q) (h : J4 kn R (g 2) (g 6) (g 9) (g 12) (g 13) w) : bH pg eP (aD 1 (aB 7 eD)) Q g w :=
 tX 0 (ZT _ g w kn R hn hr h)
def I8 (kn : K5) (R : K1) (Co JN aO : aJb) (w : aJa) : Prop :=
 aC pg (bT 130) w fun t6 w =>
 aR pg Df #[Co] w fun t18 w =>
 aC pg (bV 164 [(0, t18)]) w fun t19 w =>
 aC pg (bT 164) w fun jZ w =>
 aC pg (aJ 164 jZ t19) w fun _u w =>
 aC pg (aH 164 jZ) w fun t21 w =>
 aR pg pM #[t21, (.int .i64 4)] w fun t22 w =>
 aC pg (bB t22 0) w fun t23 w =>
 aC pg (bB t22 1) w fun t24 w =>
 aC pg (bB t22 2) w fun t25 w =>
 aC pg (aJ 164 jZ t23) w fun _u w =>
 aC pg (aG .neq 30 (.tmp 26) (.const (.int .i64 0)) t25 (.int .i64 0)) w fun t27 w =>
 eN t27
  (aC pg (bV 130 []) w fun t28 w =>
  aC pg (aJ 130 t6 t28) w fun _u w =>
  kC pg 130 t6 w fun r0 => R (.tuple #[r0, (.int .i64 0), t25]) w)
  (aC pg (fM 73 3 t24) w fun t31 w =>
  aC pg (aG .add 3 aM aM t31 (.int .i64 5)) w fun t32 w =>
  aC pg (bV 130 [(0, t32)]) w fun t33 w =>
  aC pg (bT 130) w fun dM w =>
  aC pg (aJ 130 dM t33) w fun _u w =>
  aC pg (aL 130 dM 0) w fun t34 w =>
  aC pg (aH 3 t34) w fun t35 w =>
  aC pg (aG .gtr 3 aM aM t35 JN) w fun t37 w =>
  Gd (fI t37 false) (fun K => aC pg (aL 130 dM 0) w K) w fun t39 w =>
  Gd (fI t37 false) (fun K => aC pg (aH 3 t39) w K) w fun t40 w =>
  Gd (fI t37 false) (fun K => aC pg (aG .gtr 3 aM aM t40 (.int .i64 15)) w K) w fun t41 w =>
  aC pg (fR t37 (.bool true) t41) w fun t42 w =>
  eN t42
   (aC pg (bV 130 []) w fun t43 w =>
   aC pg (aJ 130 t6 t43) w fun _u w =>
   kC pg 130 t6 w fun r0 => R (.tuple #[r0, (.int .i64 0), (.int .i64 12)]) w)
   (aC pg (aL 130 dM 0) w fun t44 w =>
   aC pg (aH 3 t44) w fun t45 w =>
   aR pg mF #[t45] w fun t46 w =>
   kn aO t6 jZ dM t46 w))
theorem ZM (kn : K5) (R : K1) (hn : N5 Q kn 2 6 9 12 13) (hr : HR jL R Q) (h : I8 kn R (g 0) (g 1) (g 2) w) : bH pg eP (aD 7 eD) Q g w :=
 dR (l := []) h hn hr trivial
def J8 (R : K1) (Co JN aO : aJb) (w : aJa) : Prop :=
 I8 (fun aO t6 jZ dM aU w => CE R aO t6 jZ dM aU w) R Co JN aO w
theorem ZA (R : K1) (hr : HR jL R Q) (h : J8 R (g 0) (g 1) (g 2) w) : bH pg eP eD Q g w :=
 fQ 7 (ZM _ g w (CE R) R (fun g w h => aK (fQ 1 (X6 _ g w (FW R) R (fun g w h => aK (aaQ _ g w R hr h)) hr h))) hr h)
def amB (a0 a1 a2 : aJb) (w : aJa) (R : K1) : Prop :=
 J8 R a0 a1 a2 w
theorem aiB {a0 a1 a2 : aJb} {w : aJa} {R : K1} (h : amB a0 a1 a2 w R) : aR pg IB #[a0, a1, a2] w R := by
 refine rI (ann := eP) Tryd.f57 eD [a0, a1, a2] jL 114 TrydM.mixed Tryd.func57 ?_
 exact (ZA _ _ _ R (fun _ _ h => h) h)
def Ud : FA := ⟨Iq, fun i => .leaf ([], []) []⟩
def VC : List ResultVar := [.tmp 2]
noncomputable def RE : Code := cU Tryd.f58
def M4 (R : K1) (aQ : aJb) (w : aJa) : Prop :=
 aC pg (aG .eql 3 (.tmp 3) (.const (.int .i64 0)) aQ (.int .i64 0)) w fun t4 w =>
 Gd (fI t4 false) (fun K => K aQ w) w fun t6 w =>
 Gd (fI t4 false) (fun K => aC pg (aG .eql 3 (.tmp 6) (.const (.int .i64 2)) t6 (.int .i64 2)) w K) w fun t7 w =>
 aC pg (fR t4 (.bool true) t7) w fun t8 w =>
 eN t8
  (R (.int .i64 9) w)
  (aC pg (aG .eql 3 (.tmp 9) (.const (.int .i64 1)) aQ (.int .i64 1)) w fun t10 w =>
  eN t10
   (R (.int .i64 8) w)
   (R (.int .i64 0) w))
theorem aeZ (R : K1) (hr : HR VC R Q) (h : M4 R (g 0) w) : bH pg Ud RE Q g w :=
 dR (kn := no) (l := []) h eQ hr trivial
def alC (a0 : aJb) (w : aJa) (R : K1) : Prop :=
 M4 R a0 w
theorem ajH {a0 : aJb} {w : aJa} {R : K1} (h : alC a0 w R) : aR pg Iq #[a0] w R := by
 refine rI (ann := Ud) Tryd.f58 RE [a0] VC 11 TrydM.mixed Tryd.func58 ?_
 exact (aeZ _ _ _ R (fun _ _ h => h) h)
def bC : FA := ⟨AA, fun i => match Nat.beq i 46 with | true => .leaf ([5, 11], [(0, 5), (1, 5)]) [(false, []), (false, []), (false, []), (false, []), (false, []), (true, [3, 4]), (false, []), (false, []), (false, []), (false, []), (false, []), (true, [])] | false => .leaf ([], []) []⟩
def mK : List ResultVar := [.cell 2 35, .tmp 3]
noncomputable def aY : Code := cU Tryd.f59
def DN (R : K1) (t2 t6 : aJb) (w : aJa) : Prop :=
 aC pg (aH 35 t6) w fun t184 w =>
 aC pg (aJ 35 t2 t184) w fun _u w =>
 kC pg 35 t2 w fun r0 => R (.tuple #[r0, (.int .i64 0)]) w
theorem XZ (R : K1) (hr : HR mK R Q) (h : DN R (g 2) (g 6) w) : bH pg bC (aB 1 (aB 1 (aB 1 (aB 1 (aB 1 (aB 1 (aB 1 (aB 5 aY)))))))) Q g w :=
 dR (kn := no) (l := []) h eQ hr trivial
def zB (kn : K6) (bJ t2 eJ t6 cA jI : aJb) (w : aJa) : Prop :=
 aC pg (aG .add 3 aM aM jI (.int .i64 1)) w fun t121 w =>
 kn bJ t2 eJ t6 cA t121 w
theorem XK (kn : K6) (hn : N6 Q kn 1 2 5 6 14 15) (h : zB kn (g 1) (g 2) (g 5) (g 6) (g 14) (g 15) w) : bH pg bC (aB 1 (aB 1 (bI (bI (aB 1 (aD 1 (aB 1 (aB 1 (aB 1 (aB 1 (aB 1 (aB 1 (aB 5 aY))))))))))))) Q g w :=
 dR (kr := no) (l := []) h hn eQ trivial
def CI (kn : K6) (bJ t2 eJ t6 cA jI QU lB : aJb) (w : aJa) : Prop :=
 aC pg (aL 35 t6 1) w fun t167 w =>
 aC pg (aH 33 t167) w fun t168 w =>
 aC pg (bA 33 t168 jI) w fun t171 w =>
 aC pg (aL 139 t171 1) w fun t172 w =>
 aC pg (aJ 3 t172 lB) w fun _u w =>
 aC pg (aL 35 t6 1) (dr w) fun t173 w_ => w_ = (dr w) /\
 aC pg (aH 33 t173) (dr w) fun t174 w_ => w_ = (dr w) /\
 (dr w) = (dr w) /\
 (dr w) = (dr w) /\
 (dr w) = (dr w) /\
 aR pg mF #[lB] (dr w) fun t178 Ou =>
 (eC pg (aH 33 t173) t174 Ou /\ eC pg (aL 35 t6 1) t173 Ou /\ True) /\
 aC pg (aG .mul 3 aM aM QU t178) Ou fun t179 w_ => w_ = Ou /\
 Ou = Ou /\
 aC pg (aG .sub 3 aM aM t179 eJ) Ou fun t181 w_ => w_ = Ou /\
 aC pg (bA 33 t174 jI) Ou fun t182 w_ => w_ = Ou /\
 aC pg (aL 139 t182 2) Ou fun t183 w_ => w_ = Ou /\
 aC pg (aJ 3 t183 t181) Ou fun _u11 aFd =>
 kn bJ t2 eJ t6 cA jI aFd
theorem Yq (kn : K6) (hn : N6 Q kn 1 2 5 6 14 15) (h : CI kn (g 1) (g 2) (g 5) (g 6) (g 14) (g 15) (g 18) (g 19) w) : bH pg bC (aB 1 (aB 3 (aB 2 (aB 2 (bI (aD 1 (aB 1 (bI (bI (aB 1 (aD 1 (aB 1 (aB 1 (aB 1 (aB 1 (aB 1 (aB 1 (aB 5 aY)))))))))))))))))) Q g w :=
 dR (kr := no) (l := []) h hn eQ trivial
def Dv (kn : K8) (k12 : K8) (bJ t2 eJ t6 cA jI QU lB : aJb) (w : aJa) : Prop :=
 aC pg (aL 130 bJ 0) w fun t157 w =>
 aC pg (aH 3 t157) w fun t158 w =>
 aC pg (aG .sub 3 aM aM t158 lB) w fun t160 w =>
 aC pg (aG .add 3 aM aM t160 (.int .i64 1)) w fun t161 w =>
 aR pg mF #[t161] w fun t162 w =>
 aC pg (aG .leq 3 aM aM t162 QU) w fun t164 w =>
 eN t164
  (aC pg (aG .sub 3 aM aM lB (.int .i64 1)) w fun t166 w =>
  kn bJ t2 eJ t6 cA jI QU t166 w)
  (k12 bJ t2 eJ t6 cA jI QU lB w)
theorem YG (kn : K8) (k12 : K8) (hn : N8 Q kn 1 2 5 6 14 15 18 19) (h12 : E8 Q k12 12 1 2 5 6 14 15 18 19) (h : Dv kn k12 (g 1) (g 2) (g 5) (g 6) (g 14) (g 15) (g 18) (g 19) w) : bH pg bC (bI (bI (aD 1 (aB 3 (aB 2 (aB 2 (bI (aD 1 (aB 1 (bI (bI (aB 1 (aD 1 (aB 1 (aB 1 (aB 1 (aB 1 (aB 1 (aB 1 (aB 5 aY)))))))))))))))))))) Q g w :=
 dR (kr := no) (l := [(12, fun g w => k12 (g 1) (g 2) (g 5) (g 6) (g 14) (g 15) (g 18) (g 19) w)]) h hn eQ ⟨h12, trivial⟩
def CF (k12 : K8) (bJ t2 eJ t6 cA jI QU lB : aJb) (w : aJa) : Prop :=
 cG (fun (X : aJb -> K0) (t : aJb) (w : aJa) => Dv (fun _ _ _ _ _ _ _ lB w => X lB w) k12 bJ t2 eJ t6 cA jI QU t w) lB w
theorem ZQ (k12 : K8) (h12 : E8 Q k12 12 1 2 5 6 14 15 18 19) (h : CF k12 (g 1) (g 2) (g 5) (g 6) (g 14) (g 15) (g 18) (g 19) w) : bH pg bC (bI (aD 1 (aB 3 (aB 2 (aB 2 (bI (aD 1 (aB 1 (bI (bI (aB 1 (aD 1 (aB 1 (aB 1 (aB 1 (aB 1 (aB 1 (aB 1 (aB 5 aY))))))))))))))))))) Q g w := by
 refine DO (fun g : Env => g 19) (fun X t w => Dv (fun _ _ _ _ _ _ _ lB w => X lB w) k12 (g 1) (g 2) (g 5) (g 6) (g 14) (g 15) (g 18) t w) h (fun X g1 w1 ha hL => ?_)
 rw [<- fE 1 ha, <- fE 2 ha, <- fE 5 ha, <- fE 6 ha, <- fE 14 ha, <- fE 15 ha, <- fE 18 ha] at hL
 exact (YG _ g1 w1 (fun _ _ _ _ _ _ _ lB w => X lB w) k12 (fun _ _ h => h) h12 hL)
def JB (kn : K8) (bJ t2 eJ t6 cA jI QU lB : aJb) (w : aJa) : Prop :=
 CF kn bJ t2 eJ t6 cA jI QU lB w
def KF (kn : K6) (bJ t2 eJ t6 cA jI QU lB : aJb) (w : aJa) : Prop :=
 JB (fun bJ t2 eJ t6 cA jI QU lB w => CI kn bJ t2 eJ t6 cA jI QU lB w) bJ t2 eJ t6 cA jI QU lB w
theorem Zd (kn : K8) (hn : N8 Q kn 1 2 5 6 14 15 18 19) (h : JB kn (g 1) (g 2) (g 5) (g 6) (g 14) (g 15) (g 18) (g 19) w) : bH pg bC (aD 1 (aB 3 (aB 2 (aB 2 (bI (aD 1 (aB 1 (bI (bI (aB 1 (aD 1 (aB 1 (aB 1 (aB 1 (aB 1 (aB 1 (aB 1 (aB 5 aY)))))))))))))))))) Q g w :=
 tX 12 (ZQ _ g w kn hn h)
def JI (kn : K8) (bJ t2 eJ t6 cA jI Ir azC : aJb) (w : aJa) : Prop :=
 aC pg (bA 171 cA Ir) w fun t146 w =>
 aC pg (aH 3 t146) w fun t147 w =>
 aC pg (aG .add 3 aM aM t147 azC) w fun t149 w =>
 aC pg (bA 171 cA Ir) w fun t151 w =>
 aC pg (aH 3 t151) w fun t152 w =>
 aC pg (aG .add 3 aM aM t152 (.int .i64 1)) w fun t153 w =>
 aC pg (bA 171 cA Ir) w fun t154 w =>
 aC pg (aJ 3 t154 t153) w fun _u w =>
 aC pg (aL 130 bJ 0) w fun t155 w =>
 aC pg (aH 3 t155) w fun t156 w =>
 kn bJ t2 eJ t6 cA jI t149 t156 w
theorem Yv (kn : K8) (hn : N8 Q kn 1 2 5 6 14 15 18 19) (h : JI kn (g 1) (g 2) (g 5) (g 6) (g 14) (g 15) (g 16) (g 17) w) : bH pg bC (aD 3 (aB 2 (aB 2 (bI (aD 1 (aB 1 (bI (bI (aB 1 (aD 1 (aB 1 (aB 1 (aB 1 (aB 1 (aB 1 (aB 1 (aB 5 aY))))))))))))))))) Q g w :=
 dR (kr := no) (l := []) h hn eQ trivial
def CY (kn : K6) (bJ t2 eJ t6 cA jI Ir azC : aJb) (w : aJa) : Prop :=
 JI (fun bJ t2 eJ t6 cA jI QU lB w => KF kn bJ t2 eJ t6 cA jI QU lB w) bJ t2 eJ t6 cA jI Ir azC w
def HS (kn : K8) (bJ t2 eJ t6 cA jI Ir : aJb) (w : aJa) : Prop :=
 aC pg (aL 130 bJ 1) w fun t138 w =>
 aC pg (aH 77 t138) w fun t139 w =>
 aC pg (bA 77 t139 Ir) w fun t141 w =>
 aC pg (aH 3 t141) w fun t142 w =>
 aC pg (aG .lss 3 aM aM t142 (.int .i64 0)) w fun t144 w =>
 eN t144
  (kn bJ t2 eJ t6 cA jI Ir (.int .i64 1) w)
  (kn bJ t2 eJ t6 cA jI Ir t142 w)
theorem Xw (kn : K8) (hn : N8 Q kn 1 2 5 6 14 15 16 17) (h : HS kn (g 1) (g 2) (g 5) (g 6) (g 14) (g 15) (g 16) w) : bH pg bC (aD 2 (aB 2 (bI (aD 1 (aB 1 (bI (bI (aB 1 (aD 1 (aB 1 (aB 1 (aB 1 (aB 1 (aB 1 (aB 1 (aB 5 aY)))))))))))))))) Q g w :=
 dR (kr := no) (l := []) h hn eQ trivial
def HA (kn : K6) (bJ t2 eJ t6 cA jI Ir : aJb) (w : aJa) : Prop :=
 HS (fun bJ t2 eJ t6 cA jI Ir azC w => CY kn bJ t2 eJ t6 cA jI Ir azC w) bJ t2 eJ t6 cA jI Ir w
def Hu (kn : K7) (R : K1) (bJ t2 eJ t6 cA jI : aJb) (w : aJa) : Prop :=
 aC pg (aL 35 t6 1) w fun t122 w =>
 aC pg (aH 33 t122) w fun t123 w =>
 aC pg (bA 33 t123 jI) w fun t125 w =>
 aC pg (aL 139 t125 0) w fun t126 w =>
 aC pg (aH 3 t126) w fun t127 w =>
 aC pg (aG .lss 3 aM aM t127 (.int .i64 0)) w fun t129 w =>
 Gd (fI t129 false) (fun K => K t127 w) w fun t131 w =>
 Gd (fI t129 false) (fun K => aC pg (aL 130 bJ 1) w K) w fun t132 w =>
 Gd (fI t129 false) (fun K => aC pg (aH 77 t132) w K) w fun t133 w =>
 Gd (fI t129 false) (fun K => aC pg (jS .len #[77] 3 [t133]) w K) w fun t134 w =>
 Gd (fI t129 false) (fun K => aC pg (aG .geq 3 aM aM t131 t134) w K) w fun t135 w =>
 aC pg (fR t129 (.bool true) t135) w fun t136 w =>
 eN t136
  (aC pg (bV 35 []) w fun t137 w =>
  aC pg (aJ 35 t2 t137) w fun _u w =>
  kC pg 35 t2 w fun r0 => R (.tuple #[r0, (.int .i64 1)]) w)
  (kn bJ t2 eJ t6 cA jI t127 w)
theorem V2 (kn : K7) (R : K1) (hn : N7 Q kn 1 2 5 6 14 15 16) (hr : HR mK R Q) (h : Hu kn R (g 1) (g 2) (g 5) (g 6) (g 14) (g 15) w) : bH pg bC (aD 2 (bI (aD 1 (aB 1 (bI (bI (aB 1 (aD 1 (aB 1 (aB 1 (aB 1 (aB 1 (aB 1 (aB 1 (aB 5 aY))))))))))))))) Q g w :=
 dR (l := []) h hn hr trivial
def Q3 (kn : K6) (R : K1) (bJ t2 eJ t6 cA jI : aJb) (w : aJa) : Prop :=
 Hu (fun bJ t2 eJ t6 cA jI Ir w => HA kn bJ t2 eJ t6 cA jI Ir w) R bJ t2 eJ t6 cA jI w
def GM (kn : K6) (R : K1) (bJ t2 eJ t6 cA jI : aJb) (w : aJa) : Prop :=
 Q3 kn R bJ t2 eJ t6 cA jI w
def AP (kn : K6) (R : K1) (bJ t2 eJ t6 cA jI : aJb) (w : aJa) : Prop :=
 GM (fun bJ t2 eJ t6 cA jI w => zB kn bJ t2 eJ t6 cA jI w) R bJ t2 eJ t6 cA jI w
theorem W9 (kn : K6) (R : K1) (hn : N6 Q kn 1 2 5 6 14 15) (hr : HR mK R Q) (h : GM kn R (g 1) (g 2) (g 5) (g 6) (g 14) (g 15) w) : bH pg bC (aD 1 (aB 1 (bI (bI (aB 1 (aD 1 (aB 1 (aB 1 (aB 1 (aB 1 (aB 1 (aB 1 (aB 5 aY))))))))))))) Q g w :=
 tX 11 (fQ 2 (V2 _ g w (HA kn) R (fun g w h => aK (fQ 2 (Xw _ g w (CY kn) (fun g w h => aK (fQ 3 (Yv _ g w (KF kn) (fun g w h => aK (fQ 1 (Zd _ g w (CI kn) (fun g w h => aK (Yq _ g w kn hn h)) h))) h))) h))) hr h))
def Hh (kn : K6) (k10 : K2) (bJ t2 eJ t6 cA jI : aJb) (w : aJa) : Prop :=
 aC pg (aG .lss 3 aM aM jI eJ) w fun t119 w =>
 eN t119
  (kn bJ t2 eJ t6 cA jI w)
  (k10 t2 t6 w)
theorem W3 (kn : K6) (k10 : K2) (hn : N6 Q kn 1 2 5 6 14 15) (h10 : E2 Q k10 10 2 6) (h : Hh kn k10 (g 1) (g 2) (g 5) (g 6) (g 14) (g 15) w) : bH pg bC (aD 1 (bI (bI (aB 1 (aD 1 (aB 1 (aB 1 (aB 1 (aB 1 (aB 1 (aB 1 (aB 5 aY)))))))))))) Q g w :=
 dR (kr := no) (l := [(10, fun g w => k10 (g 2) (g 6) w)]) h hn eQ ⟨h10, trivial⟩
def AK (kn : K6) (k10 : K2) (R : K1) (bJ t2 eJ t6 cA jI : aJb) (w : aJa) : Prop :=
 Hh (fun bJ t2 eJ t6 cA jI w => AP kn R bJ t2 eJ t6 cA jI w) k10 bJ t2 eJ t6 cA jI w
def G6 (k10 : K2) (R : K1) (bJ t2 eJ t6 cA jI : aJb) (w : aJa) : Prop :=
 cG (fun (X : aJb -> K0) (t : aJb) (w : aJa) => AK (fun _ _ _ _ _ jI w => X jI w) k10 R bJ t2 eJ t6 cA t w) jI w
theorem VQ (kn : K6) (k10 : K2) (R : K1) (hn : N6 Q kn 1 2 5 6 14 15) (h10 : E2 Q k10 10 2 6) (hr : HR mK R Q) (h : AK kn k10 R (g 1) (g 2) (g 5) (g 6) (g 14) (g 15) w) : bH pg bC (bI (bI (aB 1 (aD 1 (aB 1 (aB 1 (aB 1 (aB 1 (aB 1 (aB 1 (aB 5 aY))))))))))) Q g w :=
 fQ 1 (W3 _ g w (AP kn R) k10 (fun g w h => aK (fQ 1 (W9 _ g w (zB kn) R (fun g w h => aK (XK _ g w kn hn h)) hr h))) h10 h)
theorem WN (k10 : K2) (R : K1) (h10 : E2 Q k10 10 2 6) (hr : HR mK R Q) (h : G6 k10 R (g 1) (g 2) (g 5) (g 6) (g 14) (g 15) w) : bH pg bC (bI (aB 1 (aD 1 (aB 1 (aB 1 (aB 1 (aB 1 (aB 1 (aB 1 (aB 5 aY)))))))))) Q g w := by
 refine DO (fun g : Env => g 15) (fun X t w => AK (fun _ _ _ _ _ jI w => X jI w) k10 R (g 1) (g 2) (g 5) (g 6) (g 14) t w) h (fun X g1 w1 ha hL => ?_)
 rw [<- fE 1 ha, <- fE 2 ha, <- fE 5 ha, <- fE 6 ha, <- fE 14 ha] at hL
 exact (VQ _ g1 w1 (fun _ _ _ _ _ jI w => X jI w) k10 R (fun _ _ h => h) h10 hr hL)
def GX (kn : K2) (R : K1) (bJ t2 eJ t6 cA jI : aJb) (w : aJa) : Prop :=
 G6 kn R bJ t2 eJ t6 cA jI w
def Ho (kn : K6) (bJ t2 eJ t6 cA : aJb) (w : aJa) : Prop :=
 kn bJ t2 eJ t6 cA (.int .i64 0) w
theorem Wi (kn : K6) (hn : N6 Q kn 1 2 5 6 14 15) (h : Ho kn (g 1) (g 2) (g 5) (g 6) (g 14) w) : bH pg bC (aD 1 (aD 1 (aB 1 (aB 1 (aB 1 (aB 1 (aB 1 (aB 1 (aB 5 aY))))))))) Q g w :=
 dR (kr := no) (l := []) h hn eQ trivial
def HL (kn : K2) (R : K1) (bJ t2 eJ t6 cA : aJb) (w : aJa) : Prop :=
 Ho (fun bJ t2 eJ t6 cA jI w => GX kn R bJ t2 eJ t6 cA jI w) bJ t2 eJ t6 cA w
def Hc (R : K1) (bJ t2 eJ t6 cA : aJb) (w : aJa) : Prop :=
 HL (fun t2 t6 w => DN R t2 t6 w) R bJ t2 eJ t6 cA w
theorem Wz (kn : K2) (R : K1) (hn : N2 Q kn 2 6) (hr : HR mK R Q) (h : HL kn R (g 1) (g 2) (g 5) (g 6) (g 14) w) : bH pg bC (aD 1 (aB 1 (aB 1 (aB 1 (aB 1 (aB 1 (aB 1 (aB 5 aY)))))))) Q g w :=
 fQ 1 (Wi _ g w (GX kn R) (fun g w h => aK (tX 10 (WN _ g w kn R hn hr h))) h)
def Gz (kn : K5) (bJ t2 eJ t6 : aJb) (w : aJa) : Prop :=
 aC pg (bT 171) w fun cA w =>
 kn bJ t2 eJ t6 cA w
theorem WW (kn : K5) (hn : N5 Q kn 1 2 5 6 14) (h : Gz kn (g 1) (g 2) (g 5) (g 6) w) : bH pg bC (aD 1 (aB 1 (aB 1 (aB 1 (aB 1 (aB 1 (aB 5 aY))))))) Q g w :=
 dR (kr := no) (l := []) h hn eQ trivial
def AM (R : K1) (bJ t2 eJ t6 : aJb) (w : aJa) : Prop :=
 Gz (fun bJ t2 eJ t6 cA w => Hc R bJ t2 eJ t6 cA w) bJ t2 eJ t6 w
def A1 (kn : K7) (bJ t2 eJ t6 t8 dW jB : aJb) (w : aJa) : Prop :=
 aC pg (aG .add 3 aM aM jB (.int .i64 1)) w fun t71 w =>
 kn bJ t2 eJ t6 t8 dW t71 w
theorem WY (kn : K7) (hn : N7 Q kn 1 2 5 6 8 10 11) (h : A1 kn (g 1) (g 2) (g 5) (g 6) (g 8) (g 10) (g 11) w) : bH pg bC (aB 1 (aB 1 (bI (bI (aB 1 (aD 1 (aB 1 (aB 1 (aB 1 (aB 1 (aB 5 aY))))))))))) Q g w :=
 dR (kr := no) (l := []) h hn eQ trivial
def Be (kn : K8) (bJ t2 eJ t6 t8 dW jB qR : aJb) (w : aJa) : Prop :=
 aC pg (aG .add 3 aM aM qR (.int .i64 1)) w fun t80 w =>
 kn bJ t2 eJ t6 t8 dW jB t80 w
theorem Xb (kn : K8) (hn : N8 Q kn 1 2 5 6 8 10 11 12) (h : Be kn (g 1) (g 2) (g 5) (g 6) (g 8) (g 10) (g 11) (g 12) w) : bH pg bC (aB 1 (aB 1 (bI (bI (aB 1 (bI (aD 1 (aB 1 (bI (bI (aB 1 (aD 1 (aB 1 (aB 1 (aB 1 (aB 1 (aB 5 aY))))))))))))))))) Q g w :=
 dR (kr := no) (l := []) h hn eQ trivial
def AT (kn : K9) (k8 : K8) (bJ t2 eJ t6 t8 dW jB qR U9 : aJb) (w : aJa) : Prop :=
 aC pg (aG .lss 3 aM aM U9 eJ) w fun t99 w =>
 Gd (fI t99 true) (fun K => K dW w) w fun t101 w =>
 Gd (fI t99 true) (fun K => K t8 w) w fun t102 w =>
 Gd (fI t99 true) (fun K => aC pg (aG .gtr 3 aM aM t101 t102) w K) w fun t103 w =>
 aC pg (fR t99 t103 (.bool false)) w fun t104 w =>
 eN t104
  (aC pg (aG .quo 3 aM aM eJ (.int .i64 2)) w fun t109 w =>
  aC pg (aG .add 3 aM aM dW t109) w fun t110 w =>
  aC pg (aG .quo 3 aM aM eJ (.int .i64 8)) w fun t112 w =>
  aC pg (aG .add 3 aM aM t110 t112) w fun t113 w =>
  aC pg (aG .add 3 aM aM t113 (.int .i64 3)) w fun t114 w =>
  aC pg (aG .rem 3 aM aM t114 eJ) w fun t116 w =>
  aC pg (aG .add 3 aM aM U9 (.int .i64 1)) w fun t106 w =>
  kn bJ t2 eJ t6 t8 t116 jB qR t106 w)
  (k8 bJ t2 eJ t6 t8 dW jB qR w)
theorem Xl (kn : K9) (k8 : K8) (hn : N9 Q kn 1 2 5 6 8 10 11 12 13) (h8 : E8 Q k8 8 1 2 5 6 8 10 11 12) (h : AT kn k8 (g 1) (g 2) (g 5) (g 6) (g 8) (g 10) (g 11) (g 12) (g 13) w) : bH pg bC (bI (bI (aB 3 (bI (aD 1 (aB 1 (bI (bI (aB 1 (bI (aD 1 (aB 1 (bI (bI (aB 1 (aD 1 (aB 1 (aB 1 (aB 1 (aB 1 (aB 5 aY))))))))))))))))))))) Q g w :=
 dR (kr := no) (l := [(8, fun g w => k8 (g 1) (g 2) (g 5) (g 6) (g 8) (g 10) (g 11) (g 12) w)]) h hn eQ ⟨h8, trivial⟩
def Bb (k8 : K8) (bJ t2 eJ t6 t8 dW jB qR U9 : aJb) (w : aJa) : Prop :=
 cG (fun (X : (aJb × aJb) -> K0) (t : aJb × aJb) (w : aJa) => AT (fun _ _ _ _ _ dW _ _ U9 w => X (dW, U9) w) k8 bJ t2 eJ t6 t8 t.1 jB qR t.2 w) (dW, U9) w
theorem WK (k8 : K8) (h8 : E8 Q k8 8 1 2 5 6 8 10 11 12) (h : Bb k8 (g 1) (g 2) (g 5) (g 6) (g 8) (g 10) (g 11) (g 12) (g 13) w) : bH pg bC (bI (aB 3 (bI (aD 1 (aB 1 (bI (bI (aB 1 (bI (aD 1 (aB 1 (bI (bI (aB 1 (aD 1 (aB 1 (aB 1 (aB 1 (aB 1 (aB 5 aY)))))))))))))))))))) Q g w := by
 refine DO (fun g : Env => (g 10, g 13)) (fun X t w => AT (fun _ _ _ _ _ dW _ _ U9 w => X (dW, U9) w) k8 (g 1) (g 2) (g 5) (g 6) (g 8) t.1 (g 11) (g 12) t.2 w) h (fun X g1 w1 ha hL => ?_)
 rw [<- fE 1 ha, <- fE 2 ha, <- fE 5 ha, <- fE 6 ha, <- fE 8 ha, <- fE 11 ha, <- fE 12 ha] at hL
 exact (Xl _ g1 w1 (fun _ _ _ _ _ dW _ _ U9 w => X (dW, U9) w) k8 (fun _ _ h => h) h8 hL)
def Gy (kn : K8) (bJ t2 eJ t6 t8 dW jB qR U9 : aJb) (w : aJa) : Prop :=
 Bb kn bJ t2 eJ t6 t8 dW jB qR U9 w
def G7 (kn : K9) (bJ t2 eJ t6 t8 dW jB qR : aJb) (w : aJa) : Prop :=
 aC pg (aL 35 t6 1) w fun t81 w =>
 aC pg (aH 33 t81) w fun t82 w =>
 aC pg (bA 33 t82 dW) w fun t85 w =>
 aC pg (aL 139 t85 0) w fun t86 w =>
 aC pg (aJ 3 t86 jB) w fun _u w =>
 aC pg (aG .quo 3 aM aM eJ (.int .i64 2)) w fun t89 w =>
 aC pg (aG .add 3 aM aM dW t89) w fun t90 w =>
 aC pg (aG .quo 3 aM aM eJ (.int .i64 8)) w fun t92 w =>
 aC pg (aG .add 3 aM aM t90 t92) w fun t93 w =>
 aC pg (aG .add 3 aM aM t93 (.int .i64 3)) w fun t94 w =>
 aC pg (aG .rem 3 aM aM t94 eJ) w fun t96 w =>
 kn bJ t2 eJ t6 t8 t96 jB qR (.int .i64 0) w
theorem Xi (kn : K9) (hn : N9 Q kn 1 2 5 6 8 10 11 12 13) (h : G7 kn (g 1) (g 2) (g 5) (g 6) (g 8) (g 10) (g 11) (g 12) w) : bH pg bC (aD 3 (bI (aD 1 (aB 1 (bI (bI (aB 1 (bI (aD 1 (aB 1 (bI (bI (aB 1 (aD 1 (aB 1 (aB 1 (aB 1 (aB 1 (aB 5 aY))))))))))))))))))) Q g w :=
 dR (kr := no) (l := []) h hn eQ trivial
def Rk (kn : K8) (bJ t2 eJ t6 t8 dW jB qR : aJb) (w : aJa) : Prop :=
 G7 (fun bJ t2 eJ t6 t8 dW jB qR U9 w => Gy kn bJ t2 eJ t6 t8 dW jB qR U9 w) bJ t2 eJ t6 t8 dW jB qR w
def Hz (kn : K8) (bJ t2 eJ t6 t8 dW jB qR : aJb) (w : aJa) : Prop :=
 Rk kn bJ t2 eJ t6 t8 dW jB qR w
def GO (kn : K8) (bJ t2 eJ t6 t8 dW jB qR : aJb) (w : aJa) : Prop :=
 Hz (fun bJ t2 eJ t6 t8 dW jB qR w => Be kn bJ t2 eJ t6 t8 dW jB qR w) bJ t2 eJ t6 t8 dW jB qR w
theorem V8 (kn : K8) (hn : N8 Q kn 1 2 5 6 8 10 11 12) (h : Hz kn (g 1) (g 2) (g 5) (g 6) (g 8) (g 10) (g 11) (g 12) w) : bH pg bC (aD 1 (aB 1 (bI (bI (aB 1 (bI (aD 1 (aB 1 (bI (bI (aB 1 (aD 1 (aB 1 (aB 1 (aB 1 (aB 1 (aB 5 aY))))))))))))))))) Q g w :=
 tX 7 (fQ 3 (Xi _ g w (Gy kn) (fun g w h => aK (tX 8 (WK _ g w kn hn h))) h))
def GF (kn : K8) (k6 : K7) (bJ t2 eJ t6 t8 dW jB qR : aJb) (w : aJa) : Prop :=
 aC pg (aL 130 bJ 1) w fun t73 w =>
 aC pg (aH 77 t73) w fun t74 w =>
 aC pg (bA 77 t74 jB) w fun t76 w =>
 aC pg (aH 3 t76) w fun t77 w =>
 aC pg (aG .lss 3 aM aM qR t77) w fun t78 w =>
 eN t78
  (kn bJ t2 eJ t6 t8 dW jB qR w)
  (k6 bJ t2 eJ t6 t8 dW jB w)
theorem Xu (kn : K8) (k6 : K7) (hn : N8 Q kn 1 2 5 6 8 10 11 12) (h6 : E7 Q k6 6 1 2 5 6 8 10 11) (h : GF kn k6 (g 1) (g 2) (g 5) (g 6) (g 8) (g 10) (g 11) (g 12) w) : bH pg bC (aD 1 (bI (bI (aB 1 (bI (aD 1 (aB 1 (bI (bI (aB 1 (aD 1 (aB 1 (aB 1 (aB 1 (aB 1 (aB 5 aY)))))))))))))))) Q g w :=
 dR (kr := no) (l := [(6, fun g w => k6 (g 1) (g 2) (g 5) (g 6) (g 8) (g 10) (g 11) w)]) h hn eQ ⟨h6, trivial⟩
def AQ (kn : K8) (k6 : K7) (bJ t2 eJ t6 t8 dW jB qR : aJb) (w : aJa) : Prop :=
 GF (fun bJ t2 eJ t6 t8 dW jB qR w => GO kn bJ t2 eJ t6 t8 dW jB qR w) k6 bJ t2 eJ t6 t8 dW jB qR w
def Hw (k6 : K7) (bJ t2 eJ t6 t8 dW jB qR : aJb) (w : aJa) : Prop :=
 cG (fun (X : (aJb × aJb) -> K0) (t : aJb × aJb) (w : aJa) => AQ (fun _ _ _ _ _ dW _ qR w => X (dW, qR) w) k6 bJ t2 eJ t6 t8 t.1 jB t.2 w) (dW, qR) w
theorem Xe (kn : K8) (k6 : K7) (hn : N8 Q kn 1 2 5 6 8 10 11 12) (h6 : E7 Q k6 6 1 2 5 6 8 10 11) (h : AQ kn k6 (g 1) (g 2) (g 5) (g 6) (g 8) (g 10) (g 11) (g 12) w) : bH pg bC (bI (bI (aB 1 (bI (aD 1 (aB 1 (bI (bI (aB 1 (aD 1 (aB 1 (aB 1 (aB 1 (aB 1 (aB 5 aY))))))))))))))) Q g w :=
 fQ 1 (Xu _ g w (GO kn) k6 (fun g w h => aK (fQ 1 (V8 _ g w (Be kn) (fun g w h => aK (Xb _ g w kn hn h)) h))) h6 h)
theorem VP (k6 : K7) (h6 : E7 Q k6 6 1 2 5 6 8 10 11) (h : Hw k6 (g 1) (g 2) (g 5) (g 6) (g 8) (g 10) (g 11) (g 12) w) : bH pg bC (bI (aB 1 (bI (aD 1 (aB 1 (bI (bI (aB 1 (aD 1 (aB 1 (aB 1 (aB 1 (aB 1 (aB 5 aY)))))))))))))) Q g w := by
 refine DO (fun g : Env => (g 10, g 12)) (fun X t w => AQ (fun _ _ _ _ _ dW _ qR w => X (dW, qR) w) k6 (g 1) (g 2) (g 5) (g 6) (g 8) t.1 (g 11) t.2 w) h (fun X g1 w1 ha hL => ?_)
 rw [<- fE 1 ha, <- fE 2 ha, <- fE 5 ha, <- fE 6 ha, <- fE 8 ha, <- fE 11 ha] at hL
 exact (Xe _ g1 w1 (fun _ _ _ _ _ dW _ qR w => X (dW, qR) w) k6 (fun _ _ h => h) h6 hL)
def Hn (kn : K7) (bJ t2 eJ t6 t8 dW jB qR : aJb) (w : aJa) : Prop :=
 Hw kn bJ t2 eJ t6 t8 dW jB qR w
def Hm (kn : K8) (bJ t2 eJ t6 t8 dW jB : aJb) (w : aJa) : Prop :=
 kn bJ t2 eJ t6 t8 dW jB (.int .i64 0) w
theorem W7 (kn : K8) (hn : N8 Q kn 1 2 5 6 8 10 11 12) (h : Hm kn (g 1) (g 2) (g 5) (g 6) (g 8) (g 10) (g 11) w) : bH pg bC (aD 1 (bI (aD 1 (aB 1 (bI (bI (aB 1 (aD 1 (aB 1 (aB 1 (aB 1 (aB 1 (aB 5 aY))))))))))))) Q g w :=
 dR (kr := no) (l := []) h hn eQ trivial
def Rc (kn : K7) (bJ t2 eJ t6 t8 dW jB : aJb) (w : aJa) : Prop :=
 Hm (fun bJ t2 eJ t6 t8 dW jB qR w => Hn kn bJ t2 eJ t6 t8 dW jB qR w) bJ t2 eJ t6 t8 dW jB w
def HV (kn : K7) (bJ t2 eJ t6 t8 dW jB : aJb) (w : aJa) : Prop :=
 Rc kn bJ t2 eJ t6 t8 dW jB w
def HC (kn : K7) (bJ t2 eJ t6 t8 dW jB : aJb) (w : aJa) : Prop :=
 HV (fun bJ t2 eJ t6 t8 dW jB w => A1 kn bJ t2 eJ t6 t8 dW jB w) bJ t2 eJ t6 t8 dW jB w
theorem Wc (kn : K7) (hn : N7 Q kn 1 2 5 6 8 10 11) (h : HV kn (g 1) (g 2) (g 5) (g 6) (g 8) (g 10) (g 11) w) : bH pg bC (aD 1 (aB 1 (bI (bI (aB 1 (aD 1 (aB 1 (aB 1 (aB 1 (aB 1 (aB 5 aY))))))))))) Q g w :=
 tX 5 (fQ 1 (W7 _ g w (Hn kn) (fun g w h => aK (tX 6 (VP _ g w kn hn h))) h))
def HZ (kn : K7) (k4 : K4) (bJ t2 eJ t6 t8 dW jB : aJb) (w : aJa) : Prop :=
 aC pg (aL 130 bJ 1) w fun t66 w =>
 aC pg (aH 77 t66) w fun t67 w =>
 aC pg (jS .len #[77] 3 [t67]) w fun t68 w =>
 aC pg (aG .lss 3 aM aM jB t68) w fun t69 w =>
 eN t69
  (kn bJ t2 eJ t6 t8 dW jB w)
  (k4 bJ t2 eJ t6 w)
theorem Wd (kn : K7) (k4 : K4) (hn : N7 Q kn 1 2 5 6 8 10 11) (h4 : E4 Q k4 4 1 2 5 6) (h : HZ kn k4 (g 1) (g 2) (g 5) (g 6) (g 8) (g 10) (g 11) w) : bH pg bC (aD 1 (bI (bI (aB 1 (aD 1 (aB 1 (aB 1 (aB 1 (aB 1 (aB 5 aY)))))))))) Q g w :=
 dR (kr := no) (l := [(4, fun g w => k4 (g 1) (g 2) (g 5) (g 6) w)]) h hn eQ ⟨h4, trivial⟩
def Bc (kn : K7) (k4 : K4) (bJ t2 eJ t6 t8 dW jB : aJb) (w : aJa) : Prop :=
 HZ (fun bJ t2 eJ t6 t8 dW jB w => HC kn bJ t2 eJ t6 t8 dW jB w) k4 bJ t2 eJ t6 t8 dW jB w
def A4 (k4 : K4) (bJ t2 eJ t6 t8 dW jB : aJb) (w : aJa) : Prop :=
 cG (fun (X : (aJb × aJb) -> K0) (t : aJb × aJb) (w : aJa) => Bc (fun _ _ _ _ _ dW jB w => X (dW, jB) w) k4 bJ t2 eJ t6 t8 t.1 t.2 w) (dW, jB) w
theorem V1 (kn : K7) (k4 : K4) (hn : N7 Q kn 1 2 5 6 8 10 11) (h4 : E4 Q k4 4 1 2 5 6) (h : Bc kn k4 (g 1) (g 2) (g 5) (g 6) (g 8) (g 10) (g 11) w) : bH pg bC (bI (bI (aB 1 (aD 1 (aB 1 (aB 1 (aB 1 (aB 1 (aB 5 aY))))))))) Q g w :=
 fQ 1 (Wd _ g w (HC kn) k4 (fun g w h => aK (fQ 1 (Wc _ g w (A1 kn) (fun g w h => aK (WY _ g w kn hn h)) h))) h4 h)
theorem Xx (k4 : K4) (h4 : E4 Q k4 4 1 2 5 6) (h : A4 k4 (g 1) (g 2) (g 5) (g 6) (g 8) (g 10) (g 11) w) : bH pg bC (bI (aB 1 (aD 1 (aB 1 (aB 1 (aB 1 (aB 1 (aB 5 aY)))))))) Q g w := by
 refine DO (fun g : Env => (g 10, g 11)) (fun X t w => Bc (fun _ _ _ _ _ dW jB w => X (dW, jB) w) k4 (g 1) (g 2) (g 5) (g 6) (g 8) t.1 t.2 w) h (fun X g1 w1 ha hL => ?_)
 rw [<- fE 1 ha, <- fE 2 ha, <- fE 5 ha, <- fE 6 ha, <- fE 8 ha] at hL
 exact (V1 _ g1 w1 (fun _ _ _ _ _ dW jB w => X (dW, jB) w) k4 (fun _ _ h => h) h4 hL)
def GL (kn : K4) (bJ t2 eJ t6 t8 dW jB : aJb) (w : aJa) : Prop :=
 A4 kn bJ t2 eJ t6 t8 dW jB w
def HE (kn : K7) (bJ t2 eJ t6 t8 dW : aJb) (w : aJa) : Prop :=
 kn bJ t2 eJ t6 t8 dW (.int .i64 0) w
theorem VT (kn : K7) (hn : N7 Q kn 1 2 5 6 8 10 11) (h : HE kn (g 1) (g 2) (g 5) (g 6) (g 8) (g 10) w) : bH pg bC (aD 1 (aD 1 (aB 1 (aB 1 (aB 1 (aB 1 (aB 5 aY))))))) Q g w :=
 dR (kr := no) (l := []) h hn eQ trivial
def G3 (kn : K4) (bJ t2 eJ t6 t8 dW : aJb) (w : aJa) : Prop :=
 HE (fun bJ t2 eJ t6 t8 dW jB w => GL kn bJ t2 eJ t6 t8 dW jB w) bJ t2 eJ t6 t8 dW w
def G5 (R : K1) (bJ t2 eJ t6 t8 dW : aJb) (w : aJa) : Prop :=
 G3 (fun bJ t2 eJ t6 w => AM R bJ t2 eJ t6 w) bJ t2 eJ t6 t8 dW w
theorem WB (kn : K4) (hn : N4 Q kn 1 2 5 6) (h : G3 kn (g 1) (g 2) (g 5) (g 6) (g 8) (g 10) w) : bH pg bC (aD 1 (aB 1 (aB 1 (aB 1 (aB 1 (aB 5 aY)))))) Q g w :=
 fQ 1 (VT _ g w (GL kn) (fun g w h => aK (tX 4 (Xx _ g w kn hn h))) h)
def GJ (kn : K6) (bJ t2 eJ t6 t8 : aJb) (w : aJa) : Prop :=
 kn bJ t2 eJ t6 t8 (.int .i64 0) w
theorem WX (kn : K6) (hn : N6 Q kn 1 2 5 6 8 10) (h : GJ kn (g 1) (g 2) (g 5) (g 6) (g 8) w) : bH pg bC (aD 1 (aB 1 (aB 1 (aB 1 (aB 5 aY))))) Q g w :=
 dR (kr := no) (l := []) h hn eQ trivial
def Gt (R : K1) (bJ t2 eJ t6 t8 : aJb) (w : aJa) : Prop :=
 GJ (fun bJ t2 eJ t6 t8 dW w => G5 R bJ t2 eJ t6 t8 dW w) bJ t2 eJ t6 t8 w
def vQ (kn : K6) (bJ t2 eJ t6 t8 vK : aJb) (w : aJa) : Prop :=
 aC pg (aG .add 3 aM aM vK (.int .i64 1)) w fun t50 w =>
 kn bJ t2 eJ t6 t8 t50 w
theorem WE (kn : K6) (hn : N6 Q kn 1 2 5 6 8 9) (h : vQ kn (g 1) (g 2) (g 5) (g 6) (g 8) (g 9) w) : bH pg bC (aB 2 (bI (bI (aB 1 (aD 1 (aB 1 (aB 1 (aB 5 aY)))))))) Q g w :=
 dR (kr := no) (l := []) h hn eQ trivial
def GH (kn : K6) (k2 : K5) (bJ t2 eJ t6 t8 vK : aJb) (w : aJa) : Prop :=
 aC pg (aL 130 bJ 1) w fun t45 w =>
 aC pg (aH 77 t45) w fun t46 w =>
 aC pg (jS .len #[77] 3 [t46]) w fun t47 w =>
 aC pg (aG .lss 3 aM aM vK t47) w fun t48 w =>
 eN t48
  (aC pg (aL 130 bJ 1) w fun t51 w =>
  aC pg (aH 77 t51) w fun t52 w =>
  aC pg (bA 77 t52 vK) w fun t54 w =>
  aC pg (aH 3 t54) w fun t55 w =>
  aC pg (aG .lss 3 aM aM t55 (.int .i64 0)) w fun t56 w =>
  eN t56
   (aC pg (aL 35 t6 1) w fun t57 w =>
   aC pg (aH 33 t57) w fun t58 w =>
   aC pg (bA 33 t58 t8) w fun t61 w =>
   aC pg (aL 139 t61 0) w fun t62 w =>
   aC pg (aJ 3 t62 vK) w fun _u w =>
   aC pg (aG .sub 3 aM aM t8 (.int .i64 1)) w fun t64 w =>
   kn bJ t2 eJ t6 t64 vK w)
   (kn bJ t2 eJ t6 t8 vK w))
  (k2 bJ t2 eJ t6 t8 w)
theorem W0 (kn : K6) (k2 : K5) (hn : N6 Q kn 1 2 5 6 8 9) (h2 : E5 Q k2 2 1 2 5 6 8) (h : GH kn k2 (g 1) (g 2) (g 5) (g 6) (g 8) (g 9) w) : bH pg bC (aD 2 (bI (bI (aB 1 (aD 1 (aB 1 (aB 1 (aB 5 aY)))))))) Q g w :=
 dR (kr := no) (l := [(2, fun g w => k2 (g 1) (g 2) (g 5) (g 6) (g 8) w)]) h hn eQ ⟨h2, trivial⟩
def A8 (kn : K6) (k2 : K5) (bJ t2 eJ t6 t8 vK : aJb) (w : aJa) : Prop :=
 GH (fun bJ t2 eJ t6 t8 vK w => vQ kn bJ t2 eJ t6 t8 vK w) k2 bJ t2 eJ t6 t8 vK w
def A7 (k2 : K5) (bJ t2 eJ t6 t8 vK : aJb) (w : aJa) : Prop :=
 cG (fun (X : (aJb × aJb) -> K0) (t : aJb × aJb) (w : aJa) => A8 (fun _ _ _ _ t8 vK w => X (t8, vK) w) k2 bJ t2 eJ t6 t.1 t.2 w) (t8, vK) w
theorem Wq (kn : K6) (k2 : K5) (hn : N6 Q kn 1 2 5 6 8 9) (h2 : E5 Q k2 2 1 2 5 6 8) (h : A8 kn k2 (g 1) (g 2) (g 5) (g 6) (g 8) (g 9) w) : bH pg bC (bI (bI (aB 1 (aD 1 (aB 1 (aB 1 (aB 5 aY))))))) Q g w :=
 fQ 2 (W0 _ g w (vQ kn) k2 (fun g w h => aK (WE _ g w kn hn h)) h2 h)
theorem Xj (k2 : K5) (h2 : E5 Q k2 2 1 2 5 6 8) (h : A7 k2 (g 1) (g 2) (g 5) (g 6) (g 8) (g 9) w) : bH pg bC (bI (aB 1 (aD 1 (aB 1 (aB 1 (aB 5 aY)))))) Q g w := by
 refine DO (fun g : Env => (g 8, g 9)) (fun X t w => A8 (fun _ _ _ _ t8 vK w => X (t8, vK) w) k2 (g 1) (g 2) (g 5) (g 6) t.1 t.2 w) h (fun X g1 w1 ha hL => ?_)
 rw [<- fE 1 ha, <- fE 2 ha, <- fE 5 ha, <- fE 6 ha] at hL
 exact (Wq _ g1 w1 (fun _ _ _ _ t8 vK w => X (t8, vK) w) k2 (fun _ _ h => h) h2 hL)
def HH (kn : K5) (bJ t2 eJ t6 t8 vK : aJb) (w : aJa) : Prop :=
 A7 kn bJ t2 eJ t6 t8 vK w
def HX (kn : K6) (bJ t2 eJ t6 t8 : aJb) (w : aJa) : Prop :=
 kn bJ t2 eJ t6 t8 (.int .i64 0) w
theorem Xt (kn : K6) (hn : N6 Q kn 1 2 5 6 8 9) (h : HX kn (g 1) (g 2) (g 5) (g 6) (g 8) w) : bH pg bC (aD 1 (aD 1 (aB 1 (aB 1 (aB 5 aY))))) Q g w :=
 dR (kr := no) (l := []) h hn eQ trivial
def Gx (kn : K5) (bJ t2 eJ t6 t8 : aJb) (w : aJa) : Prop :=
 HX (fun bJ t2 eJ t6 t8 vK w => HH kn bJ t2 eJ t6 t8 vK w) bJ t2 eJ t6 t8 w
def G8 (R : K1) (bJ t2 eJ t6 t8 : aJb) (w : aJa) : Prop :=
 Gx (fun bJ t2 eJ t6 t8 w => Gt R bJ t2 eJ t6 t8 w) bJ t2 eJ t6 t8 w
theorem Xf (kn : K5) (hn : N5 Q kn 1 2 5 6 8) (h : Gx kn (g 1) (g 2) (g 5) (g 6) (g 8) w) : bH pg bC (aD 1 (aB 1 (aB 1 (aB 5 aY)))) Q g w :=
 fQ 1 (Xt _ g w (HH kn) (fun g w h => aK (tX 2 (Xj _ g w kn hn h))) h)
def HO (kn : K5) (bJ t2 eJ t6 : aJb) (w : aJa) : Prop :=
 aC pg (aG .sub 3 aM aM eJ (.int .i64 1)) w fun t43 w =>
 kn bJ t2 eJ t6 t43 w
theorem WC (kn : K5) (hn : N5 Q kn 1 2 5 6 8) (h : HO kn (g 1) (g 2) (g 5) (g 6) w) : bH pg bC (aD 1 (aB 1 (aB 5 aY))) Q g w :=
 dR (kr := no) (l := []) h hn eQ trivial
def Hq (R : K1) (bJ t2 eJ t6 : aJb) (w : aJa) : Prop :=
 HO (fun bJ t2 eJ t6 t8 w => G8 R bJ t2 eJ t6 t8 w) bJ t2 eJ t6 w
def A2 (kn : K5) (k0 : K4) (bJ t2 eJ t6 i_7 : aJb) (w : aJa) : Prop :=
 aC pg (aG .lss 3 aM aM i_7 eJ) w fun t33 w =>
 eN t33
  (aC pg (aL 35 t6 1) w fun t36 w =>
  aC pg (aH 33 t36) w fun t37 w =>
  aC pg (bV 139 [(0, (.int .i64 (-1)))]) w fun t38 w =>
  aC pg (bX 33 1 [(0, t38)]) w fun t39 w =>
  aC pg (jS .append #[33, 33] 33 [t37, t39]) w fun t40 w =>
  aC pg (aL 35 t6 1) w fun t41 w =>
  aC pg (aJ 33 t41 t40) w fun _u w =>
  aC pg (aG .add 3 aM aM i_7 (.int .i64 1)) w fun t35 w =>
  kn bJ t2 eJ t6 t35 w)
  (k0 bJ t2 eJ t6 w)
theorem Wv (kn : K5) (k0 : K4) (hn : N5 Q kn 1 2 5 6 7) (h0 : E4 Q k0 0 1 2 5 6) (h : A2 kn k0 (g 1) (g 2) (g 5) (g 6) (g 7) w) : bH pg bC (bI (bI (aB 1 (aD 1 (aB 5 aY))))) Q g w :=
 dR (kr := no) (l := [(0, fun g w => k0 (g 1) (g 2) (g 5) (g 6) w)]) h hn eQ ⟨h0, trivial⟩
def AS (k0 : K4) (bJ t2 eJ t6 i_7 : aJb) (w : aJa) : Prop :=
 cG (fun (X : aJb -> K0) (t : aJb) (w : aJa) => A2 (fun _ _ _ _ i_7 w => X i_7 w) k0 bJ t2 eJ t6 t w) i_7 w
theorem WV (k0 : K4) (h0 : E4 Q k0 0 1 2 5 6) (h : AS k0 (g 1) (g 2) (g 5) (g 6) (g 7) w) : bH pg bC (bI (aB 1 (aD 1 (aB 5 aY)))) Q g w := by
 refine DO (fun g : Env => g 7) (fun X t w => A2 (fun _ _ _ _ i_7 w => X i_7 w) k0 (g 1) (g 2) (g 5) (g 6) t w) h (fun X g1 w1 ha hL => ?_)
 rw [<- fE 1 ha, <- fE 2 ha, <- fE 5 ha, <- fE 6 ha] at hL
 exact (Wv _ g1 w1 (fun _ _ _ _ i_7 w => X i_7 w) k0 (fun _ _ h => h) h0 hL)
def HI (kn : K4) (bJ t2 eJ t6 i_7 : aJb) (w : aJa) : Prop :=
 AS kn bJ t2 eJ t6 i_7 w
def GK (kn : K5) (bJ t2 eJ t6 : aJb) (w : aJa) : Prop :=
 kn bJ t2 eJ t6 (.int .i64 0) w
theorem W1 (kn : K5) (hn : N5 Q kn 1 2 5 6 7) (h : GK kn (g 1) (g 2) (g 5) (g 6) w) : bH pg bC (aD 1 (aD 1 (aB 5 aY))) Q g w :=
 dR (kr := no) (l := []) h hn eQ trivial
def Hv (kn : K4) (bJ t2 eJ t6 : aJb) (w : aJa) : Prop :=
 GK (fun bJ t2 eJ t6 i_7 w => HI kn bJ t2 eJ t6 i_7 w) bJ t2 eJ t6 w
def G0 (R : K1) (bJ t2 eJ t6 : aJb) (w : aJa) : Prop :=
 Hv (fun bJ t2 eJ t6 w => Hq R bJ t2 eJ t6 w) bJ t2 eJ t6 w
theorem Xr (kn : K4) (hn : N4 Q kn 1 2 5 6) (h : Hv kn (g 1) (g 2) (g 5) (g 6) w) : bH pg bC (aD 1 (aB 5 aY)) Q g w :=
 fQ 1 (W1 _ g w (HI kn) (fun g w h => aK (tX 0 (WV _ g w kn hn h))) h)
def Hg (kn : K4) (R : K1) (c_0 : aJb) (w : aJa) : Prop :=
 aC pg (rA 130 c_0) w fun bJ w =>
 aC pg (bT 35) w fun t2 w =>
 aC pg (aH 130 bJ) w fun t20 w =>
 aR pg Fh #[t20, (.int .i64 15)] w fun t21 w =>
 aC pg (aG .neq 30 (.tmp 22) (.const (.int .i64 0)) t21 (.int .i64 0)) w fun t23 w =>
 eN t23
  (aC pg (bV 35 []) w fun t24 w =>
  aC pg (aJ 35 t2 t24) w fun _u w =>
  kC pg 35 t2 w fun r0 => R (.tuple #[r0, (.int .i64 1)]) w)
  (aC pg (aL 130 bJ 0) w fun t25 w =>
  aC pg (aH 3 t25) w fun t26 w =>
  aR pg mF #[t26] w fun t27 w =>
  aC pg (aL 130 bJ 0) w fun t28 w =>
  aC pg (aH 3 t28) w fun t29 w =>
  aC pg (bV 35 [(0, t29)]) w fun t30 w =>
  aC pg (bT 35) w fun t6 w =>
  aC pg (aJ 35 t6 t30) w fun _u w =>
  kn bJ t2 t27 t6 w)
theorem Xv (kn : K4) (R : K1) (hn : N4 Q kn 1 2 5 6) (hr : HR mK R Q) (h : Hg kn R (g 0) w) : bH pg bC (aD 5 aY) Q g w :=
 dR (l := []) h hn hr trivial
def Hr (R : K1) (c_0 : aJb) (w : aJa) : Prop :=
 Hg (fun bJ t2 eJ t6 w => G0 R bJ t2 eJ t6 w) R c_0 w
theorem WT (R : K1) (hr : HR mK R Q) (h : Hr R (g 0) w) : bH pg bC aY Q g w :=
 fQ 5 (Xv _ g w (G0 R) R (fun g w h => aK (fQ 1 (Xr _ g w (Hq R) (fun g w h => aK (fQ 1 (WC _ g w (G8 R) (fun g w h => aK (fQ 1 (Xf _ g w (Gt R) (fun g w h => aK (fQ 1 (WX _ g w (G5 R) (fun g w h => aK (fQ 1 (WB _ g w (AM R) (fun g w h => aK (fQ 1 (WW _ g w (Hc R) (fun g w h => aK (fQ 1 (Wz _ g w (DN R) R (fun g w h => aK (XZ _ g w R hr h)) hr h))) h))) h))) h))) h))) h))) h))) hr h)
def agG (a0 : aJb) (w : aJa) (R : K1) : Prop :=
 Hr R a0 w
theorem abD {a0 : aJb} {w : aJa} {R : K1} (h : agG a0 w R) : aR pg AA #[a0] w R := by
 refine rI (ann := bC) Tryd.f59 aY [a0] mK 185 TrydM.mixed Tryd.func59 ?_
 exact (WT _ _ _ R (fun _ _ h => h) h)
def iD : FA := ⟨Df, fun i => .leaf ([], []) []⟩
def NQ : List ResultVar := [.tmp 2]
noncomputable def gX : Code := cU Tryd.f60
def FB (R : K1) (cC : aJb) (w : aJa) : Prop :=
 R cC w
theorem abJ (R : K1) (hr : HR NQ R Q) (h : FB R (g 3) w) : bH pg iD (aB 1 (aB 2 gX)) Q g w :=
 dR (kn := no) (l := []) h eQ hr trivial
def Fb (kn : K3) (wB cC jH : aJb) (w : aJa) : Prop :=
 aC pg (aG .add 3 aM aM jH (.int .i64 1)) w fun t12 w =>
 kn wB cC t12 w
theorem afX (kn : K3) (hn : N3 Q kn 0 3 4) (h : Fb kn (g 0) (g 3) (g 4) w) : bH pg iD (aB 1 (aB 1 (bI (bI (aB 1 (aD 1 (aB 2 gX))))))) Q g w :=
 dR (kr := no) (l := []) h hn eQ trivial
def Fm (kn : K5) (k2 : K3) (wB cC jH c_5 Gi : aJb) (w : aJa) : Prop :=
 aC pg (aG .lss 3 aM aM Gi (.int .i64 8)) w fun t17 w =>
 eN t17
  (aC pg (aG .rem 5 aM aM c_5 (.int .u8 2)) w fun t22 w =>
  aC pg (aG .eql 5 (.tmp 22) (.const (.int .u8 1)) t22 (.int .u8 1)) w fun t23 w =>
  aC pg (bX 80 1 [(0, t23)]) w fun t24 w =>
  aC pg (jS .append #[80, 80] 80 [cC, t24]) w fun t25 w =>
  aC pg (aG .quo 5 aM aM c_5 (.int .u8 2)) w fun t27 w =>
  aC pg (aG .add 3 aM aM Gi (.int .i64 1)) w fun t19 w =>
  kn wB t25 jH t27 t19 w)
  (k2 wB cC jH w)
theorem aeG (kn : K5) (k2 : K3) (hn : N5 Q kn 0 3 4 5 6) (h2 : E3 Q k2 2 0 3 4) (h : Fm kn k2 (g 0) (g 3) (g 4) (g 5) (g 6) w) : bH pg iD (bI (bI (aB 2 (bI (aD 1 (aB 1 (bI (bI (aB 1 (aD 1 (aB 2 gX))))))))))) Q g w :=
 dR (kr := no) (l := [(2, fun g w => k2 (g 0) (g 3) (g 4) w)]) h hn eQ ⟨h2, trivial⟩
def Oj (k2 : K3) (wB cC jH c_5 Gi : aJb) (w : aJa) : Prop :=
 cG (fun (X : (aJb × aJb × aJb) -> K0) (t : aJb × aJb × aJb) (w : aJa) => Fm (fun _ cC _ c_5 Gi w => X (cC, c_5, Gi) w) k2 wB t.1 jH t.2.1 t.2.2 w) (cC, c_5, Gi) w
theorem aeY (k2 : K3) (h2 : E3 Q k2 2 0 3 4) (h : Oj k2 (g 0) (g 3) (g 4) (g 5) (g 6) w) : bH pg iD (bI (aB 2 (bI (aD 1 (aB 1 (bI (bI (aB 1 (aD 1 (aB 2 gX)))))))))) Q g w := by
 refine DO (fun g : Env => (g 3, g 5, g 6)) (fun X t w => Fm (fun _ cC _ c_5 Gi w => X (cC, c_5, Gi) w) k2 (g 0) t.1 (g 4) t.2.1 t.2.2 w) h (fun X g1 w1 ha hL => ?_)
 rw [<- fE 0 ha, <- fE 4 ha] at hL
 exact (aeG _ g1 w1 (fun _ cC _ c_5 Gi w => X (cC, c_5, Gi) w) k2 (fun _ _ h => h) h2 hL)
def MZ (kn : K3) (wB cC jH c_5 Gi : aJb) (w : aJa) : Prop :=
 Oj kn wB cC jH c_5 Gi w
def MA (kn : K5) (wB cC jH : aJb) (w : aJa) : Prop :=
 aC pg (G4 9 wB jH) w fun t15 w =>
 kn wB cC jH t15 (.int .i64 0) w
theorem aeT (kn : K5) (hn : N5 Q kn 0 3 4 5 6) (h : MA kn (g 0) (g 3) (g 4) w) : bH pg iD (aD 2 (bI (aD 1 (aB 1 (bI (bI (aB 1 (aD 1 (aB 2 gX))))))))) Q g w :=
 dR (kr := no) (l := []) h hn eQ trivial
def VD (kn : K3) (wB cC jH : aJb) (w : aJa) : Prop :=
 MA (fun wB cC jH c_5 Gi w => MZ kn wB cC jH c_5 Gi w) wB cC jH w
def NM (kn : K3) (wB cC jH : aJb) (w : aJa) : Prop :=
 VD kn wB cC jH w
def M6 (kn : K3) (wB cC jH : aJb) (w : aJa) : Prop :=
 NM (fun wB cC jH w => Fb kn wB cC jH w) wB cC jH w
theorem aeB (kn : K3) (hn : N3 Q kn 0 3 4) (h : NM kn (g 0) (g 3) (g 4) w) : bH pg iD (aD 1 (aB 1 (bI (bI (aB 1 (aD 1 (aB 2 gX))))))) Q g w :=
 tX 1 (fQ 2 (aeT _ g w (MZ kn) (fun g w h => aK (tX 2 (aeY _ g w kn hn h))) h))
def JJ (kn : K3) (k0 : K1) (wB cC jH : aJb) (w : aJa) : Prop :=
 aC pg (jS .len #[9] 3 [wB]) w fun t9 w =>
 aC pg (aG .lss 3 aM aM jH t9) w fun t10 w =>
 eN t10
  (kn wB cC jH w)
  (k0 cC w)
theorem X7 (kn : K3) (k0 : K1) (hn : N3 Q kn 0 3 4) (h0 : E1 Q k0 0 3) (h : JJ kn k0 (g 0) (g 3) (g 4) w) : bH pg iD (aD 1 (bI (bI (aB 1 (aD 1 (aB 2 gX)))))) Q g w :=
 dR (kr := no) (l := [(0, fun g w => k0 (g 3) w)]) h hn eQ ⟨h0, trivial⟩
def De (kn : K3) (k0 : K1) (wB cC jH : aJb) (w : aJa) : Prop :=
 JJ (fun wB cC jH w => M6 kn wB cC jH w) k0 wB cC jH w
def Kj (k0 : K1) (wB cC jH : aJb) (w : aJa) : Prop :=
 cG (fun (X : (aJb × aJb) -> K0) (t : aJb × aJb) (w : aJa) => De (fun _ cC jH w => X (cC, jH) w) k0 wB t.1 t.2 w) (cC, jH) w
theorem Y5 (kn : K3) (k0 : K1) (hn : N3 Q kn 0 3 4) (h0 : E1 Q k0 0 3) (h : De kn k0 (g 0) (g 3) (g 4) w) : bH pg iD (bI (bI (aB 1 (aD 1 (aB 2 gX))))) Q g w :=
 fQ 1 (X7 _ g w (M6 kn) k0 (fun g w h => aK (fQ 1 (aeB _ g w (Fb kn) (fun g w h => aK (afX _ g w kn hn h)) h))) h0 h)
theorem YF (k0 : K1) (h0 : E1 Q k0 0 3) (h : Kj k0 (g 0) (g 3) (g 4) w) : bH pg iD (bI (aB 1 (aD 1 (aB 2 gX)))) Q g w := by
 refine DO (fun g : Env => (g 3, g 4)) (fun X t w => De (fun _ cC jH w => X (cC, jH) w) k0 (g 0) t.1 t.2 w) h (fun X g1 w1 ha hL => ?_)
 rw [<- fE 0 ha] at hL
 exact (Y5 _ g1 w1 (fun _ cC jH w => X (cC, jH) w) k0 (fun _ _ h => h) h0 hL)
def JZ (kn : K1) (wB cC jH : aJb) (w : aJa) : Prop :=
 Kj kn wB cC jH w
def KO (kn : K3) (wB cC : aJb) (w : aJa) : Prop :=
 kn wB cC (.int .i64 0) w
theorem XN (kn : K3) (hn : N3 Q kn 0 3 4) (h : KO kn (g 0) (g 3) w) : bH pg iD (aD 1 (aD 1 (aB 2 gX))) Q g w :=
 dR (kr := no) (l := []) h hn eQ trivial
def Lw (kn : K1) (wB cC : aJb) (w : aJa) : Prop :=
 KO (fun wB cC jH w => JZ kn wB cC jH w) wB cC w
def KI (R : K1) (wB cC : aJb) (w : aJa) : Prop :=
 Lw (fun cC w => FB R cC w) wB cC w
theorem XX (kn : K1) (hn : N1 Q kn 3) (h : Lw kn (g 0) (g 3) w) : bH pg iD (aD 1 (aB 2 gX)) Q g w :=
 fQ 1 (XN _ g w (JZ kn) (fun g w h => aK (tX 0 (YF _ g w kn hn h))) h)
def Kf (kn : K2) (wB : aJb) (w : aJa) : Prop :=
 kn wB (.slice none 0 0) w
theorem Z0 (kn : K2) (hn : N2 Q kn 0 3) (h : Kf kn (g 0) w) : bH pg iD (aD 2 gX) Q g w :=
 dR (kr := no) (l := []) h hn eQ trivial
def KT (R : K1) (wB : aJb) (w : aJa) : Prop :=
 Kf (fun wB cC w => KI R wB cC w) wB w
theorem YD (R : K1) (hr : HR NQ R Q) (h : KT R (g 0) w) : bH pg iD gX Q g w :=
 fQ 2 (Z0 _ g w (KI R) (fun g w h => aK (fQ 1 (XX _ g w (FB R) (fun g w h => aK (abJ _ g w R hr h)) h))) h)
def amI (a0 : aJb) (w : aJa) (R : K1) : Prop :=
 KT R a0 w
theorem ahH {a0 : aJb} {w : aJa} {R : K1} (h : amI a0 w R) : aR pg Df #[a0] w R := by
 refine rI (ann := iD) Tryd.f60 gX [a0] NQ 29 TrydM.mixed Tryd.func60 ?_
 exact (YD _ _ _ R (fun _ _ h => h) h)
def mG : FA := ⟨uS, fun i => .leaf ([], []) []⟩
def Fa : List ResultVar := [.cell 4 82, .tmp 5]
noncomputable def lR : Code := cU Tryd.f61
def Fq (R : K1) (CS t4 Gi oQ : aJb) (w : aJa) : Prop :=
 aC pg (aL 82 CS 0) w fun t46 w =>
 aC pg (aH 80 t46) w fun t47 w =>
 aC pg (aL 82 CS 0) w fun t48 w =>
 aC pg (aH 80 t48) w fun t49 w =>
 aC pg (jS .len #[80] 3 [t49]) w fun t50 w =>
 aC pg (aG .sub 3 aM aM t50 Gi) w fun t52 w =>
 aC pg (fJ 80 t47 none (some t52) none) w fun t53 w =>
 aC pg (aL 82 CS 0) w fun t54 w =>
 aC pg (aJ 80 t54 t53) w fun _u w =>
 aC pg (aH 82 CS) w fun t55 w =>
 aC pg (aJ 82 t4 t55) w fun _u w =>
 kC pg 82 t4 w fun r0 => R (.tuple #[r0, oQ]) w
theorem aeU (R : K1) (hr : HR Fa R Q) (h : Fq R (g 2) (g 4) (g 6) (g 7) w) : bH pg mG (aB 1 (aB 1 (aB 4 lR))) Q g w :=
 dR (kn := no) (l := []) h eQ hr trivial
def FC (kn : K6) (k0 : K4) (pK CS t4 Gi oQ i_8 : aJb) (w : aJa) : Prop :=
 aC pg (aG .lss 3 aM aM i_8 pK) w fun t37 w =>
 eN t37
  (aC pg (aG .mul 73 aM aM oQ (.int .u64 2)) w fun t41 w =>
  aC pg (aL 82 CS 1) w fun t42 w =>
  aC pg (aH 3 t42) w fun t43 w =>
  aC pg (aG .add 3 aM aM t43 (.int .i64 1)) w fun t44 w =>
  aC pg (aL 82 CS 1) w fun t45 w =>
  aC pg (aJ 3 t45 t44) w fun _u w =>
  aC pg (aG .add 3 aM aM i_8 (.int .i64 1)) w fun t39 w =>
  kn pK CS t4 Gi t41 t39 w)
  (k0 CS t4 Gi oQ w)
theorem adS (kn : K6) (k0 : K4) (hn : N6 Q kn 1 2 4 6 7 8) (h0 : E4 Q k0 0 2 4 6 7) (h : FC kn k0 (g 1) (g 2) (g 4) (g 6) (g 7) (g 8) w) : bH pg mG (bI (bI (aB 1 (aD 1 (aB 1 (aB 4 lR)))))) Q g w :=
 dR (kr := no) (l := [(0, fun g w => k0 (g 2) (g 4) (g 6) (g 7) w)]) h hn eQ ⟨h0, trivial⟩
def Nx (k0 : K4) (pK CS t4 Gi oQ i_8 : aJb) (w : aJa) : Prop :=
 cG (fun (X : (aJb × aJb) -> K0) (t : aJb × aJb) (w : aJa) => FC (fun _ _ _ _ oQ i_8 w => X (oQ, i_8) w) k0 pK CS t4 Gi t.1 t.2 w) (oQ, i_8) w
theorem acB (k0 : K4) (h0 : E4 Q k0 0 2 4 6 7) (h : Nx k0 (g 1) (g 2) (g 4) (g 6) (g 7) (g 8) w) : bH pg mG (bI (aB 1 (aD 1 (aB 1 (aB 4 lR))))) Q g w := by
 refine DO (fun g : Env => (g 7, g 8)) (fun X t w => FC (fun _ _ _ _ oQ i_8 w => X (oQ, i_8) w) k0 (g 1) (g 2) (g 4) (g 6) t.1 t.2 w) h (fun X g1 w1 ha hL => ?_)
 rw [<- fE 1 ha, <- fE 2 ha, <- fE 4 ha, <- fE 6 ha] at hL
 exact (adS _ g1 w1 (fun _ _ _ _ oQ i_8 w => X (oQ, i_8) w) k0 (fun _ _ h => h) h0 hL)
def Mi (kn : K4) (pK CS t4 Gi oQ i_8 : aJb) (w : aJa) : Prop :=
 Nx kn pK CS t4 Gi oQ i_8 w
def Mx (kn : K6) (pK CS t4 Gi oQ : aJb) (w : aJa) : Prop :=
 kn pK CS t4 Gi oQ Gi w
theorem aeV (kn : K6) (hn : N6 Q kn 1 2 4 6 7 8) (h : Mx kn (g 1) (g 2) (g 4) (g 6) (g 7) w) : bH pg mG (aD 1 (aD 1 (aB 1 (aB 4 lR)))) Q g w :=
 dR (kr := no) (l := []) h hn eQ trivial
def NV (kn : K4) (pK CS t4 Gi oQ : aJb) (w : aJa) : Prop :=
 Mx (fun pK CS t4 Gi oQ i_8 w => Mi kn pK CS t4 Gi oQ i_8 w) pK CS t4 Gi oQ w
def Nd (R : K1) (pK CS t4 Gi oQ : aJb) (w : aJa) : Prop :=
 NV (fun CS t4 Gi oQ w => Fq R CS t4 Gi oQ w) pK CS t4 Gi oQ w
theorem aaK (kn : K4) (hn : N4 Q kn 2 4 6 7) (h : NV kn (g 1) (g 2) (g 4) (g 6) (g 7) w) : bH pg mG (aD 1 (aB 1 (aB 4 lR))) Q g w :=
 fQ 1 (aeV _ g w (Mi kn) (fun g w h => aK (tX 0 (acB _ g w kn hn h))) h)
def Nf (kn : K5) (pK CS t4 Gi : aJb) (w : aJa) : Prop :=
 aC pg (aL 82 CS 0) w fun t25 w =>
 aC pg (aH 80 t25) w fun t26 w =>
 aC pg (aL 82 CS 0) w fun t27 w =>
 aC pg (aH 80 t27) w fun t28 w =>
 aC pg (jS .len #[80] 3 [t28]) w fun t29 w =>
 aC pg (aG .sub 3 aM aM t29 Gi) w fun t31 w =>
 aC pg (fJ 80 t26 (some t31) none none) w fun t32 w =>
 aR pg yJ #[t32] w fun t33 w =>
 kn pK CS t4 Gi t33 w
theorem afU (kn : K5) (hn : N5 Q kn 1 2 4 6 7) (h : Nf kn (g 1) (g 2) (g 4) (g 6) w) : bH pg mG (aD 1 (aB 4 lR)) Q g w :=
 dR (kr := no) (l := []) h hn eQ trivial
def FI (R : K1) (pK CS t4 Gi : aJb) (w : aJa) : Prop :=
 Nf (fun pK CS t4 Gi oQ w => Nd R pK CS t4 Gi oQ w) pK CS t4 Gi w
def I7 (kn : K4) (R : K1) (Co pK : aJb) (w : aJa) : Prop :=
 aC pg (rA 82 Co) w fun CS w =>
 aC pg (bT 82) w fun t4 w =>
 aC pg (aG .lss 3 aM aM pK (.int .i64 1)) w fun t10 w =>
 Gd (fI t10 false) (fun K => K pK w) w fun t12 w =>
 Gd (fI t10 false) (fun K => aC pg (aG .gtr 3 aM aM t12 (.int .i64 56)) w K) w fun t13 w =>
 aC pg (fR t10 (.bool true) t13) w fun t14 w =>
 eN t14
  (aC pg (aH 82 CS) w fun t15 w =>
  aC pg (aJ 82 t4 t15) w fun _u w =>
  kC pg 82 t4 w fun r0 => R (.tuple #[r0, (.int .u64 0)]) w)
  (aC pg (aL 82 CS 0) w fun t18 w =>
  aC pg (aH 80 t18) w fun t19 w =>
  aC pg (jS .len #[80] 3 [t19]) w fun t20 w =>
  aC pg (aG .gtr 3 aM aM pK t20) w fun t21 w =>
  eN t21
   (aC pg (aL 82 CS 0) w fun t22 w =>
   aC pg (aH 80 t22) w fun t23 w =>
   aC pg (jS .len #[80] 3 [t23]) w fun t24 w =>
   kn pK CS t4 t24 w)
   (kn pK CS t4 pK w))
theorem Zs (kn : K4) (R : K1) (hn : N4 Q kn 1 2 4 6) (hr : HR Fa R Q) (h : I7 kn R (g 0) (g 1) w) : bH pg mG (aD 4 lR) Q g w :=
 dR (l := []) h hn hr trivial
def J3 (R : K1) (Co pK : aJb) (w : aJa) : Prop :=
 I7 (fun pK CS t4 Gi w => FI R pK CS t4 Gi w) R Co pK w
theorem aaA (R : K1) (hr : HR Fa R Q) (h : J3 R (g 0) (g 1) w) : bH pg mG lR Q g w :=
 fQ 4 (Zs _ g w (FI R) R (fun g w h => aK (fQ 1 (afU _ g w (Nd R) (fun g w h => aK (fQ 1 (aaK _ g w (Fq R) (fun g w h => aK (aeU _ g w R hr h)) h))) h))) hr h)
def anU (a0 a1 : aJb) (w : aJa) (R : K1) : Prop :=
 J3 R a0 a1 w
theorem ahC {a0 a1 : aJb} {w : aJa} {R : K1} (h : anU a0 a1 w R) : aR pg uS #[a0, a1] w R := by
 refine rI (ann := mG) Tryd.f61 lR [a0, a1] Fa 57 TrydM.mixed Tryd.func61 ?_
 exact (aaA _ _ _ R (fun _ _ h => h) h)
def TF : FA := ⟨Iz, fun i => match Nat.beq i 6 with | true => .leaf ([5], [(2, 5), (3, 5)]) [(false, []), (false, []), (false, []), (false, []), (false, []), (true, [1, 2]), (false, []), (false, []), (false, []), (false, []), (false, []), (false, [])] | false => .leaf ([], []) []⟩
def Vu : List ResultVar := [.tmp 4, .tmp 5, .tmp 6]
noncomputable def Rf : Code := cU Tryd.f62
def My (R : K1) (aQ iF : aJb) (w : aJa) : Prop :=
 aR pg xV #[aQ] w fun t9 w =>
 aC pg (jS .len #[91] 3 [t9]) w fun t11 w =>
 aC pg (aG .eql 3 (.tmp 11) (.const (.int .i64 0)) t11 (.int .i64 0)) w fun t12 w =>
 eN t12
  (R (.tuple #[(.int .u32 0), (.int .i64 0), (.int .i64 1)]) w)
  (aC pg (aG .lss 3 aM aM iF (.int .i64 0)) w fun t14 w =>
  Gd (fI t14 false) (fun K => K iF w) w fun t16 w =>
  Gd (fI t14 false) (fun K => K t9 w) w fun t17 w =>
  Gd (fI t14 false) (fun K => aC pg (jS .len #[91] 3 [t17]) w K) w fun t18 w =>
  Gd (fI t14 false) (fun K => aC pg (aG .geq 3 aM aM t16 t18) w K) w fun t19 w =>
  aC pg (fR t14 (.bool true) t19) w fun t20 w =>
  eN t20
   (R (.tuple #[(.int .u32 0), (.int .i64 0), (.int .i64 17)]) w)
   ((dr w) = (dr w) /\
   (dr w) = (dr w) /\
   aC pg (bA 91 t9 iF) (dr w) fun t23 w_ => w_ = (dr w) /\
   aC pg (aH 43 t23) (dr w) fun t24 w_ => w_ = (dr w) /\
   (dr w) = (dr w) /\
   aR pg IT #[aQ] (dr w) fun t26 W5 =>
   (eC pg (aH 43 t23) t24 W5 /\ eC pg (bA 91 t9 iF) t23 W5 /\ True) /\
   W5 = W5 /\
   aC pg (bA 77 t26 iF) W5 fun t28 w_ => w_ = W5 /\
   aC pg (aH 3 t28) W5 fun t29 w_ => w_ = W5 /\
   W5 = W5 /\
   W5 = W5 /\
   W5 = W5 /\
   R (.tuple #[t24, t29, (.int .i64 0)]) W5))
theorem aaO (R : K1) (hr : HR Vu R Q) (h : My R (g 0) (g 1) w) : bH pg TF Rf Q g w :=
 dR (kn := no) (l := []) h eQ hr trivial
def akN (a0 a1 : aJb) (w : aJa) (R : K1) : Prop :=
 My R a0 a1 w
theorem ajF {a0 a1 : aJb} {w : aJa} {R : K1} (h : akN a0 a1 w R) : aR pg Iz #[a0, a1] w R := by
 refine rI (ann := TF) Tryd.f62 Rf [a0, a1] Vu 30 TrydM.mixed Tryd.func62 ?_
 exact (aaO _ _ _ R (fun _ _ h => h) h)
def F9 : FA := ⟨qB, fun i => .leaf ([], []) []⟩
def H7 : List ResultVar := [.cell 2 142]
noncomputable def D6 : Code := cU Tryd.f63
def Ab (R : K1) (wB : aJb) (w : aJa) : Prop :=
 aC pg (rA 47 wB) w fun s_1 w =>
 aC pg (bT 142) w fun t2 w =>
 aC pg (aL 47 s_1 0) w fun t3 w =>
 aC pg (aH 43 t3) w fun t4 w =>
 aC pg (aL 47 s_1 2) w fun t5 w =>
 aC pg (aH 43 t5) w fun t6 w =>
 aC pg (aL 47 s_1 1) w fun t7 w =>
 aC pg (aH 43 t7) w fun t8 w =>
 aC pg (bV 142 [(0, t4), (1, t6), (2, t8)]) w fun t9 w =>
 aC pg (aJ 142 t2 t9) w fun _u w =>
 kC pg 142 t2 w fun r0 => R r0 w
theorem QF (R : K1) (hr : HR H7 R Q) (h : Ab R (g 0) w) : bH pg F9 D6 Q g w :=
 dR (kn := no) (l := []) h eQ hr trivial
def Pa (a0 : aJb) (w : aJa) (R : K1) : Prop :=
 Ab R a0 w
theorem Sv {a0 : aJb} {w : aJa} {R : K1} (h : Pa a0 w R) : aR pg qB #[a0] w R := by
 refine rI (ann := F9) Tryd.f63 D6 [a0] H7 10 TrydM.mixed Tryd.func63 ?_
 exact (QF _ _ _ R (fun _ _ h => h) h)
def rN : FA := ⟨QM, fun i => match Nat.beq i 8 with | true => .leaf ([], []) [(false, []), (false, []), (false, []), (false, []), (false, []), (false, []), (false, []), (false, [])] | false => .leaf ([], []) []⟩
def xZ : List ResultVar := [.tmp 4, .tmp 5, .tmp 6]
noncomputable def pS : Code := cU Tryd.f64
def Mc (R : K1)  (w : aJa) : Prop :=
 R (.tuple #[(.int .i64 0), (.int .u32 0), (.int .i64 17)]) w
theorem alE (R : K1) (hr : HR xZ R Q) (h : Mc R w) : bH pg rN (aB 1 (aB 6 pS)) Q g w :=
 dR (kn := no) (l := []) h eQ hr trivial
def LF (kn : K5) (k1 : K0) (R : K1) (iB oZ t58 t59 t60 : aJb) (w : aJa) : Prop :=
 aC pg (aG .lss 3 aM aM t60 t59) w fun t61 w =>
 eN t61
  (aC pg (bA 77 t58 t60) w fun t63 w =>
  aC pg (aH 3 t63) w fun t64 w =>
  aC pg (aG .shl 43 aM aM (.int .u32 1) t64) w fun t67 w =>
  aC pg (aG .lss 43 aM aM iB t67) w fun t68 w =>
  eN t68
   (aC pg (aG .add 3 aM aM oZ t60) w fun t71 w =>
   R (.tuple #[t71, iB, (.int .i64 0)]) w)
   (aC pg (aG .shl 43 aM aM (.int .u32 1) t64) w fun t75 w =>
   aC pg (aG .sub 43 aM aM iB t75) w fun t76 w =>
   aC pg (aG .add 3 aM aM t60 (.int .i64 1)) w fun t77 w =>
   kn t76 oZ t58 t59 t77 w))
  (k1 w)
theorem alO (kn : K5) (k1 : K0) (R : K1) (hn : N5 Q kn 1 7 58 59 60) (h1 : E0 Q k1 1) (hr : HR xZ R Q) (h : LF kn k1 R (g 1) (g 7) (g 58) (g 59) (g 60) w) : bH pg rN (bI (bI (aB 1 (aD 1 (aB 6 pS))))) Q g w :=
 dR (l := [(1, fun g w => k1 w)]) h hn hr ⟨h1, trivial⟩
def To (k1 : K0) (R : K1) (iB oZ t58 t59 t60 : aJb) (w : aJa) : Prop :=
 cG (fun (X : (aJb × aJb) -> K0) (t : aJb × aJb) (w : aJa) => LF (fun iB _ _ _ t60 w => X (iB, t60) w) k1 R t.1 oZ t58 t59 t.2 w) (iB, t60) w
theorem amJ (k1 : K0) (R : K1) (h1 : E0 Q k1 1) (hr : HR xZ R Q) (h : To k1 R (g 1) (g 7) (g 58) (g 59) (g 60) w) : bH pg rN (bI (aB 1 (aD 1 (aB 6 pS)))) Q g w := by
 refine DO (fun g : Env => (g 1, g 60)) (fun X t w => LF (fun iB _ _ _ t60 w => X (iB, t60) w) k1 R t.1 (g 7) (g 58) (g 59) t.2 w) h (fun X g1 w1 ha hL => ?_)
 rw [<- fE 7 ha, <- fE 58 ha, <- fE 59 ha] at hL
 exact (alO _ g1 w1 (fun iB _ _ _ t60 w => X (iB, t60) w) k1 R (fun _ _ h => h) h1 hr hL)
def TY (kn : K0) (R : K1) (iB oZ t58 t59 t60 : aJb) (w : aJa) : Prop :=
 To kn R iB oZ t58 t59 t60 w
def Tl (kn : K5) (iB oZ Oc : aJb) (w : aJa) : Prop :=
 aC pg (jS .len #[77] 3 [Oc]) w fun t59 w =>
 kn iB oZ Oc t59 (.int .i64 0) w
theorem alT (kn : K5) (hn : N5 Q kn 1 7 58 59 60) (h : Tl kn (g 1) (g 7) (g 9) w) : bH pg rN (aD 1 (aD 1 (aB 6 pS))) Q g w :=
 dR (kr := no) (l := []) h hn eQ trivial
def Tk (kn : K0) (R : K1) (iB oZ Oc : aJb) (w : aJa) : Prop :=
 Tl (fun iB oZ t58 t59 t60 w => TY kn R iB oZ t58 t59 t60 w) iB oZ Oc w
def T4 (R : K1) (iB oZ Oc : aJb) (w : aJa) : Prop :=
 Tk (fun  w => Mc R w) R iB oZ Oc w
theorem amA (kn : K0) (R : K1) (hn : N0 Q kn) (hr : HR xZ R Q) (h : Tk kn R (g 1) (g 7) (g 9) w) : bH pg rN (aD 1 (aB 6 pS)) Q g w :=
 fQ 1 (alT _ g w (TY kn R) (fun g w h => aK (tX 1 (amJ _ g w kn R hn hr h))) h)
def S6 (kn : K3) (R : K1) (aQ iB : aJb) (w : aJa) : Prop :=
 aR pg Ck #[aQ] w fun t15 w =>
 aC pg (bB t15 0) w fun t16 w =>
 aC pg (bB t15 1) w fun t17 w =>
 aC pg (bB t15 2) w fun t18 w =>
 aR pg uV #[aQ] w fun t21 w =>
 aC pg (aG .lss 3 aM aM t21 (.int .i64 0)) w fun t22 w =>
 eN t22
  (R (.tuple #[(.int .i64 0), (.int .u32 0), (.int .i64 1)]) w)
  (aC pg (aG .eql 3 (.tmp 24) (.const (.int .i64 1)) aQ (.int .i64 1)) w fun t25 w =>
  Gd (fI t25 true) (fun K => K iB w) w fun t27 w =>
  Gd (fI t25 true) (fun K => aC pg (aG .eql 43 (.tmp 27) (.const (.int .u32 0)) t27 (.int .u32 0)) w K) w fun t28 w =>
  aC pg (fR t25 t28 (.bool false)) w fun t29 w =>
  eN t29
   (R (.tuple #[(.int .i64 0), (.int .u32 0), (.int .i64 17)]) w)
   (aC pg (aG .eql 3 (.tmp 31) (.const (.int .i64 1)) aQ (.int .i64 1)) w fun t32 w =>
   eN t32
    (aR pg rT #[iB] w fun t34 w =>
    aC pg (aG .sub 3 aM aM t34 (.int .i64 1)) w fun t35 w =>
    (dr w) = (dr w) /\
    (dr w) = (dr w) /\
    (dr w) = (dr w) /\
    aC pg (aG .shl 43 aM aM (.int .u32 1) t35) (dr w) fun t39 w_ => w_ = (dr w) /\
    aC pg (aG .sub 43 aM aM iB t39) (dr w) fun t40 w_ => w_ = (dr w) /\
    (dr w) = (dr w) /\
    (dr w) = (dr w) /\
    (dr w) = (dr w) /\
    R (.tuple #[t35, t40, (.int .i64 0)]) (dr w))
    (aC pg (aG .lss 43 aM aM iB t17) w fun t44 w =>
    eN t44
     (R (.tuple #[(.int .i64 0), (.int .u32 0), (.int .i64 17)]) w)
     (aC pg (aG .sub 43 aM aM iB t17) w fun t47 w =>
     aC pg (fM 3 43 t16) w fun t50 w =>
     aC pg (aG .lss 43 aM aM t47 t50) w fun t51 w =>
     eN t51
      (aC pg (fM 43 3 t47) w fun t53 w =>
      R (.tuple #[t53, (.int .u32 0), (.int .i64 0)]) w)
      (aC pg (fM 3 43 t16) w fun t56 w =>
      aC pg (aG .sub 43 aM aM t47 t56) w fun t57 w =>
      kn t57 t16 t18 w)))))
theorem alF (kn : K3) (R : K1) (hn : N3 Q kn 1 7 9) (hr : HR xZ R Q) (h : S6 kn R (g 0) (g 1) w) : bH pg rN (aD 6 pS) Q g w :=
 dR (l := []) h hn hr trivial
def S5 (R : K1) (aQ iB : aJb) (w : aJa) : Prop :=
 S6 (fun iB oZ Oc w => T4 R iB oZ Oc w) R aQ iB w
theorem anS (R : K1) (hr : HR xZ R Q) (h : S5 R (g 0) (g 1) w) : bH pg rN pS Q g w :=
 fQ 6 (alF _ g w (T4 R) R (fun g w h => aK (fQ 1 (amA _ g w (fun  w => Mc R w) R (fun g w h => aK (alE _ g w R hr h)) hr h))) hr h)
def atW (a0 a1 : aJb) (w : aJa) (R : K1) : Prop :=
 S5 R a0 a1 w
theorem aoU {a0 a1 : aJb} {w : aJa} {R : K1} (h : atW a0 a1 w R) : aR pg QM #[a0, a1] w R := by
 refine rI (ann := rN) Tryd.f64 pS [a0, a1] xZ 78 TrydM.mixed Tryd.func64 ?_
 exact (anS _ _ _ R (fun _ _ h => h) h)
def Tz : FA := ⟨uV, fun i => .leaf ([], []) []⟩
def Vq : List ResultVar := [.tmp 2]
noncomputable def RF : Code := cU Tryd.f65
def Nh (R : K1) (aQ : aJb) (w : aJa) : Prop :=
 aC pg (aG .eql 3 (.tmp 6) (.const (.int .i64 1)) aQ (.int .i64 1)) w fun t7 w =>
 eN t7
  (R (.int .i64 31) w)
  (aR pg Ck #[aQ] w fun t10 w =>
  aC pg (bB t10 0) w fun t11 w =>
  aC pg (bB t10 1) w fun t12 w =>
  aC pg (bB t10 2) w fun t13 w =>
  aC pg (jS .len #[77] 3 [t13]) w fun t16 w =>
  aC pg (aG .add 3 aM aM t11 t16) w fun t17 w =>
  aC pg (aG .sub 3 aM aM t17 (.int .i64 1)) w fun t18 w =>
  R t18 w)
theorem aaG (R : K1) (hr : HR Vq R Q) (h : Nh R (g 0) w) : bH pg Tz RF Q g w :=
 dR (kn := no) (l := []) h eQ hr trivial
def akZ (a0 : aJb) (w : aJa) (R : K1) : Prop :=
 Nh R a0 w
theorem ajX {a0 : aJb} {w : aJa} {R : K1} (h : akZ a0 w R) : aR pg uV #[a0] w R := by
 refine rI (ann := Tz) Tryd.f65 RF [a0] Vq 19 TrydM.mixed Tryd.func65 ?_
 exact (aaG _ _ _ R (fun _ _ h => h) h)
def Pc : FA := ⟨yP, fun i => .leaf ([], []) []⟩
def Rr : List ResultVar := [.cell 2 145]
noncomputable def LK : Code := cU Tryd.f66
def Gw (R : K1) (aQ : aJb) (w : aJa) : Prop :=
 aC pg (bT 145) w fun t2 w =>
 aC pg (aG .eql 3 (.tmp 6) (.const (.int .i64 0)) aQ (.int .i64 0)) w fun t8 w =>
 eN t8
  (aC pg (aH 174 (.pointer (some ⟨0, 0, none⟩))) w fun t9 w =>
  aC pg (bT 174) w fun l_3 w =>
  aC pg (aJ 174 l_3 t9) w fun _u w =>
  aC pg (fJ 174 l_3 none none none) w fun t10 w =>
  aC pg (bV 145 [(0, (.int .i64 6)), (1, t10)]) w fun t11 w =>
  aC pg (aJ 145 t2 t11) w fun _u w =>
  kC pg 145 t2 w fun r0 => R r0 w)
  (aC pg (aG .eql 3 (.tmp 6) (.const (.int .i64 1)) aQ (.int .i64 1)) w fun t13 w =>
  eN t13
   (aC pg (aH 175 (.pointer (some ⟨1, 0, none⟩))) w fun t14 w =>
   aC pg (bT 175) w fun l_4 w =>
   aC pg (aJ 175 l_4 t14) w fun _u w =>
   aC pg (fJ 175 l_4 none none none) w fun t15 w =>
   aC pg (bV 145 [(0, (.int .i64 5)), (1, t15)]) w fun t16 w =>
   aC pg (aJ 145 t2 t16) w fun _u w =>
   kC pg 145 t2 w fun r0 => R r0 w)
   (aC pg (aG .eql 3 (.tmp 6) (.const (.int .i64 2)) aQ (.int .i64 2)) w fun t18 w =>
   eN t18
    (aC pg (aH 176 (.pointer (some ⟨2, 0, none⟩))) w fun t19 w =>
    aC pg (bT 176) w fun l_5 w =>
    aC pg (aJ 176 l_5 t19) w fun _u w =>
    aC pg (fJ 176 l_5 none none none) w fun t20 w =>
    aC pg (bV 145 [(0, (.int .i64 6)), (1, t20)]) w fun t21 w =>
    aC pg (aJ 145 t2 t21) w fun _u w =>
    kC pg 145 t2 w fun r0 => R r0 w)
    (aC pg (bV 145 []) w fun t22 w =>
    aC pg (aJ 145 t2 t22) w fun _u w =>
    kC pg 145 t2 w fun r0 => R r0 w)))
theorem WA (R : K1) (hr : HR Rr R Q) (h : Gw R (g 0) w) : bH pg Pc LK Q g w :=
 dR (kn := no) (l := []) h eQ hr trivial
def ZW (a0 : aJb) (w : aJa) (R : K1) : Prop :=
 Gw R a0 w
theorem Zj {a0 : aJb} {w : aJa} {R : K1} (h : ZW a0 w R) : aR pg yP #[a0] w R := by
 refine rI (ann := Pc) Tryd.f66 LK [a0] Rr 23 TrydM.mixed Tryd.func66 ?_
 exact (WA _ _ _ R (fun _ _ h => h) h)
def fX : FA := ⟨rZ, fun i => match Nat.beq i 3 with | true => .split 3 5 (.perm [0, 1, 2, 3, 4, 5, 6] [(3, 5)] ([3, 5, 6], [(0, 3), (0, 5), (1, 3), (1, 5), (4, 5)]) [(false, []), (false, []), (false, []), (true, [1, 2]), (false, []), (true, [0, 3, 4]), (true, [])]) (.perm [0, 1, 2, 5, 3, 4, 6] [(5, 3)] ([3, 4, 6], [(0, 3), (0, 4), (1, 3), (1, 4), (2, 3)]) [(false, []), (false, []), (false, []), (true, [0, 1, 2]), (true, [2, 3]), (false, []), (true, [])]) | false => match Nat.beq i 16 with | true => .leaf ([5, 10], [(1, 5), (2, 5)]) [(false, []), (false, []), (false, []), (false, []), (false, []), (true, [2, 3]), (false, []), (false, []), (false, []), (false, []), (true, [])] | false => match Nat.beq i 17 with | true => .leaf ([13], []) [(false, []), (false, []), (false, []), (false, []), (false, []), (false, []), (false, []), (false, []), (false, []), (false, []), (false, []), (false, []), (false, []), (true, [])] | false => .leaf ([], []) []⟩
def IU : List ResultVar := [.cell 2 27, .tmp 3]
noncomputable def fB : Code := cU Tryd.f67
def Is (R : K1) (t2 t4 : aJb) (w : aJa) : Prop :=
 aC pg (aH 27 t4) w fun t90 w =>
 aC pg (aJ 27 t2 t90) w fun _u w =>
 kC pg 27 t2 w fun r0 => R (.tuple #[r0, (.int .i64 0)]) w
theorem ahI (R : K1) (hr : HR IU R Q) (h : Is R (g 2) (g 4) w) : bH pg fX (aB 1 (aB 1 (aB 1 (aB 3 fB)))) Q g w :=
 dR (kn := no) (l := []) h eQ hr trivial
def IN (kn : K6) (bJ t2 t4 dQ t42 t43 : aJb) (w : aJa) : Prop :=
 aC pg (aG .add 3 aM aM t43 (.int .i64 1)) w fun t89 w =>
 kn bJ t2 t4 dQ t42 t89 w
theorem ahN (kn : K6) (hn : N6 Q kn 1 2 4 5 42 43) (h : IN kn (g 1) (g 2) (g 4) (g 5) (g 42) (g 43) w) : bH pg fX (aB 1 (aB 2 (bI (bI (aB 1 (aD 1 (aB 1 (aB 1 (aB 3 fB))))))))) Q g w :=
 dR (kr := no) (l := []) h hn eQ trivial
def IJ (kn : K6) (bJ t2 t4 dQ x_9 Z5 t42 t43 : aJb) (w : aJa) : Prop :=
 (dr w) = (dr w) /\
 (dr w) = (dr w) /\
 (dr w) = (dr w) /\
 aC pg (pV x_9) (dr w) fun t79 w_ => w_ = (dr w) /\
 aC pg (aL 123 t79 1) (dr w) fun t80 w_ => w_ = (dr w) /\
 aC pg (aH 3 t80) (dr w) fun t81 w_ => w_ = (dr w) /\
 aC pg (aG .shl 3 aM aM Z5 t81) (dr w) fun t82 w_ => w_ = (dr w) /\
 aC pg (aL 27 t4 1) (dr w) fun t83 w_ => w_ = (dr w) /\
 aC pg (aH 25 t83) (dr w) fun t84 w_ => w_ = (dr w) /\
 aC pg (jS .len #[25] 3 [t84]) (dr w) fun t85 w_ => w_ = (dr w) /\
 aC pg (aG .sub 3 aM aM t82 t85) (dr w) fun t86 w_ => w_ = (dr w) /\
 aC pg (pV x_9) (dr w) fun t87 w_ => w_ = (dr w) /\
 aC pg (aL 123 t87 2) (dr w) fun t88 w_ => w_ = (dr w) /\
 aC pg (aJ 3 t88 t86) (dr w) fun _u13 aFq =>
 kn bJ t2 t4 dQ t42 t43 aFq
theorem aiR (kn : K6) (hn : N6 Q kn 1 2 4 5 42 43) (h : IJ kn (g 1) (g 2) (g 4) (g 5) (g 9) (g 10) (g 42) (g 43) w) : bH pg fX (aB 1 (aB 4 (bI (aD 1 (aB 2 (bI (bI (aB 1 (aD 1 (aB 1 (aB 1 (aB 3 fB)))))))))))) Q g w :=
 dR (kr := no) (l := []) h hn eQ trivial
def Qh (kn : K8) (bJ t2 t4 dQ x_9 Z5 t42 t43 : aJb) (w : aJa) : Prop :=
 (dr w) = (dr w) /\
 aC pg (aL 145 bJ 0) (dr w) fun t67 w_ => w_ = (dr w) /\
 aC pg (aH 3 t67) (dr w) fun t68 w_ => w_ = (dr w) /\
 (dr w) = (dr w) /\
 aC pg (fM 3 94 Z5) (dr w) fun t70 w_ => w_ = (dr w) /\
 aR pg rG #[t70] (dr w) fun t71 Uh =>
 (eC pg (aH 3 t67) t68 Uh /\ eC pg (aL 145 bJ 0) t67 Uh /\ True) /\
 aC pg (aG .sub 3 aM aM t68 t71) Uh fun t72 w_ => w_ = Uh /\
 aC pg (aG .add 3 aM aM t72 (.int .i64 1)) Uh fun t73 w_ => w_ = Uh /\
 aC pg (pV x_9) Uh fun t74 w_ => w_ = Uh /\
 aC pg (aL 123 t74 1) Uh fun t75 w_ => w_ = Uh /\
 aC pg (aJ 3 t75 t73) Uh fun _u10 aFj =>
 kn bJ t2 t4 dQ x_9 Z5 t42 t43 aFj
theorem aiP (kn : K8) (hn : N8 Q kn 1 2 4 5 9 10 42 43) (h : Qh kn (g 1) (g 2) (g 4) (g 5) (g 9) (g 10) (g 42) (g 43) w) : bH pg fX (aD 1 (aB 4 (bI (aD 1 (aB 2 (bI (bI (aB 1 (aD 1 (aB 1 (aB 1 (aB 3 fB)))))))))))) Q g w :=
 dR (kr := no) (l := []) h hn eQ trivial
def Qi (kn : K6) (bJ t2 t4 dQ x_9 Z5 t42 t43 : aJb) (w : aJa) : Prop :=
 Qh (fun bJ t2 t4 dQ x_9 Z5 t42 t43 w => IJ kn bJ t2 t4 dQ x_9 Z5 t42 t43 w) bJ t2 t4 dQ x_9 Z5 t42 t43 w
def Qk (kn : K8) (bJ t2 t4 dQ t42 t43 : aJb) (w : aJa) : Prop :=
 aC pg (aL 27 t4 1) w fun t46 w =>
 aC pg (aH 25 t46) w fun t47 w =>
 aC pg (bA 25 t47 t43) w fun t49 w =>
 aC pg (pV t49) w fun t52 w =>
 aC pg (aL 123 t52 0) w fun t53 w =>
 aC pg (aH 5 t53) w fun t54 w =>
 aC pg (bA 77 dQ t54) w fun t55 w =>
 aC pg (aH 3 t55) w fun t56 w =>
 aC pg (pV t49) w fun t59 w =>
 aC pg (aL 123 t59 0) w fun t60 w =>
 aC pg (aH 5 t60) w fun t61 w =>
 aC pg (bA 77 dQ t61) w fun t62 w =>
 aC pg (aH 3 t62) w fun t63 w =>
 aC pg (aG .add 3 aM aM t63 (.int .i64 1)) w fun t64 w =>
 aC pg (bA 77 dQ t61) w fun t65 w =>
 aC pg (aJ 3 t65 t64) w fun _u w =>
 kn bJ t2 t4 dQ t49 t56 t42 t43 w
theorem ahP (kn : K8) (hn : N8 Q kn 1 2 4 5 9 10 42 43) (h : Qk kn (g 1) (g 2) (g 4) (g 5) (g 42) (g 43) w) : bH pg fX (aD 4 (bI (aD 1 (aB 2 (bI (bI (aB 1 (aD 1 (aB 1 (aB 1 (aB 3 fB))))))))))) Q g w :=
 dR (kr := no) (l := []) h hn eQ trivial
def XH (kn : K6) (bJ t2 t4 dQ t42 t43 : aJb) (w : aJa) : Prop :=
 Qk (fun bJ t2 t4 dQ x_9 Z5 t42 t43 w => Qi kn bJ t2 t4 dQ x_9 Z5 t42 t43 w) bJ t2 t4 dQ t42 t43 w
def PE (kn : K6) (bJ t2 t4 dQ t42 t43 : aJb) (w : aJa) : Prop :=
 XH kn bJ t2 t4 dQ t42 t43 w
def ID (kn : K6) (bJ t2 t4 dQ t42 t43 : aJb) (w : aJa) : Prop :=
 PE (fun bJ t2 t4 dQ t42 t43 w => IN kn bJ t2 t4 dQ t42 t43 w) bJ t2 t4 dQ t42 t43 w
theorem aiC (kn : K6) (hn : N6 Q kn 1 2 4 5 42 43) (h : PE kn (g 1) (g 2) (g 4) (g 5) (g 42) (g 43) w) : bH pg fX (aD 1 (aB 2 (bI (bI (aB 1 (aD 1 (aB 1 (aB 1 (aB 3 fB))))))))) Q g w :=
 tX 3 (fQ 4 (ahP _ g w (Qi kn) (fun g w h => aK (fQ 1 (aiP _ g w (IJ kn) (fun g w h => aK (aiR _ g w kn hn h)) h))) h))
def MF (kn : K6) (k2 : K2) (bJ t2 t4 dQ t42 t43 : aJb) (w : aJa) : Prop :=
 aC pg (aG .lss 3 aM aM t43 t42) w fun t44 w =>
 eN t44
  (kn bJ t2 t4 dQ t42 t43 w)
  (k2 t2 t4 w)
theorem acN (kn : K6) (k2 : K2) (hn : N6 Q kn 1 2 4 5 42 43) (h2 : E2 Q k2 2 2 4) (h : MF kn k2 (g 1) (g 2) (g 4) (g 5) (g 42) (g 43) w) : bH pg fX (aD 2 (bI (bI (aB 1 (aD 1 (aB 1 (aB 1 (aB 3 fB)))))))) Q g w :=
 dR (kr := no) (l := [(2, fun g w => k2 (g 2) (g 4) w)]) h hn eQ ⟨h2, trivial⟩
def Fk (kn : K6) (k2 : K2) (bJ t2 t4 dQ t42 t43 : aJb) (w : aJa) : Prop :=
 MF (fun bJ t2 t4 dQ t42 t43 w => ID kn bJ t2 t4 dQ t42 t43 w) k2 bJ t2 t4 dQ t42 t43 w
def Mj (k2 : K2) (bJ t2 t4 dQ t42 t43 : aJb) (w : aJa) : Prop :=
 cG (fun (X : aJb -> K0) (t : aJb) (w : aJa) => Fk (fun _ _ _ _ _ t43 w => X t43 w) k2 bJ t2 t4 dQ t42 t w) t43 w
theorem afD (kn : K6) (k2 : K2) (hn : N6 Q kn 1 2 4 5 42 43) (h2 : E2 Q k2 2 2 4) (h : Fk kn k2 (g 1) (g 2) (g 4) (g 5) (g 42) (g 43) w) : bH pg fX (bI (bI (aB 1 (aD 1 (aB 1 (aB 1 (aB 3 fB))))))) Q g w :=
 fQ 2 (acN _ g w (ID kn) k2 (fun g w h => aK (fQ 1 (aiC _ g w (IN kn) (fun g w h => aK (ahN _ g w kn hn h)) h))) h2 h)
theorem aeN (k2 : K2) (h2 : E2 Q k2 2 2 4) (h : Mj k2 (g 1) (g 2) (g 4) (g 5) (g 42) (g 43) w) : bH pg fX (bI (aB 1 (aD 1 (aB 1 (aB 1 (aB 3 fB)))))) Q g w := by
 refine DO (fun g : Env => g 43) (fun X t w => Fk (fun _ _ _ _ _ t43 w => X t43 w) k2 (g 1) (g 2) (g 4) (g 5) (g 42) t w) h (fun X g1 w1 ha hL => ?_)
 rw [<- fE 1 ha, <- fE 2 ha, <- fE 4 ha, <- fE 5 ha, <- fE 42 ha] at hL
 exact (afD _ g1 w1 (fun _ _ _ _ _ t43 w => X t43 w) k2 (fun _ _ h => h) h2 hL)
def NY (kn : K2) (bJ t2 t4 dQ t42 t43 : aJb) (w : aJa) : Prop :=
 Mj kn bJ t2 t4 dQ t42 t43 w
def Mo (kn : K6) (bJ t2 t4 dQ : aJb) (w : aJa) : Prop :=
 aC pg (aL 27 t4 1) w fun t40 w =>
 aC pg (aH 25 t40) w fun t41 w =>
 aC pg (jS .len #[25] 3 [t41]) w fun t42 w =>
 kn bJ t2 t4 dQ t42 (.int .i64 0) w
theorem adG (kn : K6) (hn : N6 Q kn 1 2 4 5 42 43) (h : Mo kn (g 1) (g 2) (g 4) (g 5) w) : bH pg fX (aD 1 (aD 1 (aB 1 (aB 1 (aB 3 fB))))) Q g w :=
 dR (kr := no) (l := []) h hn eQ trivial
def M7 (kn : K2) (bJ t2 t4 dQ : aJb) (w : aJa) : Prop :=
 Mo (fun bJ t2 t4 dQ t42 t43 w => NY kn bJ t2 t4 dQ t42 t43 w) bJ t2 t4 dQ w
def Fl (R : K1) (bJ t2 t4 dQ : aJb) (w : aJa) : Prop :=
 M7 (fun t2 t4 w => Is R t2 t4 w) bJ t2 t4 dQ w
theorem aeX (kn : K2) (hn : N2 Q kn 2 4) (h : M7 kn (g 1) (g 2) (g 4) (g 5) w) : bH pg fX (aD 1 (aB 1 (aB 1 (aB 3 fB)))) Q g w :=
 fQ 1 (adG _ g w (NY kn) (fun g w h => aK (tX 2 (aeN _ g w kn hn h))) h)
def AG (kn : K7) (k0 : K4) (bJ t2 t4 dQ t25 t26 t27 : aJb) (w : aJa) : Prop :=
 aC pg (aG .lss 3 aM aM t27 t26) w fun t28 w =>
 eN t28
  (aC pg (bA 77 t25 t27) w fun t30 w =>
  aC pg (aH 3 t30) w fun t31 w =>
  aC pg (sUn .neg t31) w fun t36 w =>
  aC pg (jS .max #[3, 3] 3 [t31, t36]) w fun t37 w =>
  aC pg (bA 77 dQ t27) w fun t38 w =>
  aC pg (aJ 3 t38 t37) w fun _u w =>
  aC pg (aG .add 3 aM aM t27 (.int .i64 1)) w fun t39 w =>
  kn bJ t2 t4 dQ t25 t26 t39 w)
  (k0 bJ t2 t4 dQ w)
theorem aaL (kn : K7) (k0 : K4) (hn : N7 Q kn 1 2 4 5 25 26 27) (h0 : E4 Q k0 0 1 2 4 5) (h : AG kn k0 (g 1) (g 2) (g 4) (g 5) (g 25) (g 26) (g 27) w) : bH pg fX (bI (bI (aB 1 (aD 1 (aB 1 (aB 3 fB)))))) Q g w :=
 dR (kr := no) (l := [(0, fun g w => k0 (g 1) (g 2) (g 4) (g 5) w)]) h hn eQ ⟨h0, trivial⟩
def Nu (k0 : K4) (bJ t2 t4 dQ t25 t26 t27 : aJb) (w : aJa) : Prop :=
 cG (fun (X : aJb -> K0) (t : aJb) (w : aJa) => AG (fun _ _ _ _ _ _ t27 w => X t27 w) k0 bJ t2 t4 dQ t25 t26 t w) t27 w
theorem adE (k0 : K4) (h0 : E4 Q k0 0 1 2 4 5) (h : Nu k0 (g 1) (g 2) (g 4) (g 5) (g 25) (g 26) (g 27) w) : bH pg fX (bI (aB 1 (aD 1 (aB 1 (aB 3 fB))))) Q g w := by
 refine DO (fun g : Env => g 27) (fun X t w => AG (fun _ _ _ _ _ _ t27 w => X t27 w) k0 (g 1) (g 2) (g 4) (g 5) (g 25) (g 26) t w) h (fun X g1 w1 ha hL => ?_)
 rw [<- fE 1 ha, <- fE 2 ha, <- fE 4 ha, <- fE 5 ha, <- fE 25 ha, <- fE 26 ha] at hL
 exact (aaL _ g1 w1 (fun _ _ _ _ _ _ t27 w => X t27 w) k0 (fun _ _ h => h) h0 hL)
def NL (kn : K4) (bJ t2 t4 dQ t25 t26 t27 : aJb) (w : aJa) : Prop :=
 Nu kn bJ t2 t4 dQ t25 t26 t27 w
def Oe (kn : K7) (bJ t2 t4 dQ : aJb) (w : aJa) : Prop :=
 aC pg (aL 145 bJ 1) w fun t24 w =>
 aC pg (aH 77 t24) w fun t25 w =>
 aC pg (jS .len #[77] 3 [t25]) w fun t26 w =>
 kn bJ t2 t4 dQ t25 t26 (.int .i64 0) w
theorem adC (kn : K7) (hn : N7 Q kn 1 2 4 5 25 26 27) (h : Oe kn (g 1) (g 2) (g 4) (g 5) w) : bH pg fX (aD 1 (aD 1 (aB 1 (aB 3 fB)))) Q g w :=
 dR (kr := no) (l := []) h hn eQ trivial
def NW (kn : K4) (bJ t2 t4 dQ : aJb) (w : aJa) : Prop :=
 Oe (fun bJ t2 t4 dQ t25 t26 t27 w => NL kn bJ t2 t4 dQ t25 t26 t27 w) bJ t2 t4 dQ w
def Nk (R : K1) (bJ t2 t4 dQ : aJb) (w : aJa) : Prop :=
 NW (fun bJ t2 t4 dQ w => Fl R bJ t2 t4 dQ w) bJ t2 t4 dQ w
theorem abB (kn : K4) (hn : N4 Q kn 1 2 4 5) (h : NW kn (g 1) (g 2) (g 4) (g 5) w) : bH pg fX (aD 1 (aB 1 (aB 3 fB))) Q g w :=
 fQ 1 (adC _ g w (NL kn) (fun g w h => aK (tX 0 (adE _ g w kn hn h))) h)
def Nj (kn : K4) (bJ t2 t4 : aJb) (w : aJa) : Prop :=
 aC pg (aL 145 bJ 1) w fun t20 w =>
 aC pg (aH 77 t20) w fun t21 w =>
 aC pg (jS .len #[77] 3 [t21]) w fun t22 w =>
 aC pg (yK 77 t22 t22) w fun t23 w =>
 kn bJ t2 t4 t23 w
theorem abX (kn : K4) (hn : N4 Q kn 1 2 4 5) (h : Nj kn (g 1) (g 2) (g 4) w) : bH pg fX (aD 1 (aB 3 fB)) Q g w :=
 dR (kr := no) (l := []) h hn eQ trivial
def AI (R : K1) (bJ t2 t4 : aJb) (w : aJa) : Prop :=
 Nj (fun bJ t2 t4 dQ w => Nk R bJ t2 t4 dQ w) bJ t2 t4 w
def FX (kn : K3) (R : K1) (c_0 : aJb) (w : aJa) : Prop :=
 aC pg (rA 145 c_0) w fun bJ w =>
 aC pg (bT 27) w fun t2 w =>
 aC pg (aH 145 bJ) w fun t11 w =>
 aR pg Cv #[t11, (.int .i64 15)] w fun t12 w =>
 aC pg (aG .neq 30 (.tmp 12) (.const (.int .i64 0)) t12 (.int .i64 0)) w fun t13 w =>
 eN t13
  (aC pg (bV 27 []) w fun t14 w =>
  aC pg (aJ 27 t2 t14) w fun _u w =>
  kC pg 27 t2 w fun r0 => R (.tuple #[r0, (.int .i64 1)]) w)
  (Ord (aoR rZ 3 (Ia 3 fB) 3 5 w)
   (aC pg (aL 145 bJ 0) (dr w) fun t15 w_ => w_ = (dr w) /\
   aC pg (aH 3 t15) (dr w) fun t16 w_ => w_ = (dr w) /\
   aC pg (aH 145 bJ) (dr w) fun t17 w_ => w_ = (dr w) /\
   aR pg Dq #[t17] (dr w) fun t18 aoQ =>
   (eC pg (aH 3 t15) t16 aoQ /\ eC pg (aL 145 bJ 0) t15 aoQ /\ True) /\
   aC pg (bV 27 [(0, t16), (1, t18)]) aoQ fun t19 w_ => w_ = aoQ /\
   aC pg (bT 27) aoQ fun t4 aEq =>
   (eC pg (bV 27 [(0, t16), (1, t18)]) t19 aEq /\ eC pg (aH 3 t15) t16 aEq /\ eC pg (aL 145 bJ 0) t15 aEq /\ True) /\
   aC pg (aJ 27 t4 t19) aEq fun _u6 aFe =>
   kn bJ t2 t4 aFe)
   (aC pg (aL 145 bJ 0) (dr w) fun t15 w_ => w_ = (dr w) /\
   aC pg (aH 3 t15) (dr w) fun t16 w_ => w_ = (dr w) /\
   aC pg (aH 145 bJ) (dr w) fun t17 w_ => w_ = (dr w) /\
   aC pg (bT 27) (dr w) fun t4 aoQ =>
   (eC pg (aH 145 bJ) t17 aoQ /\ eC pg (aH 3 t15) t16 aoQ /\ eC pg (aL 145 bJ 0) t15 aoQ /\ True) /\
   aR pg Dq #[t17] aoQ fun t18 SH =>
   (eC pg (aH 3 t15) t16 SH /\ eC pg (aL 145 bJ 0) t15 SH /\ True) /\
   aC pg (bV 27 [(0, t16), (1, t18)]) SH fun t19 w_ => w_ = SH /\
   aC pg (aJ 27 t4 t19) SH fun _u6 aFe =>
   kn bJ t2 t4 aFe))
theorem aeI (kn : K3) (R : K1) (hn : N3 Q kn 1 2 4) (hr : HR IU R Q) (h : FX kn R (g 0) w) : bH pg fX (aD 3 fB) Q g w :=
 dR (l := []) h hn hr trivial
def Fu (R : K1) (c_0 : aJb) (w : aJa) : Prop :=
 FX (fun bJ t2 t4 w => AI R bJ t2 t4 w) R c_0 w
theorem aeW (R : K1) (hr : HR IU R Q) (h : Fu R (g 0) w) : bH pg fX fB Q g w :=
 fQ 3 (aeI _ g w (AI R) R (fun g w h => aK (fQ 1 (abX _ g w (Nk R) (fun g w h => aK (fQ 1 (abB _ g w (Fl R) (fun g w h => aK (fQ 1 (aeX _ g w (Is R) (fun g w h => aK (ahI _ g w R hr h)) h))) h))) h))) hr h)
def adK (a0 : aJb) (w : aJa) (R : K1) : Prop :=
 Fu R a0 w
theorem Ub {a0 : aJb} {w : aJa} {R : K1} (h : adK a0 w R) : aR pg rZ #[a0] w R := by
 refine rI (ann := fX) Tryd.f67 fB [a0] IU 91 TrydM.mixed Tryd.func67 ?_
 exact (aeW _ _ _ R (fun _ _ h => h) h)
def gV : FA := ⟨B9, fun i => match Nat.beq i 22 with | true => .leaf ([], []) [(false, []), (false, []), (false, []), (false, []), (false, []), (false, []), (false, []), (false, []), (false, []), (false, []), (false, [])] | false => .leaf ([], []) []⟩
def Iv : List ResultVar := [.cell 4 145, .tmp 5]
noncomputable def gB : Code := cU Tryd.f68
def DB (R : K1) (t4 sD gF cH : aJb) (w : aJa) : Prop :=
 aC pg (aL 145 sD 1) w fun t120 w =>
 aC pg (aH 77 t120) w fun t121 w =>
 aC pg (bA 77 t121 cH) w fun t123 w =>
 aC pg (aH 3 t123) w fun t124 w =>
 aC pg (aG .add 3 aM aM t124 gF) w fun t126 w =>
 aC pg (bA 77 t121 cH) w fun t127 w =>
 aC pg (aJ 3 t127 t126) w fun _u w =>
 aC pg (aH 145 sD) w fun t128 w =>
 aC pg (aJ 145 t4 t128) w fun _u w =>
 kC pg 145 t4 w fun r0 => R (.tuple #[r0, (.int .i64 0)]) w
theorem ajK (R : K1) (hr : HR Iv R Q) (h : DB R (g 4) (g 11) (g 12) (g 13) w) : bH pg gV (aB 1 (aB 4 (aB 1 (aB 3 gB)))) Q g w :=
 dR (kn := no) (l := []) h eQ hr trivial
def IF (kn : Aw) (fK t4 fN t7 sD gF cH t78 t79 t80 : aJb) (w : aJa) : Prop :=
 aC pg (aG .add 3 aM aM t80 (.int .i64 1)) w fun t119 w =>
 kn fK t4 fN t7 sD gF cH t78 t79 t119 w
theorem ahE (kn : Aw) (hn : N10 Q kn 1 4 6 7 11 12 13 78 79 80) (h : IF kn (g 1) (g 4) (g 6) (g 7) (g 11) (g 12) (g 13) (g 78) (g 79) (g 80) w) : bH pg gV (aB 3 (bI (bI (aB 1 (aD 1 (aB 4 (aB 1 (aB 3 gB)))))))) Q g w :=
 dR (kr := no) (l := []) h hn eQ trivial
def Qr (kn : Aw) (k2 : K4) (fK t4 fN t7 sD gF cH t78 t79 t80 : aJb) (w : aJa) : Prop :=
 aC pg (aG .lss 3 aM aM t80 t79) w fun t81 w =>
 eN t81
  (aC pg (bA 91 t78 t80) w fun t83 w =>
  aC pg (aH 43 t83) w fun t84 w =>
  aC pg (aG .eql 43 (.tmp 85) (.const (.int .u32 0)) t84 (.int .u32 0)) w fun t86 w =>
  eN t86
   (kn fK t4 fN t7 sD gF cH t78 t79 t80 w)
   (aC pg (fM 43 73 t84) w fun t88 w =>
   aC pg (aG .shl 3 aM aM (.int .i64 1) fK) w fun t90 w =>
   aC pg (aG .sub 3 aM aM t90 t7) w fun t92 w =>
   aC pg (fM 3 73 t92) w fun t93 w =>
   aC pg (aG .mul 73 aM aM t88 t93) w fun t94 w =>
   aC pg (aG .quo 73 aM aM t94 fN) w fun t96 w =>
   aC pg (fM 73 3 t96) w fun t97 w =>
   aC pg (aL 145 sD 1) w fun t98 w =>
   aC pg (aH 77 t98) w fun t99 w =>
   aC pg (aG .add 3 aM aM (.int .i64 1) t97) w fun t102 w =>
   aC pg (bA 77 t99 t80) w fun t103 w =>
   aC pg (aJ 3 t103 t102) w fun _u w =>
   aC pg (aG .sub 3 aM aM gF t97) w fun t106 w =>
   aC pg (aL 145 sD 1) (dr w) fun t107 w_ => w_ = (dr w) /\
   aC pg (aH 77 t107) (dr w) fun t108 w_ => w_ = (dr w) /\
   (dr w) = (dr w) /\
   aC pg (bA 77 t108 t80) (dr w) fun t110 w_ => w_ = (dr w) /\
   aC pg (aH 3 t110) (dr w) fun t111 w_ => w_ = (dr w) /\
   aC pg (aL 145 sD 1) (dr w) fun t112 w_ => w_ = (dr w) /\
   aC pg (aH 77 t112) (dr w) fun t113 w_ => w_ = (dr w) /\
   (dr w) = (dr w) /\
   aC pg (bA 77 t113 cH) (dr w) fun t115 w_ => w_ = (dr w) /\
   aC pg (aH 3 t115) (dr w) fun t116 w_ => w_ = (dr w) /\
   aC pg (aG .gtr 3 aM aM t111 t116) (dr w) fun t117 w_ => w_ = (dr w) /\
   eN t117
    (kn fK t4 fN t7 sD t106 t80 t78 t79 t80 (dr w))
    (kn fK t4 fN t7 sD t106 cH t78 t79 t80 (dr w))))
  (k2 t4 sD gF cH w)
theorem ajN (kn : Aw) (k2 : K4) (hn : N10 Q kn 1 4 6 7 11 12 13 78 79 80) (h2 : E4 Q k2 2 4 11 12 13) (h : Qr kn k2 (g 1) (g 4) (g 6) (g 7) (g 11) (g 12) (g 13) (g 78) (g 79) (g 80) w) : bH pg gV (aD 3 (bI (bI (aB 1 (aD 1 (aB 4 (aB 1 (aB 3 gB)))))))) Q g w :=
 dR (kr := no) (l := [(2, fun g w => k2 (g 4) (g 11) (g 12) (g 13) w)]) h hn eQ ⟨h2, trivial⟩
def IY (kn : Aw) (k2 : K4) (fK t4 fN t7 sD gF cH t78 t79 t80 : aJb) (w : aJa) : Prop :=
 Qr (fun fK t4 fN t7 sD gF cH t78 t79 t80 w => IF kn fK t4 fN t7 sD gF cH t78 t79 t80 w) k2 fK t4 fN t7 sD gF cH t78 t79 t80 w
def QE (k2 : K4) (fK t4 fN t7 sD gF cH t78 t79 t80 : aJb) (w : aJa) : Prop :=
 cG (fun (X : (aJb × aJb × aJb) -> K0) (t : aJb × aJb × aJb) (w : aJa) => IY (fun _ _ _ _ _ gF cH _ _ t80 w => X (gF, cH, t80) w) k2 fK t4 fN t7 sD t.1 t.2.1 t78 t79 t.2.2 w) (gF, cH, t80) w
theorem aiQ (kn : Aw) (k2 : K4) (hn : N10 Q kn 1 4 6 7 11 12 13 78 79 80) (h2 : E4 Q k2 2 4 11 12 13) (h : IY kn k2 (g 1) (g 4) (g 6) (g 7) (g 11) (g 12) (g 13) (g 78) (g 79) (g 80) w) : bH pg gV (bI (bI (aB 1 (aD 1 (aB 4 (aB 1 (aB 3 gB))))))) Q g w :=
 fQ 3 (ajN _ g w (IF kn) k2 (fun g w h => aK (ahE _ g w kn hn h)) h2 h)
theorem aiL (k2 : K4) (h2 : E4 Q k2 2 4 11 12 13) (h : QE k2 (g 1) (g 4) (g 6) (g 7) (g 11) (g 12) (g 13) (g 78) (g 79) (g 80) w) : bH pg gV (bI (aB 1 (aD 1 (aB 4 (aB 1 (aB 3 gB)))))) Q g w := by
 refine DO (fun g : Env => (g 12, g 13, g 80)) (fun X t w => IY (fun _ _ _ _ _ gF cH _ _ t80 w => X (gF, cH, t80) w) k2 (g 1) (g 4) (g 6) (g 7) (g 11) t.1 t.2.1 (g 78) (g 79) t.2.2 w) h (fun X g1 w1 ha hL => ?_)
 rw [<- fE 1 ha, <- fE 4 ha, <- fE 6 ha, <- fE 7 ha, <- fE 11 ha, <- fE 78 ha, <- fE 79 ha] at hL
 exact (aiQ _ g1 w1 (fun _ _ _ _ _ gF cH _ _ t80 w => X (gF, cH, t80) w) k2 (fun _ _ h => h) h2 hL)
def QX (kn : K4) (fK t4 fN t7 sD gF cH t78 t79 t80 : aJb) (w : aJa) : Prop :=
 QE kn fK t4 fN t7 sD gF cH t78 t79 t80 w
def P6 (kn : Aw) (eH fK t4 fN t7 cB sD gF cH : aJb) (w : aJa) : Prop :=
 aC pg (aG .add 3 aM aM cB (.int .i64 1)) w fun t77 w =>
 aC pg (fJ 91 eH none (some t77) none) w fun t78 w =>
 aC pg (jS .len #[91] 3 [t78]) w fun t79 w =>
 kn fK t4 fN t7 sD gF cH t78 t79 (.int .i64 0) w
theorem aiK (kn : Aw) (hn : N10 Q kn 1 4 6 7 11 12 13 78 79 80) (h : P6 kn (g 0) (g 1) (g 4) (g 6) (g 7) (g 8) (g 11) (g 12) (g 13) w) : bH pg gV (aD 1 (aD 1 (aB 4 (aB 1 (aB 3 gB))))) Q g w :=
 dR (kr := no) (l := []) h hn eQ trivial
def QL (kn : K4) (eH fK t4 fN t7 cB sD gF cH : aJb) (w : aJa) : Prop :=
 P6 (fun fK t4 fN t7 sD gF cH t78 t79 t80 w => QX kn fK t4 fN t7 sD gF cH t78 t79 t80 w) eH fK t4 fN t7 cB sD gF cH w
def IP (R : K1) (eH fK t4 fN t7 cB sD gF cH : aJb) (w : aJa) : Prop :=
 QL (fun t4 sD gF cH w => DB R t4 sD gF cH w) eH fK t4 fN t7 cB sD gF cH w
theorem ajD (kn : K4) (hn : N4 Q kn 4 11 12 13) (h : QL kn (g 0) (g 1) (g 4) (g 6) (g 7) (g 8) (g 11) (g 12) (g 13) w) : bH pg gV (aD 1 (aB 4 (aB 1 (aB 3 gB)))) Q g w :=
 fQ 1 (aiK _ g w (QX kn) (fun g w h => aK (tX 2 (aiL _ g w kn hn h))) h)
def Nv (kn : K9) (R : K1) (eH fK t4 fN t7 cB : aJb) (w : aJa) : Prop :=
 aC pg (aG .lss 3 aM aM fK (.int .i64 5)) w fun t35 w =>
 Gd (fI t35 false) (fun K => K fK w) w fun t37 w =>
 Gd (fI t35 false) (fun K => aC pg (aG .gtr 3 aM aM t37 (.int .i64 15)) w K) w fun t38 w =>
 aC pg (fR t35 (.bool true) t38) w fun t39 w =>
 Gd (fI t39 false) (fun K => K eH w) w fun t41 w =>
 Gd (fI t39 false) (fun K => aC pg (jS .len #[91] 3 [t41]) w K) w fun t42 w =>
 Gd (fI t39 false) (fun K => aC pg (aG .lss 3 aM aM t42 (.int .i64 1)) w K) w fun t43 w =>
 aC pg (fR t39 (.bool true) t43) w fun t44 w =>
 Gd (fI t44 false) (fun K => K eH w) w fun t46 w =>
 Gd (fI t44 false) (fun K => aC pg (jS .len #[91] 3 [t46]) w K) w fun t47 w =>
 Gd (fI t44 false) (fun K => aC pg (aG .gtr 3 aM aM t47 (.int .i64 256)) w K) w fun t48 w =>
 aC pg (fR t44 (.bool true) t48) w fun t49 w =>
 Gd (fI t49 false) (fun K => K t7 w) w fun t51 w =>
 Gd (fI t49 false) (fun K => aC pg (aG .lss 3 aM aM t51 (.int .i64 2)) w K) w fun t52 w =>
 aC pg (fR t49 (.bool true) t52) w fun t53 w =>
 Gd (fI t53 false) (fun K => K t7 w) w fun t55 w =>
 Gd (fI t53 false) (fun K => K fK w) w fun t56 w =>
 Gd (fI t53 false) (fun K => aC pg (aG .shl 3 aM aM (.int .i64 1) t56) w K) w fun t57 w =>
 Gd (fI t53 false) (fun K => aC pg (aG .gtr 3 aM aM t55 t57) w K) w fun t58 w =>
 aC pg (fR t53 (.bool true) t58) w fun t59 w =>
 Gd (fI t59 false) (fun K => K fN w) w fun t61 w =>
 Gd (fI t59 false) (fun K => aC pg (aG .gtr 73 aM aM t61 (.int .u64 2147483647)) w K) w fun t62 w =>
 aC pg (fR t59 (.bool true) t62) w fun t63 w =>
 eN t63
  (aC pg (bV 145 []) w fun t64 w =>
  aC pg (aJ 145 t4 t64) w fun _u w =>
  kC pg 145 t4 w fun r0 => R (.tuple #[r0, (.int .i64 1)]) w)
  (aC pg (aG .add 3 aM aM cB (.int .i64 1)) w fun t67 w =>
  aC pg (yK 77 t67 t67) w fun t68 w =>
  aC pg (bV 145 [(0, fK), (1, t68)]) w fun t69 w =>
  aC pg (bT 145) w fun sD w =>
  aC pg (aJ 145 sD t69) w fun _u w =>
  aC pg (aG .shl 3 aM aM (.int .i64 1) fK) w fun t71 w =>
  aC pg (aG .sub 3 aM aM t71 t7) w fun t73 w =>
  kn eH fK t4 fN t7 cB sD t73 cB w)
theorem acW (kn : K9) (R : K1) (hn : N9 Q kn 0 1 4 6 7 8 11 12 13) (hr : HR Iv R Q) (h : Nv kn R (g 0) (g 1) (g 4) (g 6) (g 7) (g 8) w) : bH pg gV (aD 4 (aB 1 (aB 3 gB))) Q g w :=
 dR (l := []) h hn hr trivial
def Fw (R : K1) (eH fK t4 fN t7 cB : aJb) (w : aJa) : Prop :=
 Nv (fun eH fK t4 fN t7 cB sD gF cH w => IP R eH fK t4 fN t7 cB sD gF cH w) R eH fK t4 fN t7 cB w
def AH (kn : K9) (eH fK t4 fN t7 cB t17 t18 t19 : aJb) (w : aJa) : Prop :=
 aC pg (aG .add 3 aM aM t19 (.int .i64 1)) w fun t33 w =>
 kn eH fK t4 fN t7 cB t17 t18 t33 w
theorem aeS (kn : K9) (hn : N9 Q kn 0 1 4 6 7 8 17 18 19) (h : AH kn (g 0) (g 1) (g 4) (g 6) (g 7) (g 8) (g 17) (g 18) (g 19) w) : bH pg gV (aB 3 (bI (bI (aB 1 (aD 1 (aB 3 gB)))))) Q g w :=
 dR (kr := no) (l := []) h hn eQ trivial
def Nm (kn : K9) (k0 : K6) (eH fK t4 fN t7 cB t17 t18 t19 : aJb) (w : aJa) : Prop :=
 aC pg (aG .lss 3 aM aM t19 t18) w fun t20 w =>
 eN t20
  (aC pg (bA 91 t17 t19) w fun t22 w =>
  aC pg (aH 43 t22) w fun t23 w =>
  aC pg (fM 43 73 t23) w fun t26 w =>
  aC pg (aG .add 73 aM aM fN t26) w fun t27 w =>
  aC pg (aG .gtr 43 aM aM t23 (.int .u32 0)) w fun t29 w =>
  eN t29
   (aC pg (aG .add 3 aM aM t7 (.int .i64 1)) w fun t31 w =>
   kn eH fK t4 t27 t31 t19 t17 t18 t19 w)
   (kn eH fK t4 t27 t7 cB t17 t18 t19 w))
  (k0 eH fK t4 fN t7 cB w)
theorem aeE (kn : K9) (k0 : K6) (hn : N9 Q kn 0 1 4 6 7 8 17 18 19) (h0 : E6 Q k0 0 0 1 4 6 7 8) (h : Nm kn k0 (g 0) (g 1) (g 4) (g 6) (g 7) (g 8) (g 17) (g 18) (g 19) w) : bH pg gV (aD 3 (bI (bI (aB 1 (aD 1 (aB 3 gB)))))) Q g w :=
 dR (kr := no) (l := [(0, fun g w => k0 (g 0) (g 1) (g 4) (g 6) (g 7) (g 8) w)]) h hn eQ ⟨h0, trivial⟩
def FL (kn : K9) (k0 : K6) (eH fK t4 fN t7 cB t17 t18 t19 : aJb) (w : aJa) : Prop :=
 Nm (fun eH fK t4 fN t7 cB t17 t18 t19 w => AH kn eH fK t4 fN t7 cB t17 t18 t19 w) k0 eH fK t4 fN t7 cB t17 t18 t19 w
def NR (k0 : K6) (eH fK t4 fN t7 cB t17 t18 t19 : aJb) (w : aJa) : Prop :=
 cG (fun (X : (aJb × aJb × aJb × aJb) -> K0) (t : aJb × aJb × aJb × aJb) (w : aJa) => FL (fun _ _ _ fN t7 cB _ _ t19 w => X (fN, t7, cB, t19) w) k0 eH fK t4 t.1 t.2.1 t.2.2.1 t17 t18 t.2.2.2 w) (fN, t7, cB, t19) w
theorem aaX (kn : K9) (k0 : K6) (hn : N9 Q kn 0 1 4 6 7 8 17 18 19) (h0 : E6 Q k0 0 0 1 4 6 7 8) (h : FL kn k0 (g 0) (g 1) (g 4) (g 6) (g 7) (g 8) (g 17) (g 18) (g 19) w) : bH pg gV (bI (bI (aB 1 (aD 1 (aB 3 gB))))) Q g w :=
 fQ 3 (aeE _ g w (AH kn) k0 (fun g w h => aK (aeS _ g w kn hn h)) h0 h)
theorem adX (k0 : K6) (h0 : E6 Q k0 0 0 1 4 6 7 8) (h : NR k0 (g 0) (g 1) (g 4) (g 6) (g 7) (g 8) (g 17) (g 18) (g 19) w) : bH pg gV (bI (aB 1 (aD 1 (aB 3 gB)))) Q g w := by
 refine DO (fun g : Env => (g 6, g 7, g 8, g 19)) (fun X t w => FL (fun _ _ _ fN t7 cB _ _ t19 w => X (fN, t7, cB, t19) w) k0 (g 0) (g 1) (g 4) t.1 t.2.1 t.2.2.1 (g 17) (g 18) t.2.2.2 w) h (fun X g1 w1 ha hL => ?_)
 rw [<- fE 0 ha, <- fE 1 ha, <- fE 4 ha, <- fE 17 ha, <- fE 18 ha] at hL
 exact (aaX _ g1 w1 (fun _ _ _ fN t7 cB _ _ t19 w => X (fN, t7, cB, t19) w) k0 (fun _ _ h => h) h0 hL)
def Nr (kn : K6) (eH fK t4 fN t7 cB t17 t18 t19 : aJb) (w : aJa) : Prop :=
 NR kn eH fK t4 fN t7 cB t17 t18 t19 w
def MG (kn : K9) (eH fK t4 fN t7 cB : aJb) (w : aJa) : Prop :=
 aC pg (jS .len #[91] 3 [eH]) w fun t18 w =>
 kn eH fK t4 fN t7 cB eH t18 (.int .i64 0) w
theorem adF (kn : K9) (hn : N9 Q kn 0 1 4 6 7 8 17 18 19) (h : MG kn (g 0) (g 1) (g 4) (g 6) (g 7) (g 8) w) : bH pg gV (aD 1 (aD 1 (aB 3 gB))) Q g w :=
 dR (kr := no) (l := []) h hn eQ trivial
def Mz (kn : K6) (eH fK t4 fN t7 cB : aJb) (w : aJa) : Prop :=
 MG (fun eH fK t4 fN t7 cB t17 t18 t19 w => Nr kn eH fK t4 fN t7 cB t17 t18 t19 w) eH fK t4 fN t7 cB w
def FF (R : K1) (eH fK t4 fN t7 cB : aJb) (w : aJa) : Prop :=
 Mz (fun eH fK t4 fN t7 cB w => Fw R eH fK t4 fN t7 cB w) eH fK t4 fN t7 cB w
theorem aeK (kn : K6) (hn : N6 Q kn 0 1 4 6 7 8) (h : Mz kn (g 0) (g 1) (g 4) (g 6) (g 7) (g 8) w) : bH pg gV (aD 1 (aB 3 gB)) Q g w :=
 fQ 1 (adF _ g w (Nr kn) (fun g w h => aK (tX 0 (adX _ g w kn hn h))) h)
def Ny (kn : K6) (eH fK : aJb) (w : aJa) : Prop :=
 aC pg (bT 145) w fun t4 w =>
 kn eH fK t4 (.int .u64 0) (.int .i64 0) (.int .i64 0) w
theorem aeC (kn : K6) (hn : N6 Q kn 0 1 4 6 7 8) (h : Ny kn (g 0) (g 1) w) : bH pg gV (aD 3 gB) Q g w :=
 dR (kr := no) (l := []) h hn eQ trivial
def MS (R : K1) (eH fK : aJb) (w : aJa) : Prop :=
 Ny (fun eH fK t4 fN t7 cB w => FF R eH fK t4 fN t7 cB w) eH fK w
theorem afW (R : K1) (hr : HR Iv R Q) (h : MS R (g 0) (g 1) w) : bH pg gV gB Q g w :=
 fQ 3 (aeC _ g w (FF R) (fun g w h => aK (fQ 1 (aeK _ g w (Fw R) (fun g w h => aK (fQ 4 (acW _ g w (IP R) R (fun g w h => aK (fQ 1 (ajD _ g w (DB R) (fun g w h => aK (ajK _ g w R hr h)) h))) hr h))) h))) h)
def apE (a0 a1 : aJb) (w : aJa) (R : K1) : Prop :=
 MS R a0 a1 w
theorem amN {a0 a1 : aJb} {w : aJa} {R : K1} (h : apE a0 a1 w R) : aR pg B9 #[a0, a1] w R := by
 refine rI (ann := gV) Tryd.f68 gB [a0, a1] Iv 129 TrydM.mixed Tryd.func68 ?_
 exact (afW _ _ _ R (fun _ _ h => h) h)
def mQ : FA := ⟨sK, fun i => .leaf ([], []) []⟩
def yW : List ResultVar := [.tmp 2]
noncomputable def lV : Code := cU Tryd.f69
def C7 (R : K1)  (w : aJa) : Prop :=
 R (.int .i64 0) w
theorem Ye (R : K1) (hr : HR yW R Q) (h : C7 R w) : bH pg mQ (aB 1 (aB 1 lV)) Q g w :=
 dR (kn := no) (l := []) h eQ hr trivial
def qQ (kn : K0) (R : K1) (t3 t4 : aJb) (w : aJa) : Prop :=
 eN t4
  (R (.int .i64 9) w)
  (aC pg (aG .eql 3 (.tmp 3) (.const (.int .i64 1)) t3 (.int .i64 1)) w fun t8 w =>
  eN t8
   (R (.int .i64 8) w)
   (kn w))
theorem Zr (kn : K0) (R : K1) (hn : N0 Q kn) (hr : HR yW R Q) (h : qQ kn R (g 3) (g 4) w) : bH pg mQ (aB 1 (bI (aB 1 (aD 1 (aB 1 lV))))) Q g w :=
 dR (l := []) h hn hr trivial
def KM (kn : K2) (t3 : aJb) (w : aJa) : Prop :=
 aC pg (aG .eql 3 (.tmp 3) (.const (.int .i64 0)) t3 (.int .i64 0)) w fun t5 w =>
 eN t5
  (kn t3 t5 w)
  (aC pg (aG .eql 3 (.tmp 3) (.const (.int .i64 2)) t3 (.int .i64 2)) w fun t6 w =>
  kn t3 t6 w)
theorem YY (kn : K2) (hn : N2 Q kn 3 4) (h : KM kn (g 3) w) : bH pg mQ (aD 1 (bI (aB 1 (aD 1 (aB 1 lV))))) Q g w :=
 dR (kr := no) (l := []) h hn eQ trivial
def TQ (kn : K0) (R : K1) (t3 : aJb) (w : aJa) : Prop :=
 KM (fun t3 t4 w => qQ kn R t3 t4 w) t3 w
def Jl (kn : K0) (R : K1) (t3 : aJb) (w : aJa) : Prop :=
 TQ kn R t3 w
def Lr (kn : K1) (aQ : aJb) (w : aJa) : Prop :=
 kn aQ w
theorem XV (kn : K1) (hn : N1 Q kn 3) (h : Lr kn (g 0) w) : bH pg mQ (aD 1 (aD 1 (aB 1 lV))) Q g w :=
 dR (kr := no) (l := []) h hn eQ trivial
def JF (kn : K0) (R : K1) (aQ : aJb) (w : aJa) : Prop :=
 Lr (fun t3 w => Jl kn R t3 w) aQ w
def Lv (R : K1) (aQ : aJb) (w : aJa) : Prop :=
 JF (fun  w => C7 R w) R aQ w
theorem Y3 (kn : K0) (R : K1) (hn : N0 Q kn) (hr : HR yW R Q) (h : JF kn R (g 0) w) : bH pg mQ (aD 1 (aB 1 lV)) Q g w :=
 fQ 1 (XV _ g w (Jl kn R) (fun g w h => aK (tX 0 (fQ 1 (YY _ g w (qQ kn R) (fun g w h => aK (Zr _ g w kn R hn hr h)) h)))) h)
def JA (kn : K1) (aQ : aJb) (w : aJa) : Prop :=
 kn aQ w
theorem Z1 (kn : K1) (hn : N1 Q kn 0) (h : JA kn (g 0) w) : bH pg mQ (aD 1 lV) Q g w :=
 dR (kr := no) (l := []) h hn eQ trivial
def Hd (R : K1) (aQ : aJb) (w : aJa) : Prop :=
 JA (fun aQ w => Lv R aQ w) aQ w
theorem VW (R : K1) (hr : HR yW R Q) (h : Hd R (g 0) w) : bH pg mQ lV Q g w :=
 fQ 1 (Z1 _ g w (Lv R) (fun g w h => aK (fQ 1 (Y3 _ g w (fun  w => C7 R w) R (fun g w h => aK (Ye _ g w R hr h)) hr h))) h)
def afY (a0 : aJb) (w : aJa) (R : K1) : Prop :=
 Hd R a0 w
theorem afH {a0 : aJb} {w : aJa} {R : K1} (h : afY a0 w R) : aR pg sK #[a0] w R := by
 refine rI (ann := mQ) Tryd.f69 lV [a0] yW 9 TrydM.mixed Tryd.func69 ?_
 exact (VW _ _ _ R (fun _ _ h => h) h)
def dT : FA := ⟨CK, fun i => .leaf ([], []) []⟩
def AL : List ResultVar := [.tmp 2, .tmp 3]
noncomputable def dI : Code := cU Tryd.f70
def vM (R : K1) (kM : aJb) (w : aJa) : Prop :=
 aR pg wP #[kM] w fun t107 w =>
 R (.tuple #[t107, (.int .i64 0)]) w
theorem Wx (R : K1) (hr : HR AL R Q) (h : vM R (g 4) w) : bH pg dT (aB 1 (aB 5 dI)) Q g w :=
 dR (kn := no) (l := []) h eQ hr trivial
def vX (kn : K4) (bJ kM cK qI : aJb) (w : aJa) : Prop :=
 aC pg (aG .add 3 aM aM qI (.int .i64 1)) w fun t31 w =>
 kn bJ kM cK t31 w
theorem Xc (kn : K4) (hn : N4 Q kn 1 4 5 6) (h : vX kn (g 1) (g 4) (g 5) (g 6) w) : bH pg dT (aB 1 (aB 1 (bI (bI (aB 1 (aD 1 (aB 5 dI))))))) Q g w :=
 dR (kr := no) (l := []) h hn eQ trivial
def A0 (kn : K4) (bJ kM cK qI fV : aJb) (w : aJa) : Prop :=
 aC pg (fM 3 73 fV) w fun t104 w =>
 aR pg eY #[kM, t104, (.int .i64 2)] w fun t105 w =>
 kn bJ kM cK qI w
theorem W2 (kn : K4) (hn : N4 Q kn 1 4 5 6) (h : A0 kn (g 1) (g 4) (g 5) (g 6) (g 11) w) : bH pg dT (aB 1 (aB 1 (aB 1 (aB 3 (aB 5 (bI (aD 1 (aB 1 (bI (bI (aB 1 (aD 1 (aB 5 dI))))))))))))) Q g w :=
 dR (kr := no) (l := []) h hn eQ trivial
def AR (kn : K5) (k5 : K5) (bJ kM cK qI fV : aJb) (w : aJa) : Prop :=
 aC pg (aG .geq 3 aM aM fV (.int .i64 3)) w fun t97 w =>
 eN t97
  (aR pg eY #[kM, (.int .u64 3), (.int .i64 2)] w fun t101 w =>
  aC pg (aG .sub 3 aM aM fV (.int .i64 3)) w fun t99 w =>
  kn bJ kM cK qI t99 w)
  (k5 bJ kM cK qI fV w)
theorem VY (kn : K5) (k5 : K5) (hn : N5 Q kn 1 4 5 6 11) (h5 : E5 Q k5 5 1 4 5 6 11) (h : AR kn k5 (g 1) (g 4) (g 5) (g 6) (g 11) w) : bH pg dT (bI (bI (aD 1 (aB 1 (aB 1 (aB 3 (aB 5 (bI (aD 1 (aB 1 (bI (bI (aB 1 (aD 1 (aB 5 dI))))))))))))))) Q g w :=
 dR (kr := no) (l := [(5, fun g w => k5 (g 1) (g 4) (g 5) (g 6) (g 11) w)]) h hn eQ ⟨h5, trivial⟩
def HY (k5 : K5) (bJ kM cK qI fV : aJb) (w : aJa) : Prop :=
 cG (fun (X : aJb -> K0) (t : aJb) (w : aJa) => AR (fun _ _ _ _ fV w => X fV w) k5 bJ kM cK qI t w) fV w
theorem Wj (k5 : K5) (h5 : E5 Q k5 5 1 4 5 6 11) (h : HY k5 (g 1) (g 4) (g 5) (g 6) (g 11) w) : bH pg dT (bI (aD 1 (aB 1 (aB 1 (aB 3 (aB 5 (bI (aD 1 (aB 1 (bI (bI (aB 1 (aD 1 (aB 5 dI)))))))))))))) Q g w := by
 refine DO (fun g : Env => g 11) (fun X t w => AR (fun _ _ _ _ fV w => X fV w) k5 (g 1) (g 4) (g 5) (g 6) t w) h (fun X g1 w1 ha hL => ?_)
 rw [<- fE 1 ha, <- fE 4 ha, <- fE 5 ha, <- fE 6 ha] at hL
 exact (VY _ g1 w1 (fun _ _ _ _ fV w => X fV w) k5 (fun _ _ h => h) h5 hL)
def Hi (kn : K5) (bJ kM cK qI fV : aJb) (w : aJa) : Prop :=
 HY kn bJ kM cK qI fV w
def Ba (kn : K4) (bJ kM cK qI fV : aJb) (w : aJa) : Prop :=
 Hi (fun bJ kM cK qI fV w => A0 kn bJ kM cK qI fV w) bJ kM cK qI fV w
theorem Xp (kn : K5) (hn : N5 Q kn 1 4 5 6 11) (h : Hi kn (g 1) (g 4) (g 5) (g 6) (g 11) w) : bH pg dT (aD 1 (aB 1 (aB 1 (aB 3 (aB 5 (bI (aD 1 (aB 1 (bI (bI (aB 1 (aD 1 (aB 5 dI))))))))))))) Q g w :=
 tX 5 (Wj _ g w kn hn h)
def HQ (kn : K5) (bJ kM cK qI fV : aJb) (w : aJa) : Prop :=
 aC pg (aG .add 3 aM aM qI fV) w fun t95 w =>
 kn bJ kM cK t95 fV w
theorem Xz (kn : K5) (hn : N5 Q kn 1 4 5 6 11) (h : HQ kn (g 1) (g 4) (g 5) (g 6) (g 11) w) : bH pg dT (aD 1 (aB 1 (aB 3 (aB 5 (bI (aD 1 (aB 1 (bI (bI (aB 1 (aD 1 (aB 5 dI)))))))))))) Q g w :=
 dR (kr := no) (l := []) h hn eQ trivial
def He (kn : K4) (bJ kM cK qI fV : aJb) (w : aJa) : Prop :=
 HQ (fun bJ kM cK qI fV w => Ba kn bJ kM cK qI fV w) bJ kM cK qI fV w
def zR (kn : K5) (k3 : K5) (bJ kM cK qI fV : aJb) (w : aJa) : Prop :=
 aC pg (aL 145 bJ 1) w fun t82 w =>
 aC pg (aH 77 t82) w fun t83 w =>
 aC pg (aG .add 3 aM aM qI (.int .i64 1)) w fun t85 w =>
 aC pg (aG .add 3 aM aM t85 fV) w fun t87 w =>
 aC pg (bA 77 t83 t87) w fun t88 w =>
 aC pg (aH 3 t88) w fun t89 w =>
 aC pg (aG .eql 3 (.tmp 89) (.const (.int .i64 0)) t89 (.int .i64 0)) w fun t90 w =>
 eN t90
  (aC pg (aG .add 3 aM aM fV (.int .i64 1)) w fun t92 w =>
  kn bJ kM cK qI t92 w)
  (k3 bJ kM cK qI fV w)
theorem UQ (kn : K5) (k3 : K5) (hn : N5 Q kn 1 4 5 6 11) (h3 : E5 Q k3 3 1 4 5 6 11) (h : zR kn k3 (g 1) (g 4) (g 5) (g 6) (g 11) w) : bH pg dT (bI (bI (aD 1 (aB 3 (aB 5 (bI (aD 1 (aB 1 (bI (bI (aB 1 (aD 1 (aB 5 dI))))))))))))) Q g w :=
 dR (kr := no) (l := [(3, fun g w => k3 (g 1) (g 4) (g 5) (g 6) (g 11) w)]) h hn eQ ⟨h3, trivial⟩
def zP (k3 : K5) (bJ kM cK qI fV : aJb) (w : aJa) : Prop :=
 cG (fun (X : aJb -> K0) (t : aJb) (w : aJa) => zR (fun _ _ _ _ fV w => X fV w) k3 bJ kM cK qI t w) fV w
theorem UZ (k3 : K5) (h3 : E5 Q k3 3 1 4 5 6 11) (h : zP k3 (g 1) (g 4) (g 5) (g 6) (g 11) w) : bH pg dT (bI (aD 1 (aB 3 (aB 5 (bI (aD 1 (aB 1 (bI (bI (aB 1 (aD 1 (aB 5 dI)))))))))))) Q g w := by
 refine DO (fun g : Env => g 11) (fun X t w => zR (fun _ _ _ _ fV w => X fV w) k3 (g 1) (g 4) (g 5) (g 6) t w) h (fun X g1 w1 ha hL => ?_)
 rw [<- fE 1 ha, <- fE 4 ha, <- fE 5 ha, <- fE 6 ha] at hL
 exact (UQ _ g1 w1 (fun _ _ _ _ fV w => X fV w) k3 (fun _ _ h => h) h3 hL)
def Ez (kn : K5) (bJ kM cK qI fV : aJb) (w : aJa) : Prop :=
 zP kn bJ kM cK qI fV w
def Ee (kn : K4) (bJ kM cK qI fV : aJb) (w : aJa) : Prop :=
 Ez (fun bJ kM cK qI fV w => He kn bJ kM cK qI fV w) bJ kM cK qI fV w
theorem UK (kn : K5) (hn : N5 Q kn 1 4 5 6 11) (h : Ez kn (g 1) (g 4) (g 5) (g 6) (g 11) w) : bH pg dT (aD 1 (aB 3 (aB 5 (bI (aD 1 (aB 1 (bI (bI (aB 1 (aD 1 (aB 5 dI))))))))))) Q g w :=
 tX 3 (UZ _ g w kn hn h)
def EZ (kn : K5) (k1 : K4) (bJ kM cK qI p_7 : aJb) (w : aJa) : Prop :=
 aR pg qC #[p_7] w fun t78 w =>
 aC pg (aG .sub 3 aM aM cK t78) w fun t79 w =>
 aC pg (aG .neq 3 (.tmp 80) (.const (.int .i64 0)) p_7 (.int .i64 0)) w fun t81 w =>
 eN t81
  (k1 bJ kM t79 qI w)
  (kn bJ kM t79 qI (.int .i64 0) w)
theorem UT (kn : K5) (k1 : K4) (hn : N5 Q kn 1 4 5 6 11) (h1 : E4 Q k1 1 1 4 5 6) (h : EZ kn k1 (g 1) (g 4) (g 5) (g 6) (g 7) w) : bH pg dT (aD 3 (aB 5 (bI (aD 1 (aB 1 (bI (bI (aB 1 (aD 1 (aB 5 dI)))))))))) Q g w :=
 dR (kr := no) (l := [(1, fun g w => k1 (g 1) (g 4) (g 5) (g 6) w)]) h hn eQ ⟨h1, trivial⟩
def ER (kn : K4) (k1 : K4) (bJ kM cK qI p_7 : aJb) (w : aJa) : Prop :=
 EZ (fun bJ kM cK qI fV w => Ee kn bJ kM cK qI fV w) k1 bJ kM cK qI p_7 w
def zQ (kn : K5) (bJ kM cK qI : aJb) (w : aJa) : Prop :=
 aC pg (aL 145 bJ 1) w fun t32 w =>
 aC pg (aH 77 t32) w fun t33 w =>
 aC pg (bA 77 t33 qI) w fun t35 w =>
 aC pg (aH 3 t35) w fun t36 w =>
 aC pg (aG .add 3 aM aM cK (.int .i64 1)) w fun t38 w =>
 aC pg (fM 3 94 t38) w fun t39 w =>
 aR pg rG #[t39] w fun t40 w =>
 aC pg (aG .shl 3 aM aM (.int .i64 1) t40) w fun t42 w =>
 aC pg (aG .sub 3 aM aM t42 (.int .i64 2)) w fun t43 w =>
 aC pg (aG .sub 3 aM aM t43 cK) w fun t45 w =>
 aC pg (aG .add 3 aM aM t36 (.int .i64 1)) w fun t47 w =>
 aC pg (aG .lss 3 aM aM t47 t45) w fun t58 w =>
 eN t58
  (aC pg (fM 3 73 t47) w fun t61 w =>
  aC pg (aG .sub 3 aM aM t40 (.int .i64 1)) w fun t63 w =>
  aR pg eY #[kM, t61, t63] w fun t64 w =>
  kn bJ kM cK qI t36 w)
  (aC pg (aG .sub 3 aM aM t40 (.int .i64 1)) w fun t68 w =>
  aC pg (aG .shl 3 aM aM (.int .i64 1) t68) w fun t69 w =>
  aC pg (aG .lss 3 aM aM t47 t69) w fun t70 w =>
  eN t70
   (aC pg (fM 3 73 t47) w fun t73 w =>
   aR pg eY #[kM, t73, t40] w fun t75 w =>
   kn bJ kM cK qI t36 w)
   (aC pg (aG .add 3 aM aM t47 t45) w fun t51 w =>
   aC pg (fM 3 73 t51) w fun t52 w =>
   aR pg eY #[kM, t52, t40] w fun t54 w =>
   kn bJ kM cK qI t36 w))
theorem U8 (kn : K5) (hn : N5 Q kn 1 4 5 6 7) (h : zQ kn (g 1) (g 4) (g 5) (g 6) w) : bH pg dT (aD 5 (bI (aD 1 (aB 1 (bI (bI (aB 1 (aD 1 (aB 5 dI))))))))) Q g w :=
 dR (kr := no) (l := []) h hn eQ trivial
def Pl (kn : K4) (k1 : K4) (bJ kM cK qI : aJb) (w : aJa) : Prop :=
 zQ (fun bJ kM cK qI p_7 w => ER kn k1 bJ kM cK qI p_7 w) bJ kM cK qI w
def Eu (kn : K4) (bJ kM cK qI : aJb) (w : aJa) : Prop :=
 Pl kn kn bJ kM cK qI w
def Ej (kn : K4) (bJ kM cK qI : aJb) (w : aJa) : Prop :=
 Eu (fun bJ kM cK qI w => vX kn bJ kM cK qI w) bJ kM cK qI w
theorem U0 (kn : K4) (hn : N4 Q kn 1 4 5 6) (h : Eu kn (g 1) (g 4) (g 5) (g 6) w) : bH pg dT (aD 1 (aB 1 (bI (bI (aB 1 (aD 1 (aB 5 dI))))))) Q g w :=
 tX 1 (fQ 5 (U8 _ g w (ER kn kn) (fun g w h => aK (fQ 3 (UT _ g w (Ee kn) kn (fun g w h => aK (fQ 1 (UK _ g w (He kn) (fun g w h => aK (fQ 1 (Xz _ g w (Ba kn) (fun g w h => aK (fQ 1 (Xp _ g w (A0 kn) (fun g w h => aK (W2 _ g w kn hn h)) h))) h))) h))) hn h))) h))
def EE (kn : K4) (k0 : K1) (bJ kM cK qI : aJb) (w : aJa) : Prop :=
 aC pg (aL 145 bJ 1) w fun t26 w =>
 aC pg (aH 77 t26) w fun t27 w =>
 aC pg (jS .len #[77] 3 [t27]) w fun t28 w =>
 aC pg (aG .lss 3 aM aM qI t28) w fun t29 w =>
 eN t29
  (kn bJ kM cK qI w)
  (k0 kM w)
theorem UL (kn : K4) (k0 : K1) (hn : N4 Q kn 1 4 5 6) (h0 : E1 Q k0 0 4) (h : EE kn k0 (g 1) (g 4) (g 5) (g 6) w) : bH pg dT (aD 1 (bI (bI (aB 1 (aD 1 (aB 5 dI)))))) Q g w :=
 dR (kr := no) (l := [(0, fun g w => k0 (g 4) w)]) h hn eQ ⟨h0, trivial⟩
def zT (kn : K4) (k0 : K1) (bJ kM cK qI : aJb) (w : aJa) : Prop :=
 EE (fun bJ kM cK qI w => Ej kn bJ kM cK qI w) k0 bJ kM cK qI w
def EX (k0 : K1) (bJ kM cK qI : aJb) (w : aJa) : Prop :=
 cG (fun (X : (aJb × aJb) -> K0) (t : aJb × aJb) (w : aJa) => zT (fun _ _ cK qI w => X (cK, qI) w) k0 bJ kM t.1 t.2 w) (cK, qI) w
theorem UW (kn : K4) (k0 : K1) (hn : N4 Q kn 1 4 5 6) (h0 : E1 Q k0 0 4) (h : zT kn k0 (g 1) (g 4) (g 5) (g 6) w) : bH pg dT (bI (bI (aB 1 (aD 1 (aB 5 dI))))) Q g w :=
 fQ 1 (UL _ g w (Ej kn) k0 (fun g w h => aK (fQ 1 (U0 _ g w (vX kn) (fun g w h => aK (Xc _ g w kn hn h)) h))) h0 h)
theorem UC (k0 : K1) (h0 : E1 Q k0 0 4) (h : EX k0 (g 1) (g 4) (g 5) (g 6) w) : bH pg dT (bI (aB 1 (aD 1 (aB 5 dI)))) Q g w := by
 refine DO (fun g : Env => (g 5, g 6)) (fun X t w => zT (fun _ _ cK qI w => X (cK, qI) w) k0 (g 1) (g 4) t.1 t.2 w) h (fun X g1 w1 ha hL => ?_)
 rw [<- fE 1 ha, <- fE 4 ha] at hL
 exact (UW _ g1 w1 (fun _ _ cK qI w => X (cK, qI) w) k0 (fun _ _ h => h) h0 hL)
def Ev (kn : K1) (bJ kM cK qI : aJb) (w : aJa) : Prop :=
 EX kn bJ kM cK qI w
def Ei (kn : K4) (bJ kM cK : aJb) (w : aJa) : Prop :=
 kn bJ kM cK (.int .i64 0) w
theorem UE (kn : K4) (hn : N4 Q kn 1 4 5 6) (h : Ei kn (g 1) (g 4) (g 5) w) : bH pg dT (aD 1 (aD 1 (aB 5 dI))) Q g w :=
 dR (kr := no) (l := []) h hn eQ trivial
def Ed (kn : K1) (bJ kM cK : aJb) (w : aJa) : Prop :=
 Ei (fun bJ kM cK qI w => Ev kn bJ kM cK qI w) bJ kM cK w
def zM (R : K1) (bJ kM cK : aJb) (w : aJa) : Prop :=
 Ed (fun kM w => vM R kM w) bJ kM cK w
theorem UO (kn : K1) (hn : N1 Q kn 4) (h : Ed kn (g 1) (g 4) (g 5) w) : bH pg dT (aD 1 (aB 5 dI)) Q g w :=
 fQ 1 (UE _ g w (Ev kn) (fun g w h => aK (tX 0 (UC _ g w kn hn h))) h)
def Ex (kn : K3) (R : K1) (c_0 : aJb) (w : aJa) : Prop :=
 aC pg (rA 145 c_0) w fun bJ w =>
 aC pg (aH 145 bJ) w fun t12 w =>
 aR pg CG #[t12] w fun t13 w =>
 aC pg (sUn .not t13) w fun t14 w =>
 eN t14
  (R (.tuple #[(.slice none 0 0), (.int .i64 1)]) w)
  (aR pg pY #[] w fun t15 w =>
  aC pg (aL 145 bJ 0) w fun t17 w =>
  aC pg (aH 3 t17) w fun t18 w =>
  aC pg (aG .sub 3 aM aM t18 (.int .i64 5)) w fun t19 w =>
  aC pg (fM 3 73 t19) w fun t20 w =>
  aR pg eY #[t15, t20, (.int .i64 4)] w fun t21 w =>
  aC pg (aL 145 bJ 0) w fun t22 w =>
  aC pg (aH 3 t22) w fun t23 w =>
  aC pg (aG .shl 3 aM aM (.int .i64 1) t23) w fun t24 w =>
  kn bJ t15 t24 w)
theorem UY (kn : K3) (R : K1) (hn : N3 Q kn 1 4 5) (hr : HR AL R Q) (h : Ex kn R (g 0) w) : bH pg dT (aD 5 dI) Q g w :=
 dR (l := []) h hn hr trivial
def Ew (R : K1) (c_0 : aJb) (w : aJa) : Prop :=
 Ex (fun bJ kM cK w => zM R bJ kM cK w) R c_0 w
theorem US (R : K1) (hr : HR AL R Q) (h : Ew R (g 0) w) : bH pg dT dI Q g w :=
 fQ 5 (UY _ g w (zM R) R (fun g w h => aK (fQ 1 (UO _ g w (vM R) (fun g w h => aK (Wx _ g w R hr h)) h))) hr h)
def X2 (a0 : aJb) (w : aJa) (R : K1) : Prop :=
 Ew R a0 w
theorem YX {a0 : aJb} {w : aJa} {R : K1} (h : X2 a0 w R) : aR pg CK #[a0] w R := by
 refine rI (ann := dT) Tryd.f70 dI [a0] AL 108 TrydM.mixed Tryd.func70 ?_
 exact (US _ _ _ R (fun _ _ h => h) h)
def La : FA := ⟨pY, fun i => .leaf ([], []) []⟩
def LL : List ResultVar := [.tmp 0]
noncomputable def H4 : Code := cU Tryd.f71
def xB (R : K1)  (w : aJa) : Prop :=
 aC pg (bV 183 []) w fun t1 w =>
 aC pg (rA 183 t1) w fun t2 w =>
 R t2 w
theorem TL (R : K1) (hr : HR LL R Q) (h : xB R w) : bH pg La H4 Q g w :=
 dR (kn := no) (l := []) h eQ hr trivial
def KG (w : aJa) (R : K1) : Prop :=
 xB R w
theorem Ik {w : aJa} {R : K1} (h : KG w R) : aR pg pY #[] w R := by
 refine rI (ann := La) Tryd.f71 H4 [] LL 3 TrydM.mixed Tryd.func71 ?_
 exact (TL _ _ _ R (fun _ _ h => h) h)
def pT : FA := ⟨L9, fun i => .leaf ([], []) []⟩
def zK : List ResultVar := [.tmp 4, .tmp 5]
noncomputable def oC : Code := cU Tryd.f72
def IG (R : K1)  (w : aJa) : Prop :=
 R (.tuple #[(.int .i64 0), (.int .i64 21)]) w
theorem aiS (R : K1) (hr : HR zK R Q) (h : IG R w) : bH pg pT (aB 1 (aB 1 oC)) Q g w :=
 dR (kn := no) (l := []) h eQ hr trivial
def It (kn : K4) (k0 : K0) (R : K1) (jU t9 t10 t11 : aJb) (w : aJa) : Prop :=
 aC pg (aG .lss 3 aM aM t11 t10) w fun t12 w =>
 eN t12
  (aC pg (bA 25 t9 t11) w fun t14 w =>
  aC pg (aH 123 t14) w fun t15 w =>
  aC pg (bT 123) w fun oQ w =>
  aC pg (aJ 123 oQ t15) w fun _u w =>
  aC pg (aL 123 oQ 0) w fun t16 w =>
  aC pg (aH 5 t16) w fun t17 w =>
  aC pg (aG .eql 5 (.tmp 17) (.tmp 18) t17 jU) w fun t19 w =>
  eN t19
   (R (.tuple #[t11, (.int .i64 0)]) w)
   (aC pg (aG .add 3 aM aM t11 (.int .i64 1)) w fun t21 w =>
   kn jU t9 t10 t21 w))
  (k0 w)
theorem ajZ (kn : K4) (k0 : K0) (R : K1) (hn : N4 Q kn 1 9 10 11) (h0 : E0 Q k0 0) (hr : HR zK R Q) (h : It kn k0 R (g 1) (g 9) (g 10) (g 11) w) : bH pg pT (bI (bI (aB 1 (aD 1 (aB 1 oC))))) Q g w :=
 dR (l := [(0, fun g w => k0 w)]) h hn hr ⟨h0, trivial⟩
def PC (k0 : K0) (R : K1) (jU t9 t10 t11 : aJb) (w : aJa) : Prop :=
 cG (fun (X : aJb -> K0) (t : aJb) (w : aJa) => It (fun _ _ _ t11 w => X t11 w) k0 R jU t9 t10 t w) t11 w
theorem akA (k0 : K0) (R : K1) (h0 : E0 Q k0 0) (hr : HR zK R Q) (h : PC k0 R (g 1) (g 9) (g 10) (g 11) w) : bH pg pT (bI (aB 1 (aD 1 (aB 1 oC)))) Q g w := by
 refine DO (fun g : Env => g 11) (fun X t w => It (fun _ _ _ t11 w => X t11 w) k0 R (g 1) (g 9) (g 10) t w) h (fun X g1 w1 ha hL => ?_)
 rw [<- fE 1 ha, <- fE 9 ha, <- fE 10 ha] at hL
 exact (ajZ _ g1 w1 (fun _ _ _ t11 w => X t11 w) k0 R (fun _ _ h => h) h0 hr hL)
def QD (kn : K0) (R : K1) (jU t9 t10 t11 : aJb) (w : aJa) : Prop :=
 PC kn R jU t9 t10 t11 w
def QC (kn : K4) (jU t2 : aJb) (w : aJa) : Prop :=
 aC pg (aL 27 t2 1) w fun t8 w =>
 aC pg (aH 25 t8) w fun t9 w =>
 aC pg (jS .len #[25] 3 [t9]) w fun t10 w =>
 kn jU t9 t10 (.int .i64 0) w
theorem ajJ (kn : K4) (hn : N4 Q kn 1 9 10 11) (h : QC kn (g 1) (g 2) w) : bH pg pT (aD 1 (aD 1 (aB 1 oC))) Q g w :=
 dR (kr := no) (l := []) h hn eQ trivial
def P3 (kn : K0) (R : K1) (jU t2 : aJb) (w : aJa) : Prop :=
 QC (fun jU t9 t10 t11 w => QD kn R jU t9 t10 t11 w) jU t2 w
def PZ (R : K1) (jU t2 : aJb) (w : aJa) : Prop :=
 P3 (fun  w => IG R w) R jU t2 w
theorem aiT (kn : K0) (R : K1) (hn : N0 Q kn) (hr : HR zK R Q) (h : P3 kn R (g 1) (g 2) w) : bH pg pT (aD 1 (aB 1 oC)) Q g w :=
 fQ 1 (ajJ _ g w (QD kn R) (fun g w h => aK (tX 0 (akA _ g w kn R hn hr h))) h)
def QW (kn : K2) (t0 jU : aJb) (w : aJa) : Prop :=
 aC pg (rA 27 t0) w fun t2 w =>
 kn jU t2 w
theorem aiO (kn : K2) (hn : N2 Q kn 1 2) (h : QW kn (g 0) (g 1) w) : bH pg pT (aD 1 oC) Q g w :=
 dR (kr := no) (l := []) h hn eQ trivial
def QR (R : K1) (t0 jU : aJb) (w : aJa) : Prop :=
 QW (fun jU t2 w => PZ R jU t2 w) t0 jU w
theorem ahF (R : K1) (hr : HR zK R Q) (h : QR R (g 0) (g 1) w) : bH pg pT oC Q g w :=
 fQ 1 (aiO _ g w (PZ R) (fun g w h => aK (fQ 1 (aiT _ g w (fun  w => IG R w) R (fun g w h => aK (aiS _ g w R hr h)) hr h))) h)
def aqJ (a0 a1 : aJb) (w : aJa) (R : K1) : Prop :=
 QR R a0 a1 w
theorem alL {a0 a1 : aJb} {w : aJa} {R : K1} (h : aqJ a0 a1 w R) : aR pg L9 #[a0, a1] w R := by
 refine rI (ann := pT) Tryd.f72 oC [a0, a1] zK 22 TrydM.mixed Tryd.func72 ?_
 exact (ahF _ _ _ R (fun _ _ h => h) h)
def oP : FA := ⟨IA, fun i => match Nat.beq i 8 with | true => .leaf ([], []) [(false, []), (false, []), (false, []), (false, []), (false, []), (false, []), (false, []), (false, []), (false, [])] | false => .leaf ([], []) []⟩
def sG : List ResultVar := [.tmp 6, .tmp 7, .tmp 8, .tmp 9]
noncomputable def mN : Code := cU Tryd.f73
def FT (R : K1)  (w : aJa) : Prop :=
 R (.tuple #[(.int .i64 0), (.int .u64 0), (.int .i64 0), (.int .i64 21)]) w
theorem adU (R : K1) (hr : HR sG R Q) (h : FT R w) : bH pg oP (aB 1 (aB 2 mN)) Q g w :=
 dR (kn := no) (l := []) h eQ hr trivial
def FO (kn : K5) (k0 : K0) (R : K1) (hP jX t23 t24 t25 : aJb) (w : aJa) : Prop :=
 aC pg (aG .lss 3 aM aM t25 t24) w fun t26 w =>
 eN t26
  (aC pg (bA 25 t23 t25) w fun t28 w =>
  aC pg (aH 123 t28) w fun t29 w =>
  aC pg (bT 123) w fun aCU w =>
  aC pg (aJ 123 aCU t29) w fun _u w =>
  aC pg (aL 123 aCU 2) w fun t31 w =>
  aC pg (aH 3 t31) w fun t32 w =>
  aC pg (aG .sub 3 aM aM hP t32) w fun t33 w =>
  aC pg (aL 123 aCU 0) w fun t34 w =>
  aC pg (aH 5 t34) w fun t35 w =>
  aC pg (aG .eql 5 (.tmp 35) (.tmp 36) t35 jX) w fun t37 w =>
  Gd (fI t37 true) (fun K => K t33 w) w fun t39 w =>
  Gd (fI t37 true) (fun K => aC pg (aG .geq 3 aM aM t39 (.int .i64 0)) w K) w fun t40 w =>
  aC pg (fR t37 t40 (.bool false)) w fun t41 w =>
  Gd (fI t41 true) (fun K => K t33 w) w fun t43 w =>
  Gd (fI t41 true) (fun K => aC pg (aL 123 aCU 1) w K) w fun t44 w =>
  Gd (fI t41 true) (fun K => aC pg (aH 3 t44) w K) w fun t45 w =>
  Gd (fI t41 true) (fun K => aC pg (aG .shl 3 aM aM (.int .i64 1) t45) w K) w fun t46 w =>
  Gd (fI t41 true) (fun K => aC pg (aG .lss 3 aM aM t43 t46) w K) w fun t47 w =>
  aC pg (fR t41 t47 (.bool false)) w fun t48 w =>
  eN t48
   ((dr w) = (dr w) /\
   (dr w) = (dr w) /\
   aC pg (fM 3 73 t33) (dr w) fun t51 w_ => w_ = (dr w) /\
   aC pg (aL 123 aCU 1) (dr w) fun t52 w_ => w_ = (dr w) /\
   aC pg (aH 3 t52) (dr w) fun t53 w_ => w_ = (dr w) /\
   (dr w) = (dr w) /\
   (dr w) = (dr w) /\
   (dr w) = (dr w) /\
   (dr w) = (dr w) /\
   R (.tuple #[t25, t51, t53, (.int .i64 0)]) (dr w))
   (aC pg (aG .add 3 aM aM t25 (.int .i64 1)) w fun t54 w =>
   kn hP jX t23 t24 t54 w))
  (k0 w)
theorem acS (kn : K5) (k0 : K0) (R : K1) (hn : N5 Q kn 1 2 23 24 25) (h0 : E0 Q k0 0) (hr : HR sG R Q) (h : FO kn k0 R (g 1) (g 2) (g 23) (g 24) (g 25) w) : bH pg oP (bI (bI (aB 1 (aD 1 (aB 2 mN))))) Q g w :=
 dR (l := [(0, fun g w => k0 w)]) h hn hr ⟨h0, trivial⟩
def NC (k0 : K0) (R : K1) (hP jX t23 t24 t25 : aJb) (w : aJa) : Prop :=
 cG (fun (X : aJb -> K0) (t : aJb) (w : aJa) => FO (fun _ _ _ _ t25 w => X t25 w) k0 R hP jX t23 t24 t w) t25 w
theorem adV (k0 : K0) (R : K1) (h0 : E0 Q k0 0) (hr : HR sG R Q) (h : NC k0 R (g 1) (g 2) (g 23) (g 24) (g 25) w) : bH pg oP (bI (aB 1 (aD 1 (aB 2 mN)))) Q g w := by
 refine DO (fun g : Env => g 25) (fun X t w => FO (fun _ _ _ _ t25 w => X t25 w) k0 R (g 1) (g 2) (g 23) (g 24) t w) h (fun X g1 w1 ha hL => ?_)
 rw [<- fE 1 ha, <- fE 2 ha, <- fE 23 ha, <- fE 24 ha] at hL
 exact (acS _ g1 w1 (fun _ _ _ _ t25 w => X t25 w) k0 R (fun _ _ h => h) h0 hr hL)
def MU (kn : K0) (R : K1) (hP jX t23 t24 t25 : aJb) (w : aJa) : Prop :=
 NC kn R hP jX t23 t24 t25 w
def NX (kn : K5) (hP jX t3 : aJb) (w : aJa) : Prop :=
 aC pg (aL 27 t3 1) w fun t22 w =>
 aC pg (aH 25 t22) w fun t23 w =>
 aC pg (jS .len #[25] 3 [t23]) w fun t24 w =>
 kn hP jX t23 t24 (.int .i64 0) w
theorem abG (kn : K5) (hn : N5 Q kn 1 2 23 24 25) (h : NX kn (g 1) (g 2) (g 3) w) : bH pg oP (aD 1 (aD 1 (aB 2 mN))) Q g w :=
 dR (kr := no) (l := []) h hn eQ trivial
def Me (kn : K0) (R : K1) (hP jX t3 : aJb) (w : aJa) : Prop :=
 NX (fun hP jX t23 t24 t25 w => MU kn R hP jX t23 t24 t25 w) hP jX t3 w
def Nb (R : K1) (hP jX t3 : aJb) (w : aJa) : Prop :=
 Me (fun  w => FT R w) R hP jX t3 w
theorem aaV (kn : K0) (R : K1) (hn : N0 Q kn) (hr : HR sG R Q) (h : Me kn R (g 1) (g 2) (g 3) w) : bH pg oP (aD 1 (aB 2 mN)) Q g w :=
 fQ 1 (abG _ g w (MU kn R) (fun g w h => aK (tX 0 (adV _ g w kn R hn hr h))) h)
def NJ (kn : K3) (R : K1) (t0 hP jX : aJb) (w : aJa) : Prop :=
 aC pg (rA 27 t0) w fun t3 w =>
 aC pg (aG .lss 3 aM aM hP (.int .i64 0)) w fun t14 w =>
 Gd (fI t14 false) (fun K => K hP w) w fun t16 w =>
 Gd (fI t14 false) (fun K => aC pg (aL 27 t3 1) w K) w fun t17 w =>
 Gd (fI t14 false) (fun K => aC pg (aH 25 t17) w K) w fun t18 w =>
 Gd (fI t14 false) (fun K => aC pg (jS .len #[25] 3 [t18]) w K) w fun t19 w =>
 Gd (fI t14 false) (fun K => aC pg (aG .geq 3 aM aM t16 t19) w K) w fun t20 w =>
 aC pg (fR t14 (.bool true) t20) w fun t21 w =>
 eN t21
  (R (.tuple #[(.int .i64 0), (.int .u64 0), (.int .i64 0), (.int .i64 1)]) w)
  (kn hP jX t3 w)
theorem abC (kn : K3) (R : K1) (hn : N3 Q kn 1 2 3) (hr : HR sG R Q) (h : NJ kn R (g 0) (g 1) (g 2) w) : bH pg oP (aD 2 mN) Q g w :=
 dR (l := []) h hn hr trivial
def M3 (R : K1) (t0 hP jX : aJb) (w : aJa) : Prop :=
 NJ (fun hP jX t3 w => Nb R hP jX t3 w) R t0 hP jX w
theorem adO (R : K1) (hr : HR sG R Q) (h : M3 R (g 0) (g 1) (g 2) w) : bH pg oP mN Q g w :=
 fQ 2 (abC _ g w (Nb R) R (fun g w h => aK (fQ 1 (aaV _ g w (fun  w => FT R w) R (fun g w h => aK (adU _ g w R hr h)) hr h))) hr h)
def alQ (a0 a1 a2 : aJb) (w : aJa) (R : K1) : Prop :=
 M3 R a0 a1 a2 w
theorem aiA {a0 a1 a2 : aJb} {w : aJa} {R : K1} (h : alQ a0 a1 a2 w R) : aR pg IA #[a0, a1, a2] w R := by
 refine rI (ann := oP) Tryd.f73 mN [a0, a1, a2] sG 55 TrydM.mixed Tryd.func73 ?_
 exact (adO _ _ _ R (fun _ _ h => h) h)
def gH : FA := ⟨eY, fun i => match Nat.beq i 6 with | true => .leaf ([25], []) [(false, []), (false, []), (false, []), (false, []), (false, []), (false, []), (false, []), (false, []), (false, []), (false, []), (false, []), (false, []), (false, []), (false, []), (false, []), (false, []), (false, []), (false, []), (false, []), (false, []), (false, []), (false, []), (false, []), (false, []), (false, []), (true, [])] | false => .leaf ([], []) []⟩
def yB : List ResultVar := []
noncomputable def fT : Code := cU Tryd.f74
def nQ (kn : K4) (tV DY t17 t18 : aJb) (w : aJa) : Prop :=
 aC pg (aG .add 3 aM aM t18 (.int .i64 1)) w fun t68 w =>
 kn tV DY t17 t68 w
theorem OQ (kn : K4) (hn : N4 Q kn 0 1 17 18) (h : nQ kn (g 0) (g 1) (g 17) (g 18) w) : bH pg gH (aB 1 (aB 2 (bI (bI (aB 2 fT))))) Q g w :=
 dR (kr := no) (l := []) h hn eQ trivial
def kH (kn : K4) (tV DY qI t17 t18 : aJb) (w : aJa) : Prop :=
 (dr w) = (dr w) /\
 aC pg (pV tV) (dr w) fun t37 w_ => w_ = (dr w) /\
 aC pg (aL 183 t37 0) (dr w) fun t38 w_ => w_ = (dr w) /\
 aC pg (aH 22 t38) (dr w) fun t39 w_ => w_ = (dr w) /\
 (dr w) = (dr w) /\
 aC pg (pV tV) (dr w) fun t41 w_ => w_ = (dr w) /\
 aC pg (aL 183 t41 1) (dr w) fun t42 w_ => w_ = (dr w) /\
 aC pg (aH 3 t42) (dr w) fun t43 w_ => w_ = (dr w) /\
 aC pg (aG .quo 3 aM aM t43 (.int .i64 8)) (dr w) fun t44 w_ => w_ = (dr w) /\
 aC pg (bA 22 t39 t44) (dr w) fun t45 w_ => w_ = (dr w) /\
 aC pg (aH 5 t45) (dr w) fun t46 w_ => w_ = (dr w) /\
 (dr w) = (dr w) /\
 (dr w) = (dr w) /\
 aC pg (fM 3 94 qI) (dr w) fun t49 w_ => w_ = (dr w) /\
 aC pg (aG .shr 73 aM aM DY t49) (dr w) fun t50 w_ => w_ = (dr w) /\
 aC pg (aG .and 73 aM aM t50 (.int .u64 1)) (dr w) fun t51 w_ => w_ = (dr w) /\
 aC pg (fM 73 5 t51) (dr w) fun t52 w_ => w_ = (dr w) /\
 (dr w) = (dr w) /\
 aC pg (pV tV) (dr w) fun t54 w_ => w_ = (dr w) /\
 aC pg (aL 183 t54 1) (dr w) fun t55 w_ => w_ = (dr w) /\
 aC pg (aH 3 t55) (dr w) fun t56 w_ => w_ = (dr w) /\
 aC pg (aG .rem 3 aM aM t56 (.int .i64 8)) (dr w) fun t57 w_ => w_ = (dr w) /\
 aC pg (aG .shl 5 aM aM t52 t57) (dr w) fun t58 w_ => w_ = (dr w) /\
 aC pg (aG .or 5 aM aM t46 t58) (dr w) fun t59 w_ => w_ = (dr w) /\
 aC pg (bA 22 t39 t44) (dr w) fun t60 w_ => w_ = (dr w) /\
 aC pg (aJ 5 t60 t59) (dr w) fun _u25 aGd =>
 aC pg (pV tV) aGd fun t62 w =>
 aC pg (aL 183 t62 1) w fun t63 w =>
 aC pg (aH 3 t63) w fun t64 w =>
 aC pg (aG .add 3 aM aM t64 (.int .i64 1)) w fun t65 w =>
 aC pg (pV tV) w fun t66 w =>
 aC pg (aL 183 t66 1) w fun t67 w =>
 aC pg (aJ 3 t67 t65) w fun _u w =>
 kn tV DY t17 t18 w
theorem Pt (kn : K4) (hn : N4 Q kn 0 1 17 18) (h : kH kn (g 0) (g 1) (g 6) (g 17) (g 18) w) : bH pg gH (aB 2 (bI (aD 1 (aB 2 (bI (bI (aB 2 fT))))))) Q g w :=
 dR (kr := no) (l := []) h hn eQ trivial
def rK (kn : K5) (tV DY t17 t18 : aJb) (w : aJa) : Prop :=
 aC pg (pV tV) w fun t22 w =>
 aC pg (aL 183 t22 1) w fun t23 w =>
 aC pg (aH 3 t23) w fun t24 w =>
 aC pg (aG .rem 3 aM aM t24 (.int .i64 8)) w fun t25 w =>
 aC pg (aG .eql 3 (.tmp 25) (.const (.int .i64 0)) t25 (.int .i64 0)) w fun t26 w =>
 eN t26
  (aC pg (pV tV) w fun t29 w =>
  aC pg (aL 183 t29 0) w fun t30 w =>
  aC pg (aH 22 t30) w fun t31 w =>
  aC pg (bX 22 1 [(0, (.int .u8 0))]) w fun t32 w =>
  aC pg (jS .append #[22, 22] 22 [t31, t32]) w fun t33 w =>
  aC pg (pV tV) w fun t34 w =>
  aC pg (aL 183 t34 0) w fun t35 w =>
  aC pg (aJ 22 t35 t33) w fun _u w =>
  kn tV DY t18 t17 t18 w)
  (kn tV DY t18 t17 t18 w)
theorem OW (kn : K5) (hn : N5 Q kn 0 1 6 17 18) (h : rK kn (g 0) (g 1) (g 17) (g 18) w) : bH pg gH (aD 2 (bI (aD 1 (aB 2 (bI (bI (aB 2 fT))))))) Q g w :=
 dR (kr := no) (l := []) h hn eQ trivial
def oL (kn : K4) (tV DY t17 t18 : aJb) (w : aJa) : Prop :=
 rK (fun tV DY qI t17 t18 w => kH kn tV DY qI t17 t18 w) tV DY t17 t18 w
def rP (kn : K4) (tV DY t17 t18 : aJb) (w : aJa) : Prop :=
 oL kn tV DY t17 t18 w
def rV (kn : K4) (tV DY t17 t18 : aJb) (w : aJa) : Prop :=
 rP (fun tV DY t17 t18 w => nQ kn tV DY t17 t18 w) tV DY t17 t18 w
theorem OP (kn : K4) (hn : N4 Q kn 0 1 17 18) (h : rP kn (g 0) (g 1) (g 17) (g 18) w) : bH pg gH (aD 1 (aB 2 (bI (bI (aB 2 fT))))) Q g w :=
 tX 1 (fQ 2 (OW _ g w (kH kn) (fun g w h => aK (Pt _ g w kn hn h)) h))
def rQ (kn : K4) (k0 : K0) (tV DY t17 t18 : aJb) (w : aJa) : Prop :=
 aC pg (aG .lss 3 aM aM t18 t17) w fun t19 w =>
 eN t19
  (kn tV DY t17 t18 w)
  (k0 w)
theorem OK (kn : K4) (k0 : K0) (hn : N4 Q kn 0 1 17 18) (h0 : E0 Q k0 0) (h : rQ kn k0 (g 0) (g 1) (g 17) (g 18) w) : bH pg gH (aD 2 (bI (bI (aB 2 fT)))) Q g w :=
 dR (kr := no) (l := [(0, fun g w => k0 w)]) h hn eQ ⟨h0, trivial⟩
def oD (kn : K4) (k0 : K0) (tV DY t17 t18 : aJb) (w : aJa) : Prop :=
 rQ (fun tV DY t17 t18 w => rV kn tV DY t17 t18 w) k0 tV DY t17 t18 w
def rM (k0 : K0) (tV DY t17 t18 : aJb) (w : aJa) : Prop :=
 cG (fun (X : aJb -> K0) (t : aJb) (w : aJa) => oD (fun _ _ _ t18 w => X t18 w) k0 tV DY t17 t w) t18 w
theorem OA (kn : K4) (k0 : K0) (hn : N4 Q kn 0 1 17 18) (h0 : E0 Q k0 0) (h : oD kn k0 (g 0) (g 1) (g 17) (g 18) w) : bH pg gH (bI (bI (aB 2 fT))) Q g w :=
 fQ 2 (OK _ g w (rV kn) k0 (fun g w h => aK (fQ 1 (OP _ g w (nQ kn) (fun g w h => aK (OQ _ g w kn hn h)) h))) h0 h)
theorem Ow (k0 : K0) (h0 : E0 Q k0 0) (h : rM k0 (g 0) (g 1) (g 17) (g 18) w) : bH pg gH (bI (aB 2 fT)) Q g w := by
 refine DO (fun g : Env => g 18) (fun X t w => oD (fun _ _ _ t18 w => X t18 w) k0 (g 0) (g 1) (g 17) t w) h (fun X g1 w1 ha hL => ?_)
 rw [<- fE 0 ha, <- fE 1 ha, <- fE 17 ha] at hL
 exact (OA _ g1 w1 (fun _ _ _ t18 w => X t18 w) k0 (fun _ _ h => h) h0 hL)
def qY (kn : K0) (tV DY t17 t18 : aJb) (w : aJa) : Prop :=
 rM kn tV DY t17 t18 w
def qX (kn : K4) (R : K1) (tV DY AW : aJb) (w : aJa) : Prop :=
 aC pg (aG .eql 151 (.tmp 7) (.const (.pointer none)) tV (.pointer none)) w fun t8 w =>
 Gd (fI t8 false) (fun K => K AW w) w fun t10 w =>
 Gd (fI t8 false) (fun K => aC pg (aG .lss 3 aM aM t10 (.int .i64 1)) w K) w fun t11 w =>
 aC pg (fR t8 (.bool true) t11) w fun t12 w =>
 Gd (fI t12 false) (fun K => K AW w) w fun t14 w =>
 Gd (fI t12 false) (fun K => aC pg (aG .gtr 3 aM aM t14 (.int .i64 56)) w K) w fun t15 w =>
 aC pg (fR t12 (.bool true) t15) w fun t16 w =>
 eN t16
  (R (.tuple #[]) w)
  (kn tV DY AW (.int .i64 0) w)
theorem MV (kn : K4) (R : K1) (hn : N4 Q kn 0 1 17 18) (hr : HR yB R Q) (h : qX kn R (g 0) (g 1) (g 2) w) : bH pg gH (aD 2 fT) Q g w :=
 dR (l := []) h hn hr trivial
def qV (kn : K0) (R : K1) (tV DY AW : aJb) (w : aJa) : Prop :=
 qX (fun tV DY t17 t18 w => qY kn tV DY t17 t18 w) R tV DY AW w
theorem MO (kn : K0) (R : K1) (hn : N0 Q kn) (hr : HR yB R Q) (h : qV kn R (g 0) (g 1) (g 2) w) : bH pg gH fT Q g w :=
 fQ 2 (MV _ g w (qY kn) R (fun g w h => aK (tX 0 (Ow _ g w kn hn h))) hr h)
def CX (a0 a1 a2 : aJb) (w : aJa) (R : K1) : Prop :=
 qV (fun  w => R (.tuple #[]) w) R a0 a1 a2 w
theorem Dy {a0 a1 a2 : aJb} {w : aJa} {R : K1} (h : CX a0 a1 a2 w R) : aR pg eY #[a0, a1, a2] w R := by
 refine rI (ann := gH) Tryd.f74 fT [a0, a1, a2] yB 69 TrydM.mixed Tryd.func74 ?_
 exact (MO _ _ _ (fun  w => R (.tuple #[]) w) R (fun _ _ h => h) (fun _ _ h => h) h)
def Dc : FA := ⟨rS, fun i => match Nat.beq i 3 with | true => .leaf ([4, 10], [(4, 6), (4, 7), (4, 8)]) [(false, []), (false, []), (false, []), (false, []), (true, []), (false, []), (false, [1]), (false, [2]), (false, [3]), (false, []), (true, []), (false, [])] | false => .leaf ([], []) []⟩
def DV : List ResultVar := [.tmp 2]
noncomputable def Cd : Code := cU Tryd.f75
def wF (R : K1) (tV : aJb) (w : aJa) : Prop :=
 aC pg (aG .eql 151 (.tmp 4) (.const (.pointer none)) tV (.pointer none)) w fun t5 w =>
 eN t5
  (R (.slice none 0 0) w)
  ((dr w) = (dr w) /\
  aC pg (pV tV) (dr w) fun t7 w_ => w_ = (dr w) /\
  aC pg (aL 183 t7 0) (dr w) fun t8 w_ => w_ = (dr w) /\
  aC pg (aH 22 t8) (dr w) fun t9 w_ => w_ = (dr w) /\
  aR pg iM #[t9] (dr w) fun t10 SH =>
  SH = SH /\
  aC pg (pV tV) SH fun t12 w_ => w_ = SH /\
  (eC pg (pV tV) t12 (dr w) /\ True) /\
  aC pg (aL 183 t12 1) SH fun t13 w_ => w_ = SH /\
  (eC pg (aL 183 t12 1) t13 (dr w) /\ True) /\
  aC pg (aH 3 t13) SH fun t14 w_ => w_ = SH /\
  (eC pg (aH 3 t13) t14 (dr w) /\ True) /\
  aC pg (bV 183 [(0, t10), (1, t14)]) SH fun t15 w_ => w_ = SH /\
  aC pg (rA 183 t15) SH fun t16 aCR =>
  aCR = aCR /\
  aR pg eY #[t16, (.int .u64 1), (.int .i64 1)] aCR fun t18 w =>
  aC pg (pV t16) w fun t20 w =>
  aC pg (aL 183 t20 0) w fun t21 w =>
  aC pg (aH 22 t21) w fun t22 w =>
  R t22 w)
theorem Md (R : K1) (hr : HR DV R Q) (h : wF R (g 0) w) : bH pg Dc Cd Q g w :=
 dR (kn := no) (l := []) h eQ hr trivial
def Lj (a0 : aJb) (w : aJa) (R : K1) : Prop :=
 wF R a0 w
theorem Pd {a0 : aJb} {w : aJa} {R : K1} (h : Lj a0 w R) : aR pg rS #[a0] w R := by
 refine rI (ann := Dc) Tryd.f75 Cd [a0] DV 23 TrydM.mixed Tryd.func75 ?_
 exact (Md _ _ _ R (fun _ _ h => h) h)
def kK : FA := ⟨Fj, fun i => match Nat.beq i 25 with | true => .leaf ([2, 3], [(0, 2)]) [(false, []), (false, []), (true, [1]), (true, []), (false, []), (false, [])] | false => .leaf ([], []) []⟩
def mJ : List ResultVar := [.cell 6 145, .tmp 7, .tmp 8]
noncomputable def jM : Code := cU Tryd.f76
def CP (R : K1) (t6 jZ dM : aJb) (w : aJa) : Prop :=
 aC pg (aH 145 dM) (dr w) fun t101 w_ => w_ = (dr w) /\
 (dr w) = (dr w) /\
 aR pg sV #[jZ] (dr w) fun t103 aEE =>
 (eC pg (aH 145 dM) t101 aEE /\ True) /\
 aC pg (aJ 145 t6 t101) aEE fun _u3 apH =>
 apH = apH /\
 apH = apH /\
 kC pg 145 t6 apH fun r0 => R (.tuple #[r0, t103, (.int .i64 0)]) apH
theorem YJ (R : K1) (hr : HR mJ R Q) (h : CP R (g 6) (g 9) (g 12) w) : bH pg kK (aB 1 (aB 7 jM)) Q g w :=
 dR (kn := no) (l := []) h eQ hr trivial
def yZ (kn : K5) (R : K1) (aO t6 jZ dM aU : aJb) (w : aJa) : Prop :=
 aC pg (aL 145 dM 1) w fun t91 w =>
 aC pg (aH 77 t91) w fun t92 w =>
 aC pg (jS .len #[77] 3 [t92]) w fun t93 w =>
 aC pg (aG .gtr 3 aM aM t93 aO) w fun t95 w =>
 Gd (fI t95 false) (fun K => K aU w) w fun t97 w =>
 Gd (fI t95 false) (fun K => aC pg (aG .lss 3 aM aM t97 (.int .i64 0)) w K) w fun t98 w =>
 aC pg (fR t95 (.bool true) t98) w fun t99 w =>
 eN t99
  (aC pg (bV 145 []) w fun t100 w =>
  aC pg (aJ 145 t6 t100) w fun _u w =>
  kC pg 145 t6 w fun r0 => R (.tuple #[r0, (.int .i64 0), (.int .i64 11)]) w)
  (kn aO t6 jZ dM aU w)
theorem Y0 (kn : K5) (R : K1) (hn : N5 Q kn 2 6 9 12 13) (hr : HR mJ R Q) (h : yZ kn R (g 2) (g 6) (g 9) (g 12) (g 13) w) : bH pg kK (aB 6 (bI (aB 1 (bI (bI (aD 1 (aB 7 jM))))))) Q g w :=
 dR (l := []) h hn hr trivial
def Kc (kn : K5) (R : K1) (aO t6 jZ dM aU : aJb) (w : aJa) : Prop :=
 aR pg DL #[jZ, aU] w fun t52 w =>
 aC pg (bB t52 0) w fun t53 w =>
 aC pg (bB t52 1) w fun t54 w =>
 aC pg (aG .neq 30 (.tmp 55) (.const (.int .i64 0)) t54 (.int .i64 0)) w fun t56 w =>
 eN t56
  (aC pg (bV 145 []) w fun t57 w =>
  aC pg (aJ 145 t6 t57) w fun _u w =>
  kC pg 145 t6 w fun r0 => R (.tuple #[r0, (.int .i64 0), t54]) w)
  (aC pg (aG .sub 3 aM aM t53 (.int .i64 1)) w fun t60 w =>
  aR pg qC #[t60] w fun t63 w =>
  aC pg (aG .sub 3 aM aM aU t63) w fun t64 w =>
  aC pg (aL 145 dM 1) w fun t65 w =>
  aC pg (aH 77 t65) w fun t66 w =>
  aC pg (bX 77 1 [(0, t60)]) w fun t68 w =>
  aC pg (jS .append #[77, 77] 77 [t66, t68]) w fun t69 w =>
  aC pg (aL 145 dM 1) w fun t70 w =>
  aC pg (aJ 77 t70 t69) w fun _u w =>
  aC pg (aG .eql 3 (.tmp 71) (.const (.int .i64 0)) t60 (.int .i64 0)) w fun t72 w =>
  eN t72
   (aR pg zD #[jZ] w fun t75 w =>
   aC pg (bB t75 0) w fun t76 w =>
   aC pg (bB t75 1) w fun t77 w =>
   aC pg (aG .neq 30 (.tmp 78) (.const (.int .i64 0)) t77 (.int .i64 0)) w fun t79 w =>
   eN t79
    (aC pg (bV 145 []) w fun t80 w =>
    aC pg (aJ 145 t6 t80) w fun _u w =>
    kC pg 145 t6 w fun r0 => R (.tuple #[r0, (.int .i64 0), t77]) w)
    (aC pg (aG .gtr 3 aM aM t76 aO) w fun t84 w =>
    eN t84
     (aC pg (bV 145 []) w fun t85 w =>
     aC pg (aJ 145 t6 t85) w fun _u w =>
     kC pg 145 t6 w fun r0 => R (.tuple #[r0, (.int .i64 0), (.int .i64 11)]) w)
     (aC pg (aL 145 dM 1) w fun t86 w =>
     aC pg (aH 77 t86) w fun t87 w =>
     aC pg (jS .append #[77, 3] 77 [t87, t76]) w fun t89 w =>
     aC pg (aL 145 dM 1) w fun t90 w =>
     aC pg (aJ 77 t90 t89) w fun _u w =>
     kn aO t6 jZ dM t64 w)))
   (kn aO t6 jZ dM t64 w))
theorem Z3 (kn : K5) (R : K1) (hn : N5 Q kn 2 6 9 12 13) (hr : HR mJ R Q) (h : Kc kn R (g 2) (g 6) (g 9) (g 12) (g 13) w) : bH pg kK (aD 6 (bI (aB 1 (bI (bI (aD 1 (aB 7 jM))))))) Q g w :=
 dR (l := []) h hn hr trivial
def Tn (kn : K5) (R : K1) (aO t6 jZ dM aU : aJb) (w : aJa) : Prop :=
 Kc (fun aO t6 jZ dM aU w => yZ kn R aO t6 jZ dM aU w) R aO t6 jZ dM aU w
def I9 (kn : K5) (R : K1) (aO t6 jZ dM aU : aJb) (w : aJa) : Prop :=
 Tn kn R aO t6 jZ dM aU w
def Lm (kn : K5) (k0 : K3) (aO t6 jZ dM aU : aJb) (w : aJa) : Prop :=
 aC pg (aG .gtr 3 aM aM aU (.int .i64 0)) w fun t48 w =>
 eN t48
  (kn aO t6 jZ dM aU w)
  (k0 t6 jZ dM w)
theorem Zb (kn : K5) (k0 : K3) (hn : N5 Q kn 2 6 9 12 13) (h0 : E3 Q k0 0 6 9 12) (h : Lm kn k0 (g 2) (g 6) (g 9) (g 12) (g 13) w) : bH pg kK (aD 1 (bI (bI (aD 1 (aB 7 jM))))) Q g w :=
 dR (kr := no) (l := [(0, fun g w => k0 (g 6) (g 9) (g 12) w)]) h hn eQ ⟨h0, trivial⟩
def DC (kn : K5) (k0 : K3) (R : K1) (aO t6 jZ dM aU : aJb) (w : aJa) : Prop :=
 Lm (fun aO t6 jZ dM aU w => I9 kn R aO t6 jZ dM aU w) k0 aO t6 jZ dM aU w
def Kk (k0 : K3) (R : K1) (aO t6 jZ dM aU : aJb) (w : aJa) : Prop :=
 cG (fun (X : aJb -> K0) (t : aJb) (w : aJa) => DC (fun _ _ _ _ aU w => X aU w) k0 R aO t6 jZ dM t w) aU w
theorem Z8 (kn : K5) (k0 : K3) (R : K1) (hn : N5 Q kn 2 6 9 12 13) (h0 : E3 Q k0 0 6 9 12) (hr : HR mJ R Q) (h : DC kn k0 R (g 2) (g 6) (g 9) (g 12) (g 13) w) : bH pg kK (bI (bI (aD 1 (aB 7 jM)))) Q g w :=
 fQ 1 (Zb _ g w (I9 kn R) k0 (fun g w h => aK (tX 1 (fQ 6 (Z3 _ g w (yZ kn R) R (fun g w h => aK (Y0 _ g w kn R hn hr h)) hr h)))) h0 h)
theorem XU (k0 : K3) (R : K1) (h0 : E3 Q k0 0 6 9 12) (hr : HR mJ R Q) (h : Kk k0 R (g 2) (g 6) (g 9) (g 12) (g 13) w) : bH pg kK (bI (aD 1 (aB 7 jM))) Q g w := by
 refine DO (fun g : Env => g 13) (fun X t w => DC (fun _ _ _ _ aU w => X aU w) k0 R (g 2) (g 6) (g 9) (g 12) t w) h (fun X g1 w1 ha hL => ?_)
 rw [<- fE 2 ha, <- fE 6 ha, <- fE 9 ha, <- fE 12 ha] at hL
 exact (Z8 _ g1 w1 (fun _ _ _ _ aU w => X aU w) k0 R (fun _ _ h => h) h0 hr hL)
def JD (kn : K3) (R : K1) (aO t6 jZ dM aU : aJb) (w : aJa) : Prop :=
 Kk kn R aO t6 jZ dM aU w
def AO (R : K1) (aO t6 jZ dM aU : aJb) (w : aJa) : Prop :=
 JD (fun t6 jZ dM w => CP R t6 jZ dM w) R aO t6 jZ dM aU w
theorem Zg (kn : K3) (R : K1) (hn : N3 Q kn 6 9 12) (hr : HR mJ R Q) (h : JD kn R (g 2) (g 6) (g 9) (g 12) (g 13) w) : bH pg kK (aD 1 (aB 7 jM)) Q g w :=
 tX 0 (XU _ g w kn R hn hr h)
def GQ (kn : K5) (R : K1) (Co JN aO : aJb) (w : aJa) : Prop :=
 aC pg (bT 145) w fun t6 w =>
 aR pg wW #[Co] w fun t20 w =>
 aR pg kW #[t20, (.int .i64 4)] w fun t23 w =>
 aC pg (bB t23 0) w fun t24 w =>
 aC pg (bB t23 1) w fun t25 w =>
 aC pg (aG .neq 30 (.tmp 26) (.const (.int .i64 0)) t25 (.int .i64 0)) w fun t27 w =>
 eN t27
  (aC pg (bV 145 []) w fun t28 w =>
  aC pg (aJ 145 t6 t28) w fun _u w =>
  kC pg 145 t6 w fun r0 => R (.tuple #[r0, (.int .i64 0), t25]) w)
  (aC pg (fM 73 3 t24) w fun t31 w =>
  aC pg (aG .add 3 aM aM t31 (.int .i64 5)) w fun t32 w =>
  aC pg (bV 145 [(0, t32)]) w fun t33 w =>
  aC pg (bT 145) w fun dM w =>
  aC pg (aJ 145 dM t33) w fun _u w =>
  aC pg (aL 145 dM 0) w fun t34 w =>
  aC pg (aH 3 t34) w fun t35 w =>
  aC pg (aG .gtr 3 aM aM t35 JN) w fun t37 w =>
  Gd (fI t37 false) (fun K => aC pg (aL 145 dM 0) w K) w fun t39 w =>
  Gd (fI t37 false) (fun K => aC pg (aH 3 t39) w K) w fun t40 w =>
  Gd (fI t37 false) (fun K => aC pg (aG .gtr 3 aM aM t40 (.int .i64 15)) w K) w fun t41 w =>
  aC pg (fR t37 (.bool true) t41) w fun t42 w =>
  eN t42
   (aC pg (bV 145 []) w fun t43 w =>
   aC pg (aJ 145 t6 t43) w fun _u w =>
   kC pg 145 t6 w fun r0 => R (.tuple #[r0, (.int .i64 0), (.int .i64 12)]) w)
   (aC pg (aL 145 dM 0) w fun t44 w =>
   aC pg (aH 3 t44) w fun t45 w =>
   aC pg (aG .shl 3 aM aM (.int .i64 1) t45) w fun t46 w =>
   kn aO t6 t20 dM t46 w))
theorem WH (kn : K5) (R : K1) (hn : N5 Q kn 2 6 9 12 13) (hr : HR mJ R Q) (h : GQ kn R (g 0) (g 1) (g 2) w) : bH pg kK (aD 7 jM) Q g w :=
 dR (l := []) h hn hr trivial
def Hb (R : K1) (Co JN aO : aJb) (w : aJa) : Prop :=
 GQ (fun aO t6 jZ dM aU w => AO R aO t6 jZ dM aU w) R Co JN aO w
theorem VV (R : K1) (hr : HR mJ R Q) (h : Hb R (g 0) (g 1) (g 2) w) : bH pg kK jM Q g w :=
 fQ 7 (WH _ g w (AO R) R (fun g w h => aK (fQ 1 (Zg _ g w (CP R) R (fun g w h => aK (YJ _ g w R hr h)) hr h))) hr h)
def agH (a0 a1 a2 : aJb) (w : aJa) (R : K1) : Prop :=
 Hb R a0 a1 a2 w
theorem aaS {a0 a1 a2 : aJb} {w : aJa} {R : K1} (h : agH a0 a1 a2 w R) : aR pg Fj #[a0, a1, a2] w R := by
 refine rI (ann := kK) Tryd.f76 jM [a0, a1, a2] mJ 104 TrydM.mixed Tryd.func76 ?_
 exact (VV _ _ _ R (fun _ _ h => h) h)
def pU : FA := ⟨Ge, fun i => .leaf ([], []) []⟩
def PR : List ResultVar := [.tmp 6]
noncomputable def nS : Code := cU Tryd.f77
def IH (R : K1) (oQ : aJb) (w : aJa) : Prop :=
 R oQ w
theorem ahZ (R : K1) (hr : HR PR R Q) (h : IH R (g 7) w) : bH pg pU (aB 1 (aB 2 nS)) Q g w :=
 dR (kn := no) (l := []) h eQ hr trivial
def IZ (kn : K5) (k0 : K1) (Co IX oQ t10 t11 : aJb) (w : aJa) : Prop :=
 aC pg (aG .lss 3 aM aM t11 t10) w fun t12 w =>
 eN t12
  (aC pg (aG .add 3 aM aM IX t11) w fun t16 w =>
  aC pg (aG .quo 3 aM aM t16 (.int .i64 8)) w fun t20 w =>
  aC pg (bA 22 Co t20) w fun t21 w =>
  aC pg (aH 5 t21) w fun t22 w =>
  aC pg (aG .rem 3 aM aM t16 (.int .i64 8)) w fun t24 w =>
  aC pg (aG .shr 5 aM aM t22 t24) w fun t25 w =>
  aC pg (aG .and 5 aM aM t25 (.int .u8 1)) w fun t26 w =>
  aC pg (fM 5 73 t26) w fun t27 w =>
  aC pg (fM 3 94 t11) w fun t29 w =>
  aC pg (aG .shl 73 aM aM t27 t29) w fun t30 w =>
  aC pg (aG .or 73 aM aM oQ t30) w fun t31 w =>
  aC pg (aG .add 3 aM aM t11 (.int .i64 1)) w fun t32 w =>
  kn Co IX t31 t10 t32 w)
  (k0 oQ w)
theorem ahL (kn : K5) (k0 : K1) (hn : N5 Q kn 0 1 7 10 11) (h0 : E1 Q k0 0 7) (h : IZ kn k0 (g 0) (g 1) (g 7) (g 10) (g 11) w) : bH pg pU (bI (bI (aB 1 (aD 1 (aB 2 nS))))) Q g w :=
 dR (kr := no) (l := [(0, fun g w => k0 (g 7) w)]) h hn eQ ⟨h0, trivial⟩
def P2 (k0 : K1) (Co IX oQ t10 t11 : aJb) (w : aJa) : Prop :=
 cG (fun (X : (aJb × aJb) -> K0) (t : aJb × aJb) (w : aJa) => IZ (fun _ _ oQ _ t11 w => X (oQ, t11) w) k0 Co IX t.1 t10 t.2 w) (oQ, t11) w
theorem ahY (k0 : K1) (h0 : E1 Q k0 0 7) (h : P2 k0 (g 0) (g 1) (g 7) (g 10) (g 11) w) : bH pg pU (bI (aB 1 (aD 1 (aB 2 nS)))) Q g w := by
 refine DO (fun g : Env => (g 7, g 11)) (fun X t w => IZ (fun _ _ oQ _ t11 w => X (oQ, t11) w) k0 (g 0) (g 1) t.1 (g 10) t.2 w) h (fun X g1 w1 ha hL => ?_)
 rw [<- fE 0 ha, <- fE 1 ha, <- fE 10 ha] at hL
 exact (ahL _ g1 w1 (fun _ _ oQ _ t11 w => X (oQ, t11) w) k0 (fun _ _ h => h) h0 hL)
def QS (kn : K1) (Co IX oQ t10 t11 : aJb) (w : aJa) : Prop :=
 P2 kn Co IX oQ t10 t11 w
def QG (kn : K5) (Co IX AW oQ : aJb) (w : aJa) : Prop :=
 kn Co IX oQ AW (.int .i64 0) w
theorem aiF (kn : K5) (hn : N5 Q kn 0 1 7 10 11) (h : QG kn (g 0) (g 1) (g 2) (g 7) w) : bH pg pU (aD 1 (aD 1 (aB 2 nS))) Q g w :=
 dR (kr := no) (l := []) h hn eQ trivial
def PI (kn : K1) (Co IX AW oQ : aJb) (w : aJa) : Prop :=
 QG (fun Co IX oQ t10 t11 w => QS kn Co IX oQ t10 t11 w) Co IX AW oQ w
def QY (R : K1) (Co IX AW oQ : aJb) (w : aJa) : Prop :=
 PI (fun oQ w => IH R oQ w) Co IX AW oQ w
theorem ahO (kn : K1) (hn : N1 Q kn 7) (h : PI kn (g 0) (g 1) (g 2) (g 7) w) : bH pg pU (aD 1 (aB 2 nS)) Q g w :=
 fQ 1 (aiF _ g w (QS kn) (fun g w h => aK (tX 0 (ahY _ g w kn hn h))) h)
def PT (kn : K4) (Co IX AW : aJb) (w : aJa) : Prop :=
 kn Co IX AW (.int .u64 0) w
theorem ajG (kn : K4) (hn : N4 Q kn 0 1 2 7) (h : PT kn (g 0) (g 1) (g 2) w) : bH pg pU (aD 2 nS) Q g w :=
 dR (kr := no) (l := []) h hn eQ trivial
def Qz (R : K1) (Co IX AW : aJb) (w : aJa) : Prop :=
 PT (fun Co IX AW oQ w => QY R Co IX AW oQ w) Co IX AW w
theorem aiG (R : K1) (hr : HR PR R Q) (h : Qz R (g 0) (g 1) (g 2) w) : bH pg pU nS Q g w :=
 fQ 2 (ajG _ g w (QY R) (fun g w h => aK (fQ 1 (ahO _ g w (IH R) (fun g w h => aK (ahZ _ g w R hr h)) h))) h)
def aqP (a0 a1 a2 : aJb) (w : aJa) (R : K1) : Prop :=
 Qz R a0 a1 a2 w
theorem aoE {a0 a1 a2 : aJb} {w : aJa} {R : K1} (h : aqP a0 a1 a2 w R) : aR pg Ge #[a0, a1, a2] w R := by
 refine rI (ann := pU) Tryd.f77 nS [a0, a1, a2] PR 34 TrydM.mixed Tryd.func77 ?_
 exact (aiG _ _ _ R (fun _ _ h => h) h)
def Vz : FA := ⟨Ck, fun i => match Nat.beq i 4 with | true => .leaf ([], []) [(false, []), (false, []), (false, []), (false, [])] | false => match Nat.beq i 7 with | true => .leaf ([], []) [(false, []), (false, []), (false, []), (false, [])] | false => .leaf ([], []) []⟩
def X3 : List ResultVar := [.tmp 2, .tmp 3, .tmp 4]
noncomputable def T9 : Code := cU Tryd.f78
def Qm (R : K1) (aQ : aJb) (w : aJa) : Prop :=
 aC pg (aG .eql 3 (.tmp 7) (.const (.int .i64 0)) aQ (.int .i64 0)) w fun t9 w =>
 eN t9
  (aC pg (aH 190 (.pointer (some ⟨3, 0, none⟩))) w fun t10 w =>
  aC pg (bT 190) w fun l_5 w =>
  aC pg (aJ 190 l_5 t10) w fun _u w =>
  aC pg (fJ 190 l_5 none none none) (dr w) fun t11 w_ => w_ = (dr w) /\
  (dr w) = (dr w) /\
  (dr w) = (dr w) /\
  (dr w) = (dr w) /\
  R (.tuple #[(.int .i64 16), (.int .u32 0), t11]) (dr w))
  (aC pg (aG .eql 3 (.tmp 7) (.const (.int .i64 2)) aQ (.int .i64 2)) w fun t13 w =>
  eN t13
   (aC pg (aH 191 (.pointer (some ⟨4, 0, none⟩))) w fun t14 w =>
   aC pg (bT 191) w fun l_6 w =>
   aC pg (aJ 191 l_6 t14) w fun _u w =>
   aC pg (fJ 191 l_6 none none none) (dr w) fun t15 w_ => w_ = (dr w) /\
   (dr w) = (dr w) /\
   (dr w) = (dr w) /\
   (dr w) = (dr w) /\
   R (.tuple #[(.int .i64 32), (.int .u32 3), t15]) (dr w))
   (R (.tuple #[(.int .i64 0), (.int .u32 0), (.slice none 0 0)]) w))
theorem ajP (R : K1) (hr : HR X3 R Q) (h : Qm R (g 0) w) : bH pg Vz T9 Q g w :=
 dR (kn := no) (l := []) h eQ hr trivial
def aqI (a0 : aJb) (w : aJa) (R : K1) : Prop :=
 Qm R a0 w
theorem akY {a0 : aJb} {w : aJa} {R : K1} (h : aqI a0 w R) : aR pg Ck #[a0] w R := by
 refine rI (ann := Vz) Tryd.f78 T9 [a0] X3 16 TrydM.mixed Tryd.func78 ?_
 exact (ajP _ _ _ R (fun _ _ h => h) h)
def Rh : FA := ⟨FG, fun i => .leaf ([], []) []⟩
def TK : List ResultVar := [.cell 2 130]
noncomputable def OV : Code := cU Tryd.f79
def Jf (R : K1) (aQ : aJb) (w : aJa) : Prop :=
 aC pg (bT 130) w fun t2 w =>
 aC pg (aG .eql 3 (.tmp 3) (.const (.int .i64 0)) aQ (.int .i64 0)) w fun t4 w =>
 eN t4
  (aC pg (bX 77 36 [(0, (.int .i64 4)), (1, (.int .i64 3)), (2, (.int .i64 2)), (3, (.int .i64 2)), (4, (.int .i64 2)), (5, (.int .i64 2)), (6, (.int .i64 2)), (7, (.int .i64 2)), (8, (.int .i64 2)), (9, (.int .i64 2)), (10, (.int .i64 2)), (11, (.int .i64 2)), (12, (.int .i64 2)), (13, (.int .i64 1)), (14, (.int .i64 1)), (15, (.int .i64 1)), (16, (.int .i64 2)), (17, (.int .i64 2)), (18, (.int .i64 2)), (19, (.int .i64 2)), (20, (.int .i64 2)), (21, (.int .i64 2)), (22, (.int .i64 2)), (23, (.int .i64 2)), (24, (.int .i64 2)), (25, (.int .i64 3)), (26, (.int .i64 2)), (27, (.int .i64 1)), (28, (.int .i64 1)), (29, (.int .i64 1)), (30, (.int .i64 1)), (31, (.int .i64 1)), (32, (.int .i64 (-1))), (33, (.int .i64 (-1))), (34, (.int .i64 (-1))), (35, (.int .i64 (-1)))]) w fun t5 w =>
  aC pg (bV 130 [(0, (.int .i64 6)), (1, t5)]) w fun t6 w =>
  aC pg (aJ 130 t2 t6) w fun _u w =>
  kC pg 130 t2 w fun r0 => R r0 w)
  (aC pg (aG .eql 3 (.tmp 7) (.const (.int .i64 1)) aQ (.int .i64 1)) w fun t8 w =>
  eN t8
   (aC pg (bX 77 29 [(0, (.int .i64 1)), (1, (.int .i64 1)), (2, (.int .i64 1)), (3, (.int .i64 1)), (4, (.int .i64 1)), (5, (.int .i64 1)), (6, (.int .i64 2)), (7, (.int .i64 2)), (8, (.int .i64 2)), (9, (.int .i64 1)), (10, (.int .i64 1)), (11, (.int .i64 1)), (12, (.int .i64 1)), (13, (.int .i64 1)), (14, (.int .i64 1)), (15, (.int .i64 1)), (16, (.int .i64 1)), (17, (.int .i64 1)), (18, (.int .i64 1)), (19, (.int .i64 1)), (20, (.int .i64 1)), (21, (.int .i64 1)), (22, (.int .i64 1)), (23, (.int .i64 1)), (24, (.int .i64 (-1))), (25, (.int .i64 (-1))), (26, (.int .i64 (-1))), (27, (.int .i64 (-1))), (28, (.int .i64 (-1)))]) w fun t9 w =>
   aC pg (bV 130 [(0, (.int .i64 5)), (1, t9)]) w fun t10 w =>
   aC pg (aJ 130 t2 t10) w fun _u w =>
   kC pg 130 t2 w fun r0 => R r0 w)
   (aC pg (bX 77 53 [(0, (.int .i64 1)), (1, (.int .i64 4)), (2, (.int .i64 3)), (3, (.int .i64 2)), (4, (.int .i64 2)), (5, (.int .i64 2)), (6, (.int .i64 2)), (7, (.int .i64 2)), (8, (.int .i64 2)), (9, (.int .i64 1)), (10, (.int .i64 1)), (11, (.int .i64 1)), (12, (.int .i64 1)), (13, (.int .i64 1)), (14, (.int .i64 1)), (15, (.int .i64 1)), (16, (.int .i64 1)), (17, (.int .i64 1)), (18, (.int .i64 1)), (19, (.int .i64 1)), (20, (.int .i64 1)), (21, (.int .i64 1)), (22, (.int .i64 1)), (23, (.int .i64 1)), (24, (.int .i64 1)), (25, (.int .i64 1)), (26, (.int .i64 1)), (27, (.int .i64 1)), (28, (.int .i64 1)), (29, (.int .i64 1)), (30, (.int .i64 1)), (31, (.int .i64 1)), (32, (.int .i64 1)), (33, (.int .i64 1)), (34, (.int .i64 1)), (35, (.int .i64 1)), (36, (.int .i64 1)), (37, (.int .i64 1)), (38, (.int .i64 1)), (39, (.int .i64 1)), (40, (.int .i64 1)), (41, (.int .i64 1)), (42, (.int .i64 1)), (43, (.int .i64 1)), (44, (.int .i64 1)), (45, (.int .i64 1)), (46, (.int .i64 (-1))), (47, (.int .i64 (-1))), (48, (.int .i64 (-1))), (49, (.int .i64 (-1))), (50, (.int .i64 (-1))), (51, (.int .i64 (-1))), (52, (.int .i64 (-1)))]) w fun t11 w =>
   aC pg (bV 130 [(0, (.int .i64 6)), (1, t11)]) w fun t12 w =>
   aC pg (aJ 130 t2 t12) w fun _u w =>
   kC pg 130 t2 w fun r0 => R r0 w))
theorem ZC (R : K1) (hr : HR TK R Q) (h : Jf R (g 0) w) : bH pg Rh OV Q g w :=
 dR (kn := no) (l := []) h eQ hr trivial
def agS (a0 : aJb) (w : aJa) (R : K1) : Prop :=
 Jf R a0 w
theorem adW {a0 : aJb} {w : aJa} {R : K1} (h : agS a0 w R) : aR pg FG #[a0] w R := by
 refine rI (ann := Rh) Tryd.f79 OV [a0] TK 13 TrydM.mixed Tryd.func79 ?_
 exact (ZC _ _ _ R (fun _ _ h => h) h)
def Tp : FA := ⟨pM, fun i => .leaf ([], []) []⟩
def VB : List ResultVar := [.cell 4 164, .tmp 5, .tmp 6]
noncomputable def Rz : Code := cU Tryd.f80
def NG (R : K1) (H9 pK : aJb) (w : aJa) : Prop :=
 aC pg (rA 164 H9) w fun SG w =>
 aC pg (bT 164) w fun t4 w =>
 aC pg (aG .lss 3 aM aM pK (.int .i64 0)) w fun t9 w =>
 Gd (fI t9 false) (fun K => K pK w) w fun t11 w =>
 Gd (fI t9 false) (fun K => aC pg (aG .gtr 3 aM aM t11 (.int .i64 32)) w K) w fun t12 w =>
 aC pg (fR t9 (.bool true) t12) w fun t13 w =>
 eN t13
  (aC pg (aH 164 SG) w fun t14 w =>
  aC pg (aJ 164 t4 t14) w fun _u w =>
  kC pg 164 t4 w fun r0 => R (.tuple #[r0, (.int .u64 0), (.int .i64 1)]) w)
  (aC pg (aL 164 SG 0) w fun t15 w =>
  aC pg (aH 80 t15) w fun t16 w =>
  aC pg (jS .len #[80] 3 [t16]) w fun t17 w =>
  aC pg (aL 164 SG 1) w fun t18 w =>
  aC pg (aH 3 t18) w fun t19 w =>
  aC pg (aG .sub 3 aM aM t17 t19) w fun t20 w =>
  aC pg (aG .lss 3 aM aM t20 pK) w fun t22 w =>
  eN t22
   (aC pg (aH 164 SG) w fun t23 w =>
   aC pg (aJ 164 t4 t23) w fun _u w =>
   kC pg 164 t4 w fun r0 => R (.tuple #[r0, (.int .u64 0), (.int .i64 10)]) w)
   (aC pg (aL 164 SG 0) w fun t24 w =>
   aC pg (aH 80 t24) w fun t25 w =>
   aC pg (aL 164 SG 1) w fun t26 w =>
   aC pg (aH 3 t26) w fun t27 w =>
   aC pg (aL 164 SG 1) w fun t28 w =>
   aC pg (aH 3 t28) w fun t29 w =>
   aC pg (aG .add 3 aM aM t29 pK) w fun t31 w =>
   aC pg (fJ 80 t25 (some t27) (some t31) none) w fun t32 w =>
   aR pg yJ #[t32] w fun t33 w =>
   aC pg (aL 164 SG 1) w fun t34 w =>
   aC pg (aH 3 t34) w fun t35 w =>
   aC pg (aG .add 3 aM aM t35 pK) w fun t37 w =>
   aC pg (aL 164 SG 1) w fun t38 w =>
   aC pg (aJ 3 t38 t37) w fun _u w =>
   aC pg (aH 164 SG) w fun t39 w =>
   aC pg (aJ 164 t4 t39) w fun _u w =>
   kC pg 164 t4 w fun r0 => R (.tuple #[r0, t33, (.int .i64 0)]) w))
theorem aeO (R : K1) (hr : HR VB R Q) (h : NG R (g 0) (g 1) w) : bH pg Tp Rz Q g w :=
 dR (kn := no) (l := []) h eQ hr trivial
def anR (a0 a1 : aJb) (w : aJa) (R : K1) : Prop :=
 NG R a0 a1 w
theorem aiV {a0 a1 : aJb} {w : aJa} {R : K1} (h : anR a0 a1 w R) : aR pg pM #[a0, a1] w R := by
 refine rI (ann := Tp) Tryd.f80 Rz [a0, a1] VB 41 TrydM.mixed Tryd.func80 ?_
 exact (aeO _ _ _ R (fun _ _ h => h) h)
def mU : FA := ⟨mF, fun i => .leaf ([], []) []⟩
def JP : List ResultVar := [.tmp 2]
noncomputable def lZ : Code := cU Tryd.f81
def CT (R : K1) (xD : aJb) (w : aJa) : Prop :=
 R xD w
theorem YI (R : K1) (hr : HR JP R Q) (h : CT R (g 3) w) : bH pg mU (aB 1 (aB 2 lZ)) Q g w :=
 dR (kn := no) (l := []) h eQ hr trivial
def yN (kn : K3) (k0 : K1) (n_0 xD jH : aJb) (w : aJa) : Prop :=
 aC pg (aG .lss 3 aM aM jH n_0) w fun t7 w =>
 Gd (fI t7 true) (fun K => K jH w) w fun t9 w =>
 Gd (fI t7 true) (fun K => aC pg (aG .lss 3 aM aM t9 (.int .i64 40)) w K) w fun t10 w =>
 aC pg (fR t7 t10 (.bool false)) w fun t11 w =>
 eN t11
  (aC pg (aG .mul 3 aM aM xD (.int .i64 2)) w fun t15 w =>
  aC pg (aG .add 3 aM aM jH (.int .i64 1)) w fun t13 w =>
  kn n_0 t15 t13 w)
  (k0 xD w)
theorem ZR (kn : K3) (k0 : K1) (hn : N3 Q kn 0 3 4) (h0 : E1 Q k0 0 3) (h : yN kn k0 (g 0) (g 3) (g 4) w) : bH pg mU (bI (bI (aB 1 (aD 1 (aB 2 lZ))))) Q g w :=
 dR (kr := no) (l := [(0, fun g w => k0 (g 3) w)]) h hn eQ ⟨h0, trivial⟩
def Ll (k0 : K1) (n_0 xD jH : aJb) (w : aJa) : Prop :=
 cG (fun (X : (aJb × aJb) -> K0) (t : aJb × aJb) (w : aJa) => yN (fun _ xD jH w => X (xD, jH) w) k0 n_0 t.1 t.2 w) (xD, jH) w
theorem XW (k0 : K1) (h0 : E1 Q k0 0 3) (h : Ll k0 (g 0) (g 3) (g 4) w) : bH pg mU (bI (aB 1 (aD 1 (aB 2 lZ)))) Q g w := by
 refine DO (fun g : Env => (g 3, g 4)) (fun X t w => yN (fun _ xD jH w => X (xD, jH) w) k0 (g 0) t.1 t.2 w) h (fun X g1 w1 ha hL => ?_)
 rw [<- fE 0 ha] at hL
 exact (ZR _ g1 w1 (fun _ xD jH w => X (xD, jH) w) k0 (fun _ _ h => h) h0 hL)
def Lf (kn : K1) (n_0 xD jH : aJb) (w : aJa) : Prop :=
 Ll kn n_0 xD jH w
def Jq (kn : K3) (n_0 xD : aJb) (w : aJa) : Prop :=
 kn n_0 xD (.int .i64 0) w
theorem Zt (kn : K3) (hn : N3 Q kn 0 3 4) (h : Jq kn (g 0) (g 3) w) : bH pg mU (aD 1 (aD 1 (aB 2 lZ))) Q g w :=
 dR (kr := no) (l := []) h hn eQ trivial
def JO (kn : K1) (n_0 xD : aJb) (w : aJa) : Prop :=
 Jq (fun n_0 xD jH w => Lf kn n_0 xD jH w) n_0 xD w
def JQ (R : K1) (n_0 xD : aJb) (w : aJa) : Prop :=
 JO (fun xD w => CT R xD w) n_0 xD w
theorem aaE (kn : K1) (hn : N1 Q kn 3) (h : JO kn (g 0) (g 3) w) : bH pg mU (aD 1 (aB 2 lZ)) Q g w :=
 fQ 1 (Zt _ g w (Lf kn) (fun g w h => aK (tX 0 (XW _ g w kn hn h))) h)
def Li (kn : K2) (n_0 : aJb) (w : aJa) : Prop :=
 kn n_0 (.int .i64 1) w
theorem Z2 (kn : K2) (hn : N2 Q kn 0 3) (h : Li kn (g 0) w) : bH pg mU (aD 2 lZ) Q g w :=
 dR (kr := no) (l := []) h hn eQ trivial
def JU (R : K1) (n_0 : aJb) (w : aJa) : Prop :=
 Li (fun n_0 xD w => JQ R n_0 xD w) n_0 w
theorem Yz (R : K1) (hr : HR JP R Q) (h : JU R (g 0) w) : bH pg mU lZ Q g w :=
 fQ 2 (Z2 _ g w (JQ R) (fun g w h => aK (fQ 1 (aaE _ g w (CT R) (fun g w h => aK (YI _ g w R hr h)) h))) h)
def agI (a0 : aJb) (w : aJa) (R : K1) : Prop :=
 JU R a0 w
theorem aeJ {a0 : aJb} {w : aJa} {R : K1} (h : agI a0 w R) : aR pg mF #[a0] w R := by
 refine rI (ann := mU) Tryd.f81 lZ [a0] JP 17 TrydM.mixed Tryd.func81 ?_
 exact (Yz _ _ _ R (fun _ _ h => h) h)
def xP : FA := ⟨Ix, fun i => .leaf ([], []) []⟩
def AE : List ResultVar := [.cell 4 164, .tmp 5, .tmp 6]
noncomputable def vZ : Code := cU Tryd.f82
def GN (R : K1) (SG t4 x_8 Zu ZK : aJb) (w : aJa) : Prop :=
 aC pg (aH 164 SG) w fun t44 w =>
 aR pg pM #[t44, (.int .i64 1)] w fun t45 w =>
 aC pg (bB t45 0) w fun t46 w =>
 aC pg (bB t45 1) w fun t47 w =>
 aC pg (bB t45 2) w fun t48 w =>
 aC pg (aJ 164 SG t46) w fun _u w =>
 aC pg (aG .neq 30 (.tmp 49) (.const (.int .i64 0)) t48 (.int .i64 0)) w fun t50 w =>
 eN t50
  (aC pg (aH 164 SG) w fun t51 w =>
  aC pg (aJ 164 t4 t51) w fun _u w =>
  kC pg 164 t4 w fun r0 => R (.tuple #[r0, (.int .i64 0), t48]) w)
  (aC pg (aG .eql 73 (.tmp 53) (.const (.int .u64 1)) t47 (.int .u64 1)) w fun t54 w =>
  eN t54
   (aC pg (aH 164 SG) w fun t55 w =>
   aC pg (fM 73 3 x_8) w fun t57 w =>
   aC pg (aG .add 3 aM aM t57 Zu) w fun t59 w =>
   aC pg (aG .sub 3 aM aM t59 ZK) w fun t61 w =>
   aC pg (aJ 164 t4 t55) w fun _u w =>
   kC pg 164 t4 w fun r0 => R (.tuple #[r0, t61, (.int .i64 0)]) w)
   (aC pg (aH 164 SG) w fun t62 w =>
   aC pg (fM 73 3 x_8) w fun t64 w =>
   aC pg (aJ 164 t4 t62) w fun _u w =>
   kC pg 164 t4 w fun r0 => R (.tuple #[r0, t64, (.int .i64 0)]) w))
theorem Wb (R : K1) (hr : HR AE R Q) (h : GN R (g 2) (g 4) (g 8) (g 10) (g 11) w) : bH pg xP (aB 7 vZ) Q g w :=
 dR (kn := no) (l := []) h eQ hr trivial
def RG (kn : K5) (R : K1) (H9 NO : aJb) (w : aJa) : Prop :=
 aC pg (rA 164 H9) w fun SG w =>
 aC pg (bT 164) w fun t4 w =>
 aC pg (aG .add 3 aM aM NO (.int .i64 1)) w fun t14 w =>
 aR pg AF #[t14] w fun t15 w =>
 aC pg (aH 164 SG) w fun t17 w =>
 aC pg (aG .sub 3 aM aM t15 (.int .i64 1)) w fun t19 w =>
 aR pg pM #[t17, t19] w fun t20 w =>
 aC pg (bB t20 0) w fun t21 w =>
 aC pg (bB t20 1) w fun t22 w =>
 aC pg (bB t20 2) w fun t23 w =>
 aC pg (aJ 164 SG t21) w fun _u w =>
 aC pg (aG .neq 30 (.tmp 24) (.const (.int .i64 0)) t23 (.int .i64 0)) w fun t25 w =>
 eN t25
  (aC pg (aH 164 SG) w fun t26 w =>
  aC pg (aJ 164 t4 t26) w fun _u w =>
  kC pg 164 t4 w fun r0 => R (.tuple #[r0, (.int .i64 0), t23]) w)
  (aC pg (aG .sub 3 aM aM t15 (.int .i64 1)) w fun t29 w =>
  aR pg mF #[t29] w fun t30 w =>
  aC pg (aG .mul 3 aM aM (.int .i64 2) t30) w fun t32 w =>
  aC pg (aG .sub 3 aM aM t32 (.int .i64 2)) w fun t33 w =>
  aC pg (aG .sub 3 aM aM t33 NO) w fun t35 w =>
  aC pg (fM 73 3 t22) w fun t37 w =>
  aC pg (aG .lss 3 aM aM t37 t35) w fun t39 w =>
  eN t39
   (aC pg (aH 164 SG) w fun t40 w =>
   aC pg (fM 73 3 t22) w fun t42 w =>
   aC pg (aJ 164 t4 t40) w fun _u w =>
   kC pg 164 t4 w fun r0 => R (.tuple #[r0, t42, (.int .i64 0)]) w)
   (kn SG t4 t22 t30 t35 w))
theorem WQ (kn : K5) (R : K1) (hn : N5 Q kn 2 4 8 10 11) (hr : HR AE R Q) (h : RG kn R (g 0) (g 1) w) : bH pg xP (aD 7 vZ) Q g w :=
 dR (l := []) h hn hr trivial
def ahX (R : K1) (H9 NO : aJb) (w : aJa) : Prop :=
 RG (fun SG t4 x_8 Zu ZK w => GN R SG t4 x_8 Zu ZK w) R H9 NO w
theorem VS (R : K1) (hr : HR AE R Q) (h : ahX R (g 0) (g 1) w) : bH pg xP vZ Q g w :=
 fQ 7 (WQ _ g w (GN R) R (fun g w h => aK (Wb _ g w R hr h)) hr h)
def M8 (R : K1) (H9 NO : aJb) (w : aJa) : Prop :=
 aC pg (rA 164 H9) w fun SG w =>
 aC pg (bT 164) w fun t4 w =>
 aC pg (aG .add 3 aM aM NO (.int .i64 1)) w fun t14 w =>
 aR pg AF #[t14] w fun t15 w =>
 aC pg (aH 164 SG) w fun t17 w =>
 aC pg (aG .sub 3 aM aM t15 (.int .i64 1)) w fun t19 w =>
 aR pg pM #[t17, t19] w fun t20 w =>
 aC pg (bB t20 0) w fun t21 w =>
 aC pg (bB t20 1) w fun t22 w =>
 aC pg (bB t20 2) w fun t23 w =>
 aC pg (aJ 164 SG t21) w fun _u w =>
 aC pg (aG .neq 30 (.tmp 24) (.const (.int .i64 0)) t23 (.int .i64 0)) w fun t25 w =>
 eN t25
  (aC pg (aH 164 SG) w fun t26 w =>
  aC pg (aJ 164 t4 t26) w fun _u w =>
  kC pg 164 t4 w fun r0 => R (.tuple #[r0, (.int .i64 0), t23]) w)
  (aC pg (aG .sub 3 aM aM t15 (.int .i64 1)) w fun t29 w =>
  aR pg mF #[t29] w fun t30 w =>
  aC pg (aG .mul 3 aM aM (.int .i64 2) t30) w fun t32 w =>
  aC pg (aG .sub 3 aM aM t32 (.int .i64 2)) w fun t33 w =>
  aC pg (aG .sub 3 aM aM t33 NO) w fun t35 w =>
  aC pg (fM 73 3 t22) w fun t37 w =>
  aC pg (aG .lss 3 aM aM t37 t35) w fun t39 w =>
  eN t39
   (aC pg (aH 164 SG) w fun t40 w =>
   aC pg (fM 73 3 t22) w fun t42 w =>
   aC pg (aJ 164 t4 t40) w fun _u w =>
   kC pg 164 t4 w fun r0 => R (.tuple #[r0, t42, (.int .i64 0)]) w)
   (aC pg (aH 164 SG) w fun t44 w =>
   aR pg pM #[t44, (.int .i64 1)] w fun t45 w =>
   aC pg (bB t45 0) w fun t46 w =>
   aC pg (bB t45 1) w fun t47 w =>
   aC pg (bB t45 2) w fun t48 w =>
   aC pg (aJ 164 SG t46) w fun _u w =>
   aC pg (aG .neq 30 (.tmp 49) (.const (.int .i64 0)) t48 (.int .i64 0)) w fun t50 w =>
   eN t50
    (aC pg (aH 164 SG) w fun t51 w =>
    aC pg (aJ 164 t4 t51) w fun _u w =>
    kC pg 164 t4 w fun r0 => R (.tuple #[r0, (.int .i64 0), t48]) w)
    (aC pg (aG .eql 73 (.tmp 53) (.const (.int .u64 1)) t47 (.int .u64 1)) w fun t54 w =>
    eN t54
     (aC pg (aH 164 SG) w fun t55 w =>
     aC pg (fM 73 3 t22) w fun t57 w =>
     aC pg (aG .add 3 aM aM t57 t30) w fun t59 w =>
     aC pg (aG .sub 3 aM aM t59 t35) w fun t61 w =>
     aC pg (aJ 164 t4 t55) w fun _u w =>
     kC pg 164 t4 w fun r0 => R (.tuple #[r0, t61, (.int .i64 0)]) w)
     (aC pg (aH 164 SG) w fun t62 w =>
     aC pg (fM 73 3 t22) w fun t64 w =>
     aC pg (aJ 164 t4 t62) w fun _u w =>
     kC pg 164 t4 w fun r0 => R (.tuple #[r0, t64, (.int .i64 0)]) w))))
theorem acU (R : K1) (hr : HR AE R Q) (h : M8 R (g 0) (g 1) w) : bH pg xP vZ Q g w :=
 VS Q g w R hr (Eq.mp (by kernel_rfl) h)
def alR (a0 a1 : aJb) (w : aJa) (R : K1) : Prop :=
 M8 R a0 a1 w
theorem aiN {a0 a1 : aJb} {w : aJa} {R : K1} (h : alR a0 a1 w R) : aR pg Ix #[a0, a1] w R := by
 refine rI (ann := xP) Tryd.f82 vZ [a0, a1] AE 65 TrydM.mixed Tryd.func82 ?_
 exact (acU _ _ _ R (fun _ _ h => h) h)
def SN : FA := ⟨IE, fun i => .leaf ([], []) []⟩
def Vs : List ResultVar := [.tmp 2]
noncomputable def Q1 : Code := cU Tryd.f83
def MX (R : K1) (H9 : aJb) (w : aJa) : Prop :=
 aC pg (rA 164 H9) w fun f_1 w =>
 aC pg (aL 164 f_1 1) w fun t3 w =>
 aC pg (aH 3 t3) w fun t4 w =>
 aC pg (aG .add 3 aM aM t4 (.int .i64 7)) w fun t5 w =>
 aC pg (aG .quo 3 aM aM t5 (.int .i64 8)) w fun t6 w =>
 R t6 w
theorem aeD (R : K1) (hr : HR Vs R Q) (h : MX R (g 0) w) : bH pg SN Q1 Q g w :=
 dR (kn := no) (l := []) h eQ hr trivial
def anW (a0 : aJb) (w : aJa) (R : K1) : Prop :=
 MX R a0 w
theorem ajC {a0 : aJb} {w : aJa} {R : K1} (h : anW a0 w R) : aR pg IE #[a0] w R := by
 refine rI (ann := SN) Tryd.f83 Q1 [a0] Vs 7 TrydM.mixed Tryd.func83 ?_
 exact (aeD _ _ _ R (fun _ _ h => h) h)
def Rd : FA := ⟨Fh, fun i => .leaf ([], []) []⟩
def Tb : List ResultVar := [.tmp 4]
noncomputable def Pr : Code := cU Tryd.f84
def Jo (R : K1) (c_0 JN : aJb) (w : aJa) : Prop :=
 aC pg (rA 130 c_0) w fun c_2 w =>
 aC pg (aH 130 c_2) w fun t6 w =>
 aR pg LJ #[t6] w fun t7 w =>
 aC pg (sUn .not t7) w fun t9 w =>
 eN t9
  (R (.int .i64 1) w)
  (aC pg (aL 130 c_2 0) w fun t10 w =>
  aC pg (aH 3 t10) w fun t11 w =>
  aC pg (aG .gtr 3 aM aM t11 JN) w fun t13 w =>
  eN t13
   (R (.int .i64 12) w)
   (R (.int .i64 0) w))
theorem ZE (R : K1) (hr : HR Tb R Q) (h : Jo R (g 0) (g 1) w) : bH pg Rd Pr Q g w :=
 dR (kn := no) (l := []) h eQ hr trivial
def agL (a0 a1 : aJb) (w : aJa) (R : K1) : Prop :=
 Jo R a0 a1 w
theorem adT {a0 a1 : aJb} {w : aJa} {R : K1} (h : agL a0 a1 w R) : aR pg Fh #[a0, a1] w R := by
 refine rI (ann := Rd) Tryd.f84 Pr [a0, a1] Tb 14 TrydM.mixed Tryd.func84 ?_
 exact (ZE _ _ _ R (fun _ _ h => h) h)
def jO : FA := ⟨yJ, fun i => .leaf ([], []) []⟩
def Gv : List ResultVar := [.tmp 2]
noncomputable def iT : Code := cU Tryd.f85
def AU (R : K1) (xD : aJb) (w : aJa) : Prop :=
 R xD w
theorem W8 (R : K1) (hr : HR Gv R Q) (h : AU R (g 3) w) : bH pg jO (aB 1 (aB 2 iT)) Q g w :=
 dR (kn := no) (l := []) h eQ hr trivial
def vS (kn : K3) (hZ xD jH : aJb) (w : aJa) : Prop :=
 aC pg (aG .sub 3 aM aM jH (.int .i64 1)) w fun t11 w =>
 kn hZ xD t11 w
theorem Ww (kn : K3) (hn : N3 Q kn 0 3 4) (h : vS kn (g 0) (g 3) (g 4) w) : bH pg jO (aB 2 (bI (bI (aB 1 (aD 1 (aB 2 iT)))))) Q g w :=
 dR (kr := no) (l := []) h hn eQ trivial
def Ha (kn : K3) (k0 : K1) (hZ xD jH : aJb) (w : aJa) : Prop :=
 aC pg (aG .geq 3 aM aM jH (.int .i64 0)) w fun t9 w =>
 eN t9
  (aC pg (aG .mul 73 aM aM xD (.int .u64 2)) w fun t13 w =>
  aC pg (bA 80 hZ jH) w fun t16 w =>
  aC pg (aH 4 t16) w fun t17 w =>
  eN t17
   (aC pg (aG .add 73 aM aM t13 (.int .u64 1)) w fun t19 w =>
   kn hZ t19 jH w)
   (kn hZ t13 jH w))
  (k0 xD w)
theorem W4 (kn : K3) (k0 : K1) (hn : N3 Q kn 0 3 4) (h0 : E1 Q k0 0 3) (h : Ha kn k0 (g 0) (g 3) (g 4) w) : bH pg jO (aD 2 (bI (bI (aB 1 (aD 1 (aB 2 iT)))))) Q g w :=
 dR (kr := no) (l := [(0, fun g w => k0 (g 3) w)]) h hn eQ ⟨h0, trivial⟩
def AV (kn : K3) (k0 : K1) (hZ xD jH : aJb) (w : aJa) : Prop :=
 Ha (fun hZ xD jH w => vS kn hZ xD jH w) k0 hZ xD jH w
def HJ (k0 : K1) (hZ xD jH : aJb) (w : aJa) : Prop :=
 cG (fun (X : (aJb × aJb) -> K0) (t : aJb × aJb) (w : aJa) => AV (fun _ xD jH w => X (xD, jH) w) k0 hZ t.1 t.2 w) (xD, jH) w
theorem Wm (kn : K3) (k0 : K1) (hn : N3 Q kn 0 3 4) (h0 : E1 Q k0 0 3) (h : AV kn k0 (g 0) (g 3) (g 4) w) : bH pg jO (bI (bI (aB 1 (aD 1 (aB 2 iT))))) Q g w :=
 fQ 2 (W4 _ g w (vS kn) k0 (fun g w h => aK (Ww _ g w kn hn h)) h0 h)
theorem WD (k0 : K1) (h0 : E1 Q k0 0 3) (h : HJ k0 (g 0) (g 3) (g 4) w) : bH pg jO (bI (aB 1 (aD 1 (aB 2 iT)))) Q g w := by
 refine DO (fun g : Env => (g 3, g 4)) (fun X t w => AV (fun _ xD jH w => X (xD, jH) w) k0 (g 0) t.1 t.2 w) h (fun X g1 w1 ha hL => ?_)
 rw [<- fE 0 ha] at hL
 exact (Wm _ g1 w1 (fun _ xD jH w => X (xD, jH) w) k0 (fun _ _ h => h) h0 hL)
def GW (kn : K1) (hZ xD jH : aJb) (w : aJa) : Prop :=
 HJ kn hZ xD jH w
def H2 (kn : K3) (hZ xD : aJb) (w : aJa) : Prop :=
 aC pg (jS .len #[80] 3 [hZ]) w fun t6 w =>
 aC pg (aG .sub 3 aM aM t6 (.int .i64 1)) w fun t7 w =>
 kn hZ xD t7 w
theorem Xy (kn : K3) (hn : N3 Q kn 0 3 4) (h : H2 kn (g 0) (g 3) w) : bH pg jO (aD 1 (aD 1 (aB 2 iT))) Q g w :=
 dR (kr := no) (l := []) h hn eQ trivial
def Hj (kn : K1) (hZ xD : aJb) (w : aJa) : Prop :=
 H2 (fun hZ xD jH w => GW kn hZ xD jH w) hZ xD w
def GI (R : K1) (hZ xD : aJb) (w : aJa) : Prop :=
 Hj (fun xD w => AU R xD w) hZ xD w
theorem Wh (kn : K1) (hn : N1 Q kn 3) (h : Hj kn (g 0) (g 3) w) : bH pg jO (aD 1 (aB 2 iT)) Q g w :=
 fQ 1 (Xy _ g w (GW kn) (fun g w h => aK (tX 0 (WD _ g w kn hn h))) h)
def EY (kn : K2) (hZ : aJb) (w : aJa) : Prop :=
 kn hZ (.int .u64 0) w
theorem Va (kn : K2) (hn : N2 Q kn 0 3) (h : EY kn (g 0) w) : bH pg jO (aD 2 iT) Q g w :=
 dR (kr := no) (l := []) h hn eQ trivial
def Eo (R : K1) (hZ : aJb) (w : aJa) : Prop :=
 EY (fun hZ xD w => GI R hZ xD w) hZ w
theorem UN (R : K1) (hr : HR Gv R Q) (h : Eo R (g 0) w) : bH pg jO iT Q g w :=
 fQ 2 (Va _ g w (GI R) (fun g w h => aK (fQ 1 (Wh _ g w (AU R) (fun g w h => aK (W8 _ g w R hr h)) h))) h)
def ZS (a0 : aJb) (w : aJa) (R : K1) : Prop :=
 Eo R a0 w
theorem X9 {a0 : aJb} {w : aJa} {R : K1} (h : ZS a0 w R) : aR pg yJ #[a0] w R := by
 refine rI (ann := jO) Tryd.f85 iT [a0] Gv 21 TrydM.mixed Tryd.func85 ?_
 exact (UN _ _ _ R (fun _ _ h => h) h)
def pI : FA := ⟨rT, fun i => .leaf ([], []) []⟩
def BA : List ResultVar := [.tmp 2]
noncomputable def oA : Code := cU Tryd.f86
def qP (R : K1) (tT AW : aJb) (w : aJa) : Prop :=
 aC pg (fM 43 5 tT) w fun t15 w =>
 aC pg (G4 9 (.string ⟨#[0, 1, 2, 2, 3, 3, 3, 3, 4, 4, 4, 4, 4, 4, 4, 4, 5, 5, 5, 5, 5, 5, 5, 5, 5, 5, 5, 5, 5, 5, 5, 5, 6, 6, 6, 6, 6, 6, 6, 6, 6, 6, 6, 6, 6, 6, 6, 6, 6, 6, 6, 6, 6, 6, 6, 6, 6, 6, 6, 6, 6, 6, 6, 6, 7, 7, 7, 7, 7, 7, 7, 7, 7, 7, 7, 7, 7, 7, 7, 7, 7, 7, 7, 7, 7, 7, 7, 7, 7, 7, 7, 7, 7, 7, 7, 7, 7, 7, 7, 7, 7, 7, 7, 7, 7, 7, 7, 7, 7, 7, 7, 7, 7, 7, 7, 7, 7, 7, 7, 7, 7, 7, 7, 7, 7, 7, 7, 7, 8, 8, 8, 8, 8, 8, 8, 8, 8, 8, 8, 8, 8, 8, 8, 8, 8, 8, 8, 8, 8, 8, 8, 8, 8, 8, 8, 8, 8, 8, 8, 8, 8, 8, 8, 8, 8, 8, 8, 8, 8, 8, 8, 8, 8, 8, 8, 8, 8, 8, 8, 8, 8, 8, 8, 8, 8, 8, 8, 8, 8, 8, 8, 8, 8, 8, 8, 8, 8, 8, 8, 8, 8, 8, 8, 8, 8, 8, 8, 8, 8, 8, 8, 8, 8, 8, 8, 8, 8, 8, 8, 8, 8, 8, 8, 8, 8, 8, 8, 8, 8, 8, 8, 8, 8, 8, 8, 8, 8, 8, 8, 8, 8, 8, 8, 8, 8, 8, 8, 8, 8, 8, 8, 8, 8, 8, 8, 8]⟩) t15) w fun t16 w =>
 aC pg (fM 5 3 t16) w fun t17 w =>
 aC pg (aG .add 3 aM aM AW t17) w fun t18 w =>
 R t18 w
theorem Sz (R : K1) (hr : HR BA R Q) (h : qP R (g 0) (g 2) w) : bH pg pI (aB 1 (aB 2 oA)) Q g w :=
 dR (kn := no) (l := []) h eQ hr trivial
def By (kn : K2) (tT AW : aJb) (w : aJa) : Prop :=
 aC pg (aG .geq 43 aM aM tT (.int .u32 256)) w fun t8 w =>
 eN t8
  (aC pg (aG .shr 43 aM aM tT (.int .u64 8)) w fun t10 w =>
  aC pg (aG .add 3 aM aM AW (.int .i64 8)) w fun t12 w =>
  kn t10 t12 w)
  (kn tT AW w)
theorem Sk (kn : K2) (hn : N2 Q kn 0 2) (h : By kn (g 0) (g 2) w) : bH pg pI (aD 1 (aB 2 oA)) Q g w :=
 dR (kr := no) (l := []) h hn eQ trivial
def uB (R : K1) (tT AW : aJb) (w : aJa) : Prop :=
 By (fun tT AW w => qP R tT AW w) tT AW w
def BD (kn : K2) (tT : aJb) (w : aJa) : Prop :=
 aC pg (aG .geq 43 aM aM tT (.int .u32 65536)) w fun t4 w =>
 eN t4
  (aC pg (aG .shr 43 aM aM tT (.int .u64 16)) w fun t6 w =>
  kn t6 (.int .i64 16) w)
  (kn tT (.int .i64 0) w)
theorem R7 (kn : K2) (hn : N2 Q kn 0 2) (h : BD kn (g 0) w) : bH pg pI (aD 2 oA) Q g w :=
 dR (kr := no) (l := []) h hn eQ trivial
def BN (R : K1) (tT : aJb) (w : aJa) : Prop :=
 BD (fun tT AW w => uB R tT AW w) tT w
theorem Sh (R : K1) (hr : HR BA R Q) (h : BN R (g 0) w) : bH pg pI oA Q g w :=
 fQ 2 (R7 _ g w (uB R) (fun g w h => aK (fQ 1 (Sk _ g w (qP R) (fun g w h => aK (Sz _ g w R hr h)) h))) h)
def Ro (a0 : aJb) (w : aJa) (R : K1) : Prop :=
 BN R a0 w
theorem SL {a0 : aJb} {w : aJa} {R : K1} (h : Ro a0 w R) : aR pg rT #[a0] w R := by
 refine rI (ann := pI) Tryd.f86 oA [a0] BA 19 TrydM.mixed Tryd.func86 ?_
 exact (Sh _ _ _ R (fun _ _ h => h) h)
def Ot : FA := ⟨Cv, fun i => .leaf ([], []) []⟩
def Q6 : List ResultVar := [.tmp 4]
noncomputable def Ma : Code := cU Tryd.f87
def Hy (R : K1) (c_0 JN : aJb) (w : aJa) : Prop :=
 aC pg (rA 145 c_0) w fun c_2 w =>
 aC pg (aH 145 c_2) w fun t6 w =>
 aR pg CG #[t6] w fun t7 w =>
 aC pg (sUn .not t7) w fun t8 w =>
 eN t8
  (R (.int .i64 1) w)
  (aC pg (aL 145 c_2 0) w fun t10 w =>
  aC pg (aH 3 t10) w fun t11 w =>
  aC pg (aG .gtr 3 aM aM t11 JN) w fun t13 w =>
  eN t13
   (R (.int .i64 12) w)
   (R (.int .i64 0) w))
theorem V6 (R : K1) (hr : HR Q6 R Q) (h : Hy R (g 0) (g 1) w) : bH pg Ot Ma Q g w :=
 dR (kn := no) (l := []) h eQ hr trivial
def YW (a0 a1 : aJb) (w : aJa) (R : K1) : Prop :=
 Hy R a0 a1 w
theorem aaC {a0 a1 : aJb} {w : aJa} {R : K1} (h : YW a0 a1 w R) : aR pg Cv #[a0, a1] w R := by
 refine rI (ann := Ot) Tryd.f87 Ma [a0, a1] Q6 14 TrydM.mixed Tryd.func87 ?_
 exact (V6 _ _ _ R (fun _ _ h => h) h)
def dA : FA := ⟨Dq, fun i => .leaf ([], []) []⟩
def Mh : List ResultVar := [.tmp 2]
noncomputable def cO : Code := cU Tryd.f88
def FZ (R : K1) (bF : aJb) (w : aJa) : Prop :=
 R bF w
theorem aaF (R : K1) (hr : HR Mh R Q) (h : FZ R (g 4) w) : bH pg dA (aB 1 (aB 1 (aB 1 (aB 4 cO)))) Q g w :=
 dR (kn := no) (l := []) h eQ hr trivial
def Fe (kn : K7) (jG bF bL fZ t37 t38 t39 : aJb) (w : aJa) : Prop :=
 aC pg (aG .add 3 aM aM t39 (.int .i64 1)) w fun t68 w =>
 kn jG bF bL fZ t37 t38 t68 w
theorem acM (kn : K7) (hn : N7 Q kn 3 4 5 8 37 38 39) (h : Fe kn (g 3) (g 4) (g 5) (g 8) (g 37) (g 38) (g 39) w) : bH pg dA (aB 1 (aB 2 (bI (bI (aB 1 (aD 1 (aB 1 (aB 1 (aB 4 cO))))))))) Q g w :=
 dR (kr := no) (l := []) h hn eQ trivial
def Fp (kn : Aw) (jG bF bL fZ vK t37 t38 t39 t45 t46 : aJb) (w : aJa) : Prop :=
 aC pg (aG .add 3 aM aM t46 (.int .i64 1)) w fun t67 w =>
 kn jG bF bL fZ vK t37 t38 t39 t45 t67 w
theorem adA (kn : Aw) (hn : N10 Q kn 3 4 5 8 9 37 38 39 45 46) (h : Fp kn (g 3) (g 4) (g 5) (g 8) (g 9) (g 37) (g 38) (g 39) (g 45) (g 46) w) : bH pg dA (aB 1 (aB 2 (bI (bI (aB 2 (bI (aB 1 (bI (aD 1 (aB 2 (bI (bI (aB 1 (aD 1 (aB 1 (aB 1 (aB 4 cO))))))))))))))))) Q g w :=
 dR (kr := no) (l := []) h hn eQ trivial
def Fs (kn : Aw) (k5 : Aw) (jG bF bL fZ vK t37 t38 t39 t45 t46 : aJb) (w : aJa) : Prop :=
 aC pg (aG .shr 3 aM aM jG (.int .u64 1)) w fun t56 w =>
 aC pg (aG .add 3 aM aM fZ t56) w fun t57 w =>
 aC pg (aG .shr 3 aM aM jG (.int .u64 3)) w fun t59 w =>
 aC pg (aG .add 3 aM aM t57 t59) w fun t60 w =>
 aC pg (aG .add 3 aM aM t60 (.int .i64 3)) w fun t61 w =>
 aC pg (aG .rem 3 aM aM t61 jG) w fun t63 w =>
 aC pg (aG .lss 3 aM aM t63 bL) w fun t66 w =>
 eN t66
  (k5 jG bF bL t63 vK t37 t38 t39 t45 t46 w)
  (kn jG bF bL t63 vK t37 t38 t39 t45 t46 w)
theorem abT (kn : Aw) (k5 : Aw) (hn : N10 Q kn 3 4 5 8 9 37 38 39 45 46) (h5 : E10 Q k5 5 3 4 5 8 9 37 38 39 45 46) (h : Fs kn k5 (g 3) (g 4) (g 5) (g 8) (g 9) (g 37) (g 38) (g 39) (g 45) (g 46) w) : bH pg dA (bI (bI (aB 1 (bI (aD 1 (aB 2 (bI (bI (aB 2 (bI (aB 1 (bI (aD 1 (aB 2 (bI (bI (aB 1 (aD 1 (aB 1 (aB 1 (aB 4 cO))))))))))))))))))))) Q g w :=
 dR (kr := no) (l := [(5, fun g w => k5 (g 3) (g 4) (g 5) (g 8) (g 9) (g 37) (g 38) (g 39) (g 45) (g 46) w)]) h hn eQ ⟨h5, trivial⟩
def Fg (k5 : Aw) (jG bF bL fZ vK t37 t38 t39 t45 t46 : aJb) (w : aJa) : Prop :=
 cG (fun (X : aJb -> K0) (t : aJb) (w : aJa) => Fs (fun _ _ _ fZ _ _ _ _ _ _ w => X fZ w) k5 jG bF bL t vK t37 t38 t39 t45 t46 w) fZ w
theorem aaN (k5 : Aw) (h5 : E10 Q k5 5 3 4 5 8 9 37 38 39 45 46) (h : Fg k5 (g 3) (g 4) (g 5) (g 8) (g 9) (g 37) (g 38) (g 39) (g 45) (g 46) w) : bH pg dA (bI (aB 1 (bI (aD 1 (aB 2 (bI (bI (aB 2 (bI (aB 1 (bI (aD 1 (aB 2 (bI (bI (aB 1 (aD 1 (aB 1 (aB 1 (aB 4 cO)))))))))))))))))))) Q g w := by
 refine DO (fun g : Env => g 8) (fun X t w => Fs (fun _ _ _ fZ _ _ _ _ _ _ w => X fZ w) k5 (g 3) (g 4) (g 5) t (g 9) (g 37) (g 38) (g 39) (g 45) (g 46) w) h (fun X g1 w1 ha hL => ?_)
 rw [<- fE 3 ha, <- fE 4 ha, <- fE 5 ha, <- fE 9 ha, <- fE 37 ha, <- fE 38 ha, <- fE 39 ha, <- fE 45 ha, <- fE 46 ha] at hL
 exact (abT _ g1 w1 (fun _ _ _ fZ _ _ _ _ _ _ w => X fZ w) k5 (fun _ _ h => h) h5 hL)
def Mq (k5 : Aw) (jG bF bL fZ vK t37 t38 t39 t45 t46 : aJb) (w : aJa) : Prop :=
 Fg k5 jG bF bL fZ vK t37 t38 t39 t45 t46 w
def M9 (kn : Aw) (jG bF bL fZ vK t37 t38 t39 t45 t46 : aJb) (w : aJa) : Prop :=
 aC pg (fM 3 5 vK) w fun t51 w =>
 aC pg (bA 25 bF fZ) w fun t52 w =>
 aC pg (aL 123 t52 0) w fun t53 w =>
 aC pg (aJ 5 t53 t51) w fun _u w =>
 kn jG bF bL fZ vK t37 t38 t39 t45 t46 w
theorem aaH (kn : Aw) (hn : N10 Q kn 3 4 5 8 9 37 38 39 45 46) (h : M9 kn (g 3) (g 4) (g 5) (g 8) (g 9) (g 37) (g 38) (g 39) (g 45) (g 46) w) : bH pg dA (aD 1 (bI (aD 1 (aB 2 (bI (bI (aB 2 (bI (aB 1 (bI (aD 1 (aB 2 (bI (bI (aB 1 (aD 1 (aB 1 (aB 1 (aB 4 cO))))))))))))))))))) Q g w :=
 dR (kr := no) (l := []) h hn eQ trivial
def Vr (k5 : Aw) (jG bF bL fZ vK t37 t38 t39 t45 t46 : aJb) (w : aJa) : Prop :=
 M9 (fun jG bF bL fZ vK t37 t38 t39 t45 t46 w => Mq k5 jG bF bL fZ vK t37 t38 t39 t45 t46 w) jG bF bL fZ vK t37 t38 t39 t45 t46 w
def Mt (kn : Aw) (jG bF bL fZ vK t37 t38 t39 t45 t46 : aJb) (w : aJa) : Prop :=
 Vr kn jG bF bL fZ vK t37 t38 t39 t45 t46 w
def KS (kn : Aw) (jG bF bL fZ vK t37 t38 t39 t45 t46 : aJb) (w : aJa) : Prop :=
 Mt (fun jG bF bL fZ vK t37 t38 t39 t45 t46 w => Fp kn jG bF bL fZ vK t37 t38 t39 t45 t46 w) jG bF bL fZ vK t37 t38 t39 t45 t46 w
theorem abA (kn : Aw) (hn : N10 Q kn 3 4 5 8 9 37 38 39 45 46) (h : Mt kn (g 3) (g 4) (g 5) (g 8) (g 9) (g 37) (g 38) (g 39) (g 45) (g 46) w) : bH pg dA (aD 1 (aB 2 (bI (bI (aB 2 (bI (aB 1 (bI (aD 1 (aB 2 (bI (bI (aB 1 (aD 1 (aB 1 (aB 1 (aB 4 cO))))))))))))))))) Q g w :=
 tX 5 (fQ 1 (aaH _ g w (Mq kn) (fun g w h => aK (tX 6 (aaN _ g w kn hn h))) h))
def C5 (kn : Aw) (k4 : K7) (jG bF bL fZ vK t37 t38 t39 t45 t46 : aJb) (w : aJa) : Prop :=
 aC pg (aG .lss 3 aM aM t46 t45) w fun t47 w =>
 eN t47
  (kn jG bF bL fZ vK t37 t38 t39 t45 t46 w)
  (k4 jG bF bL fZ t37 t38 t39 w)
theorem X0 (kn : Aw) (k4 : K7) (hn : N10 Q kn 3 4 5 8 9 37 38 39 45 46) (h4 : E7 Q k4 4 3 4 5 8 37 38 39) (h : C5 kn k4 (g 3) (g 4) (g 5) (g 8) (g 9) (g 37) (g 38) (g 39) (g 45) (g 46) w) : bH pg dA (aD 2 (bI (bI (aB 2 (bI (aB 1 (bI (aD 1 (aB 2 (bI (bI (aB 1 (aD 1 (aB 1 (aB 1 (aB 4 cO)))))))))))))))) Q g w :=
 dR (kr := no) (l := [(4, fun g w => k4 (g 3) (g 4) (g 5) (g 8) (g 37) (g 38) (g 39) w)]) h hn eQ ⟨h4, trivial⟩
def yY (kn : Aw) (k4 : K7) (jG bF bL fZ vK t37 t38 t39 t45 t46 : aJb) (w : aJa) : Prop :=
 C5 (fun jG bF bL fZ vK t37 t38 t39 t45 t46 w => KS kn jG bF bL fZ vK t37 t38 t39 t45 t46 w) k4 jG bF bL fZ vK t37 t38 t39 t45 t46 w
def Kh (k4 : K7) (jG bF bL fZ vK t37 t38 t39 t45 t46 : aJb) (w : aJa) : Prop :=
 cG (fun (X : (aJb × aJb) -> K0) (t : aJb × aJb) (w : aJa) => yY (fun _ _ _ fZ _ _ _ _ _ t46 w => X (fZ, t46) w) k4 jG bF bL t.1 vK t37 t38 t39 t45 t.2 w) (fZ, t46) w
theorem X5 (kn : Aw) (k4 : K7) (hn : N10 Q kn 3 4 5 8 9 37 38 39 45 46) (h4 : E7 Q k4 4 3 4 5 8 37 38 39) (h : yY kn k4 (g 3) (g 4) (g 5) (g 8) (g 9) (g 37) (g 38) (g 39) (g 45) (g 46) w) : bH pg dA (bI (bI (aB 2 (bI (aB 1 (bI (aD 1 (aB 2 (bI (bI (aB 1 (aD 1 (aB 1 (aB 1 (aB 4 cO))))))))))))))) Q g w :=
 fQ 2 (X0 _ g w (KS kn) k4 (fun g w h => aK (fQ 1 (abA _ g w (Fp kn) (fun g w h => aK (adA _ g w kn hn h)) h))) h4 h)
theorem ZD (k4 : K7) (h4 : E7 Q k4 4 3 4 5 8 37 38 39) (h : Kh k4 (g 3) (g 4) (g 5) (g 8) (g 9) (g 37) (g 38) (g 39) (g 45) (g 46) w) : bH pg dA (bI (aB 2 (bI (aB 1 (bI (aD 1 (aB 2 (bI (bI (aB 1 (aD 1 (aB 1 (aB 1 (aB 4 cO)))))))))))))) Q g w := by
 refine DO (fun g : Env => (g 8, g 46)) (fun X t w => yY (fun _ _ _ fZ _ _ _ _ _ t46 w => X (fZ, t46) w) k4 (g 3) (g 4) (g 5) t.1 (g 9) (g 37) (g 38) (g 39) (g 45) t.2 w) h (fun X g1 w1 ha hL => ?_)
 rw [<- fE 3 ha, <- fE 4 ha, <- fE 5 ha, <- fE 9 ha, <- fE 37 ha, <- fE 38 ha, <- fE 39 ha, <- fE 45 ha] at hL
 exact (X5 _ g1 w1 (fun _ _ _ fZ _ _ _ _ _ t46 w => X (fZ, t46) w) k4 (fun _ _ h => h) h4 hL)
def J1 (kn : K7) (jG bF bL fZ vK t37 t38 t39 t45 t46 : aJb) (w : aJa) : Prop :=
 Kh kn jG bF bL fZ vK t37 t38 t39 t45 t46 w
def KR (kn : Aw) (jG bF bL fZ vK arS t37 t38 t39 : aJb) (w : aJa) : Prop :=
 aC pg (jS .max #[3, 3] 3 [arS, (.int .i64 0)]) w fun t45 w =>
 kn jG bF bL fZ vK t37 t38 t39 t45 (.int .i64 0) w
theorem YH (kn : Aw) (hn : N10 Q kn 3 4 5 8 9 37 38 39 45 46) (h : KR kn (g 3) (g 4) (g 5) (g 8) (g 9) (g 10) (g 37) (g 38) (g 39) w) : bH pg dA (aD 2 (bI (aB 1 (bI (aD 1 (aB 2 (bI (bI (aB 1 (aD 1 (aB 1 (aB 1 (aB 4 cO))))))))))))) Q g w :=
 dR (kr := no) (l := []) h hn eQ trivial
def TJ (kn : K7) (jG bF bL fZ vK arS t37 t38 t39 : aJb) (w : aJa) : Prop :=
 KR (fun jG bF bL fZ vK t37 t38 t39 t45 t46 w => J1 kn jG bF bL fZ vK t37 t38 t39 t45 t46 w) jG bF bL fZ vK arS t37 t38 t39 w
def Kp (kn : K7) (jG bF bL fZ vK arS t37 t38 t39 : aJb) (w : aJa) : Prop :=
 TJ kn jG bF bL fZ vK arS t37 t38 t39 w
def JS (kn : K9) (jG bF bL fZ t37 t38 t39 : aJb) (w : aJa) : Prop :=
 aC pg (bA 77 t37 t39) w fun t42 w =>
 aC pg (aH 3 t42) w fun t43 w =>
 kn jG bF bL fZ t39 t43 t37 t38 t39 w
theorem YT (kn : K9) (hn : N9 Q kn 3 4 5 8 9 10 37 38 39) (h : JS kn (g 3) (g 4) (g 5) (g 8) (g 37) (g 38) (g 39) w) : bH pg dA (aD 1 (bI (aD 1 (aB 2 (bI (bI (aB 1 (aD 1 (aB 1 (aB 1 (aB 4 cO))))))))))) Q g w :=
 dR (kr := no) (l := []) h hn eQ trivial
def SX (kn : K7) (jG bF bL fZ t37 t38 t39 : aJb) (w : aJa) : Prop :=
 JS (fun jG bF bL fZ vK arS t37 t38 t39 w => Kp kn jG bF bL fZ vK arS t37 t38 t39 w) jG bF bL fZ t37 t38 t39 w
def Jp (kn : K7) (jG bF bL fZ t37 t38 t39 : aJb) (w : aJa) : Prop :=
 SX kn jG bF bL fZ t37 t38 t39 w
def Jm (kn : K7) (jG bF bL fZ t37 t38 t39 : aJb) (w : aJa) : Prop :=
 Jp (fun jG bF bL fZ t37 t38 t39 w => Fe kn jG bF bL fZ t37 t38 t39 w) jG bF bL fZ t37 t38 t39 w
theorem Y9 (kn : K7) (hn : N7 Q kn 3 4 5 8 37 38 39) (h : Jp kn (g 3) (g 4) (g 5) (g 8) (g 37) (g 38) (g 39) w) : bH pg dA (aD 1 (aB 2 (bI (bI (aB 1 (aD 1 (aB 1 (aB 1 (aB 4 cO))))))))) Q g w :=
 tX 3 (fQ 1 (YT _ g w (Kp kn) (fun g w h => aK (scD (fQ 2 (YH _ g w (J1 kn) (fun g w h => aK (tX 4 (ZD _ g w kn hn h))) h)))) h))
def Cq (kn : K7) (k2 : K1) (jG bF bL fZ t37 t38 t39 : aJb) (w : aJa) : Prop :=
 aC pg (aG .lss 3 aM aM t39 t38) w fun t40 w =>
 eN t40
  (kn jG bF bL fZ t37 t38 t39 w)
  (k2 bF w)
theorem XL (kn : K7) (k2 : K1) (hn : N7 Q kn 3 4 5 8 37 38 39) (h2 : E1 Q k2 2 4) (h : Cq kn k2 (g 3) (g 4) (g 5) (g 8) (g 37) (g 38) (g 39) w) : bH pg dA (aD 2 (bI (bI (aB 1 (aD 1 (aB 1 (aB 1 (aB 4 cO)))))))) Q g w :=
 dR (kr := no) (l := [(2, fun g w => k2 (g 4) w)]) h hn eQ ⟨h2, trivial⟩
def xQ (kn : K7) (k2 : K1) (jG bF bL fZ t37 t38 t39 : aJb) (w : aJa) : Prop :=
 Cq (fun jG bF bL fZ t37 t38 t39 w => Jm kn jG bF bL fZ t37 t38 t39 w) k2 jG bF bL fZ t37 t38 t39 w
def Jc (k2 : K1) (jG bF bL fZ t37 t38 t39 : aJb) (w : aJa) : Prop :=
 cG (fun (X : (aJb × aJb) -> K0) (t : aJb × aJb) (w : aJa) => xQ (fun _ _ _ fZ _ _ t39 w => X (fZ, t39) w) k2 jG bF bL t.1 t37 t38 t.2 w) (fZ, t39) w
theorem ZL (kn : K7) (k2 : K1) (hn : N7 Q kn 3 4 5 8 37 38 39) (h2 : E1 Q k2 2 4) (h : xQ kn k2 (g 3) (g 4) (g 5) (g 8) (g 37) (g 38) (g 39) w) : bH pg dA (bI (bI (aB 1 (aD 1 (aB 1 (aB 1 (aB 4 cO))))))) Q g w :=
 fQ 2 (XL _ g w (Jm kn) k2 (fun g w h => aK (fQ 1 (Y9 _ g w (Fe kn) (fun g w h => aK (acM _ g w kn hn h)) h))) h2 h)
theorem ZF (k2 : K1) (h2 : E1 Q k2 2 4) (h : Jc k2 (g 3) (g 4) (g 5) (g 8) (g 37) (g 38) (g 39) w) : bH pg dA (bI (aB 1 (aD 1 (aB 1 (aB 1 (aB 4 cO)))))) Q g w := by
 refine DO (fun g : Env => (g 8, g 39)) (fun X t w => xQ (fun _ _ _ fZ _ _ t39 w => X (fZ, t39) w) k2 (g 3) (g 4) (g 5) t.1 (g 37) (g 38) t.2 w) h (fun X g1 w1 ha hL => ?_)
 rw [<- fE 3 ha, <- fE 4 ha, <- fE 5 ha, <- fE 37 ha, <- fE 38 ha] at hL
 exact (ZL _ g1 w1 (fun _ _ _ fZ _ _ t39 w => X (fZ, t39) w) k2 (fun _ _ h => h) h2 hL)
def Ls (kn : K1) (jG bF bL fZ t37 t38 t39 : aJb) (w : aJa) : Prop :=
 Jc kn jG bF bL fZ t37 t38 t39 w
def Lc (kn : K7) (bJ jG bF bL fZ : aJb) (w : aJa) : Prop :=
 aC pg (aL 145 bJ 1) w fun t36 w =>
 aC pg (aH 77 t36) w fun t37 w =>
 aC pg (jS .len #[77] 3 [t37]) w fun t38 w =>
 kn jG bF bL fZ t37 t38 (.int .i64 0) w
theorem Yu (kn : K7) (hn : N7 Q kn 3 4 5 8 37 38 39) (h : Lc kn (g 1) (g 3) (g 4) (g 5) (g 8) w) : bH pg dA (aD 1 (aD 1 (aB 1 (aB 1 (aB 4 cO))))) Q g w :=
 dR (kr := no) (l := []) h hn eQ trivial
def Jw (kn : K1) (bJ jG bF bL fZ : aJb) (w : aJa) : Prop :=
 Lc (fun jG bF bL fZ t37 t38 t39 w => Ls kn jG bF bL fZ t37 t38 t39 w) bJ jG bF bL fZ w
def Kv (R : K1) (bJ jG bF bL fZ : aJb) (w : aJa) : Prop :=
 Jw (fun bF w => FZ R bF w) bJ jG bF bL fZ w
theorem Ys (kn : K1) (hn : N1 Q kn 4) (h : Jw kn (g 1) (g 3) (g 4) (g 5) (g 8) w) : bH pg dA (aD 1 (aB 1 (aB 1 (aB 4 cO)))) Q g w :=
 fQ 1 (Yu _ g w (Ls kn) (fun g w h => aK (tX 2 (ZF _ g w kn hn h))) h)
def Km (kn : K5) (bJ jG bF bL : aJb) (w : aJa) : Prop :=
 kn bJ jG bF bL (.int .i64 0) w
theorem XI (kn : K5) (hn : N5 Q kn 1 3 4 5 8) (h : Km kn (g 1) (g 3) (g 4) (g 5) w) : bH pg dA (aD 1 (aB 1 (aB 4 cO))) Q g w :=
 dR (kr := no) (l := []) h hn eQ trivial
def J5 (R : K1) (bJ jG bF bL : aJb) (w : aJa) : Prop :=
 Km (fun bJ jG bF bL fZ w => Kv R bJ jG bF bL fZ w) bJ jG bF bL w
def DG (kn : K7) (bJ jG bF bL t18 t19 t20 : aJb) (w : aJa) : Prop :=
 aC pg (aG .add 3 aM aM t20 (.int .i64 1)) w fun t35 w =>
 kn bJ jG bF bL t18 t19 t35 w
theorem Zk (kn : K7) (hn : N7 Q kn 1 3 4 5 18 19 20) (h : DG kn (g 1) (g 3) (g 4) (g 5) (g 18) (g 19) (g 20) w) : bH pg dA (aB 3 (bI (bI (aB 1 (aD 1 (aB 4 cO)))))) Q g w :=
 dR (kr := no) (l := []) h hn eQ trivial
def Dd (kn : K7) (k0 : K4) (bJ jG bF bL t18 t19 t20 : aJb) (w : aJa) : Prop :=
 aC pg (aG .lss 3 aM aM t20 t19) w fun t21 w =>
 eN t21
  (aC pg (bA 77 t18 t20) w fun t23 w =>
  aC pg (aH 3 t23) w fun t24 w =>
  aC pg (aG .eql 3 (.tmp 25) (.const (.int .i64 (-1))) t24 (.int .i64 (-1))) w fun t26 w =>
  eN t26
   (aC pg (aG .sub 3 aM aM bL (.int .i64 1)) w fun t28 w =>
   aC pg (fM 3 5 t20) w fun t32 w =>
   aC pg (bA 25 bF t28) w fun t33 w =>
   aC pg (aL 123 t33 0) w fun t34 w =>
   aC pg (aJ 5 t34 t32) w fun _u w =>
   kn bJ jG bF t28 t18 t19 t20 w)
   (kn bJ jG bF bL t18 t19 t20 w))
  (k0 bJ jG bF bL w)
theorem YC (kn : K7) (k0 : K4) (hn : N7 Q kn 1 3 4 5 18 19 20) (h0 : E4 Q k0 0 1 3 4 5) (h : Dd kn k0 (g 1) (g 3) (g 4) (g 5) (g 18) (g 19) (g 20) w) : bH pg dA (aD 3 (bI (bI (aB 1 (aD 1 (aB 4 cO)))))) Q g w :=
 dR (kr := no) (l := [(0, fun g w => k0 (g 1) (g 3) (g 4) (g 5) w)]) h hn eQ ⟨h0, trivial⟩
def yI (kn : K7) (k0 : K4) (bJ jG bF bL t18 t19 t20 : aJb) (w : aJa) : Prop :=
 Dd (fun bJ jG bF bL t18 t19 t20 w => DG kn bJ jG bF bL t18 t19 t20 w) k0 bJ jG bF bL t18 t19 t20 w
def Js (k0 : K4) (bJ jG bF bL t18 t19 t20 : aJb) (w : aJa) : Prop :=
 cG (fun (X : (aJb × aJb) -> K0) (t : aJb × aJb) (w : aJa) => yI (fun _ _ _ bL _ _ t20 w => X (bL, t20) w) k0 bJ jG bF t.1 t18 t19 t.2 w) (bL, t20) w
theorem Yb (kn : K7) (k0 : K4) (hn : N7 Q kn 1 3 4 5 18 19 20) (h0 : E4 Q k0 0 1 3 4 5) (h : yI kn k0 (g 1) (g 3) (g 4) (g 5) (g 18) (g 19) (g 20) w) : bH pg dA (bI (bI (aB 1 (aD 1 (aB 4 cO))))) Q g w :=
 fQ 3 (YC _ g w (DG kn) k0 (fun g w h => aK (Zk _ g w kn hn h)) h0 h)
theorem XS (k0 : K4) (h0 : E4 Q k0 0 1 3 4 5) (h : Js k0 (g 1) (g 3) (g 4) (g 5) (g 18) (g 19) (g 20) w) : bH pg dA (bI (aB 1 (aD 1 (aB 4 cO)))) Q g w := by
 refine DO (fun g : Env => (g 5, g 20)) (fun X t w => yI (fun _ _ _ bL _ _ t20 w => X (bL, t20) w) k0 (g 1) (g 3) (g 4) t.1 (g 18) (g 19) t.2 w) h (fun X g1 w1 ha hL => ?_)
 rw [<- fE 1 ha, <- fE 3 ha, <- fE 4 ha, <- fE 18 ha, <- fE 19 ha] at hL
 exact (Yb _ g1 w1 (fun _ _ _ bL _ _ t20 w => X (bL, t20) w) k0 (fun _ _ h => h) h0 hL)
def Jk (kn : K4) (bJ jG bF bL t18 t19 t20 : aJb) (w : aJa) : Prop :=
 Js kn bJ jG bF bL t18 t19 t20 w
def Jb (kn : K7) (bJ jG bF bL : aJb) (w : aJa) : Prop :=
 aC pg (aL 145 bJ 1) w fun t17 w =>
 aC pg (aH 77 t17) w fun t18 w =>
 aC pg (jS .len #[77] 3 [t18]) w fun t19 w =>
 kn bJ jG bF bL t18 t19 (.int .i64 0) w
theorem YE (kn : K7) (hn : N7 Q kn 1 3 4 5 18 19 20) (h : Jb kn (g 1) (g 3) (g 4) (g 5) w) : bH pg dA (aD 1 (aD 1 (aB 4 cO))) Q g w :=
 dR (kr := no) (l := []) h hn eQ trivial
def JE (kn : K4) (bJ jG bF bL : aJb) (w : aJa) : Prop :=
 Jb (fun bJ jG bF bL t18 t19 t20 w => Jk kn bJ jG bF bL t18 t19 t20 w) bJ jG bF bL w
def Kz (R : K1) (bJ jG bF bL : aJb) (w : aJa) : Prop :=
 JE (fun bJ jG bF bL w => J5 R bJ jG bF bL w) bJ jG bF bL w
theorem YM (kn : K4) (hn : N4 Q kn 1 3 4 5) (h : JE kn (g 1) (g 3) (g 4) (g 5) w) : bH pg dA (aD 1 (aB 4 cO)) Q g w :=
 fQ 1 (YE _ g w (Jk kn) (fun g w h => aK (tX 0 (XS _ g w kn hn h))) h)
def Kx (kn : K4) (c_0 : aJb) (w : aJa) : Prop :=
 aC pg (rA 145 c_0) w fun bJ w =>
 aC pg (aL 145 bJ 0) w fun t11 w =>
 aC pg (aH 3 t11) w fun t12 w =>
 aC pg (aG .shl 3 aM aM (.int .i64 1) t12) w fun t13 w =>
 aC pg (yK 25 t13 t13) w fun t15 w =>
 kn bJ t13 t15 t13 w
theorem Zi (kn : K4) (hn : N4 Q kn 1 3 4 5) (h : Kx kn (g 0) w) : bH pg dA (aD 4 cO) Q g w :=
 dR (kr := no) (l := []) h hn eQ trivial
def KL (R : K1) (c_0 : aJb) (w : aJa) : Prop :=
 Kx (fun bJ jG bF bL w => Kz R bJ jG bF bL w) c_0 w
theorem X4 (R : K1) (hr : HR Mh R Q) (h : KL R (g 0) w) : bH pg dA cO Q g w :=
 fQ 4 (Zi _ g w (Kz R) (fun g w h => aK (fQ 1 (YM _ g w (J5 R) (fun g w h => aK (fQ 1 (XI _ g w (Kv R) (fun g w h => aK (fQ 1 (Ys _ g w (FZ R) (fun g w h => aK (aaF _ g w R hr h)) h))) h))) h))) h)
def alY (a0 : aJb) (w : aJa) (R : K1) : Prop :=
 KL R a0 w
theorem ahU {a0 : aJb} {w : aJa} {R : K1} (h : alY a0 w R) : aR pg Dq #[a0] w R := by
 refine rI (ann := dA) Tryd.f88 cO [a0] Mh 70 TrydM.mixed Tryd.func88 ?_
 exact (X4 _ _ _ R (fun _ _ h => h) h)
def L8 : FA := ⟨rG, fun i => .leaf ([], []) []⟩
def O9 : List ResultVar := [.tmp 2]
noncomputable def Kq : Code := cU Tryd.f89
def EW (R : K1) (tT : aJb) (w : aJa) : Prop :=
 eN (.bool false)
  (aC pg (fM 94 43 tT) w fun t4 w =>
  aR pg rT #[t4] w fun t5 w =>
  R t5 w)
  (aR pg wU #[tT] w fun t7 w =>
  R t7 w)
theorem Vl (R : K1) (hr : HR O9 R Q) (h : EW R (g 0) w) : bH pg L8 Kq Q g w :=
 dR (kn := no) (l := []) h eQ hr trivial
def Vt (a0 : aJb) (w : aJa) (R : K1) : Prop :=
 EW R a0 w
theorem Xd {a0 : aJb} {w : aJa} {R : K1} (h : Vt a0 w R) : aR pg rG #[a0] w R := by
 refine rI (ann := L8) Tryd.f89 Kq [a0] O9 8 TrydM.mixed Tryd.func89 ?_
 exact (Vl _ _ _ R (fun _ _ h => h) h)
def oJ : FA := ⟨CG, fun i => .leaf ([], []) []⟩
def sE : List ResultVar := [.tmp 2]
noncomputable def mO : Code := cU Tryd.f90
def FE (R : K1) (kY : aJb) (w : aJa) : Prop :=
 aC pg (aG .eql 3 (.tmp 60) (.const (.int .i64 0)) kY (.int .i64 0)) w fun t61 w =>
 R t61 w
theorem afI (R : K1) (hr : HR sE R Q) (h : FE R (g 3) w) : bH pg oJ (aB 1 (aB 3 mO)) Q g w :=
 dR (kn := no) (l := []) h eQ hr trivial
def wA (kn : K4) (k0 : K1) (R : K1) (kY t41 t42 t43 : aJb) (w : aJa) : Prop :=
 aC pg (aG .lss 3 aM aM t43 t42) w fun t44 w =>
 eN t44
  (aC pg (bA 77 t41 t43) w fun t45 w =>
  aC pg (aH 3 t45) w fun t46 w =>
  aC pg (aG .lss 3 aM aM t46 (.int .i64 (-1))) w fun t48 w =>
  Gd (fI t48 false) (fun K => K t46 w) w fun t50 w =>
  Gd (fI t48 false) (fun K => aR pg qC #[t50] w K) w fun t51 w =>
  Gd (fI t48 false) (fun K => K kY w) w fun t52 w =>
  Gd (fI t48 false) (fun K => aC pg (aG .gtr 3 aM aM t51 t52) w K) w fun t53 w =>
  aC pg (fR t48 (.bool true) t53) w fun t54 w =>
  eN t54
   (R (.bool false) w)
   (aR pg qC #[t46] w fun t57 w =>
   aC pg (aG .sub 3 aM aM kY t57) w fun t58 w =>
   aC pg (aG .add 3 aM aM t43 (.int .i64 1)) w fun t59 w =>
   kn t58 t41 t42 t59 w))
  (k0 kY w)
theorem afT (kn : K4) (k0 : K1) (R : K1) (hn : N4 Q kn 3 41 42 43) (h0 : E1 Q k0 0 3) (hr : HR sE R Q) (h : wA kn k0 R (g 3) (g 41) (g 42) (g 43) w) : bH pg oJ (bI (bI (aB 1 (aD 1 (aB 3 mO))))) Q g w :=
 dR (l := [(0, fun g w => k0 (g 3) w)]) h hn hr ⟨h0, trivial⟩
def Mw (k0 : K1) (R : K1) (kY t41 t42 t43 : aJb) (w : aJa) : Prop :=
 cG (fun (X : (aJb × aJb) -> K0) (t : aJb × aJb) (w : aJa) => wA (fun kY _ _ t43 w => X (kY, t43) w) k0 R t.1 t41 t42 t.2 w) (kY, t43) w
theorem abM (k0 : K1) (R : K1) (h0 : E1 Q k0 0 3) (hr : HR sE R Q) (h : Mw k0 R (g 3) (g 41) (g 42) (g 43) w) : bH pg oJ (bI (aB 1 (aD 1 (aB 3 mO)))) Q g w := by
 refine DO (fun g : Env => (g 3, g 43)) (fun X t w => wA (fun kY _ _ t43 w => X (kY, t43) w) k0 R t.1 (g 41) (g 42) t.2 w) h (fun X g1 w1 ha hL => ?_)
 rw [<- fE 41 ha, <- fE 42 ha] at hL
 exact (afT _ g1 w1 (fun kY _ _ t43 w => X (kY, t43) w) k0 R (fun _ _ h => h) h0 hr hL)
def ML (kn : K1) (R : K1) (kY t41 t42 t43 : aJb) (w : aJa) : Prop :=
 Mw kn R kY t41 t42 t43 w
def Mm (kn : K4) (bJ kY : aJb) (w : aJa) : Prop :=
 aC pg (aL 145 bJ 1) w fun t40 w =>
 aC pg (aH 77 t40) w fun t41 w =>
 aC pg (jS .len #[77] 3 [t41]) w fun t42 w =>
 kn kY t41 t42 (.int .i64 0) w
theorem acF (kn : K4) (hn : N4 Q kn 3 41 42 43) (h : Mm kn (g 1) (g 3) w) : bH pg oJ (aD 1 (aD 1 (aB 3 mO))) Q g w :=
 dR (kr := no) (l := []) h hn eQ trivial
def MR (kn : K1) (R : K1) (bJ kY : aJb) (w : aJa) : Prop :=
 Mm (fun kY t41 t42 t43 w => ML kn R kY t41 t42 t43 w) bJ kY w
def Nq (R : K1) (bJ kY : aJb) (w : aJa) : Prop :=
 MR (fun kY w => FE R kY w) R bJ kY w
theorem adP (kn : K1) (R : K1) (hn : N1 Q kn 3) (hr : HR sE R Q) (h : MR kn R (g 1) (g 3) w) : bH pg oJ (aD 1 (aB 3 mO)) Q g w :=
 fQ 1 (acF _ g w (ML kn R) (fun g w h => aK (tX 0 (abM _ g w kn R hn hr h))) h)
def Nw (kn : K2) (R : K1) (c_0 : aJb) (w : aJa) : Prop :=
 aC pg (rA 145 c_0) w fun bJ w =>
 aC pg (aL 145 bJ 0) w fun t6 w =>
 aC pg (aH 3 t6) w fun t7 w =>
 aC pg (aG .lss 3 aM aM t7 (.int .i64 5)) w fun t8 w =>
 Gd (fI t8 false) (fun K => aC pg (aL 145 bJ 0) w K) w fun t10 w =>
 Gd (fI t8 false) (fun K => aC pg (aH 3 t10) w K) w fun t11 w =>
 Gd (fI t8 false) (fun K => aC pg (aG .gtr 3 aM aM t11 (.int .i64 15)) w K) w fun t12 w =>
 aC pg (fR t8 (.bool true) t12) w fun t13 w =>
 Gd (fI t13 false) (fun K => aC pg (aL 145 bJ 1) w K) w fun t15 w =>
 Gd (fI t13 false) (fun K => aC pg (aH 77 t15) w K) w fun t16 w =>
 Gd (fI t13 false) (fun K => aC pg (jS .len #[77] 3 [t16]) w K) w fun t17 w =>
 Gd (fI t13 false) (fun K => aC pg (aG .lss 3 aM aM t17 (.int .i64 1)) w K) w fun t18 w =>
 aC pg (fR t13 (.bool true) t18) w fun t19 w =>
 Gd (fI t19 false) (fun K => aC pg (aL 145 bJ 1) w K) w fun t21 w =>
 Gd (fI t19 false) (fun K => aC pg (aH 77 t21) w K) w fun t22 w =>
 Gd (fI t19 false) (fun K => aC pg (jS .len #[77] 3 [t22]) w K) w fun t23 w =>
 Gd (fI t19 false) (fun K => aC pg (aG .gtr 3 aM aM t23 (.int .i64 256)) w K) w fun t24 w =>
 aC pg (fR t19 (.bool true) t24) w fun t25 w =>
 Gd (fI t25 false) (fun K => aC pg (aL 145 bJ 1) w K) w fun t27 w =>
 Gd (fI t25 false) (fun K => aC pg (aH 77 t27) w K) w fun t28 w =>
 Gd (fI t25 false) (fun K => aC pg (aL 145 bJ 1) w K) w fun t29 w =>
 Gd (fI t25 false) (fun K => aC pg (aH 77 t29) w K) w fun t30 w =>
 Gd (fI t25 false) (fun K => aC pg (jS .len #[77] 3 [t30]) w K) w fun t31 w =>
 Gd (fI t25 false) (fun K => aC pg (aG .sub 3 aM aM t31 (.int .i64 1)) w K) w fun t32 w =>
 Gd (fI t25 false) (fun K => aC pg (bA 77 t28 t32) w K) w fun t33 w =>
 Gd (fI t25 false) (fun K => aC pg (aH 3 t33) w K) w fun t34 w =>
 Gd (fI t25 false) (fun K => aC pg (aG .eql 3 (.tmp 34) (.const (.int .i64 0)) t34 (.int .i64 0)) w K) w fun t35 w =>
 aC pg (fR t25 (.bool true) t35) w fun t36 w =>
 eN t36
  (R (.bool false) w)
  (aC pg (aL 145 bJ 0) w fun t37 w =>
  aC pg (aH 3 t37) w fun t38 w =>
  aC pg (aG .shl 3 aM aM (.int .i64 1) t38) w fun t39 w =>
  kn bJ t39 w)
theorem afK (kn : K2) (R : K1) (hn : N2 Q kn 1 3) (hr : HR sE R Q) (h : Nw kn R (g 0) w) : bH pg oJ (aD 3 mO) Q g w :=
 dR (l := []) h hn hr trivial
def Mn (R : K1) (c_0 : aJb) (w : aJa) : Prop :=
 Nw (fun bJ kY w => Nq R bJ kY w) R c_0 w
theorem aaY (R : K1) (hr : HR sE R Q) (h : Mn R (g 0) w) : bH pg oJ mO Q g w :=
 fQ 3 (afK _ g w (Nq R) R (fun g w h => aK (fQ 1 (adP _ g w (FE R) R (fun g w h => aK (afI _ g w R hr h)) hr h))) hr h)
def alU (a0 : aJb) (w : aJa) (R : K1) : Prop :=
 Mn R a0 w
theorem ajW {a0 : aJb} {w : aJa} {R : K1} (h : alU a0 w R) : aR pg CG #[a0] w R := by
 refine rI (ann := oJ) Tryd.f90 mO [a0] sE 62 TrydM.mixed Tryd.func90 ?_
 exact (aaY _ _ _ R (fun _ _ h => h) h)
def Oy : FA := ⟨qC, fun i => .leaf ([], []) []⟩
def Q2 : List ResultVar := [.tmp 2]
noncomputable def LH : Code := cU Tryd.f91
def AY (R : K1) (p_0 : aJb) (w : aJa) : Prop :=
 aC pg (aG .lss 3 aM aM p_0 (.int .i64 0)) w fun t4 w =>
 eN t4
  (R (.int .i64 1) w)
  (R p_0 w)
theorem W6 (R : K1) (hr : HR Q2 R Q) (h : AY R (g 0) w) : bH pg Oy LH Q g w :=
 dR (kn := no) (l := []) h eQ hr trivial
def Qq (a0 : aJb) (w : aJa) (R : K1) : Prop :=
 AY R a0 w
theorem Zc {a0 : aJb} {w : aJa} {R : K1} (h : Qq a0 w R) : aR pg qC #[a0] w R := by
 refine rI (ann := Oy) Tryd.f91 LH [a0] Q2 6 TrydM.mixed Tryd.func91 ?_
 exact (W6 _ _ _ R (fun _ _ h => h) h)
def Ip : FA := ⟨wP, fun i => .leaf ([], []) []⟩
def KX : List ResultVar := [.tmp 2]
noncomputable def F5 : Code := cU Tryd.f92
def B0 (R : K1) (tV : aJb) (w : aJa) : Prop :=
 aC pg (aG .eql 151 (.tmp 3) (.const (.pointer none)) tV (.pointer none)) w fun t4 w =>
 eN t4
  (R (.slice none 0 0) w)
  (aC pg (pV tV) w fun t6 w =>
  aC pg (aL 183 t6 0) w fun t7 w =>
  aC pg (aH 22 t7) w fun t8 w =>
  aR pg iM #[t8] w fun t9 w =>
  R t9 w)
theorem RM (R : K1) (hr : HR KX R Q) (h : B0 R (g 0) w) : bH pg Ip F5 Q g w :=
 dR (kn := no) (l := []) h eQ hr trivial
def RD (a0 : aJb) (w : aJa) (R : K1) : Prop :=
 B0 R a0 w
theorem SY {a0 : aJb} {w : aJa} {R : K1} (h : RD a0 w R) : aR pg wP #[a0] w R := by
 refine rI (ann := Ip) Tryd.f92 F5 [a0] KX 10 TrydM.mixed Tryd.func92 ?_
 exact (RM _ _ _ R (fun _ _ h => h) h)
def Ij : FA := ⟨wW, fun i => .leaf ([], []) []⟩
def JC : List ResultVar := [.tmp 2]
noncomputable def Gj : Code := cU Tryd.f93
def Bv (R : K1) (Co : aJb) (w : aJa) : Prop :=
 aR pg iM #[Co] w fun t4 w =>
 aC pg (bV 195 [(0, t4)]) w fun t5 w =>
 aC pg (rA 195 t5) w fun t6 w =>
 R t6 w
theorem Sp (R : K1) (hr : HR JC R Q) (h : Bv R (g 0) w) : bH pg Ij Gj Q g w :=
 dR (kn := no) (l := []) h eQ hr trivial
def Rl (a0 : aJb) (w : aJa) (R : K1) : Prop :=
 Bv R a0 w
theorem SM {a0 : aJb} {w : aJa} {R : K1} (h : Rl a0 w R) : aR pg wW #[a0] w R := by
 refine rI (ann := Ij) Tryd.f93 Gj [a0] JC 7 TrydM.mixed Tryd.func93 ?_
 exact (Sp _ _ _ R (fun _ _ h => h) h)
def DT : FA := ⟨kW, fun i => match Nat.beq i 3 with | true => .leaf ([], []) [(false, []), (false, []), (false, []), (false, []), (false, []), (false, []), (false, []), (false, []), (false, []), (false, []), (false, []), (false, []), (false, []), (false, [])] | false => match Nat.beq i 5 with | true => .leaf ([9], []) [(false, []), (false, []), (false, []), (false, []), (false, []), (false, []), (false, []), (false, []), (false, []), (true, []), (false, [])] | false => .leaf ([], []) []⟩
def F4 : List ResultVar := [.tmp 4, .tmp 5]
noncomputable def CC : Code := cU Tryd.f94
def xH (R : K1) (H9 pK : aJb) (w : aJa) : Prop :=
 aC pg (aG .eql 184 (.tmp 8) (.const (.pointer none)) H9 (.pointer none)) w fun t9 w =>
 Gd (fI t9 false) (fun K => K pK w) w fun t11 w =>
 Gd (fI t9 false) (fun K => aC pg (aG .lss 3 aM aM t11 (.int .i64 0)) w K) w fun t12 w =>
 aC pg (fR t9 (.bool true) t12) w fun t13 w =>
 Gd (fI t13 false) (fun K => K pK w) w fun t15 w =>
 Gd (fI t13 false) (fun K => aC pg (aG .gtr 3 aM aM t15 (.int .i64 32)) w K) w fun t16 w =>
 aC pg (fR t13 (.bool true) t16) w fun t17 w =>
 eN t17
  (R (.tuple #[(.int .u64 0), (.int .i64 1)]) w)
  ((dr w) = (dr w) /\
  aC pg (pV H9) (dr w) fun t20 w_ => w_ = (dr w) /\
  aC pg (aL 195 t20 0) (dr w) fun t21 w_ => w_ = (dr w) /\
  aC pg (aH 22 t21) (dr w) fun t22 w_ => w_ = (dr w) /\
  aC pg (jS .len #[22] 3 [t22]) (dr w) fun t23 w_ => w_ = (dr w) /\
  aC pg (aG .mul 3 aM aM (.int .i64 8) t23) (dr w) fun t24 w_ => w_ = (dr w) /\
  (dr w) = (dr w) /\
  aC pg (pV H9) (dr w) fun t26 w_ => w_ = (dr w) /\
  aC pg (aL 195 t26 1) (dr w) fun t27 w_ => w_ = (dr w) /\
  aC pg (aH 3 t27) (dr w) fun t28 w_ => w_ = (dr w) /\
  aC pg (aG .sub 3 aM aM t24 t28) (dr w) fun t29 w_ => w_ = (dr w) /\
  (dr w) = (dr w) /\
  aC pg (aG .lss 3 aM aM t29 pK) (dr w) fun t31 w_ => w_ = (dr w) /\
  (dr w) = (dr w) /\
  eN t31
   (R (.tuple #[(.int .u64 0), (.int .i64 10)]) (dr w))
   ((dr (dr w)) = (dr (dr w)) /\
   aC pg (pV H9) (dr (dr w)) fun t33 w_ => w_ = (dr (dr w)) /\
   aC pg (aL 195 t33 0) (dr (dr w)) fun t34 w_ => w_ = (dr (dr w)) /\
   aC pg (aH 22 t34) (dr (dr w)) fun t35 w_ => w_ = (dr (dr w)) /\
   (dr (dr w)) = (dr (dr w)) /\
   aC pg (pV H9) (dr (dr w)) fun t37 w_ => w_ = (dr (dr w)) /\
   aC pg (aL 195 t37 1) (dr (dr w)) fun t38 w_ => w_ = (dr (dr w)) /\
   aC pg (aH 3 t38) (dr (dr w)) fun t39 w_ => w_ = (dr (dr w)) /\
   (dr (dr w)) = (dr (dr w)) /\
   aR pg Ge #[t35, t39, pK] (dr (dr w)) fun t41 aFi =>
   aFi = aFi /\
   aC pg (pV H9) aFi fun t43 w =>
   aC pg (aL 195 t43 1) w fun t44 w =>
   aC pg (aH 3 t44) w fun t45 w =>
   aC pg (aG .add 3 aM aM t45 pK) w fun t47 w =>
   aC pg (pV H9) w fun t48 w =>
   aC pg (aL 195 t48 1) w fun t49 w =>
   aC pg (aJ 3 t49 t47) w fun _u w =>
   R (.tuple #[t41, (.int .i64 0)]) w))
theorem O8 (R : K1) (hr : HR F4 R Q) (h : xH R (g 0) (g 1) w) : bH pg DT CC Q g w :=
 dR (kn := no) (l := []) h eQ hr trivial
def LW (a0 a1 : aJb) (w : aJa) (R : K1) : Prop :=
 xH R a0 a1 w
theorem P9 {a0 a1 : aJb} {w : aJa} {R : K1} (h : LW a0 a1 w R) : aR pg kW #[a0, a1] w R := by
 refine rI (ann := DT) Tryd.f94 CC [a0, a1] F4 51 TrydM.mixed Tryd.func94 ?_
 exact (O8 _ _ _ R (fun _ _ h => h) h)
def OR : FA := ⟨DL, fun i => .leaf ([], []) []⟩
def Rb : List ResultVar := [.tmp 4, .tmp 5]
noncomputable def LI : Code := cU Tryd.f95
def GU (R : K1) (H9 NO : aJb) (w : aJa) : Prop :=
 aC pg (aG .add 3 aM aM NO (.int .i64 1)) w fun t12 w =>
 aC pg (fM 3 94 t12) w fun t13 w =>
 aR pg rG #[t13] w fun t14 w =>
 aC pg (aG .sub 3 aM aM t14 (.int .i64 1)) w fun t18 w =>
 aR pg kW #[H9, t18] w fun t19 w =>
 aC pg (bB t19 0) w fun t20 w =>
 aC pg (bB t19 1) w fun t21 w =>
 aC pg (aG .neq 30 (.tmp 22) (.const (.int .i64 0)) t21 (.int .i64 0)) w fun t23 w =>
 eN t23
  (R (.tuple #[(.int .i64 0), t21]) w)
  (aC pg (aG .shl 3 aM aM (.int .i64 1) t14) w fun t26 w =>
  aC pg (aG .sub 3 aM aM t26 (.int .i64 2)) w fun t27 w =>
  aC pg (aG .sub 3 aM aM t27 NO) w fun t29 w =>
  aC pg (fM 73 3 t20) w fun t31 w =>
  aC pg (aG .lss 3 aM aM t31 t29) w fun t33 w =>
  eN t33
   (aC pg (fM 73 3 t20) w fun t35 w =>
   R (.tuple #[t35, (.int .i64 0)]) w)
   (aR pg kW #[H9, (.int .i64 1)] w fun t38 w =>
   aC pg (bB t38 0) w fun t39 w =>
   aC pg (bB t38 1) w fun t40 w =>
   aC pg (aG .neq 30 (.tmp 42) (.const (.int .i64 0)) t40 (.int .i64 0)) w fun t43 w =>
   eN t43
    (R (.tuple #[(.int .i64 0), t40]) w)
    (aC pg (aG .eql 73 (.tmp 46) (.const (.int .u64 0)) t39 (.int .u64 0)) w fun t47 w =>
    eN t47
     (aC pg (fM 73 3 t20) w fun t49 w =>
     R (.tuple #[t49, (.int .i64 0)]) w)
     (aC pg (fM 73 3 t20) w fun t51 w =>
     aC pg (aG .sub 3 aM aM t14 (.int .i64 1)) w fun t53 w =>
     aC pg (aG .shl 3 aM aM (.int .i64 1) t53) w fun t54 w =>
     aC pg (aG .add 3 aM aM t51 t54) w fun t55 w =>
     aC pg (aG .sub 3 aM aM t55 t29) w fun t57 w =>
     R (.tuple #[t57, (.int .i64 0)]) w))))
theorem V9 (R : K1) (hr : HR Rb R Q) (h : GU R (g 0) (g 1) w) : bH pg OR LI Q g w :=
 dR (kn := no) (l := []) h eQ hr trivial
def Yg (a0 a1 : aJb) (w : aJa) (R : K1) : Prop :=
 GU R a0 a1 w
theorem Zw {a0 a1 : aJb} {w : aJa} {R : K1} (h : Yg a0 a1 w R) : aR pg DL #[a0, a1] w R := by
 refine rI (ann := OR) Tryd.f95 LI [a0, a1] Rb 58 TrydM.mixed Tryd.func95 ?_
 exact (V9 _ _ _ R (fun _ _ h => h) h)
def kF : FA := ⟨zD, fun i => .leaf ([], []) []⟩
def pA : List ResultVar := [.tmp 2, .tmp 3]
noncomputable def jP : Code := cU Tryd.f96
def wT (R : K1) (n_4 : aJb) (w : aJa) : Prop :=
 R (.tuple #[n_4, (.int .i64 0)]) w
theorem Tg (R : K1) (hr : HR pA R Q) (h : wT R (g 4) w) : bH pg kF (aB 1 (aB 2 (bI (aB 1 jP)))) Q g w :=
 dR (kn := no) (l := []) h eQ hr trivial
def wQ (kn : K2) (k0 : K1) (R : K1) (H9 n_4 : aJb) (w : aJa) : Prop :=
 aR pg kW #[H9, (.int .i64 2)] w fun t9 w =>
 aC pg (bB t9 0) w fun t10 w =>
 aC pg (bB t9 1) w fun t11 w =>
 aC pg (aG .neq 30 (.tmp 12) (.const (.int .i64 0)) t11 (.int .i64 0)) w fun t13 w =>
 eN t13
  (R (.tuple #[(.int .i64 0), t11]) w)
  (aC pg (fM 73 3 t10) w fun t17 w =>
  aC pg (aG .add 3 aM aM n_4 t17) w fun t18 w =>
  aC pg (aG .lss 73 aM aM t10 (.int .u64 3)) w fun t20 w =>
  eN t20
   (k0 t18 w)
   (kn H9 t18 w))
theorem SV (kn : K2) (k0 : K1) (R : K1) (hn : N2 Q kn 0 4) (h0 : E1 Q k0 0 4) (hr : HR pA R Q) (h : wQ kn k0 R (g 0) (g 4) w) : bH pg kF (bI (bI (aD 1 (aB 2 (bI (aB 1 jP)))))) Q g w :=
 dR (l := [(0, fun g w => k0 (g 4) w)]) h hn hr ⟨h0, trivial⟩
def Db (k0 : K1) (R : K1) (H9 n_4 : aJb) (w : aJa) : Prop :=
 cG (fun (X : aJb -> K0) (t : aJb) (w : aJa) => wQ (fun _ n_4 w => X n_4 w) k0 R H9 t w) n_4 w
theorem TS (k0 : K1) (R : K1) (h0 : E1 Q k0 0 4) (hr : HR pA R Q) (h : Db k0 R (g 0) (g 4) w) : bH pg kF (bI (aD 1 (aB 2 (bI (aB 1 jP))))) Q g w := by
 refine DO (fun g : Env => g 4) (fun X t w => wQ (fun _ n_4 w => X n_4 w) k0 R (g 0) t w) h (fun X g1 w1 ha hL => ?_)
 rw [<- fE 0 ha] at hL
 exact (SV _ g1 w1 (fun _ n_4 w => X n_4 w) k0 R (fun _ _ h => h) h0 hr hL)
def CV (kn : K1) (R : K1) (H9 n_4 : aJb) (w : aJa) : Prop :=
 Db kn R H9 n_4 w
def Dw (R : K1) (H9 n_4 : aJb) (w : aJa) : Prop :=
 CV (fun n_4 w => wT R n_4 w) R H9 n_4 w
theorem Ue (kn : K1) (R : K1) (hn : N1 Q kn 4) (hr : HR pA R Q) (h : CV kn R (g 0) (g 4) w) : bH pg kF (aD 1 (aB 2 (bI (aB 1 jP)))) Q g w :=
 tX 0 (TS _ g w kn R hn hr h)
def DE (kn : K2) (H9 : aJb) (w : aJa) : Prop :=
 kn H9 (.int .i64 0) w
theorem TW (kn : K2) (hn : N2 Q kn 0 4) (h : DE kn (g 0) w) : bH pg kF (aD 2 (bI (aB 1 jP))) Q g w :=
 dR (kr := no) (l := []) h hn eQ trivial
def LG (R : K1) (H9 : aJb) (w : aJa) : Prop :=
 DE (fun H9 n_4 w => Dw R H9 n_4 w) H9 w
def Cu (R : K1) (H9 : aJb) (w : aJa) : Prop :=
 LG R H9 w
def CW (kn : K1) (H9 : aJb) (w : aJa) : Prop :=
 kn H9 w
theorem Tu (kn : K1) (hn : N1 Q kn 0) (h : CW kn (g 0) w) : bH pg kF (aD 1 jP) Q g w :=
 dR (kr := no) (l := []) h hn eQ trivial
def BB (R : K1) (H9 : aJb) (w : aJa) : Prop :=
 CW (fun H9 w => Cu R H9 w) H9 w
theorem RQ (R : K1) (hr : HR pA R Q) (h : BB R (g 0) w) : bH pg kF jP Q g w :=
 fQ 1 (Tu _ g w (Cu R) (fun g w h => aK (scD (fQ 2 (TW _ g w (Dw R) (fun g w h => aK (fQ 1 (Ue _ g w (wT R) R (fun g w h => aK (Tg _ g w R hr h)) hr h))) h)))) h)
def SJ (a0 : aJb) (w : aJa) (R : K1) : Prop :=
 BB R a0 w
theorem Vi {a0 : aJb} {w : aJa} {R : K1} (h : SJ a0 w R) : aR pg zD #[a0] w R := by
 refine rI (ann := kF) Tryd.f96 jP [a0] pA 22 TrydM.mixed Tryd.func96 ?_
 exact (RQ _ _ _ R (fun _ _ h => h) h)
def D9 : FA := ⟨sV, fun i => .leaf ([], []) []⟩
def F0 : List ResultVar := [.tmp 2]
noncomputable def Dk : Code := cU Tryd.f97
def yT (R : K1) (H9 : aJb) (w : aJa) : Prop :=
 aC pg (aG .eql 184 (.tmp 3) (.const (.pointer none)) H9 (.pointer none)) w fun t4 w =>
 eN t4
  (R (.int .i64 0) w)
  (aC pg (pV H9) w fun t6 w =>
  aC pg (aL 195 t6 1) w fun t7 w =>
  aC pg (aH 3 t7) w fun t8 w =>
  aC pg (aG .add 3 aM aM t8 (.int .i64 7)) w fun t9 w =>
  aC pg (aG .quo 3 aM aM t9 (.int .i64 8)) w fun t10 w =>
  R t10 w)
theorem PA (R : K1) (hr : HR F0 R Q) (h : yT R (g 0) w) : bH pg D9 Dk Q g w :=
 dR (kn := no) (l := []) h eQ hr trivial
def LV (a0 : aJb) (w : aJa) (R : K1) : Prop :=
 yT R a0 w
theorem P0 {a0 : aJb} {w : aJa} {R : K1} (h : LV a0 w R) : aR pg sV #[a0] w R := by
 refine rI (ann := D9) Tryd.f97 Dk [a0] F0 11 TrydM.mixed Tryd.func97 ?_
 exact (PA _ _ _ R (fun _ _ h => h) h)
def pF : FA := ⟨AF, fun i => .leaf ([], []) []⟩
def JW : List ResultVar := [.tmp 2]
noncomputable def nF : Code := cU Tryd.f98
def DA (R : K1) (jG : aJb) (w : aJa) : Prop :=
 R jG w
theorem ZO (R : K1) (hr : HR JW R Q) (h : DA R (g 3) w) : bH pg pF (aB 1 (aB 2 nF)) Q g w :=
 dR (kn := no) (l := []) h eQ hr trivial
def Dg (kn : K2) (k0 : K1) (tT jG : aJb) (w : aJa) : Prop :=
 aC pg (aG .gtr 3 aM aM tT (.int .i64 0)) w fun t5 w =>
 eN t5
  (aC pg (aG .quo 3 aM aM tT (.int .i64 2)) w fun t7 w =>
  aC pg (aG .add 3 aM aM jG (.int .i64 1)) w fun t9 w =>
  kn t7 t9 w)
  (k0 jG w)
theorem YL (kn : K2) (k0 : K1) (hn : N2 Q kn 0 3) (h0 : E1 Q k0 0 3) (h : Dg kn k0 (g 0) (g 3) w) : bH pg pF (bI (bI (aD 1 (aB 2 nF)))) Q g w :=
 dR (kr := no) (l := [(0, fun g w => k0 (g 3) w)]) h hn eQ ⟨h0, trivial⟩
def Jy (k0 : K1) (tT jG : aJb) (w : aJa) : Prop :=
 cG (fun (X : (aJb × aJb) -> K0) (t : aJb × aJb) (w : aJa) => Dg (fun tT jG w => X (tT, jG) w) k0 t.1 t.2 w) (tT, jG) w
theorem Ym (k0 : K1) (h0 : E1 Q k0 0 3) (h : Jy k0 (g 0) (g 3) w) : bH pg pF (bI (aD 1 (aB 2 nF))) Q g w := by
 refine DO (fun g : Env => (g 0, g 3)) (fun X t w => Dg (fun tT jG w => X (tT, jG) w) k0 t.1 t.2 w) h (fun X g1 w1 ha hL => ?_)
 exact (YL _ g1 w1 (fun tT jG w => X (tT, jG) w) k0 (fun _ _ h => h) h0 hL)
def KV (kn : K1) (tT jG : aJb) (w : aJa) : Prop :=
 Jy kn tT jG w
def JV (R : K1) (tT jG : aJb) (w : aJa) : Prop :=
 KV (fun jG w => DA R jG w) tT jG w
theorem aaB (kn : K1) (hn : N1 Q kn 3) (h : KV kn (g 0) (g 3) w) : bH pg pF (aD 1 (aB 2 nF)) Q g w :=
 tX 0 (Ym _ g w kn hn h)
def KK (kn : K2) (tT : aJb) (w : aJa) : Prop :=
 kn tT (.int .i64 0) w
theorem XP (kn : K2) (hn : N2 Q kn 0 3) (h : KK kn (g 0) w) : bH pg pF (aD 2 nF) Q g w :=
 dR (kr := no) (l := []) h hn eQ trivial
def Jr (R : K1) (tT : aJb) (w : aJa) : Prop :=
 KK (fun tT jG w => JV R tT jG w) tT w
theorem Z7 (R : K1) (hr : HR JW R Q) (h : Jr R (g 0) w) : bH pg pF nF Q g w :=
 fQ 2 (XP _ g w (JV R) (fun g w h => aK (fQ 1 (aaB _ g w (DA R) (fun g w h => aK (ZO _ g w R hr h)) h))) h)
def agC (a0 : aJb) (w : aJa) (R : K1) : Prop :=
 Jr R a0 w
theorem afN {a0 : aJb} {w : aJa} {R : K1} (h : agC a0 w R) : aR pg AF #[a0] w R := by
 refine rI (ann := pF) Tryd.f98 nF [a0] JW 11 TrydM.mixed Tryd.func98 ?_
 exact (Z7 _ _ _ R (fun _ _ h => h) h)
def jK : FA := ⟨LJ, fun i => .leaf ([], []) []⟩
def pO : List ResultVar := [.tmp 2]
noncomputable def iP : Code := cU Tryd.f99
def Iu (R : K1) (bJ iC : aJb) (w : aJa) : Prop :=
 aC pg (aL 130 bJ 0) w fun t61 w =>
 aC pg (aH 3 t61) w fun t62 w =>
 aR pg mF #[t62] w fun t63 w =>
 aC pg (aG .eql 3 (.tmp 60) (.tmp 63) iC t63) w fun t64 w =>
 R t64 w
theorem ahT (R : K1) (hr : HR pO R Q) (h : Iu R (g 1) (g 3) w) : bH pg jK (aB 1 (aB 3 iP)) Q g w :=
 dR (kn := no) (l := []) h eQ hr trivial
def C0 (kn : K3) (bJ iC jH : aJb) (w : aJa) : Prop :=
 aC pg (aG .add 3 aM aM jH (.int .i64 1)) w fun t43 w =>
 kn bJ iC t43 w
theorem ajT (kn : K3) (hn : N3 Q kn 1 3 4) (h : C0 kn (g 1) (g 3) (g 4) w) : bH pg jK (aB 1 (aB 1 (bI (bI (aB 1 (aD 1 (aB 3 iP))))))) Q g w :=
 dR (kr := no) (l := []) h hn eQ trivial
def CQ (kn : K3) (bJ iC jH p_5 : aJb) (w : aJa) : Prop :=
 aC pg (aG .add 3 aM aM iC p_5) w fun t59 w =>
 kn bJ t59 jH w
theorem ajA (kn : K3) (hn : N3 Q kn 1 3 4) (h : CQ kn (g 1) (g 3) (g 4) (g 5) w) : bH pg jK (aB 3 (bI (aD 1 (aB 1 (bI (bI (aB 1 (aD 1 (aB 3 iP))))))))) Q g w :=
 dR (kr := no) (l := []) h hn eQ trivial
def Cx (kn : K4) (R : K1) (bJ iC jH : aJb) (w : aJa) : Prop :=
 aC pg (aL 130 bJ 1) w fun t44 w =>
 aC pg (aH 77 t44) w fun t45 w =>
 aC pg (bA 77 t45 jH) w fun t47 w =>
 aC pg (aH 3 t47) w fun t48 w =>
 aC pg (aG .lss 3 aM aM t48 (.int .i64 (-1))) w fun t50 w =>
 Gd (fI t50 false) (fun K => K t48 w) w fun t52 w =>
 Gd (fI t50 false) (fun K => aC pg (aG .gtr 3 aM aM t52 (.int .i64 32768)) w K) w fun t53 w =>
 aC pg (fR t50 (.bool true) t53) w fun t54 w =>
 eN t54
  (R (.bool false) w)
  (aC pg (aG .lss 3 aM aM t48 (.int .i64 0)) w fun t56 w =>
  eN t56
   (kn bJ iC jH (.int .i64 1) w)
   (kn bJ iC jH t48 w))
theorem ajL (kn : K4) (R : K1) (hn : N4 Q kn 1 3 4 5) (hr : HR pO R Q) (h : Cx kn R (g 1) (g 3) (g 4) w) : bH pg jK (aD 3 (bI (aD 1 (aB 1 (bI (bI (aB 1 (aD 1 (aB 3 iP))))))))) Q g w :=
 dR (l := []) h hn hr trivial
def IV (kn : K3) (R : K1) (bJ iC jH : aJb) (w : aJa) : Prop :=
 Cx (fun bJ iC jH p_5 w => CQ kn bJ iC jH p_5 w) R bJ iC jH w
def CN (kn : K3) (R : K1) (bJ iC jH : aJb) (w : aJa) : Prop :=
 IV kn R bJ iC jH w
def CM (kn : K3) (R : K1) (bJ iC jH : aJb) (w : aJa) : Prop :=
 CN (fun bJ iC jH w => C0 kn bJ iC jH w) R bJ iC jH w
theorem aiM (kn : K3) (R : K1) (hn : N3 Q kn 1 3 4) (hr : HR pO R Q) (h : CN kn R (g 1) (g 3) (g 4) w) : bH pg jK (aD 1 (aB 1 (bI (bI (aB 1 (aD 1 (aB 3 iP))))))) Q g w :=
 tX 1 (fQ 3 (ajL _ g w (CQ kn) R (fun g w h => aK (ajA _ g w kn hn h)) hr h))
def zG (kn : K3) (k0 : K2) (bJ iC jH : aJb) (w : aJa) : Prop :=
 aC pg (aL 130 bJ 1) w fun t38 w =>
 aC pg (aH 77 t38) w fun t39 w =>
 aC pg (jS .len #[77] 3 [t39]) w fun t40 w =>
 aC pg (aG .lss 3 aM aM jH t40) w fun t41 w =>
 eN t41
  (kn bJ iC jH w)
  (k0 bJ iC w)
theorem ajS (kn : K3) (k0 : K2) (hn : N3 Q kn 1 3 4) (h0 : E2 Q k0 0 1 3) (h : zG kn k0 (g 1) (g 3) (g 4) w) : bH pg jK (aD 1 (bI (bI (aB 1 (aD 1 (aB 3 iP)))))) Q g w :=
 dR (kr := no) (l := [(0, fun g w => k0 (g 1) (g 3) w)]) h hn eQ ⟨h0, trivial⟩
def uZ (kn : K3) (k0 : K2) (R : K1) (bJ iC jH : aJb) (w : aJa) : Prop :=
 zG (fun bJ iC jH w => CM kn R bJ iC jH w) k0 bJ iC jH w
def MC (k0 : K2) (R : K1) (bJ iC jH : aJb) (w : aJa) : Prop :=
 cG (fun (X : (aJb × aJb) -> K0) (t : aJb × aJb) (w : aJa) => uZ (fun _ iC jH w => X (iC, jH) w) k0 R bJ t.1 t.2 w) (iC, jH) w
theorem ahV (kn : K3) (k0 : K2) (R : K1) (hn : N3 Q kn 1 3 4) (h0 : E2 Q k0 0 1 3) (hr : HR pO R Q) (h : uZ kn k0 R (g 1) (g 3) (g 4) w) : bH pg jK (bI (bI (aB 1 (aD 1 (aB 3 iP))))) Q g w :=
 fQ 1 (ajS _ g w (CM kn R) k0 (fun g w h => aK (fQ 1 (aiM _ g w (C0 kn) R (fun g w h => aK (ajT _ g w kn hn h)) hr h))) h0 h)
theorem acY (k0 : K2) (R : K1) (h0 : E2 Q k0 0 1 3) (hr : HR pO R Q) (h : MC k0 R (g 1) (g 3) (g 4) w) : bH pg jK (bI (aB 1 (aD 1 (aB 3 iP)))) Q g w := by
 refine DO (fun g : Env => (g 3, g 4)) (fun X t w => uZ (fun _ iC jH w => X (iC, jH) w) k0 R (g 1) t.1 t.2 w) h (fun X g1 w1 ha hL => ?_)
 rw [<- fE 1 ha] at hL
 exact (ahV _ g1 w1 (fun _ iC jH w => X (iC, jH) w) k0 R (fun _ _ h => h) h0 hr hL)
def NS (kn : K2) (R : K1) (bJ iC jH : aJb) (w : aJa) : Prop :=
 MC kn R bJ iC jH w
def NZ (kn : K3) (bJ iC : aJb) (w : aJa) : Prop :=
 kn bJ iC (.int .i64 0) w
theorem acA (kn : K3) (hn : N3 Q kn 1 3 4) (h : NZ kn (g 1) (g 3) w) : bH pg jK (aD 1 (aD 1 (aB 3 iP))) Q g w :=
 dR (kr := no) (l := []) h hn eQ trivial
def MW (kn : K2) (R : K1) (bJ iC : aJb) (w : aJa) : Prop :=
 NZ (fun bJ iC jH w => NS kn R bJ iC jH w) bJ iC w
def Ng (R : K1) (bJ iC : aJb) (w : aJa) : Prop :=
 MW (fun bJ iC w => Iu R bJ iC w) R bJ iC w
theorem abW (kn : K2) (R : K1) (hn : N2 Q kn 1 3) (hr : HR pO R Q) (h : MW kn R (g 1) (g 3) w) : bH pg jK (aD 1 (aB 3 iP)) Q g w :=
 fQ 1 (acA _ g w (NS kn R) (fun g w h => aK (tX 0 (acY _ g w kn R hn hr h))) h)
def Nn (kn : K2) (R : K1) (c_0 : aJb) (w : aJa) : Prop :=
 aC pg (rA 130 c_0) w fun bJ w =>
 aC pg (aL 130 bJ 0) w fun t6 w =>
 aC pg (aH 3 t6) w fun t7 w =>
 aC pg (aG .lss 3 aM aM t7 (.int .i64 5)) w fun t8 w =>
 Gd (fI t8 false) (fun K => aC pg (aL 130 bJ 0) w K) w fun t10 w =>
 Gd (fI t8 false) (fun K => aC pg (aH 3 t10) w K) w fun t11 w =>
 Gd (fI t8 false) (fun K => aC pg (aG .gtr 3 aM aM t11 (.int .i64 15)) w K) w fun t12 w =>
 aC pg (fR t8 (.bool true) t12) w fun t13 w =>
 Gd (fI t13 false) (fun K => aC pg (aL 130 bJ 1) w K) w fun t15 w =>
 Gd (fI t13 false) (fun K => aC pg (aH 77 t15) w K) w fun t16 w =>
 Gd (fI t13 false) (fun K => aC pg (jS .len #[77] 3 [t16]) w K) w fun t17 w =>
 Gd (fI t13 false) (fun K => aC pg (aG .eql 3 (.tmp 17) (.const (.int .i64 0)) t17 (.int .i64 0)) w K) w fun t18 w =>
 aC pg (fR t13 (.bool true) t18) w fun t19 w =>
 Gd (fI t19 false) (fun K => aC pg (aL 130 bJ 1) w K) w fun t21 w =>
 Gd (fI t19 false) (fun K => aC pg (aH 77 t21) w K) w fun t22 w =>
 Gd (fI t19 false) (fun K => aC pg (jS .len #[77] 3 [t22]) w K) w fun t23 w =>
 Gd (fI t19 false) (fun K => aC pg (aG .gtr 3 aM aM t23 (.int .i64 256)) w K) w fun t24 w =>
 aC pg (fR t19 (.bool true) t24) w fun t25 w =>
 Gd (fI t25 false) (fun K => aC pg (aL 130 bJ 1) w K) w fun t27 w =>
 Gd (fI t25 false) (fun K => aC pg (aH 77 t27) w K) w fun t28 w =>
 Gd (fI t25 false) (fun K => aC pg (aL 130 bJ 1) w K) w fun t29 w =>
 Gd (fI t25 false) (fun K => aC pg (aH 77 t29) w K) w fun t30 w =>
 Gd (fI t25 false) (fun K => aC pg (jS .len #[77] 3 [t30]) w K) w fun t31 w =>
 Gd (fI t25 false) (fun K => aC pg (aG .sub 3 aM aM t31 (.int .i64 1)) w K) w fun t32 w =>
 Gd (fI t25 false) (fun K => aC pg (bA 77 t28 t32) w K) w fun t33 w =>
 Gd (fI t25 false) (fun K => aC pg (aH 3 t33) w K) w fun t34 w =>
 Gd (fI t25 false) (fun K => aC pg (aG .eql 3 (.tmp 34) (.const (.int .i64 0)) t34 (.int .i64 0)) w K) w fun t35 w =>
 aC pg (fR t25 (.bool true) t35) w fun t36 w =>
 eN t36
  (R (.bool false) w)
  (kn bJ (.int .i64 0) w)
theorem abK (kn : K2) (R : K1) (hn : N2 Q kn 1 3) (hr : HR pO R Q) (h : Nn kn R (g 0) w) : bH pg jK (aD 3 iP) Q g w :=
 dR (l := []) h hn hr trivial
def Na (R : K1) (c_0 : aJb) (w : aJa) : Prop :=
 Nn (fun bJ iC w => Ng R bJ iC w) R c_0 w
theorem abH (R : K1) (hr : HR pO R Q) (h : Na R (g 0) w) : bH pg jK iP Q g w :=
 fQ 3 (abK _ g w (Ng R) R (fun g w h => aK (fQ 1 (abW _ g w (Iu R) R (fun g w h => aK (ahT _ g w R hr h)) hr h))) hr h)
def aqG (a0 : aJb) (w : aJa) (R : K1) : Prop :=
 Na R a0 w
theorem amH {a0 : aJb} {w : aJa} {R : K1} (h : aqG a0 w R) : aR pg LJ #[a0] w R := by
 refine rI (ann := jK) Tryd.f99 iP [a0] pO 65 TrydM.mixed Tryd.func99 ?_
 exact (abH _ _ _ R (fun _ _ h => h) h)
def mL : FA := ⟨wU, fun i => .leaf ([], []) []⟩
def Bk : List ResultVar := [.tmp 2]
noncomputable def lY : Code := cU Tryd.f100
def qM (R : K1) (tT AW : aJb) (w : aJa) : Prop :=
 aC pg (fM 73 5 tT) w fun t21 w =>
 aC pg (G4 9 (.string ⟨#[0, 1, 2, 2, 3, 3, 3, 3, 4, 4, 4, 4, 4, 4, 4, 4, 5, 5, 5, 5, 5, 5, 5, 5, 5, 5, 5, 5, 5, 5, 5, 5, 6, 6, 6, 6, 6, 6, 6, 6, 6, 6, 6, 6, 6, 6, 6, 6, 6, 6, 6, 6, 6, 6, 6, 6, 6, 6, 6, 6, 6, 6, 6, 6, 7, 7, 7, 7, 7, 7, 7, 7, 7, 7, 7, 7, 7, 7, 7, 7, 7, 7, 7, 7, 7, 7, 7, 7, 7, 7, 7, 7, 7, 7, 7, 7, 7, 7, 7, 7, 7, 7, 7, 7, 7, 7, 7, 7, 7, 7, 7, 7, 7, 7, 7, 7, 7, 7, 7, 7, 7, 7, 7, 7, 7, 7, 7, 7, 8, 8, 8, 8, 8, 8, 8, 8, 8, 8, 8, 8, 8, 8, 8, 8, 8, 8, 8, 8, 8, 8, 8, 8, 8, 8, 8, 8, 8, 8, 8, 8, 8, 8, 8, 8, 8, 8, 8, 8, 8, 8, 8, 8, 8, 8, 8, 8, 8, 8, 8, 8, 8, 8, 8, 8, 8, 8, 8, 8, 8, 8, 8, 8, 8, 8, 8, 8, 8, 8, 8, 8, 8, 8, 8, 8, 8, 8, 8, 8, 8, 8, 8, 8, 8, 8, 8, 8, 8, 8, 8, 8, 8, 8, 8, 8, 8, 8, 8, 8, 8, 8, 8, 8, 8, 8, 8, 8, 8, 8, 8, 8, 8, 8, 8, 8, 8, 8, 8, 8, 8, 8, 8, 8, 8, 8, 8, 8]⟩) t21) w fun t22 w =>
 aC pg (fM 5 3 t22) w fun t23 w =>
 aC pg (aG .add 3 aM aM AW t23) w fun t24 w =>
 R t24 w
theorem R4 (R : K1) (hr : HR Bk R Q) (h : qM R (g 0) (g 2) w) : bH pg mL (aB 1 (aB 1 (aB 2 lY))) Q g w :=
 dR (kn := no) (l := []) h eQ hr trivial
def B5 (kn : K2) (tT AW : aJb) (w : aJa) : Prop :=
 aC pg (aG .geq 73 aM aM tT (.int .u64 256)) w fun t14 w =>
 eN t14
  (aC pg (aG .shr 73 aM aM tT (.int .u64 8)) w fun t16 w =>
  aC pg (aG .add 3 aM aM AW (.int .i64 8)) w fun t18 w =>
  kn t16 t18 w)
  (kn tT AW w)
theorem Sa (kn : K2) (hn : N2 Q kn 0 2) (h : B5 kn (g 0) (g 2) w) : bH pg mL (aD 1 (aB 1 (aB 2 lY))) Q g w :=
 dR (kr := no) (l := []) h hn eQ trivial
def vJ (R : K1) (tT AW : aJb) (w : aJa) : Prop :=
 B5 (fun tT AW w => qM R tT AW w) tT AW w
def BC (kn : K2) (tT AW : aJb) (w : aJa) : Prop :=
 aC pg (aG .geq 73 aM aM tT (.int .u64 65536)) w fun t8 w =>
 eN t8
  (aC pg (aG .shr 73 aM aM tT (.int .u64 16)) w fun t10 w =>
  aC pg (aG .add 3 aM aM AW (.int .i64 16)) w fun t12 w =>
  kn t10 t12 w)
  (kn tT AW w)
theorem RN (kn : K2) (hn : N2 Q kn 0 2) (h : BC kn (g 0) (g 2) w) : bH pg mL (aD 1 (aB 2 lY)) Q g w :=
 dR (kr := no) (l := []) h hn eQ trivial
def uD (R : K1) (tT AW : aJb) (w : aJa) : Prop :=
 BC (fun tT AW w => vJ R tT AW w) tT AW w
def Bt (kn : K2) (tT : aJb) (w : aJa) : Prop :=
 aC pg (aG .geq 73 aM aM tT (.int .u64 4294967296)) w fun t4 w =>
 eN t4
  (aC pg (aG .shr 73 aM aM tT (.int .u64 32)) w fun t6 w =>
  kn t6 (.int .i64 32) w)
  (kn tT (.int .i64 0) w)
theorem RX (kn : K2) (hn : N2 Q kn 0 2) (h : Bt kn (g 0) w) : bH pg mL (aD 2 lY) Q g w :=
 dR (kr := no) (l := []) h hn eQ trivial
def BP (R : K1) (tT : aJb) (w : aJa) : Prop :=
 Bt (fun tT AW w => uD R tT AW w) tT w
theorem Sb (R : K1) (hr : HR Bk R Q) (h : BP R (g 0) w) : bH pg mL lY Q g w :=
 fQ 2 (RX _ g w (uD R) (fun g w h => aK (fQ 1 (RN _ g w (vJ R) (fun g w h => aK (fQ 1 (Sa _ g w (qM R) (fun g w h => aK (R4 _ g w R hr h)) h))) h))) h)
def Rp (a0 : aJb) (w : aJa) (R : K1) : Prop :=
 BP R a0 w
theorem Te {a0 : aJb} {w : aJa} {R : K1} (h : Rp a0 w R) : aR pg wU #[a0] w R := by
 refine rI (ann := mL) Tryd.f100 lY [a0] Bk 25 TrydM.mixed Tryd.func100 ?_
 exact (Sb _ _ _ R (fun _ _ h => h) h)
end Go.Proofs.YtaggdjhhmbnhoaaDoor

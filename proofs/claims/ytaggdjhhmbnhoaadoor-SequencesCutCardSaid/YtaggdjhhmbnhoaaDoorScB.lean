/- Parts of the proof of SequencesCut: merged and given short names by a program of ours. -/
import Derived.Test.YtaggdjhhmbnhoaaDoorScA
set_option linter.unusedVariables false
set_option linter.unusedSimpArgs false
namespace Go.Proofs.YtaggdjhhmbnhoaaDoor
open Go Go.En
set_option maxRecDepth 20000
attribute [local irreducible] Go.En.bH
variable (Q : Exit -> Env -> aJ2 -> Prop) (g : Env) (w : aJ2)
def fC : FA := ⟨xD, fun i => .leaf ([], []) []⟩
def jK : List ResultVar := [.cell 2 98, .tmp 3]
noncomputable def eN : Code := cU Tryd.f39
def vZ (R : K1) (t2 bF : aJ3) (w : aJ2) : Prop :=
 aC pg (aH 98 bF) w fun t44 w =>
 aC pg (aJ 98 t2 t44) w fun _u w =>
 kI pg 98 t2 w fun r0 => R (.tuple #[r0, (.int .i64 0)]) w
theorem Sm (R : K1) (hr : HR jK R Q) (h : vZ R (g 2) (g 4) w) : bH pg fC (aB 1 (aB 2 eN)) Q g w :=
 dS (kn := no) (l := []) h eP hr trivial
def uO (kn : K5) (t2 bF t12 t13 t14 : aJ3) (w : aJ2) : Prop :=
 aC pg (aG .add 3 aM aM t14 (.int .i64 1)) w fun t43 w =>
 kn t2 bF t12 t13 t43 w
theorem SL (kn : K5) (hn : N5 Q kn 2 4 12 13 14) (h : uO kn (g 2) (g 4) (g 12) (g 13) (g 14) w) : bH pg fC (aB 1 (aB 2 (bI (bI (aB 1 (aD 1 (aB 2 eN))))))) Q g w :=
 dS (kr := no) (l := []) h hn eP trivial
def vQ (kn : K7) (k2 : K5) (R : K1) (t2 bF t12 t13 t14 t19 t20 : aJ3) (w : aJ2) : Prop :=
 aC pg (aG .lss 3 aM aM t20 (.int .i64 3)) w fun t21 w =>
 eM t21
  (aC pg (HM 142 t19 t20) w fun t23 w =>
  aR pg QS #[t20, t23] w fun t27 w =>
  aC pg (aW t27 0) w fun t28 w =>
  aC pg (aW t27 1) w fun t29 w =>
  aC pg (aW t27 2) w fun t30 w =>
  aC pg (aG .neq 30 (.tmp 31) (.const (.int .i64 0)) t30 (.int .i64 0)) w fun t32 w =>
  eM t32
   (aC pg (aH 98 bF) w fun t33 w =>
   aC pg (aJ 98 t2 t33) w fun _u w =>
   kI pg 98 t2 w fun r0 => R (.tuple #[r0, (.int .i64 1)]) w)
   (aC pg (bA 98 bF t20) w fun t36 w =>
   aC pg (aH 77 t36) w fun t37 w =>
   aC pg (bX 77 1 [(0, t28)]) w fun t39 w =>
   aC pg (jM .append #[77, 77] 77 [t37, t39]) w fun t40 w =>
   aC pg (bA 98 bF t20) w fun t41 w =>
   aC pg (aJ 77 t41 t40) w fun _u w =>
   aC pg (aG .add 3 aM aM t20 (.int .i64 1)) w fun t42 w =>
   kn t2 bF t12 t13 t14 t19 t42 w))
  (k2 t2 bF t12 t13 t14 w)
theorem SJ (kn : K7) (k2 : K5) (R : K1) (hn : N7 Q kn 2 4 12 13 14 19 20) (h2 : E5 Q k2 2 2 4 12 13 14) (hr : HR jK R Q) (h : vQ kn k2 R (g 2) (g 4) (g 12) (g 13) (g 14) (g 19) (g 20) w) : bH pg fC (bI (bI (aB 2 (bI (aD 1 (aB 2 (bI (bI (aB 1 (aD 1 (aB 2 eN))))))))))) Q g w :=
 dS (l := [(2, fun g w => k2 (g 2) (g 4) (g 12) (g 13) (g 14) w)]) h hn hr ⟨h2, trivial⟩
def BG (k2 : K5) (R : K1) (t2 bF t12 t13 t14 t19 t20 : aJ3) (w : aJ2) : Prop :=
 cG (fun (X : aJ3 -> K0) (t : aJ3) (w : aJ2) => vQ (fun _ _ _ _ _ _ t20 w => X t20 w) k2 R t2 bF t12 t13 t14 t19 t w) t20 w
theorem S6 (k2 : K5) (R : K1) (h2 : E5 Q k2 2 2 4 12 13 14) (hr : HR jK R Q) (h : BG k2 R (g 2) (g 4) (g 12) (g 13) (g 14) (g 19) (g 20) w) : bH pg fC (bI (aB 2 (bI (aD 1 (aB 2 (bI (bI (aB 1 (aD 1 (aB 2 eN)))))))))) Q g w := by
 refine Db (fun g : Env => g 20) (fun X t w => vQ (fun _ _ _ _ _ _ t20 w => X t20 w) k2 R (g 2) (g 4) (g 12) (g 13) (g 14) (g 19) t w) h (fun X g1 w1 ha hL => ?_)
 rw [<- fF 2 ha, <- fF 4 ha, <- fF 12 ha, <- fF 13 ha, <- fF 14 ha, <- fF 19 ha] at hL
 exact (SJ _ g1 w1 (fun _ _ _ _ _ _ t20 w => X t20 w) k2 R (fun _ _ h => h) h2 hr hL)
def B2 (kn : K5) (R : K1) (t2 bF t12 t13 t14 t19 t20 : aJ3) (w : aJ2) : Prop :=
 BG kn R t2 bF t12 t13 t14 t19 t20 w
def BH (kn : K7) (t2 bF t12 t13 t14 : aJ3) (w : aJ2) : Prop :=
 aC pg (bA 24 t12 t14) w fun t16 w =>
 aC pg (aH 47 t16) w fun t17 w =>
 aC pg (bS 47) w fun s_6 w =>
 aC pg (aJ 47 s_6 t17) w fun _u w =>
 aC pg (aH 47 s_6) w fun t18 w =>
 aR pg qV #[t18] w fun t19 w =>
 kn t2 bF t12 t13 t14 t19 (.int .i64 0) w
theorem Sh (kn : K7) (hn : N7 Q kn 2 4 12 13 14 19 20) (h : BH kn (g 2) (g 4) (g 12) (g 13) (g 14) w) : bH pg fC (aD 2 (bI (aD 1 (aB 2 (bI (bI (aB 1 (aD 1 (aB 2 eN))))))))) Q g w :=
 dS (kr := no) (l := []) h hn eP trivial
def Jp (kn : K5) (R : K1) (t2 bF t12 t13 t14 : aJ3) (w : aJ2) : Prop :=
 BH (fun t2 bF t12 t13 t14 t19 t20 w => B2 kn R t2 bF t12 t13 t14 t19 t20 w) t2 bF t12 t13 t14 w
def BA (kn : K5) (R : K1) (t2 bF t12 t13 t14 : aJ3) (w : aJ2) : Prop :=
 Jp kn R t2 bF t12 t13 t14 w
def Ce (kn : K5) (R : K1) (t2 bF t12 t13 t14 : aJ3) (w : aJ2) : Prop :=
 BA (fun t2 bF t12 t13 t14 w => uO kn t2 bF t12 t13 t14 w) R t2 bF t12 t13 t14 w
theorem S4 (kn : K5) (R : K1) (hn : N5 Q kn 2 4 12 13 14) (hr : HR jK R Q) (h : BA kn R (g 2) (g 4) (g 12) (g 13) (g 14) w) : bH pg fC (aD 1 (aB 2 (bI (bI (aB 1 (aD 1 (aB 2 eN))))))) Q g w :=
 uH 1 (fP 2 (Sh _ g w (B2 kn R) (fun g w h => aK (uH 2 (S6 _ g w kn R hn hr h))) h))
def AE (kn : K5) (k0 : K2) (t2 bF t12 t13 t14 : aJ3) (w : aJ2) : Prop :=
 aC pg (aG .lss 3 aM aM t14 t13) w fun t15 w =>
 eM t15
  (kn t2 bF t12 t13 t14 w)
  (k0 t2 bF w)
theorem P8 (kn : K5) (k0 : K2) (hn : N5 Q kn 2 4 12 13 14) (h0 : E2 Q k0 0 2 4) (h : AE kn k0 (g 2) (g 4) (g 12) (g 13) (g 14) w) : bH pg fC (aD 2 (bI (bI (aB 1 (aD 1 (aB 2 eN)))))) Q g w :=
 dS (kr := no) (l := [(0, fun g w => k0 (g 2) (g 4) w)]) h hn eP ⟨h0, trivial⟩
def tH (kn : K5) (k0 : K2) (R : K1) (t2 bF t12 t13 t14 : aJ3) (w : aJ2) : Prop :=
 AE (fun t2 bF t12 t13 t14 w => Ce kn R t2 bF t12 t13 t14 w) k0 t2 bF t12 t13 t14 w
def Ay (k0 : K2) (R : K1) (t2 bF t12 t13 t14 : aJ3) (w : aJ2) : Prop :=
 cG (fun (X : aJ3 -> K0) (t : aJ3) (w : aJ2) => tH (fun _ _ _ _ t14 w => X t14 w) k0 R t2 bF t12 t13 t w) t14 w
theorem QJ (kn : K5) (k0 : K2) (R : K1) (hn : N5 Q kn 2 4 12 13 14) (h0 : E2 Q k0 0 2 4) (hr : HR jK R Q) (h : tH kn k0 R (g 2) (g 4) (g 12) (g 13) (g 14) w) : bH pg fC (bI (bI (aB 1 (aD 1 (aB 2 eN))))) Q g w :=
 fP 2 (P8 _ g w (Ce kn R) k0 (fun g w h => aK (fP 1 (S4 _ g w (uO kn) R (fun g w h => aK (SL _ g w kn hn h)) hr h))) h0 h)
theorem Rq (k0 : K2) (R : K1) (h0 : E2 Q k0 0 2 4) (hr : HR jK R Q) (h : Ay k0 R (g 2) (g 4) (g 12) (g 13) (g 14) w) : bH pg fC (bI (aB 1 (aD 1 (aB 2 eN)))) Q g w := by
 refine Db (fun g : Env => g 14) (fun X t w => tH (fun _ _ _ _ t14 w => X t14 w) k0 R (g 2) (g 4) (g 12) (g 13) t w) h (fun X g1 w1 ha hL => ?_)
 rw [<- fF 2 ha, <- fF 4 ha, <- fF 12 ha, <- fF 13 ha] at hL
 exact (QJ _ g1 w1 (fun _ _ _ _ t14 w => X t14 w) k0 R (fun _ _ h => h) h0 hr hL)
def Ao (kn : K2) (R : K1) (t2 bF t12 t13 t14 : aJ3) (w : aJ2) : Prop :=
 Ay kn R t2 bF t12 t13 t14 w
def Am (kn : K5) (gK t2 bF : aJ3) (w : aJ2) : Prop :=
 aC pg (jM .len #[24] 3 [gK]) w fun t13 w =>
 kn t2 bF gK t13 (.int .i64 0) w
theorem QG (kn : K5) (hn : N5 Q kn 2 4 12 13 14) (h : Am kn (g 0) (g 2) (g 4) w) : bH pg fC (aD 1 (aD 1 (aB 2 eN))) Q g w :=
 dS (kr := no) (l := []) h hn eP trivial
def As (kn : K2) (R : K1) (gK t2 bF : aJ3) (w : aJ2) : Prop :=
 Am (fun t2 bF t12 t13 t14 w => Ao kn R t2 bF t12 t13 t14 w) gK t2 bF w
def Av (R : K1) (gK t2 bF : aJ3) (w : aJ2) : Prop :=
 As (fun t2 bF w => vZ R t2 bF w) R gK t2 bF w
theorem Qn (kn : K2) (R : K1) (hn : N2 Q kn 2 4) (hr : HR jK R Q) (h : As kn R (g 0) (g 2) (g 4) w) : bH pg fC (aD 1 (aB 2 eN)) Q g w :=
 fP 1 (QG _ g w (Ao kn R) (fun g w h => aK (uH 0 (Rq _ g w kn R hn hr h))) h)
def Ak (kn : K3) (gK : aJ3) (w : aJ2) : Prop :=
 aC pg (bS 98) w fun t2 w =>
 aC pg (bS 98) w fun bF w =>
 kn gK t2 bF w
theorem QQ (kn : K3) (hn : N3 Q kn 0 2 4) (h : Ak kn (g 0) w) : bH pg fC (aD 2 eN) Q g w :=
 dS (kr := no) (l := []) h hn eP trivial
def Aq (R : K1) (gK : aJ3) (w : aJ2) : Prop :=
 Ak (fun gK t2 bF w => Av R gK t2 bF w) gK w
theorem P7 (R : K1) (hr : HR jK R Q) (h : Aq R (g 0) w) : bH pg fC eN Q g w :=
 fP 2 (QQ _ g w (Av R) (fun g w h => aK (fP 1 (Qn _ g w (vZ R) R (fun g w h => aK (Sm _ g w R hr h)) hr h))) h)
def RJ (a0 : aJ3) (w : aJ2) (R : K1) : Prop :=
 Aq R a0 w
theorem TB {a0 : aJ3} {w : aJ2} {R : K1} (h : RJ a0 w R) : aR pg xD #[a0] w R := by
 refine rQ (ann := fC) Tryd.f39 eN [a0] jK 45 TrydM.mixed Tryd.func39 ?_
 exact (P7 _ _ _ R (fun _ _ h => h) h)
def eC : FA := ⟨oB, fun i => match Nat.beq i 18 with | true => .split 4 9 (.split 9 10 (.perm [0, 1, 2, 3, 4, 5, 6, 7, 8, 9, 10, 11, 12, 13] [(9, 10), (4, 9)] ([4, 9, 10], [(4, 6), (4, 7), (4, 8)]) [(false, []), (false, []), (false, []), (false, []), (true, []), (false, []), (false, [1]), (false, [2]), (false, [3]), (true, []), (true, []), (false, []), (false, []), (false, [])]) (.perm [0, 1, 2, 3, 4, 5, 6, 7, 8, 10, 9, 11, 12, 13] [(10, 9), (4, 9)] ([4, 9, 10], [(4, 6), (4, 7), (4, 8), (6, 9), (7, 9), (8, 9)]) [(false, []), (false, []), (false, []), (false, []), (true, []), (false, []), (false, [1]), (false, [2]), (false, [3]), (true, [0, 1, 2]), (true, []), (false, []), (false, []), (false, [])])) (.perm [0, 1, 2, 3, 5, 6, 7, 8, 9, 4, 10, 11, 12, 13] [(9, 4)] ([8, 9, 10], [(1, 8), (2, 8), (3, 8)]) [(false, []), (false, []), (false, []), (false, []), (false, []), (false, []), (false, []), (false, []), (true, [4, 5, 6]), (true, []), (true, []), (false, []), (false, []), (false, [])]) | false => match Nat.beq i 22 with | true => .split 4 9 (.split 5 9 (.perm [0, 1, 2, 3, 4, 5, 6, 7, 8, 9, 10, 11] [(5, 9), (4, 9)] ([4, 5, 9, 10], [(1, 4), (2, 4), (7, 9), (8, 9), (8, 10)]) [(false, []), (false, []), (false, []), (false, []), (true, [1, 2]), (true, []), (false, []), (false, []), (false, []), (true, [0, 1]), (true, [1]), (false, [])]) (.perm [0, 1, 2, 3, 4, 9, 5, 6, 7, 8, 10, 11] [(9, 5), (4, 9)] ([4, 5, 6, 10], [(1, 4), (1, 5), (2, 4), (2, 5), (9, 10)]) [(false, []), (false, []), (false, []), (false, []), (true, [1, 2]), (true, [2, 3]), (true, []), (false, []), (false, []), (false, []), (true, [0]), (false, [])])) (.perm [0, 1, 2, 3, 9, 4, 5, 6, 7, 8, 10, 11] [(9, 4)] ([4, 5, 6, 10], [(1, 4), (1, 5), (2, 4), (2, 5), (9, 10)]) [(false, []), (false, []), (false, []), (false, []), (true, [1, 2]), (true, [2, 3]), (true, []), (false, []), (false, []), (false, []), (true, [0]), (false, [])]) | false => .leaf ([], []) []⟩
def iS : List ResultVar := [.cell 4 27, .tmp 5, .tmp 6, .tmp 7]
noncomputable def cP : Code := cU Tryd.f40
def wG (R : K1) (t4 Xv aCn : aJ3) (w : aJ2) : Prop :=
 aC pg (aG .neq 30 (.tmp 107) (.const (.int .i64 0)) aCn (.int .i64 0)) w fun t108 w =>
 eM t108
  (aC pg (bV 27 []) w fun t109 w =>
  aC pg (aJ 27 t4 t109) w fun _u w =>
  kI pg 27 t4 w fun r0 => R (.tuple #[r0, (.int .i64 0), (.slice none 0 0), aCn]) w)
  (aC pg (aH 145 Xv) w fun t112 w =>
  aR pg DS #[t112] w fun t113 w =>
  aC pg (aW t113 0) w fun t114 w =>
  aC pg (aW t113 1) w fun t115 w =>
  aC pg (aG .neq 30 (.tmp 116) (.const (.int .i64 0)) t115 (.int .i64 0)) w fun t117 w =>
  eM t117
   (aC pg (bV 27 []) w fun t118 w =>
   aC pg (aJ 27 t4 t118) w fun _u w =>
   kI pg 27 t4 w fun r0 => R (.tuple #[r0, (.int .i64 0), (.slice none 0 0), t115]) w)
   (aC pg (aH 145 Xv) w fun t121 w =>
   aR pg sC #[t121] w fun t122 w =>
   aC pg (aW t122 0) w fun t123 w =>
   aC pg (aW t122 1) w fun t124 w =>
   aC pg (bS 27) w fun t20 w =>
   aC pg (aJ 27 t20 t123) w fun _u w =>
   aC pg (aH 27 t20) w fun t125 w =>
   aC pg (aJ 27 t4 t125) w fun _u w =>
   kI pg 27 t4 w fun r0 => R (.tuple #[r0, (.int .i64 2), t114, t124]) w))
theorem Wy (R : K1) (hr : HR iS R Q) (h : wG R (g 4) (g 17) (g 18) w) : bH pg eC (aB 1 (aB 1 (aB 1 (aB 1 (aB 5 cP))))) Q g w :=
 dS (kn := no) (l := []) h eP hr trivial
def Hp (kn : K3) (aQ t4 bT aP : aJ3) (w : aJ2) : Prop :=
 Ord (aqK oB 22 (IH 22 cP) 4 9 w)
  (Ord (aqK oB 22 (IH 22 cP) 5 9 w)
   ((dr w) = (dr w) /\
   aC pg (aG .add 3 aM aM aP (.int .i64 1)) (dr w) fun t100 w_ => w_ = (dr w) /\
   aC pg (fH 144 bT none (some t100) none) (dr w) fun t101 w_ => w_ = (dr w) /\
   (dr w) = (dr w) /\
   aR pg sW #[aQ] (dr w) fun t103 TV =>
   (eD pg (fH 144 bT none (some t100) none) t101 TV /\ eD pg (aG .add 3 aM aM aP (.int .i64 1)) t100 TV /\ True) /\
   aR pg Cs #[t101, t103] TV fun t104 KY =>
   KY = KY /\
   aC pg (aW t104 0) KY fun t105 w_ => w_ = KY /\
   aC pg (aW t104 1) KY fun t106 w_ => w_ = KY /\
   aC pg (bS 145) KY fun Xv aDs =>
   (eD pg (aW t104 1) t106 aDs /\ eD pg (aW t104 0) t105 aDs /\ True) /\
   aC pg (aJ 145 Xv t105) aDs fun _u10 DH =>
   (eD pg (aW t104 1) t106 DH /\ True) /\
   DH = DH /\
   kn t4 Xv t106 DH)
   ((dr w) = (dr w) /\
   aC pg (aG .add 3 aM aM aP (.int .i64 1)) (dr w) fun t100 w_ => w_ = (dr w) /\
   aC pg (fH 144 bT none (some t100) none) (dr w) fun t101 w_ => w_ = (dr w) /\
   (dr w) = (dr w) /\
   aR pg sW #[aQ] (dr w) fun t103 TV =>
   (eD pg (fH 144 bT none (some t100) none) t101 TV /\ eD pg (aG .add 3 aM aM aP (.int .i64 1)) t100 TV /\ True) /\
   aC pg (bS 145) TV fun Xv KY =>
   (eD pg (fH 144 bT none (some t100) none) t101 KY /\ eD pg (aG .add 3 aM aM aP (.int .i64 1)) t100 KY /\ True) /\
   aR pg Cs #[t101, t103] KY fun t104 Kt =>
   Kt = Kt /\
   aC pg (aW t104 0) Kt fun t105 w_ => w_ = Kt /\
   aC pg (aW t104 1) Kt fun t106 w_ => w_ = Kt /\
   aC pg (aJ 145 Xv t105) Kt fun _u10 DH =>
   (eD pg (aW t104 1) t106 DH /\ True) /\
   DH = DH /\
   kn t4 Xv t106 DH))
  ((dr w) = (dr w) /\
  aC pg (aG .add 3 aM aM aP (.int .i64 1)) (dr w) fun t100 w_ => w_ = (dr w) /\
  aC pg (fH 144 bT none (some t100) none) (dr w) fun t101 w_ => w_ = (dr w) /\
  (dr w) = (dr w) /\
  aC pg (bS 145) (dr w) fun Xv TV =>
  (eD pg (fH 144 bT none (some t100) none) t101 TV /\ eD pg (aG .add 3 aM aM aP (.int .i64 1)) t100 TV /\ True) /\
  aR pg sW #[aQ] TV fun t103 KY =>
  (eD pg (fH 144 bT none (some t100) none) t101 KY /\ eD pg (aG .add 3 aM aM aP (.int .i64 1)) t100 KY /\ True) /\
  aR pg Cs #[t101, t103] KY fun t104 Kt =>
  Kt = Kt /\
  aC pg (aW t104 0) Kt fun t105 w_ => w_ = Kt /\
  aC pg (aW t104 1) Kt fun t106 w_ => w_ = Kt /\
  aC pg (aJ 145 Xv t105) Kt fun _u10 DH =>
  (eD pg (aW t104 1) t106 DH /\ True) /\
  DH = DH /\
  kn t4 Xv t106 DH)
theorem WU (kn : K3) (hn : N3 Q kn 4 17 18) (h : Hp kn (g 0) (g 4) (g 9) (g 11) w) : bH pg eC (aD 1 (aB 1 (aB 1 (aB 1 (aB 5 cP))))) Q g w :=
 dS (kr := no) (l := []) h hn eP trivial
def wA (R : K1) (aQ t4 bT aP : aJ3) (w : aJ2) : Prop :=
 Hp (fun t4 Xv aCn w => wG R t4 Xv aCn w) aQ t4 bT aP w
def wD (R : K1) (t4 t5 t6 t7 : aJ3) (w : aJ2) : Prop :=
 kI pg 27 t4 w fun r0 => R (.tuple #[r0, t5, t6, t7]) w
theorem Xy (R : K1) (hr : HR iS R Q) (h : wD R (g 4) (g 5) (g 6) (g 7) w) : bH pg eC (aB 1 (cT (aB 1 (bI (aD 1 (aB 1 (aB 1 (aB 5 cP)))))))) Q g w :=
 dS (kn := no) (l := []) h eP hr trivial
def HQ (kn : K4) (qH t4 : aJ3) (w : aJ2) : Prop :=
 Ord (aqK oB 18 (IH 18 cP) 4 9 w)
  (Ord (aqK oB 18 (IH 18 cP) 9 10 w)
   ((dr w) = (dr w) /\
   aC pg (bA 77 qH (.int .i64 0)) (dr w) fun t71 w_ => w_ = (dr w) /\
   aC pg (aH 3 t71) (dr w) fun t72 w_ => w_ = (dr w) /\
   aC pg (fL 3 5 t72) (dr w) fun t73 w_ => w_ = (dr w) /\
   aR pg Fo #[t73] (dr w) fun t74 DD =>
   DD = DD /\
   aC pg (bA 77 qH (.int .i64 0)) DD fun t76 w_ => w_ = DD /\
   (eD pg (bA 77 qH (.int .i64 0)) t76 (dr w) /\ True) /\
   aC pg (aH 3 t76) DD fun t77 w_ => w_ = DD /\
   (eD pg (aH 3 t76) t77 (dr w) /\ True) /\
   aC pg (fL 3 5 t77) DD fun t78 w_ => w_ = DD /\
   (eD pg (fL 3 5 t77) t78 (dr w) /\ True) /\
   aC pg (bX 22 1 [(0, t78)]) DD fun t79 aiO =>
   aC pg (aJ 27 t4 t74) aiO fun _u10 rC =>
   rC = rC /\
   rC = rC /\
   rC = rC /\
   kn t4 (.int .i64 1) t79 (.int .i64 0) rC)
   ((dr w) = (dr w) /\
   aC pg (bA 77 qH (.int .i64 0)) (dr w) fun t71 w_ => w_ = (dr w) /\
   aC pg (aH 3 t71) (dr w) fun t72 w_ => w_ = (dr w) /\
   aC pg (fL 3 5 t72) (dr w) fun t73 w_ => w_ = (dr w) /\
   aR pg Fo #[t73] (dr w) fun t74 DD =>
   DD = DD /\
   aC pg (bA 77 qH (.int .i64 0)) DD fun t76 w_ => w_ = DD /\
   (eD pg (bA 77 qH (.int .i64 0)) t76 (dr w) /\ True) /\
   aC pg (aH 3 t76) DD fun t77 w_ => w_ = DD /\
   (eD pg (aH 3 t76) t77 (dr w) /\ True) /\
   aC pg (fL 3 5 t77) DD fun t78 w_ => w_ = DD /\
   (eD pg (fL 3 5 t77) t78 (dr w) /\ True) /\
   aC pg (aJ 27 t4 t74) DD fun _u9 aiO =>
   (eD pg (fL 3 5 t77) t78 aiO /\ eD pg (aH 3 t76) t77 aiO /\ eD pg (bA 77 qH (.int .i64 0)) t76 aiO /\ True) /\
   aC pg (bX 22 1 [(0, t78)]) aiO fun t79 rC =>
   rC = rC /\
   rC = rC /\
   rC = rC /\
   kn t4 (.int .i64 1) t79 (.int .i64 0) rC))
  ((dr w) = (dr w) /\
  aC pg (bA 77 qH (.int .i64 0)) (dr w) fun t71 w_ => w_ = (dr w) /\
  aC pg (aH 3 t71) (dr w) fun t72 w_ => w_ = (dr w) /\
  aC pg (fL 3 5 t72) (dr w) fun t73 w_ => w_ = (dr w) /\
  (dr w) = (dr w) /\
  aC pg (bA 77 qH (.int .i64 0)) (dr w) fun t76 w_ => w_ = (dr w) /\
  aC pg (aH 3 t76) (dr w) fun t77 w_ => w_ = (dr w) /\
  aC pg (fL 3 5 t77) (dr w) fun t78 w_ => w_ = (dr w) /\
  aC pg (bX 22 1 [(0, t78)]) (dr w) fun t79 aA3 =>
  (eD pg (fL 3 5 t72) t73 aA3 /\ eD pg (aH 3 t71) t72 aA3 /\ eD pg (bA 77 qH (.int .i64 0)) t71 aA3 /\ True) /\
  aR pg Fo #[t73] aA3 fun t74 aiO =>
  aC pg (aJ 27 t4 t74) aiO fun _u10 rC =>
  rC = rC /\
  rC = rC /\
  rC = rC /\
  kn t4 (.int .i64 1) t79 (.int .i64 0) rC)
theorem Xj (kn : K4) (hn : N4 Q kn 4 5 6 7) (h : HQ kn (g 1) (g 4) w) : bH pg eC (aD 1 (cT (aB 1 (bI (aD 1 (aB 1 (aB 1 (aB 5 cP)))))))) Q g w :=
 dS (kr := no) (l := []) h hn eP trivial
def Il (R : K1) (qH t4 : aJ3) (w : aJ2) : Prop :=
 HQ (fun t4 t5 t6 t7 w => wD R t4 t5 t6 t7 w) qH t4 w
def HY (kn : K4) (R : K1) (aQ qH t4 bT aP Kh : aJ3) (w : aJ2) : Prop :=
 aC pg (jM .len #[77] 3 [qH]) w fun t82 w =>
 aC pg (aG .lss 3 aM aM t82 (.int .i64 64)) w fun t83 w =>
 Gd (eX t83 true) (fun K => K aP w) w fun t85 w =>
 Gd (eX t83 true) (fun K => aC pg (aL 145 Kh 1) w K) w fun t86 w =>
 Gd (eX t83 true) (fun K => aC pg (aH 77 t86) w K) w fun t87 w =>
 Gd (eX t83 true) (fun K => aC pg (jM .len #[77] 3 [t87]) w K) w fun t88 w =>
 Gd (eX t83 true) (fun K => aC pg (aG .lss 3 aM aM t85 t88) w K) w fun t89 w =>
 aC pg (fI t83 t89 (.bool false)) w fun t90 w =>
 eM t90
  (aC pg (aH 145 Kh) w fun t92 w =>
  aR pg sC #[t92] w fun t93 w =>
  aC pg (aW t93 0) w fun t94 w =>
  aC pg (aW t93 1) w fun t95 w =>
  aC pg (bS 27) w fun t15 w =>
  aC pg (aJ 27 t15 t94) w fun _u w =>
  aC pg (aH 27 t15) w fun t96 w =>
  aC pg (aJ 27 t4 t96) w fun _u w =>
  kI pg 27 t4 w fun r0 => R (.tuple #[r0, (.int .i64 0), (.slice none 0 0), t95]) w)
  (kn aQ t4 bT aP w)
theorem XV (kn : K4) (R : K1) (hn : N4 Q kn 0 4 9 11) (hr : HR iS R Q) (h : HY kn R (g 0) (g 1) (g 4) (g 9) (g 11) (g 14) w) : bH pg eC (cE (aB 1 (bI (aD 1 (aB 1 (aB 1 (aB 5 cP))))))) Q g w :=
 dS (l := []) h hn hr trivial
def GM (kn : K4) (R : K1) (aQ qH t4 bT aP Kh t67 : aJ3) (w : aJ2) : Prop :=
 eM t67 (Il R qH t4 w) (HY kn R aQ qH t4 bT aP Kh w)
def GV (kn : K7) (aQ qH t4 bT t10 aP Kh : aJ3) (w : aJ2) : Prop :=
 aC pg (aG .eql 3 (.tmp 68) (.const (.int .i64 1)) t10 (.int .i64 1)) w fun t69 w =>
 kn aQ qH t4 bT aP Kh t69 w
theorem Wn (kn : K7) (hn : N7 Q kn 0 1 4 9 11 14 67) (h : GV kn (g 0) (g 1) (g 4) (g 9) (g 10) (g 11) (g 14) w) : bH pg eC (aD 1 (bI (aD 1 (aB 1 (aB 1 (aB 5 cP)))))) Q g w :=
 dS (kr := no) (l := []) h hn eP trivial
def PU (kn : K4) (R : K1) (aQ qH t4 bT t10 aP Kh : aJ3) (w : aJ2) : Prop :=
 GV (fun aQ qH t4 bT aP Kh t67 w => GM kn R aQ qH t4 bT aP Kh t67 w) aQ qH t4 bT t10 aP Kh w
def EU (kn : K4) (R : K1) (aQ qH t4 bT t10 aP Kh : aJ3) (w : aJ2) : Prop :=
 PU kn R aQ qH t4 bT t10 aP Kh w
def Eu (R : K1) (aQ qH t4 bT t10 aP Kh : aJ3) (w : aJ2) : Prop :=
 EU (fun aQ t4 bT aP w => wA R aQ t4 bT aP w) R aQ qH t4 bT t10 aP Kh w
theorem Ve (kn : K4) (R : K1) (hn : N4 Q kn 0 4 9 11) (hr : HR iS R Q) (h : EU kn R (g 0) (g 1) (g 4) (g 9) (g 10) (g 11) (g 14) w) : bH pg eC (aD 1 (aB 1 (aB 1 (aB 5 cP)))) Q g w :=
 uH 2 (fP 1 (Wn _ g w (GM kn R) (fun g w h => aK (cdD (.tmp 67) (fun h => (fP 1 (Xj _ g w (wD R) (fun g w h => aK (Xy _ g w R hr h)) h))) (fun h => (XV _ g w kn R hn hr h)) h)) h))
def Ep (kn : K7) (aQ qH t4 bT t10 aP : aJ3) (w : aJ2) : Prop :=
 aR pg yN #[aQ] w fun t66 w =>
 aC pg (bS 145) w fun Kh w =>
 aC pg (aJ 145 Kh t66) w fun _u w =>
 kn aQ qH t4 bT t10 aP Kh w
theorem Vm (kn : K7) (hn : N7 Q kn 0 1 4 9 10 11 14) (h : Ep kn (g 0) (g 1) (g 4) (g 9) (g 10) (g 11) w) : bH pg eC (aD 1 (aB 1 (aB 5 cP))) Q g w :=
 dS (kr := no) (l := []) h hn eP trivial
def Ew (R : K1) (aQ qH t4 bT t10 aP : aJ3) (w : aJ2) : Prop :=
 Ep (fun aQ qH t4 bT t10 aP Kh w => Eu R aQ qH t4 bT t10 aP Kh w) aQ qH t4 bT t10 aP w
def zP (kn : AL) (aQ qH t4 cD bT t10 aP t36 t37 t38 : aJ3) (w : aJ2) : Prop :=
 aC pg (aG .add 3 aM aM t38 (.int .i64 1)) w fun t64 w =>
 kn aQ qH t4 cD bT t10 aP t36 t37 t64 w
theorem VI (kn : AL) (hn : N10 Q kn 0 1 4 8 9 10 11 36 37 38) (h : zP kn (g 0) (g 1) (g 4) (g 8) (g 9) (g 10) (g 11) (g 36) (g 37) (g 38) w) : bH pg eC (aB 1 (aB 2 (bI (bI (aB 1 (aD 1 (aB 5 cP))))))) Q g w :=
 dS (kr := no) (l := []) h hn eP trivial
def zW (kn : AL) (aQ qH t4 cD bT t10 aP aD8 t36 t37 t38 : aJ3) (w : aJ2) : Prop :=
 aC pg (jM .max #[3, 3] 3 [aP, aD8]) w fun t63 w =>
 kn aQ qH t4 cD bT t10 t63 t36 t37 t38 w
theorem VG (kn : AL) (hn : N10 Q kn 0 1 4 8 9 10 11 36 37 38) (h : zW kn (g 0) (g 1) (g 4) (g 8) (g 9) (g 10) (g 11) (g 13) (g 36) (g 37) (g 38) w) : bH pg eC (aB 3 (bI (aD 1 (aB 2 (bI (bI (aB 1 (aD 1 (aB 5 cP))))))))) Q g w :=
 dS (kr := no) (l := []) h hn eP trivial
def Fl (kn : K11) (R : K1) (aQ qH t4 cD bT t10 aP t36 t37 t38 : aJ3) (w : aJ2) : Prop :=
 aC pg (bA 77 t36 t38) w fun t40 w =>
 aC pg (aH 3 t40) w fun t41 w =>
 aC pg (aG .lss 3 aM aM t41 (.int .i64 0)) w fun t43 w =>
 Gd (eX t43 false) (fun K => K t41 w) w fun t45 w =>
 Gd (eX t43 false) (fun K => K cD w) w fun t46 w =>
 Gd (eX t43 false) (fun K => aC pg (aG .gtr 3 aM aM t45 t46) w K) w fun t47 w =>
 aC pg (fI t43 (.bool true) t47) w fun t48 w =>
 eM t48
  (aC pg (bV 27 []) w fun t49 w =>
  aC pg (aJ 27 t4 t49) w fun _u w =>
  kI pg 27 t4 w fun r0 => R (.tuple #[r0, (.int .i64 0), (.slice none 0 0), (.int .i64 1)]) w)
  (aC pg (bA 144 bT t41) w fun t51 w =>
  aC pg (aH 43 t51) w fun t52 w =>
  aC pg (aG .add 43 aM aM t52 (.int .u32 1)) w fun t53 w =>
  aC pg (bA 144 bT t41) w fun t54 w =>
  aC pg (aJ 43 t54 t53) w fun _u w =>
  aC pg (bA 144 bT t41) w fun t56 w =>
  aC pg (aH 43 t56) w fun t57 w =>
  aC pg (aG .eql 43 (.tmp 57) (.const (.int .u32 1)) t57 (.int .u32 1)) w fun t58 w =>
  eM t58
   (aC pg (aG .add 3 aM aM t10 (.int .i64 1)) w fun t60 w =>
   kn aQ qH t4 cD bT t60 aP t41 t36 t37 t38 w)
   (kn aQ qH t4 cD bT t10 aP t41 t36 t37 t38 w))
theorem Vv (kn : K11) (R : K1) (hn : N11 Q kn 0 1 4 8 9 10 11 13 36 37 38) (hr : HR iS R Q) (h : Fl kn R (g 0) (g 1) (g 4) (g 8) (g 9) (g 10) (g 11) (g 36) (g 37) (g 38) w) : bH pg eC (aD 3 (bI (aD 1 (aB 2 (bI (bI (aB 1 (aD 1 (aB 5 cP))))))))) Q g w :=
 dS (l := []) h hn hr trivial
def Pr (kn : AL) (R : K1) (aQ qH t4 cD bT t10 aP t36 t37 t38 : aJ3) (w : aJ2) : Prop :=
 Fl (fun aQ qH t4 cD bT t10 aP aD8 t36 t37 t38 w => zW kn aQ qH t4 cD bT t10 aP aD8 t36 t37 t38 w) R aQ qH t4 cD bT t10 aP t36 t37 t38 w
def Ez (kn : AL) (R : K1) (aQ qH t4 cD bT t10 aP t36 t37 t38 : aJ3) (w : aJ2) : Prop :=
 Pr kn R aQ qH t4 cD bT t10 aP t36 t37 t38 w
def EF (kn : AL) (R : K1) (aQ qH t4 cD bT t10 aP t36 t37 t38 : aJ3) (w : aJ2) : Prop :=
 Ez (fun aQ qH t4 cD bT t10 aP t36 t37 t38 w => zP kn aQ qH t4 cD bT t10 aP t36 t37 t38 w) R aQ qH t4 cD bT t10 aP t36 t37 t38 w
theorem Vf (kn : AL) (R : K1) (hn : N10 Q kn 0 1 4 8 9 10 11 36 37 38) (hr : HR iS R Q) (h : Ez kn R (g 0) (g 1) (g 4) (g 8) (g 9) (g 10) (g 11) (g 36) (g 37) (g 38) w) : bH pg eC (aD 1 (aB 2 (bI (bI (aB 1 (aD 1 (aB 5 cP))))))) Q g w :=
 uH 1 (fP 3 (Vv _ g w (zW kn) R (fun g w h => aK (VG _ g w kn hn h)) hr h))
def Er (kn : AL) (k0 : K6) (aQ qH t4 cD bT t10 aP t36 t37 t38 : aJ3) (w : aJ2) : Prop :=
 aC pg (aG .lss 3 aM aM t38 t37) w fun t39 w =>
 eM t39
  (kn aQ qH t4 cD bT t10 aP t36 t37 t38 w)
  (k0 aQ qH t4 bT t10 aP w)
theorem Vd (kn : AL) (k0 : K6) (hn : N10 Q kn 0 1 4 8 9 10 11 36 37 38) (h0 : E6 Q k0 0 0 1 4 9 10 11) (h : Er kn k0 (g 0) (g 1) (g 4) (g 8) (g 9) (g 10) (g 11) (g 36) (g 37) (g 38) w) : bH pg eC (aD 2 (bI (bI (aB 1 (aD 1 (aB 5 cP)))))) Q g w :=
 dS (kr := no) (l := [(0, fun g w => k0 (g 0) (g 1) (g 4) (g 9) (g 10) (g 11) w)]) h hn eP ⟨h0, trivial⟩
def Ae (kn : AL) (k0 : K6) (R : K1) (aQ qH t4 cD bT t10 aP t36 t37 t38 : aJ3) (w : aJ2) : Prop :=
 Er (fun aQ qH t4 cD bT t10 aP t36 t37 t38 w => EF kn R aQ qH t4 cD bT t10 aP t36 t37 t38 w) k0 aQ qH t4 cD bT t10 aP t36 t37 t38 w
def Fh (k0 : K6) (R : K1) (aQ qH t4 cD bT t10 aP t36 t37 t38 : aJ3) (w : aJ2) : Prop :=
 cG (fun (X : (aJ3 × aJ3 × aJ3) -> K0) (t : aJ3 × aJ3 × aJ3) (w : aJ2) => Ae (fun _ _ _ _ _ t10 aP _ _ t38 w => X (t10, aP, t38) w) k0 R aQ qH t4 cD bT t.1 t.2.1 t36 t37 t.2.2 w) (t10, aP, t38) w
theorem Vc (kn : AL) (k0 : K6) (R : K1) (hn : N10 Q kn 0 1 4 8 9 10 11 36 37 38) (h0 : E6 Q k0 0 0 1 4 9 10 11) (hr : HR iS R Q) (h : Ae kn k0 R (g 0) (g 1) (g 4) (g 8) (g 9) (g 10) (g 11) (g 36) (g 37) (g 38) w) : bH pg eC (bI (bI (aB 1 (aD 1 (aB 5 cP))))) Q g w :=
 fP 2 (Vd _ g w (EF kn R) k0 (fun g w h => aK (fP 1 (Vf _ g w (zP kn) R (fun g w h => aK (VI _ g w kn hn h)) hr h))) h0 h)
theorem VP (k0 : K6) (R : K1) (h0 : E6 Q k0 0 0 1 4 9 10 11) (hr : HR iS R Q) (h : Fh k0 R (g 0) (g 1) (g 4) (g 8) (g 9) (g 10) (g 11) (g 36) (g 37) (g 38) w) : bH pg eC (bI (aB 1 (aD 1 (aB 5 cP)))) Q g w := by
 refine Db (fun g : Env => (g 10, g 11, g 38)) (fun X t w => Ae (fun _ _ _ _ _ t10 aP _ _ t38 w => X (t10, aP, t38) w) k0 R (g 0) (g 1) (g 4) (g 8) (g 9) t.1 t.2.1 (g 36) (g 37) t.2.2 w) h (fun X g1 w1 ha hL => ?_)
 rw [<- fF 0 ha, <- fF 1 ha, <- fF 4 ha, <- fF 8 ha, <- fF 9 ha, <- fF 36 ha, <- fF 37 ha] at hL
 exact (Vc _ g1 w1 (fun _ _ _ _ _ t10 aP _ _ t38 w => X (t10, aP, t38) w) k0 R (fun _ _ h => h) h0 hr hL)
def Fa (kn : K6) (R : K1) (aQ qH t4 cD bT t10 aP t36 t37 t38 : aJ3) (w : aJ2) : Prop :=
 Fh kn R aQ qH t4 cD bT t10 aP t36 t37 t38 w
def EK (kn : AL) (aQ qH t4 cD bT t10 aP : aJ3) (w : aJ2) : Prop :=
 aC pg (jM .len #[77] 3 [qH]) w fun t37 w =>
 kn aQ qH t4 cD bT t10 aP qH t37 (.int .i64 0) w
theorem VA (kn : AL) (hn : N10 Q kn 0 1 4 8 9 10 11 36 37 38) (h : EK kn (g 0) (g 1) (g 4) (g 8) (g 9) (g 10) (g 11) w) : bH pg eC (aD 1 (aD 1 (aB 5 cP))) Q g w :=
 dS (kr := no) (l := []) h hn eP trivial
def Ac (kn : K6) (R : K1) (aQ qH t4 cD bT t10 aP : aJ3) (w : aJ2) : Prop :=
 EK (fun aQ qH t4 cD bT t10 aP t36 t37 t38 w => Fa kn R aQ qH t4 cD bT t10 aP t36 t37 t38 w) aQ qH t4 cD bT t10 aP w
def Fe (R : K1) (aQ qH t4 cD bT t10 aP : aJ3) (w : aJ2) : Prop :=
 Ac (fun aQ qH t4 bT t10 aP w => Ew R aQ qH t4 bT t10 aP w) R aQ qH t4 cD bT t10 aP w
theorem VE (kn : K6) (R : K1) (hn : N6 Q kn 0 1 4 9 10 11) (hr : HR iS R Q) (h : Ac kn R (g 0) (g 1) (g 4) (g 8) (g 9) (g 10) (g 11) w) : bH pg eC (aD 1 (aB 5 cP)) Q g w :=
 fP 1 (VA _ g w (Fa kn R) (fun g w h => aK (uH 0 (VP _ g w kn R hn hr h))) h)
def Ff (kn : K7) (R : K1) (aQ qH : aJ3) (w : aJ2) : Prop :=
 aC pg (bS 27) w fun t4 w =>
 aR pg vW #[aQ] w fun t22 w =>
 aC pg (aG .lss 3 aM aM t22 (.int .i64 0)) w fun t24 w =>
 Gd (eX t24 false) (fun K => K qH w) w fun t26 w =>
 Gd (eX t24 false) (fun K => aC pg (jM .len #[77] 3 [t26]) w K) w fun t27 w =>
 Gd (eX t24 false) (fun K => aC pg (aG .eql 3 (.tmp 27) (.const (.int .i64 0)) t27 (.int .i64 0)) w K) w fun t28 w =>
 aC pg (fI t24 (.bool true) t28) w fun t29 w =>
 Gd (eX t29 false) (fun K => K qH w) w fun t31 w =>
 Gd (eX t29 false) (fun K => aC pg (jM .len #[77] 3 [t31]) w K) w fun t32 w =>
 Gd (eX t29 false) (fun K => aC pg (aG .gtr 3 aM aM t32 (.int .i64 131072)) w K) w fun t33 w =>
 aC pg (fI t29 (.bool true) t33) w fun t34 w =>
 eM t34
  (aC pg (bV 27 []) w fun t35 w =>
  aC pg (aJ 27 t4 t35) w fun _u w =>
  kI pg 27 t4 w fun r0 => R (.tuple #[r0, (.int .i64 0), (.slice none 0 0), (.int .i64 1)]) w)
  (aC pg (bS 144) w fun bT w =>
  kn aQ qH t4 t22 bT (.int .i64 0) (.int .i64 0) w)
theorem Vj (kn : K7) (R : K1) (hn : N7 Q kn 0 1 4 8 9 10 11) (hr : HR iS R Q) (h : Ff kn R (g 0) (g 1) w) : bH pg eC (aD 5 cP) Q g w :=
 dS (l := []) h hn hr trivial
def EX (R : K1) (aQ qH : aJ3) (w : aJ2) : Prop :=
 Ff (fun aQ qH t4 cD bT t10 aP w => Fe R aQ qH t4 cD bT t10 aP w) R aQ qH w
theorem Vi (R : K1) (hr : HR iS R Q) (h : EX R (g 0) (g 1) w) : bH pg eC cP Q g w :=
 fP 5 (Vj _ g w (Fe R) R (fun g w h => aK (fP 1 (VE _ g w (Ew R) R (fun g w h => aK (fP 1 (Vm _ g w (Eu R) (fun g w h => aK (fP 1 (Ve _ g w (wA R) R (fun g w h => aK (fP 1 (WU _ g w (wG R) (fun g w h => aK (Wy _ g w R hr h)) h))) hr h))) h))) hr h))) hr h)
def Zp (a0 a1 : aJ3) (w : aJ2) (R : K1) : Prop :=
 EX R a0 a1 w
theorem YE {a0 a1 : aJ3} {w : aJ2} {R : K1} (h : Zp a0 a1 w R) : aR pg oB #[a0, a1] w R := by
 refine rQ (ann := eC) Tryd.f40 cP [a0, a1] iS 128 TrydM.mixed Tryd.func40 ?_
 exact (Vi _ _ _ R (fun _ _ h => h) h)
def bY : FA := ⟨vJ, fun i => match Nat.beq i 15 with | true => .leaf ([7], []) [(false, []), (false, []), (false, []), (false, []), (false, []), (false, []), (false, []), (true, []), (false, []), (false, []), (false, []), (false, []), (false, []), (false, []), (false, []), (false, []), (false, [])] | false => match Nat.beq i 31 with | true => .leaf ([9], []) [(false, []), (false, []), (false, []), (false, []), (false, []), (false, []), (false, []), (false, []), (false, []), (true, [])] | false => .leaf ([], []) []⟩
def gO : List ResultVar := [.tmp 6, .tmp 7]
noncomputable def bU : Code := cU Tryd.f41
def tJ (R : K1) (nT : aJ3) (w : aJ2) : Prop :=
 aR pg sE #[nT] w fun t137 w =>
 R (.tuple #[t137, (.int .i64 0)]) w
theorem Q4 (R : K1) (hr : HR gO R Q) (h : tJ R (g 8) w) : bH pg bY (aB 1 (aB 1 (aB 3 bU))) Q g w :=
 dS (kn := no) (l := []) h eP hr trivial
def tF (kn : K5) (k6 : K1) (t5 nT bB t121 t122 : aJ3) (w : aJ2) : Prop :=
 aC pg (aG .lss 3 aM aM t122 (.int .i64 3)) w fun t123 w =>
 eM t123
  (aC pg (HM 67 t121 t122) w fun t124 w =>
  (dr w) = (dr w) /\
  (dr w) = (dr w) /\
  aC pg (bA 67 bB t124) (dr w) fun t127 w_ => w_ = (dr w) /\
  aC pg (aH 3 t127) (dr w) fun t128 w_ => w_ = (dr w) /\
  aC pg (fL 3 73 t128) (dr w) fun t129 w_ => w_ = (dr w) /\
  (dr w) = (dr w) /\
  aC pg (bA 29 t5 t124) (dr w) fun t131 w_ => w_ = (dr w) /\
  aC pg (aL 27 t131 0) (dr w) fun t132 w_ => w_ = (dr w) /\
  aC pg (aH 3 t132) (dr w) fun t133 w_ => w_ = (dr w) /\
  aR pg eZ #[nT, t129, t133] (dr w) fun t134 aGI =>
  aC pg (aG .add 3 aM aM t122 (.int .i64 1)) aGI fun t135 w =>
  kn t5 nT bB t121 t135 w)
  (k6 nT w)
theorem Qb (kn : K5) (k6 : K1) (hn : N5 Q kn 5 8 9 121 122) (h6 : E1 Q k6 6 8) (h : tF kn k6 (g 5) (g 8) (g 9) (g 121) (g 122) w) : bH pg bY (bI (bI (aB 1 (aD 1 (aB 1 (aB 3 bU)))))) Q g w :=
 dS (kr := no) (l := [(6, fun g w => k6 (g 8) w)]) h hn eP ⟨h6, trivial⟩
def tN (k6 : K1) (t5 nT bB t121 t122 : aJ3) (w : aJ2) : Prop :=
 cG (fun (X : aJ3 -> K0) (t : aJ3) (w : aJ2) => tF (fun _ _ _ _ t122 w => X t122 w) k6 t5 nT bB t121 t w) t122 w
theorem Qc (k6 : K1) (h6 : E1 Q k6 6 8) (h : tN k6 (g 5) (g 8) (g 9) (g 121) (g 122) w) : bH pg bY (bI (aB 1 (aD 1 (aB 1 (aB 3 bU))))) Q g w := by
 refine Db (fun g : Env => g 122) (fun X t w => tF (fun _ _ _ _ t122 w => X t122 w) k6 (g 5) (g 8) (g 9) (g 121) t w) h (fun X g1 w1 ha hL => ?_)
 rw [<- fF 5 ha, <- fF 8 ha, <- fF 9 ha, <- fF 121 ha] at hL
 exact (Qb _ g1 w1 (fun _ _ _ _ t122 w => X t122 w) k6 (fun _ _ h => h) h6 hL)
def Aj (kn : K1) (t5 nT bB t121 t122 : aJ3) (w : aJ2) : Prop :=
 tN kn t5 nT bB t121 t122 w
def AA (kn : K5) (t5 nT bB : aJ3) (w : aJ2) : Prop :=
 aC pg (bV 67 [(0, (.int .i64 2)), (1, (.int .i64 1)), (2, (.int .i64 0))]) w fun t121 w =>
 kn t5 nT bB t121 (.int .i64 0) w
theorem QF (kn : K5) (hn : N5 Q kn 5 8 9 121 122) (h : AA kn (g 5) (g 8) (g 9) w) : bH pg bY (aD 1 (aD 1 (aB 1 (aB 3 bU)))) Q g w :=
 dS (kr := no) (l := []) h hn eP trivial
def AD (kn : K1) (t5 nT bB : aJ3) (w : aJ2) : Prop :=
 AA (fun t5 nT bB t121 t122 w => Aj kn t5 nT bB t121 t122 w) t5 nT bB w
def Ar (R : K1) (t5 nT bB : aJ3) (w : aJ2) : Prop :=
 AD (fun nT w => tJ R nT w) t5 nT bB w
theorem Rl (kn : K1) (hn : N1 Q kn 8) (h : AD kn (g 5) (g 8) (g 9) w) : bH pg bY (aD 1 (aB 1 (aB 3 bU))) Q g w :=
 fP 1 (QF _ g w (Aj kn) (fun g w h => aK (uH 6 (Qc _ g w kn hn h))) h)
def tL (kn : K6) (gK dG t5 nT bB jD : aJ3) (w : aJ2) : Prop :=
 aC pg (aG .sub 3 aM aM jD (.int .i64 1)) w fun t35 w =>
 kn gK dG t5 nT bB t35 w
theorem QU (kn : K6) (hn : N6 Q kn 0 4 5 8 9 10) (h : tL kn (g 0) (g 4) (g 5) (g 8) (g 9) (g 10) w) : bH pg bY (aB 1 (aB 1 (bI (bI (aB 1 (aD 1 (aB 3 bU))))))) Q g w :=
 dS (kr := no) (l := []) h hn eP trivial
def tK (kn : K9) (k4 : K6) (gK dG t5 nT bB jD agV t95 t96 : aJ3) (w : aJ2) : Prop :=
 aC pg (aG .lss 3 aM aM t96 (.int .i64 3)) w fun t97 w =>
 eM t97
  (aC pg (HM 67 t95 t96) w fun t98 w =>
  aC pg (bA 98 dG t98) w fun t102 w =>
  aC pg (aH 77 t102) w fun t103 w =>
  aC pg (bA 77 t103 jD) w fun t105 w =>
  aC pg (aH 3 t105) w fun t106 w =>
  aR pg Di #[t98, t106] w fun t107 w =>
  aC pg (aW t107 0) w fun t108 w =>
  aC pg (aW t107 1) w fun t109 w =>
  aC pg (aW t107 2) w fun t110 w =>
  aC pg (bA 142 agV t98) w fun t113 w =>
  aC pg (aH 43 t113) w fun t114 w =>
  aC pg (aG .sub 43 aM aM t114 t108) w fun t116 w =>
  aC pg (fL 43 73 t116) w fun t117 w =>
  aR pg eZ #[nT, t117, t109] w fun t119 w =>
  aC pg (aG .add 3 aM aM t96 (.int .i64 1)) w fun t120 w =>
  kn gK dG t5 nT bB jD agV t95 t120 w)
  (k4 gK dG t5 nT bB jD w)
theorem Qk (kn : K9) (k4 : K6) (hn : N9 Q kn 0 4 5 8 9 10 20 95 96) (h4 : E6 Q k4 4 0 4 5 8 9 10) (h : tK kn k4 (g 0) (g 4) (g 5) (g 8) (g 9) (g 10) (g 20) (g 95) (g 96) w) : bH pg bY (bI (bI (aB 2 (aB 1 (bI (aD 1 (aB 1 (bI (bI (aB 1 (aD 1 (aB 3 bU)))))))))))) Q g w :=
 dS (kr := no) (l := [(4, fun g w => k4 (g 0) (g 4) (g 5) (g 8) (g 9) (g 10) w)]) h hn eP ⟨h4, trivial⟩
def sM (k4 : K6) (gK dG t5 nT bB jD agV t95 t96 : aJ3) (w : aJ2) : Prop :=
 cG (fun (X : aJ3 -> K0) (t : aJ3) (w : aJ2) => tK (fun _ _ _ _ _ _ _ _ t96 w => X t96 w) k4 gK dG t5 nT bB jD agV t95 t w) t96 w
theorem OT (k4 : K6) (h4 : E6 Q k4 4 0 4 5 8 9 10) (h : sM k4 (g 0) (g 4) (g 5) (g 8) (g 9) (g 10) (g 20) (g 95) (g 96) w) : bH pg bY (bI (aB 2 (aB 1 (bI (aD 1 (aB 1 (bI (bI (aB 1 (aD 1 (aB 3 bU))))))))))) Q g w := by
 refine Db (fun g : Env => g 96) (fun X t w => tK (fun _ _ _ _ _ _ _ _ t96 w => X t96 w) k4 (g 0) (g 4) (g 5) (g 8) (g 9) (g 10) (g 20) (g 95) t w) h (fun X g1 w1 ha hL => ?_)
 rw [<- fF 0 ha, <- fF 4 ha, <- fF 5 ha, <- fF 8 ha, <- fF 9 ha, <- fF 10 ha, <- fF 20 ha, <- fF 95 ha] at hL
 exact (Qk _ g1 w1 (fun _ _ _ _ _ _ _ _ t96 w => X t96 w) k4 (fun _ _ h => h) h4 hL)
def zJ (kn : K6) (gK dG t5 nT bB jD agV t95 t96 : aJ3) (w : aJ2) : Prop :=
 sM kn gK dG t5 nT bB jD agV t95 t96 w
def yB (kn : K9) (gK dG t5 nT bB jD : aJ3) (w : aJ2) : Prop :=
 aC pg (bA 24 gK jD) w fun t92 w =>
 aC pg (aH 47 t92) w fun t93 w =>
 aR pg qV #[t93] w fun t94 w =>
 aC pg (bS 142) w fun agV w =>
 aC pg (aJ 142 agV t94) w fun _u w =>
 aC pg (bV 67 [(0, (.int .i64 0)), (1, (.int .i64 2)), (2, (.int .i64 1))]) w fun t95 w =>
 kn gK dG t5 nT bB jD agV t95 (.int .i64 0) w
theorem PQ (kn : K9) (hn : N9 Q kn 0 4 5 8 9 10 20 95 96) (h : yB kn (g 0) (g 4) (g 5) (g 8) (g 9) (g 10) w) : bH pg bY (aD 2 (aB 1 (bI (aD 1 (aB 1 (bI (bI (aB 1 (aD 1 (aB 3 bU)))))))))) Q g w :=
 dS (kr := no) (l := []) h hn eP trivial
def yV (kn : K6) (gK dG t5 nT bB jD : aJ3) (w : aJ2) : Prop :=
 yB (fun gK dG t5 nT bB jD agV t95 t96 w => zJ kn gK dG t5 nT bB jD agV t95 t96 w) gK dG t5 nT bB jD w
def oQ (kn : K8) (gK dG t5 nT bB jD t36 t37 : aJ3) (w : aJ2) : Prop :=
 aC pg (aG .add 3 aM aM t37 (.int .i64 1)) w fun t89 w =>
 kn gK dG t5 nT bB jD t36 t89 w
theorem PR (kn : K8) (hn : N8 Q kn 0 4 5 8 9 10 36 37) (h : oQ kn (g 0) (g 4) (g 5) (g 8) (g 9) (g 10) (g 36) (g 37) w) : bH pg bY (aB 3 (bI (bI (aB 1 (aD 1 (bI (aD 1 (aB 1 (bI (bI (aB 1 (aD 1 (aB 3 bU))))))))))))) Q g w :=
 dS (kr := no) (l := []) h hn eP trivial
def yY (kn : K8) (k2 : K6) (R : K1) (gK dG t5 nT bB jD t36 t37 : aJ3) (w : aJ2) : Prop :=
 aC pg (aG .lss 3 aM aM t37 (.int .i64 3)) w fun t38 w =>
 eM t38
  (aC pg (HM 67 t36 t37) w fun t39 w =>
  aC pg (bA 98 dG t39) w fun t41 w =>
  aC pg (aH 77 t41) w fun t42 w =>
  aC pg (bA 77 t42 jD) w fun t44 w =>
  aC pg (aH 3 t44) w fun t45 w =>
  aC pg (fL 3 5 t45) w fun t46 w =>
  aC pg (jM .len #[24] 3 [gK]) w fun t49 w =>
  aC pg (aG .sub 3 aM aM t49 (.int .i64 1)) w fun t50 w =>
  aC pg (aG .eql 3 (.tmp 47) (.tmp 50) jD t50) w fun t51 w =>
  eM t51
   (aC pg (bA 29 t5 t39) w fun t54 w =>
   aC pg (aH 27 t54) w fun t55 w =>
   aR pg Mr #[t55, t46] w fun t57 w =>
   aC pg (aW t57 0) w fun t58 w =>
   aC pg (aW t57 1) w fun t59 w =>
   aC pg (aG .neq 30 (.tmp 60) (.const (.int .i64 0)) t59 (.int .i64 0)) w fun t61 w =>
   eM t61
    (R (.tuple #[(.slice none 0 0), t59]) w)
    (aC pg (bA 67 bB t39) w fun t65 w =>
    aC pg (aJ 3 t65 t58) w fun _u w =>
    kn gK dG t5 nT bB jD t36 t37 w))
   ((dr w) = (dr w) /\
   aC pg (bA 29 t5 t39) (dr w) fun t68 w_ => w_ = (dr w) /\
   aC pg (aH 27 t68) (dr w) fun t69 w_ => w_ = (dr w) /\
   (dr w) = (dr w) /\
   aC pg (bA 67 bB t39) (dr w) fun t71 w_ => w_ = (dr w) /\
   aC pg (aH 3 t71) (dr w) fun t72 w_ => w_ = (dr w) /\
   (dr w) = (dr w) /\
   aR pg Jh #[t69, t72, t46] (dr w) fun t74 Du =>
   Du = Du /\
   aC pg (aW t74 0) Du fun t75 w_ => w_ = Du /\
   aC pg (aW t74 1) Du fun t76 w_ => w_ = Du /\
   aC pg (aW t74 2) Du fun t77 w_ => w_ = Du /\
   aC pg (aW t74 3) Du fun t78 w_ => w_ = Du /\
   Du = Du /\
   Du = Du /\
   Du = Du /\
   Du = Du /\
   aC pg (aG .neq 30 (.tmp 79) (.const (.int .i64 0)) t78 (.int .i64 0)) Du fun t80 w =>
   eM t80
    (R (.tuple #[(.slice none 0 0), t78]) w)
    (aR pg eZ #[nT, t76, t77] w fun t85 w =>
    aC pg (bA 67 bB t39) w fun t88 w =>
    aC pg (aJ 3 t88 t75) w fun _u w =>
    kn gK dG t5 nT bB jD t36 t37 w)))
  (k2 gK dG t5 nT bB jD w)
theorem Po (kn : K8) (k2 : K6) (R : K1) (hn : N8 Q kn 0 4 5 8 9 10 36 37) (h2 : E6 Q k2 2 0 4 5 8 9 10) (hr : HR gO R Q) (h : yY kn k2 R (g 0) (g 4) (g 5) (g 8) (g 9) (g 10) (g 36) (g 37) w) : bH pg bY (aD 3 (bI (bI (aB 1 (aD 1 (bI (aD 1 (aB 1 (bI (bI (aB 1 (aD 1 (aB 3 bU))))))))))))) Q g w :=
 dS (l := [(2, fun g w => k2 (g 0) (g 4) (g 5) (g 8) (g 9) (g 10) w)]) h hn hr ⟨h2, trivial⟩
def sO (kn : K8) (k2 : K6) (R : K1) (gK dG t5 nT bB jD t36 t37 : aJ3) (w : aJ2) : Prop :=
 yY (fun gK dG t5 nT bB jD t36 t37 w => oQ kn gK dG t5 nT bB jD t36 t37 w) k2 R gK dG t5 nT bB jD t36 t37 w
def rY (k2 : K6) (R : K1) (gK dG t5 nT bB jD t36 t37 : aJ3) (w : aJ2) : Prop :=
 cG (fun (X : aJ3 -> K0) (t : aJ3) (w : aJ2) => sO (fun _ _ _ _ _ _ _ t37 w => X t37 w) k2 R gK dG t5 nT bB jD t36 t w) t37 w
theorem PA (kn : K8) (k2 : K6) (R : K1) (hn : N8 Q kn 0 4 5 8 9 10 36 37) (h2 : E6 Q k2 2 0 4 5 8 9 10) (hr : HR gO R Q) (h : sO kn k2 R (g 0) (g 4) (g 5) (g 8) (g 9) (g 10) (g 36) (g 37) w) : bH pg bY (bI (bI (aB 1 (aD 1 (bI (aD 1 (aB 1 (bI (bI (aB 1 (aD 1 (aB 3 bU)))))))))))) Q g w :=
 fP 3 (Po _ g w (oQ kn) k2 R (fun g w h => aK (PR _ g w kn hn h)) h2 hr h)
theorem PX (k2 : K6) (R : K1) (h2 : E6 Q k2 2 0 4 5 8 9 10) (hr : HR gO R Q) (h : rY k2 R (g 0) (g 4) (g 5) (g 8) (g 9) (g 10) (g 36) (g 37) w) : bH pg bY (bI (aB 1 (aD 1 (bI (aD 1 (aB 1 (bI (bI (aB 1 (aD 1 (aB 3 bU))))))))))) Q g w := by
 refine Db (fun g : Env => g 37) (fun X t w => sO (fun _ _ _ _ _ _ _ t37 w => X t37 w) k2 R (g 0) (g 4) (g 5) (g 8) (g 9) (g 10) (g 36) t w) h (fun X g1 w1 ha hL => ?_)
 rw [<- fF 0 ha, <- fF 4 ha, <- fF 5 ha, <- fF 8 ha, <- fF 9 ha, <- fF 10 ha, <- fF 36 ha] at hL
 exact (PA _ g1 w1 (fun _ _ _ _ _ _ _ t37 w => X t37 w) k2 R (fun _ _ h => h) h2 hr hL)
def yM (kn : K6) (R : K1) (gK dG t5 nT bB jD t36 t37 : aJ3) (w : aJ2) : Prop :=
 rY kn R gK dG t5 nT bB jD t36 t37 w
def yK (kn : K8) (gK dG t5 nT bB jD : aJ3) (w : aJ2) : Prop :=
 aC pg (bV 67 [(0, (.int .i64 1)), (1, (.int .i64 2)), (2, (.int .i64 0))]) w fun t36 w =>
 kn gK dG t5 nT bB jD t36 (.int .i64 0) w
theorem Pf (kn : K8) (hn : N8 Q kn 0 4 5 8 9 10 36 37) (h : yK kn (g 0) (g 4) (g 5) (g 8) (g 9) (g 10) w) : bH pg bY (aD 1 (aD 1 (bI (aD 1 (aB 1 (bI (bI (aB 1 (aD 1 (aB 3 bU)))))))))) Q g w :=
 dS (kr := no) (l := []) h hn eP trivial
def yL (kn : K6) (R : K1) (gK dG t5 nT bB jD : aJ3) (w : aJ2) : Prop :=
 yK (fun gK dG t5 nT bB jD t36 t37 w => yM kn R gK dG t5 nT bB jD t36 t37 w) gK dG t5 nT bB jD w
def GA (kn : K6) (R : K1) (gK dG t5 nT bB jD : aJ3) (w : aJ2) : Prop :=
 yL (fun gK dG t5 nT bB jD w => yV kn gK dG t5 nT bB jD w) R gK dG t5 nT bB jD w
theorem OQ (kn : K6) (R : K1) (hn : N6 Q kn 0 4 5 8 9 10) (hr : HR gO R Q) (h : yL kn R (g 0) (g 4) (g 5) (g 8) (g 9) (g 10) w) : bH pg bY (aD 1 (bI (aD 1 (aB 1 (bI (bI (aB 1 (aD 1 (aB 3 bU))))))))) Q g w :=
 fP 1 (Pf _ g w (yM kn R) (fun g w h => aK (uH 2 (PX _ g w kn R hn hr h))) h)
def yU (kn : K6) (R : K1) (gK dG t5 nT bB jD : aJ3) (w : aJ2) : Prop :=
 GA kn R gK dG t5 nT bB jD w
def yO (kn : K6) (R : K1) (gK dG t5 nT bB jD : aJ3) (w : aJ2) : Prop :=
 yU (fun gK dG t5 nT bB jD w => tL kn gK dG t5 nT bB jD w) R gK dG t5 nT bB jD w
theorem PN (kn : K6) (R : K1) (hn : N6 Q kn 0 4 5 8 9 10) (hr : HR gO R Q) (h : yU kn R (g 0) (g 4) (g 5) (g 8) (g 9) (g 10) w) : bH pg bY (aD 1 (aB 1 (bI (bI (aB 1 (aD 1 (aB 3 bU))))))) Q g w :=
 uH 1 (fP 1 (OQ _ g w (yV kn) R (fun g w h => aK (fP 2 (PQ _ g w (zJ kn) (fun g w h => aK (uH 4 (OT _ g w kn hn h))) h))) hr h))
def zE (kn : K6) (k0 : K3) (gK dG t5 nT bB jD : aJ3) (w : aJ2) : Prop :=
 aC pg (aG .geq 3 aM aM jD (.int .i64 0)) w fun t33 w =>
 eM t33
  (kn gK dG t5 nT bB jD w)
  (k0 t5 nT bB w)
theorem Pz (kn : K6) (k0 : K3) (hn : N6 Q kn 0 4 5 8 9 10) (h0 : E3 Q k0 0 5 8 9) (h : zE kn k0 (g 0) (g 4) (g 5) (g 8) (g 9) (g 10) w) : bH pg bY (aD 1 (bI (bI (aB 1 (aD 1 (aB 3 bU)))))) Q g w :=
 dS (kr := no) (l := [(0, fun g w => k0 (g 5) (g 8) (g 9) w)]) h hn eP ⟨h0, trivial⟩
def sB (kn : K6) (k0 : K3) (R : K1) (gK dG t5 nT bB jD : aJ3) (w : aJ2) : Prop :=
 zE (fun gK dG t5 nT bB jD w => yO kn R gK dG t5 nT bB jD w) k0 gK dG t5 nT bB jD w
def yS (k0 : K3) (R : K1) (gK dG t5 nT bB jD : aJ3) (w : aJ2) : Prop :=
 cG (fun (X : aJ3 -> K0) (t : aJ3) (w : aJ2) => sB (fun _ _ _ _ _ jD w => X jD w) k0 R gK dG t5 nT bB t w) jD w
theorem P4 (kn : K6) (k0 : K3) (R : K1) (hn : N6 Q kn 0 4 5 8 9 10) (h0 : E3 Q k0 0 5 8 9) (hr : HR gO R Q) (h : sB kn k0 R (g 0) (g 4) (g 5) (g 8) (g 9) (g 10) w) : bH pg bY (bI (bI (aB 1 (aD 1 (aB 3 bU))))) Q g w :=
 fP 1 (Pz _ g w (yO kn R) k0 (fun g w h => aK (fP 1 (PN _ g w (tL kn) R (fun g w h => aK (QU _ g w kn hn h)) hr h))) h0 h)
theorem PJ (k0 : K3) (R : K1) (h0 : E3 Q k0 0 5 8 9) (hr : HR gO R Q) (h : yS k0 R (g 0) (g 4) (g 5) (g 8) (g 9) (g 10) w) : bH pg bY (bI (aB 1 (aD 1 (aB 3 bU)))) Q g w := by
 refine Db (fun g : Env => g 10) (fun X t w => sB (fun _ _ _ _ _ jD w => X jD w) k0 R (g 0) (g 4) (g 5) (g 8) (g 9) t w) h (fun X g1 w1 ha hL => ?_)
 rw [<- fF 0 ha, <- fF 4 ha, <- fF 5 ha, <- fF 8 ha, <- fF 9 ha] at hL
 exact (P4 _ g1 w1 (fun _ _ _ _ _ jD w => X jD w) k0 R (fun _ _ h => h) h0 hr hL)
def zA (kn : K3) (R : K1) (gK dG t5 nT bB jD : aJ3) (w : aJ2) : Prop :=
 yS kn R gK dG t5 nT bB jD w
def zL (kn : K6) (gK dG t5 nT bB : aJ3) (w : aJ2) : Prop :=
 aC pg (jM .len #[24] 3 [gK]) w fun t30 w =>
 aC pg (aG .sub 3 aM aM t30 (.int .i64 1)) w fun t31 w =>
 kn gK dG t5 nT bB t31 w
theorem OZ (kn : K6) (hn : N6 Q kn 0 4 5 8 9 10) (h : zL kn (g 0) (g 4) (g 5) (g 8) (g 9) w) : bH pg bY (aD 1 (aD 1 (aB 3 bU))) Q g w :=
 dS (kr := no) (l := []) h hn eP trivial
def zG (kn : K3) (R : K1) (gK dG t5 nT bB : aJ3) (w : aJ2) : Prop :=
 zL (fun gK dG t5 nT bB jD w => zA kn R gK dG t5 nT bB jD w) gK dG t5 nT bB w
def yR (R : K1) (gK dG t5 nT bB : aJ3) (w : aJ2) : Prop :=
 zG (fun t5 nT bB w => Ar R t5 nT bB w) R gK dG t5 nT bB w
theorem PT (kn : K3) (R : K1) (hn : N3 Q kn 5 8 9) (hr : HR gO R Q) (h : zG kn R (g 0) (g 4) (g 5) (g 8) (g 9) w) : bH pg bY (aD 1 (aB 3 bU)) Q g w :=
 fP 1 (OZ _ g w (zA kn R) (fun g w h => aK (uH 0 (PJ _ g w kn R hn hr h))) h)
def yA (kn : K5) (gK aAs t2 : aJ3) (w : aJ2) : Prop :=
 aC pg (rL 98 aAs) w fun dG w =>
 aC pg (rL 29 t2) w fun t5 w =>
 aR pg qI #[] w fun t28 w =>
 aC pg (bS 67) w fun bB w =>
 kn gK dG t5 t28 bB w
theorem Pj (kn : K5) (hn : N5 Q kn 0 4 5 8 9) (h : yA kn (g 0) (g 1) (g 2) w) : bH pg bY (aD 3 bU) Q g w :=
 dS (kr := no) (l := []) h hn eP trivial
def xV (R : K1) (gK aAs t2 : aJ3) (w : aJ2) : Prop :=
 yA (fun gK dG t5 nT bB w => yR R gK dG t5 nT bB w) gK aAs t2 w
theorem Pn (R : K1) (hr : HR gO R Q) (h : xV R (g 0) (g 1) (g 2) w) : bH pg bY bU Q g w :=
 fP 3 (Pj _ g w (yR R) (fun g w h => aK (fP 1 (PT _ g w (Ar R) R (fun g w h => aK (fP 1 (Rl _ g w (tJ R) (fun g w h => aK (Q4 _ g w R hr h)) h))) hr h))) h)
def O2 (a0 a1 a2 : aJ3) (w : aJ2) (R : K1) : Prop :=
 xV R a0 a1 a2 w
theorem Si {a0 a1 a2 : aJ3} {w : aJ2} {R : K1} (h : O2 a0 a1 a2 w R) : aR pg vJ #[a0, a1, a2] w R := by
 refine rQ (ann := bY) Tryd.f41 bU [a0, a1, a2] gO 138 TrydM.mixed Tryd.func41 ?_
 exact (Pn _ _ _ R (fun _ _ h => h) h)
def Cy : FA := ⟨nK, fun i => .leaf ([], []) []⟩
def Rv : List ResultVar := []
noncomputable def AM : Code := cU Tryd.f42
def vO (kn : K0) (uG V4 : aJ3) (w : aJ2) : Prop :=
 aC pg (aG .neq 95 (.tmp 4) (.const (.pointer none)) uG (.pointer none)) w fun t5 w =>
 eM t5
  (aC pg (qJ uG) w fun t8 w =>
  aC pg (aL 141 t8 0) w fun t9 w =>
  aC pg (aH 22 t9) w fun t10 w =>
  aC pg (jM .append #[22, 22] 22 [t10, V4]) w fun t12 w =>
  aC pg (qJ uG) w fun t13 w =>
  aC pg (aL 141 t13 0) w fun t14 w =>
  aC pg (aJ 22 t14 t12) w fun _u w =>
  kn w)
  (kn w)
theorem L6 (kn : K0) (hn : N0 Q kn) (h : vO kn (g 0) (g 1) w) : bH pg Cy AM Q g w :=
 dS (kr := no) (l := []) h hn eP trivial
def ID (a0 a1 : aJ3) (w : aJ2) (R : K1) : Prop :=
 vO (fun  w => R (.tuple #[]) w) a0 a1 w
theorem Np {a0 a1 : aJ3} {w : aJ2} {R : K1} (h : ID a0 a1 w R) : aR pg nK #[a0, a1] w R := by
 refine rQ (ann := Cy) Tryd.f42 AM [a0, a1] Rv 15 TrydM.mixed Tryd.func42 ?_
 exact (L6 _ _ _ (fun  w => R (.tuple #[]) w) (fun _ _ h => h) h)
def Ed : FA := ⟨tM, fun i => .leaf ([], []) []⟩
def Ge : List ResultVar := [.tmp 2]
noncomputable def CR : Code := cU Tryd.f43
def zK (R : K1) (uG : aJ3) (w : aJ2) : Prop :=
 aC pg (aG .eql 95 (.tmp 3) (.const (.pointer none)) uG (.pointer none)) w fun t4 w =>
 eM t4
  (R (.slice none 0 0) w)
  (aC pg (qJ uG) w fun t6 w =>
  aC pg (aL 141 t6 0) w fun t7 w =>
  aC pg (aH 22 t7) w fun t8 w =>
  aR pg iQ #[t8] w fun t9 w =>
  R t9 w)
theorem PV (R : K1) (hr : HR Ge R Q) (h : zK R (g 0) w) : bH pg Ed CR Q g w :=
 dS (kn := no) (l := []) h eP hr trivial
def Mt (a0 : aJ3) (w : aJ2) (R : K1) : Prop :=
 zK R a0 w
theorem Q3 {a0 : aJ3} {w : aJ2} {R : K1} (h : Mt a0 w R) : aR pg tM #[a0] w R := by
 refine rQ (ann := Ed) Tryd.f43 CR [a0] Ge 10 TrydM.mixed Tryd.func43 ?_
 exact (PV _ _ _ R (fun _ _ h => h) h)
def LN : FA := ⟨Ad, fun i => .leaf ([], []) []⟩
def Ma : List ResultVar := [.cell 2 27, .tmp 3]
noncomputable def IA : Code := cU Tryd.f44
def Da (R : K1) (aQ : aJ3) (w : aJ2) : Prop :=
 aC pg (bS 27) w fun t2 w =>
 aR pg yN #[aQ] w fun t5 w =>
 aR pg sC #[t5] w fun t6 w =>
 aC pg (aW t6 0) w fun t7 w =>
 aC pg (aW t6 1) w fun t8 w =>
 aC pg (aJ 27 t2 t7) w fun _u w =>
 kI pg 27 t2 w fun r0 => R (.tuple #[r0, t8]) w
theorem Uc (R : K1) (hr : HR Ma R Q) (h : Da R (g 0) w) : bH pg LN IA Q g w :=
 dS (kn := no) (l := []) h eP hr trivial
def Ud (a0 : aJ3) (w : aJ2) (R : K1) : Prop :=
 Da R a0 w
theorem VK {a0 : aJ3} {w : aJ2} {R : K1} (h : Ud a0 w R) : aR pg Ad #[a0] w R := by
 refine rQ (ann := LN) Tryd.f44 IA [a0] Ma 9 TrydM.mixed Tryd.func44 ?_
 exact (Uc _ _ _ R (fun _ _ h => h) h)
def aiL : FA := ⟨Fo, fun i => .leaf ([], []) []⟩
def aoJ : List ResultVar := [.cell 2 27]
noncomputable def YJ : Code := cU Tryd.f45
def WS (R : K1) (aoT : aJ3) (w : aJ2) : Prop :=
 aC pg (bS 27) w fun t2 w =>
 aC pg (bV 123 [(0, aoT)]) w fun t4 w =>
 aC pg (bX 25 1 [(0, t4)]) w fun t5 w =>
 aC pg (bV 27 [(1, t5)]) w fun t6 w =>
 aC pg (aJ 27 t2 t6) w fun _u w =>
 kI pg 27 t2 w fun r0 => R r0 w
theorem aqP (R : K1) (hr : HR aoJ R Q) (h : WS R (g 0) w) : bH pg aiL YJ Q g w :=
 dS (kn := no) (l := []) h eP hr trivial
def aBa (a0 : aJ3) (w : aJ2) (R : K1) : Prop :=
 WS R a0 w
theorem auF {a0 : aJ3} {w : aJ2} {R : K1} (h : aBa a0 w R) : aR pg Fo #[a0] w R := by
 refine rQ (ann := aiL) Tryd.f45 YJ [a0] aoJ 7 TrydM.mixed Tryd.func45 ?_
 exact (aqP _ _ _ R (fun _ _ h => h) h)
def Ec : FA := ⟨iQ, fun i => .leaf ([], []) []⟩
def Gi : List ResultVar := [.tmp 2]
noncomputable def Dz : Code := cU Tryd.f47
def yZ (R : K1) (wN : aJ3) (w : aJ2) : Prop :=
 aC pg (aG .eql 22 (.tmp 3) (.const (.slice none 0 0)) wN (.slice none 0 0)) w fun t4 w =>
 eM t4
  (R (.slice none 0 0) w)
  (aC pg (bX 22 0 []) w fun t5 w =>
  aC pg (jM .append #[22, 22] 22 [t5, wN]) w fun t7 w =>
  R t7 w)
theorem O7 (R : K1) (hr : HR Gi R Q) (h : yZ R (g 0) w) : bH pg Ec Dz Q g w :=
 dS (kn := no) (l := []) h eP hr trivial
def Mo (a0 : aJ3) (w : aJ2) (R : K1) : Prop :=
 yZ R a0 w
theorem Qs {a0 : aJ3} {w : aJ2} {R : K1} (h : Mo a0 w R) : aR pg iQ #[a0] w R := by
 refine rQ (ann := Ec) Tryd.f47 Dz [a0] Gi 8 TrydM.mixed Tryd.func47 ?_
 exact (O7 _ _ _ R (fun _ _ h => h) h)
def gR : FA := ⟨jJ, fun i => .leaf ([], []) []⟩
def pN : List ResultVar := [.tmp 4]
noncomputable def gN : Code := cU Tryd.f48
def pM (R : K1) (V8 : aJ3) (w : aJ2) : Prop :=
 R V8 w
theorem LO (R : K1) (hr : HR pN R Q) (h : pM R (g 5) w) : bH pg gR (aB 1 (aB 3 gN)) Q g w :=
 dS (kn := no) (l := []) h eP hr trivial
def pJ (kn : K4) (k0 : K1) (V8 t18 t19 t20 : aJ3) (w : aJ2) : Prop :=
 aC pg (aG .lss 3 aM aM t20 t19) w fun t21 w =>
 eM t21
  (aC pg (bA 22 t18 t20) w fun t23 w =>
  aC pg (aH 5 t23) w fun t24 w =>
  aC pg (fL 5 73 t24) w fun t27 w =>
  aC pg (aG .mul 3 aM aM (.int .i64 8) t20) w fun t29 w =>
  aC pg (fL 3 94 t29) w fun t30 w =>
  aC pg (aG .shl 73 aM aM t27 t30) w fun t31 w =>
  aC pg (aG .or 73 aM aM V8 t31) w fun t32 w =>
  aC pg (aG .add 3 aM aM t20 (.int .i64 1)) w fun t33 w =>
  kn t32 t18 t19 t33 w)
  (k0 V8 w)
theorem KV (kn : K4) (k0 : K1) (hn : N4 Q kn 5 18 19 20) (h0 : E1 Q k0 0 5) (h : pJ kn k0 (g 5) (g 18) (g 19) (g 20) w) : bH pg gR (bI (bI (aB 1 (aD 1 (aB 3 gN))))) Q g w :=
 dS (kr := no) (l := [(0, fun g w => k0 (g 5) w)]) h hn eP ⟨h0, trivial⟩
def tS (k0 : K1) (V8 t18 t19 t20 : aJ3) (w : aJ2) : Prop :=
 cG (fun (X : (aJ3 × aJ3) -> K0) (t : aJ3 × aJ3) (w : aJ2) => pJ (fun V8 _ _ t20 w => X (V8, t20) w) k0 t.1 t18 t19 t.2 w) (V8, t20) w
theorem JE (k0 : K1) (h0 : E1 Q k0 0 5) (h : tS k0 (g 5) (g 18) (g 19) (g 20) w) : bH pg gR (bI (aB 1 (aD 1 (aB 3 gN)))) Q g w := by
 refine Db (fun g : Env => (g 5, g 20)) (fun X t w => pJ (fun V8 _ _ t20 w => X (V8, t20) w) k0 t.1 (g 18) (g 19) t.2 w) h (fun X g1 w1 ha hL => ?_)
 rw [<- fF 18 ha, <- fF 19 ha] at hL
 exact (KV _ g1 w1 (fun V8 _ _ t20 w => X (V8, t20) w) k0 (fun _ _ h => h) h0 hL)
def uD (kn : K1) (V8 t18 t19 t20 : aJ3) (w : aJ2) : Prop :=
 tS kn V8 t18 t19 t20 w
def uE (kn : K4) (mX pU V8 : aJ3) (w : aJ2) : Prop :=
 aC pg (aG .geq 3 aM aM pU (.int .i64 1)) w fun t13 w =>
 Gd (eX t13 true) (fun K => K pU w) w fun t15 w =>
 Gd (eX t13 true) (fun K => aC pg (aG .leq 3 aM aM t15 (.int .i64 8)) w K) w fun t16 w =>
 aC pg (fI t13 t16 (.bool false)) w fun t17 w =>
 aR pg oI #[mX, pU, t17] w fun t18 w =>
 aC pg (jM .len #[22] 3 [t18]) w fun t19 w =>
 kn V8 t18 t19 (.int .i64 0) w
theorem Jt (kn : K4) (hn : N4 Q kn 5 18 19 20) (h : uE kn (g 0) (g 1) (g 5) w) : bH pg gR (aD 1 (aD 1 (aB 3 gN))) Q g w :=
 dS (kr := no) (l := []) h hn eP trivial
def tO (kn : K1) (mX pU V8 : aJ3) (w : aJ2) : Prop :=
 uE (fun V8 t18 t19 t20 w => uD kn V8 t18 t19 t20 w) mX pU V8 w
def uC (R : K1) (mX pU V8 : aJ3) (w : aJ2) : Prop :=
 tO (fun V8 w => pM R V8 w) mX pU V8 w
theorem JH (kn : K1) (hn : N1 Q kn 5) (h : tO kn (g 0) (g 1) (g 5) w) : bH pg gR (aD 1 (aB 3 gN)) Q g w :=
 fP 1 (Jt _ g w (uD kn) (fun g w h => aK (uH 0 (JE _ g w kn hn h))) h)
def tX (kn : K3) (R : K1) (mX pU : aJ3) (w : aJ2) : Prop :=
 aC pg (aG .eql 56 (.tmp 8) (.const (.pointer none)) mX (.pointer none)) w fun t9 w =>
 eM t9
  (R (.int .u64 0) w)
  (kn mX pU (.int .u64 0) w)
theorem KO (kn : K3) (R : K1) (hn : N3 Q kn 0 1 5) (hr : HR pN R Q) (h : tX kn R (g 0) (g 1) w) : bH pg gR (aD 3 gN) Q g w :=
 dS (l := []) h hn hr trivial
def uF (R : K1) (mX pU : aJ3) (w : aJ2) : Prop :=
 tX (fun mX pU V8 w => uC R mX pU V8 w) R mX pU w
theorem Jv (R : K1) (hr : HR pN R Q) (h : uF R (g 0) (g 1) w) : bH pg gR gN Q g w :=
 fP 3 (KO _ g w (uC R) R (fun g w h => aK (fP 1 (JH _ g w (pM R) (fun g w h => aK (LO _ g w R hr h)) h))) hr h)
def Gm (a0 a1 : aJ3) (w : aJ2) (R : K1) : Prop :=
 uF R a0 a1 w
theorem L4 {a0 a1 : aJ3} {w : aJ2} {R : K1} (h : Gm a0 a1 w R) : aR pg jJ #[a0, a1] w R := by
 refine rQ (ann := gR) Tryd.f48 gN [a0, a1] pN 35 TrydM.mixed Tryd.func48 ?_
 exact (Jv _ _ _ R (fun _ _ h => h) h)
def R4 : FA := ⟨AI, fun i => .leaf ([], []) []⟩
def TM : List ResultVar := [.cell 8 27, .tmp 9, .tmp 10]
noncomputable def PF : Code := cU Tryd.f49
def J5 (R : K1) (aQ Ke C9 cI : aJ3) (w : aJ2) : Prop :=
 aC pg (rL 27 cI) w fun awQ w =>
 aC pg (bS 27) w fun t8 w =>
 aR pg vW #[aQ] w fun t19 w =>
 aC pg (aG .lss 3 aM aM t19 (.int .i64 0)) w fun t21 w =>
 Gd (eX t21 false) (fun K => K Ke w) w fun t23 w =>
 Gd (eX t21 false) (fun K => aC pg (aG .lss 3 aM aM t23 (.int .i64 0)) w K) w fun t24 w =>
 aC pg (fI t21 (.bool true) t24) w fun t25 w =>
 Gd (eX t25 false) (fun K => K Ke w) w fun t27 w =>
 Gd (eX t25 false) (fun K => aC pg (aG .gtr 3 aM aM t27 (.int .i64 3)) w K) w fun t28 w =>
 aC pg (fI t25 (.bool true) t28) w fun t29 w =>
 eM t29
  (aC pg (bV 27 []) w fun t30 w =>
  aC pg (aJ 27 t8 t30) w fun _u w =>
  kI pg 27 t8 w fun r0 => R (.tuple #[r0, (.int .i64 0), (.int .i64 1)]) w)
  (aC pg (aG .eql 3 (.tmp 31) (.const (.int .i64 0)) Ke (.int .i64 0)) w fun t33 w =>
  eM t33
   (aR pg Ad #[aQ] w fun t36 w =>
   aC pg (aW t36 0) w fun t37 w =>
   aC pg (aW t36 1) w fun t38 w =>
   aC pg (bS 27) w fun t12 w =>
   aC pg (aJ 27 t12 t37) w fun _u w =>
   aC pg (aH 27 t12) w fun t39 w =>
   aC pg (aJ 27 t8 t39) w fun _u w =>
   kI pg 27 t8 w fun r0 => R (.tuple #[r0, (.int .i64 0), t38]) w)
   (aC pg (aG .eql 3 (.tmp 31) (.const (.int .i64 1)) Ke (.int .i64 1)) w fun t42 w =>
   eM t42
    (aC pg (jM .len #[22] 3 [C9]) w fun t45 w =>
    aC pg (aG .eql 3 (.tmp 45) (.const (.int .i64 0)) t45 (.int .i64 0)) w fun t46 w =>
    eM t46
     (aC pg (bV 27 []) w fun t47 w =>
     aC pg (aJ 27 t8 t47) w fun _u w =>
     kI pg 27 t8 w fun r0 => R (.tuple #[r0, (.int .i64 0), (.int .i64 10)]) w)
     (aC pg (bA 22 C9 (.int .i64 0)) w fun t50 w =>
     aC pg (aH 5 t50) w fun t51 w =>
     aC pg (fL 5 3 t51) w fun t52 w =>
     aC pg (aG .gtr 3 aM aM t52 t19) w fun t54 w =>
     eM t54
      (aC pg (bV 27 []) w fun t55 w =>
      aC pg (aJ 27 t8 t55) w fun _u w =>
      kI pg 27 t8 w fun r0 => R (.tuple #[r0, (.int .i64 0), (.int .i64 11)]) w)
      (aC pg (bA 22 C9 (.int .i64 0)) w fun t57 w =>
      aC pg (aH 5 t57) w fun t58 w =>
      aR pg Fo #[t58] w fun t59 w =>
      aC pg (aJ 27 t8 t59) w fun _u w =>
      kI pg 27 t8 w fun r0 => R (.tuple #[r0, (.int .i64 1), (.int .i64 0)]) w)))
    (aC pg (aG .eql 3 (.tmp 31) (.const (.int .i64 3)) Ke (.int .i64 3)) w fun t61 w =>
    eM t61
     (aC pg (aL 27 awQ 1) w fun t62 w =>
     aC pg (aH 25 t62) w fun t63 w =>
     aC pg (jM .len #[25] 3 [t63]) w fun t64 w =>
     aC pg (aG .eql 3 (.tmp 64) (.const (.int .i64 0)) t64 (.int .i64 0)) w fun t65 w =>
     eM t65
      (aC pg (bV 27 []) w fun t66 w =>
      aC pg (aJ 27 t8 t66) w fun _u w =>
      kI pg 27 t8 w fun r0 => R (.tuple #[r0, (.int .i64 0), (.int .i64 11)]) w)
      (aC pg (aH 27 awQ) w fun t67 w =>
      aC pg (aJ 27 t8 t67) w fun _u w =>
      kI pg 27 t8 w fun r0 => R (.tuple #[r0, (.int .i64 0), (.int .i64 0)]) w))
     (aR pg sW #[aQ] w fun t71 w =>
     aC pg (aG .add 3 aM aM t19 (.int .i64 1)) w fun t73 w =>
     aR pg Fs #[C9, t71, t73] w fun t74 w =>
     aC pg (aW t74 0) w fun t75 w =>
     aC pg (aW t74 1) w fun t76 w =>
     aC pg (aW t74 2) w fun t77 w =>
     aC pg (bS 145) w fun aDJ w =>
     aC pg (aJ 145 aDJ t75) w fun _u w =>
     aC pg (aG .neq 30 (.tmp 78) (.const (.int .i64 0)) t77 (.int .i64 0)) w fun t79 w =>
     eM t79
      (aC pg (bV 27 []) w fun t80 w =>
      aC pg (aJ 27 t8 t80) w fun _u w =>
      kI pg 27 t8 w fun r0 => R (.tuple #[r0, (.int .i64 0), t77]) w)
      (aC pg (aH 145 aDJ) w fun t83 w =>
      aR pg sC #[t83] w fun t84 w =>
      aC pg (aW t84 0) w fun t85 w =>
      aC pg (aW t84 1) w fun t86 w =>
      aC pg (bS 27) w fun t17 w =>
      aC pg (aJ 27 t17 t85) w fun _u w =>
      aC pg (aG .neq 30 (.tmp 87) (.const (.int .i64 0)) t86 (.int .i64 0)) w fun t88 w =>
      eM t88
       (aC pg (bV 27 []) w fun t89 w =>
       aC pg (aJ 27 t8 t89) w fun _u w =>
       kI pg 27 t8 w fun r0 => R (.tuple #[r0, (.int .i64 0), t86]) w)
       (aC pg (aH 27 t17) w fun t91 w =>
       aC pg (aJ 27 t8 t91) w fun _u w =>
       kI pg 27 t8 w fun r0 => R (.tuple #[r0, t76, (.int .i64 0)]) w))))))
theorem ZR (R : K1) (hr : HR TM R Q) (h : J5 R (g 0) (g 1) (g 2) (g 3) w) : bH pg R4 PF Q g w :=
 dS (kn := no) (l := []) h eP hr trivial
def aiN (a0 a1 a2 a3 : aJ3) (w : aJ2) (R : K1) : Prop :=
 J5 R a0 a1 a2 a3 w
theorem agP {a0 a1 a2 a3 : aJ3} {w : aJ2} {R : K1} (h : aiN a0 a1 a2 a3 w R) : aR pg AI #[a0, a1, a2, a3] w R := by
 refine rQ (ann := R4) Tryd.f49 PF [a0, a1, a2, a3] TM 93 TrydM.mixed Tryd.func49 ?_
 exact (ZR _ _ _ R (fun _ _ h => h) h)
def KD : FA := ⟨zZ, fun i => .leaf ([], []) []⟩
def Ms : List ResultVar := [.tmp 2]
noncomputable def IE : Code := cU Tryd.f50
def D0 (R : K1) (uJ : aJ3) (w : aJ2) : Prop :=
 aC pg (HM 9 (.string ⟨#[0, 1, 2, 2, 3, 3, 3, 3, 4, 4, 4, 4, 4, 4, 4, 4, 5, 5, 5, 5, 5, 5, 5, 5, 5, 5, 5, 5, 5, 5, 5, 5, 6, 6, 6, 6, 6, 6, 6, 6, 6, 6, 6, 6, 6, 6, 6, 6, 6, 6, 6, 6, 6, 6, 6, 6, 6, 6, 6, 6, 6, 6, 6, 6, 7, 7, 7, 7, 7, 7, 7, 7, 7, 7, 7, 7, 7, 7, 7, 7, 7, 7, 7, 7, 7, 7, 7, 7, 7, 7, 7, 7, 7, 7, 7, 7, 7, 7, 7, 7, 7, 7, 7, 7, 7, 7, 7, 7, 7, 7, 7, 7, 7, 7, 7, 7, 7, 7, 7, 7, 7, 7, 7, 7, 7, 7, 7, 7, 8, 8, 8, 8, 8, 8, 8, 8, 8, 8, 8, 8, 8, 8, 8, 8, 8, 8, 8, 8, 8, 8, 8, 8, 8, 8, 8, 8, 8, 8, 8, 8, 8, 8, 8, 8, 8, 8, 8, 8, 8, 8, 8, 8, 8, 8, 8, 8, 8, 8, 8, 8, 8, 8, 8, 8, 8, 8, 8, 8, 8, 8, 8, 8, 8, 8, 8, 8, 8, 8, 8, 8, 8, 8, 8, 8, 8, 8, 8, 8, 8, 8, 8, 8, 8, 8, 8, 8, 8, 8, 8, 8, 8, 8, 8, 8, 8, 8, 8, 8, 8, 8, 8, 8, 8, 8, 8, 8, 8, 8, 8, 8, 8, 8, 8, 8, 8, 8, 8, 8, 8, 8, 8, 8, 8, 8, 8, 8]⟩) uJ) w fun t4 w =>
 aC pg (fL 5 3 t4) w fun t5 w =>
 R t5 w
theorem TA (R : K1) (hr : HR Ms R Q) (h : D0 R (g 0) w) : bH pg KD IE Q g w :=
 dS (kn := no) (l := []) h eP hr trivial
def T5 (a0 : aJ3) (w : aJ2) (R : K1) : Prop :=
 D0 R a0 w
theorem Vk {a0 : aJ3} {w : aJ2} {R : K1} (h : T5 a0 w R) : aR pg zZ #[a0] w R := by
 refine rQ (ann := KD) Tryd.f50 IE [a0] Ms 6 TrydM.mixed Tryd.func50 ?_
 exact (TA _ _ _ R (fun _ _ h => h) h)
def Dq : FA := ⟨oI, fun i => .leaf ([], []) []⟩
def Ek : List ResultVar := [.tmp 6]
noncomputable def Cn : Code := cU Tryd.f51
def wX (R : K1) (mX pU aGV : aJ3) (w : aJ2) : Prop :=
 aC pg (qJ mX) w fun t10 w =>
 aC pg (aL 112 t10 1) w fun t11 w =>
 aC pg (aH 30 t11) w fun t12 w =>
 aC pg (aG .neq 30 (.tmp 12) (.const (.int .i64 0)) t12 (.int .i64 0)) w fun t13 w =>
 eM t13
  (R (.slice none 0 0) w)
  (aC pg (sUn .not aGV) w fun t16 w =>
  eM t16
   (aC pg (qJ mX) w fun t18 w =>
   aC pg (aL 112 t18 1) w fun t19 w =>
   aC pg (aJ 30 t19 (.int .i64 1)) w fun _u w =>
   R (.slice none 0 0) w)
   (aC pg (qJ mX) w fun t23 w =>
   aC pg (aL 112 t23 0) w fun t24 w =>
   aC pg (aH 22 t24) w fun t25 w =>
   aC pg (jM .len #[22] 3 [t25]) w fun t26 w =>
   aC pg (aG .gtr 3 aM aM pU t26) w fun t27 w =>
   eM t27
    (aC pg (qJ mX) w fun t29 w =>
    aC pg (aL 112 t29 1) w fun t30 w =>
    aC pg (aJ 30 t30 (.int .i64 10)) w fun _u w =>
    R (.slice none 0 0) w)
    (aC pg (qJ mX) w fun t32 w =>
    aC pg (aL 112 t32 0) w fun t33 w =>
    aC pg (aH 22 t33) w fun t34 w =>
    aC pg (fH 22 t34 none (some pU) (some pU)) w fun t37 w =>
    aC pg (qJ mX) w fun t40 w =>
    aC pg (aL 112 t40 0) w fun t41 w =>
    aC pg (aH 22 t41) w fun t42 w =>
    aC pg (fH 22 t42 (some pU) none none) w fun t44 w =>
    aC pg (qJ mX) w fun t45 w =>
    aC pg (aL 112 t45 0) w fun t46 w =>
    aC pg (aJ 22 t46 t44) w fun _u w =>
    R t37 w)))
theorem Oc (R : K1) (hr : HR Ek R Q) (h : wX R (g 0) (g 1) (g 2) w) : bH pg Dq Cn Q g w :=
 dS (kn := no) (l := []) h eP hr trivial
def Lt (a0 a1 a2 : aJ3) (w : aJ2) (R : K1) : Prop :=
 wX R a0 a1 a2 w
theorem Pq {a0 a1 a2 : aJ3} {w : aJ2} {R : K1} (h : Lt a0 a1 a2 w R) : aR pg oI #[a0, a1, a2] w R := by
 refine rQ (ann := Dq) Tryd.f51 Cn [a0, a1, a2] Ek 48 TrydM.mixed Tryd.func51 ?_
 exact (Oc _ _ _ R (fun _ _ h => h) h)
def DJ : FA := ⟨mB, fun i => match Nat.beq i 4 with | true => .leaf ([12], [(12, 15), (12, 16)]) [(false, []), (false, []), (false, []), (false, []), (false, []), (false, []), (false, []), (false, []), (false, []), (false, []), (false, []), (false, []), (true, []), (false, []), (false, []), (false, [2]), (false, [3]), (false, []), (false, [])] | false => .leaf ([], []) []⟩
def Eo : List ResultVar := [.tmp 4]
noncomputable def CC : Code := cU Tryd.f52
def wS (R : K1) (mX pU : aJ3) (w : aJ2) : Prop :=
 aC pg (aG .eql 63 (.tmp 7) (.const (.pointer none)) mX (.pointer none)) w fun t8 w =>
 Gd (eX t8 false) (fun K => K pU w) w fun t10 w =>
 Gd (eX t8 false) (fun K => aC pg (aG .lss 3 aM aM t10 (.int .i64 1)) w K) w fun t11 w =>
 aC pg (fI t8 (.bool true) t11) w fun t12 w =>
 Gd (eX t12 false) (fun K => K pU w) w fun t14 w =>
 Gd (eX t12 false) (fun K => aC pg (aG .gtr 3 aM aM t14 (.int .i64 56)) w K) w fun t15 w =>
 aC pg (fI t12 (.bool true) t15) w fun t16 w =>
 eM t16
  (R (.int .u64 0) w)
  (aC pg (qJ mX) w fun t18 w =>
  aC pg (aL 118 t18 1) w fun t19 w =>
  aC pg (aH 3 t19) w fun t20 w =>
  aC pg (jM .max #[3, 3] 3 [t20, (.int .i64 0)]) w fun t21 w =>
  aC pg (jM .min #[3, 3] 3 [t21, pU]) w fun t23 w =>
  (dr w) = (dr w) /\
  aC pg (qJ mX) (dr w) fun t25 w_ => w_ = (dr w) /\
  aC pg (aL 118 t25 0) (dr w) fun t26 w_ => w_ = (dr w) /\
  aC pg (aH 22 t26) (dr w) fun t27 w_ => w_ = (dr w) /\
  (dr w) = (dr w) /\
  aC pg (qJ mX) (dr w) fun t29 w_ => w_ = (dr w) /\
  aC pg (aL 118 t29 1) (dr w) fun t30 w_ => w_ = (dr w) /\
  aC pg (aH 3 t30) (dr w) fun t31 w_ => w_ = (dr w) /\
  aC pg (jM .max #[3, 3] 3 [t31, (.int .i64 0)]) (dr w) fun t32 w_ => w_ = (dr w) /\
  (dr w) = (dr w) /\
  aC pg (aG .sub 3 aM aM t32 t23) (dr w) fun t34 w_ => w_ = (dr w) /\
  (dr w) = (dr w) /\
  aR pg Gg #[t27, t34, t23] (dr w) fun t36 Pk =>
  Pk = Pk /\
  Pk = Pk /\
  aC pg (aG .sub 3 aM aM pU t23) Pk fun t39 w_ => w_ = Pk /\
  (eD pg (aG .sub 3 aM aM pU t23) t39 (dr w) /\ True) /\
  aC pg (fL 3 94 t39) Pk fun t40 w_ => w_ = Pk /\
  (eD pg (fL 3 94 t39) t40 (dr w) /\ True) /\
  aC pg (aG .shl 73 aM aM t36 t40) Pk fun t41 w_ => w_ = Pk /\
  Pk = Pk /\
  aC pg (qJ mX) Pk fun t43 w =>
  aC pg (aL 118 t43 1) w fun t44 w =>
  aC pg (aH 3 t44) w fun t45 w =>
  aC pg (aG .sub 3 aM aM t45 pU) w fun t47 w =>
  aC pg (qJ mX) w fun t48 w =>
  aC pg (aL 118 t48 1) w fun t49 w =>
  aC pg (aJ 3 t49 t47) w fun _u w =>
  R t41 w)
theorem ON (R : K1) (hr : HR Eo R Q) (h : wS R (g 0) (g 1) w) : bH pg DJ CC Q g w :=
 dS (kn := no) (l := []) h eP hr trivial
def KM (a0 a1 : aJ3) (w : aJ2) (R : K1) : Prop :=
 wS R a0 a1 w
theorem PE {a0 a1 : aJ3} {w : aJ2} {R : K1} (h : KM a0 a1 w R) : aR pg mB #[a0, a1] w R := by
 refine rQ (ann := DJ) Tryd.f52 CC [a0, a1] Eo 51 TrydM.mixed Tryd.func52 ?_
 exact (ON _ _ _ R (fun _ _ h => h) h)
def oX : FA := ⟨Di, fun i => match Nat.beq i 17 with | true => .leaf ([], []) [(false, []), (false, []), (false, []), (false, []), (false, []), (false, []), (false, []), (false, []), (false, []), (false, [])] | false => .leaf ([], []) []⟩
def Fv : List ResultVar := [.tmp 4, .tmp 5, .tmp 6]
noncomputable def mY : Code := cU Tryd.f53
def FW (R : K1) (iJ kV AK kT : aJ3) (w : aJ2) : Prop :=
 (dr w) = (dr w) /\
 (dr w) = (dr w) /\
 (dr w) = (dr w) /\
 (dr w) = (dr w) /\
 aC pg (aG .sub 3 aM aM iJ kV) (dr w) fun t68 w_ => w_ = (dr w) /\
 aC pg (bA 77 kT t68) (dr w) fun t69 w_ => w_ = (dr w) /\
 aC pg (aH 3 t69) (dr w) fun t70 w_ => w_ = (dr w) /\
 (dr w) = (dr w) /\
 (dr w) = (dr w) /\
 (dr w) = (dr w) /\
 R (.tuple #[AK, t70, (.int .i64 0)]) (dr w)
theorem agI (R : K1) (hr : HR Fv R Q) (h : FW R (g 1) (g 8) (g 9) (g 10) w) : bH pg oX (aB 1 (aB 5 mY)) Q g w :=
 dS (kn := no) (l := []) h eP hr trivial
def Gb (kn : K7) (k1 : K4) (iJ kV AK kT t53 t54 t55 : aJ3) (w : aJ2) : Prop :=
 aC pg (aG .lss 3 aM aM t55 t54) w fun t56 w =>
 eM t56
  (aC pg (bA 77 t53 t55) w fun t57 w =>
  aC pg (aH 3 t57) w fun t58 w =>
  aC pg (aG .shl 43 aM aM (.int .u32 1) t58) w fun t61 w =>
  aC pg (aG .add 43 aM aM AK t61) w fun t62 w =>
  aC pg (aG .add 3 aM aM t55 (.int .i64 1)) w fun t63 w =>
  kn iJ kV t62 kT t53 t54 t63 w)
  (k1 iJ kV AK kT w)
theorem afP (kn : K7) (k1 : K4) (hn : N7 Q kn 1 8 9 10 53 54 55) (h1 : E4 Q k1 1 1 8 9 10) (h : Gb kn k1 (g 1) (g 8) (g 9) (g 10) (g 53) (g 54) (g 55) w) : bH pg oX (bI (bI (aB 1 (aD 1 (aB 5 mY))))) Q g w :=
 dS (kr := no) (l := [(1, fun g w => k1 (g 1) (g 8) (g 9) (g 10) w)]) h hn eP ⟨h1, trivial⟩
def MF (k1 : K4) (iJ kV AK kT t53 t54 t55 : aJ3) (w : aJ2) : Prop :=
 cG (fun (X : (aJ3 × aJ3) -> K0) (t : aJ3 × aJ3) (w : aJ2) => Gb (fun _ _ AK _ _ _ t55 w => X (AK, t55) w) k1 iJ kV t.1 kT t53 t54 t.2 w) (AK, t55) w
theorem acT (k1 : K4) (h1 : E4 Q k1 1 1 8 9 10) (h : MF k1 (g 1) (g 8) (g 9) (g 10) (g 53) (g 54) (g 55) w) : bH pg oX (bI (aB 1 (aD 1 (aB 5 mY)))) Q g w := by
 refine Db (fun g : Env => (g 9, g 55)) (fun X t w => Gb (fun _ _ AK _ _ _ t55 w => X (AK, t55) w) k1 (g 1) (g 8) t.1 (g 10) (g 53) (g 54) t.2 w) h (fun X g1 w1 ha hL => ?_)
 rw [<- fF 1 ha, <- fF 8 ha, <- fF 10 ha, <- fF 53 ha, <- fF 54 ha] at hL
 exact (afP _ g1 w1 (fun _ _ AK _ _ _ t55 w => X (AK, t55) w) k1 (fun _ _ h => h) h1 hL)
def MS (kn : K4) (iJ kV AK kT t53 t54 t55 : aJ3) (w : aJ2) : Prop :=
 MF kn iJ kV AK kT t53 t54 t55 w
def NI (kn : K7) (iJ kV AK kT : aJ3) (w : aJ2) : Prop :=
 aC pg (aG .sub 3 aM aM iJ kV) w fun t52 w =>
 aC pg (fH 77 kT none (some t52) none) w fun t53 w =>
 aC pg (jM .len #[77] 3 [t53]) w fun t54 w =>
 kn iJ kV AK kT t53 t54 (.int .i64 0) w
theorem acF (kn : K7) (hn : N7 Q kn 1 8 9 10 53 54 55) (h : NI kn (g 1) (g 8) (g 9) (g 10) w) : bH pg oX (aD 1 (aD 1 (aB 5 mY))) Q g w :=
 dS (kr := no) (l := []) h hn eP trivial
def M5 (kn : K4) (iJ kV AK kT : aJ3) (w : aJ2) : Prop :=
 NI (fun iJ kV AK kT t53 t54 t55 w => MS kn iJ kV AK kT t53 t54 t55 w) iJ kV AK kT w
def NA (R : K1) (iJ kV AK kT : aJ3) (w : aJ2) : Prop :=
 M5 (fun iJ kV AK kT w => FW R iJ kV AK kT w) iJ kV AK kT w
theorem agS (kn : K4) (hn : N4 Q kn 1 8 9 10) (h : M5 kn (g 1) (g 8) (g 9) (g 10) w) : bH pg oX (aD 1 (aB 5 mY)) Q g w :=
 fP 1 (acF _ g w (MS kn) (fun g w h => aK (uH 1 (acT _ g w kn hn h))) h)
def NM (kn : K4) (R : K1) (aQ iJ : aJ3) (w : aJ2) : Prop :=
 aR pg vW #[aQ] w fun t14 w =>
 aC pg (aG .lss 3 aM aM t14 (.int .i64 0)) w fun t17 w =>
 eM t17
  (R (.tuple #[(.int .u32 0), (.int .i64 0), (.int .i64 1)]) w)
  (aC pg (aG .lss 3 aM aM iJ (.int .i64 0)) w fun t20 w =>
  Gd (eX t20 false) (fun K => K iJ w) w fun t22 w =>
  Gd (eX t20 false) (fun K => K t14 w) w fun t23 w =>
  Gd (eX t20 false) (fun K => aC pg (aG .gtr 3 aM aM t22 t23) w K) w fun t24 w =>
  aC pg (fI t20 (.bool true) t24) w fun t25 w =>
  eM t25
   (R (.tuple #[(.int .u32 0), (.int .i64 0), (.int .i64 17)]) w)
   (aC pg (aG .eql 3 (.tmp 27) (.const (.int .i64 1)) aQ (.int .i64 1)) w fun t28 w =>
   eM t28
    (aC pg (aG .shl 43 aM aM (.int .u32 1) iJ) w fun t30 w =>
    R (.tuple #[t30, iJ, (.int .i64 0)]) w)
    (aR pg Cp #[aQ] w fun t34 w =>
    aC pg (aW t34 0) w fun t35 w =>
    aC pg (aW t34 1) w fun t36 w =>
    aC pg (aW t34 2) w fun t37 w =>
    aC pg (aG .lss 3 aM aM iJ t35) w fun t40 w =>
    eM t40
     (aC pg (fL 3 43 iJ) w fun t43 w =>
     aC pg (aG .add 43 aM aM t36 t43) w fun t44 w =>
     R (.tuple #[t44, (.int .i64 0), (.int .i64 0)]) w)
     (aC pg (fL 3 43 t35) w fun t47 w =>
     aC pg (aG .add 43 aM aM t36 t47) w fun t48 w =>
     kn iJ t35 t48 t37 w))))
theorem agQ (kn : K4) (R : K1) (hn : N4 Q kn 1 8 9 10) (hr : HR Fv R Q) (h : NM kn R (g 0) (g 1) w) : bH pg oX (aD 5 mY) Q g w :=
 dS (l := []) h hn hr trivial
def NY (R : K1) (aQ iJ : aJ3) (w : aJ2) : Prop :=
 NM (fun iJ kV AK kT w => NA R iJ kV AK kT w) R aQ iJ w
theorem aeN (R : K1) (hr : HR Fv R Q) (h : NY R (g 0) (g 1) w) : bH pg oX mY Q g w :=
 fP 5 (agQ _ g w (NA R) R (fun g w h => aK (fP 1 (agS _ g w (FW R) (fun g w h => aK (agI _ g w R hr h)) h))) hr h)
def amW (a0 a1 : aJ3) (w : aJ2) (R : K1) : Prop :=
 NY R a0 a1 w
theorem alC {a0 a1 : aJ3} {w : aJ2} {R : K1} (h : amW a0 a1 w R) : aR pg Di #[a0, a1] w R := by
 refine rQ (ann := oX) Tryd.f53 mY [a0, a1] Fv 71 TrydM.mixed Tryd.func53 ?_
 exact (aeN _ _ _ R (fun _ _ h => h) h)
def TR : FA := ⟨Jb, fun i => .leaf ([], []) []⟩
def VV : List ResultVar := [.cell 4 72, .tmp 5]
noncomputable def RZ : Code := cU Tryd.f54
def Ny (R : K1) (mX pU : aJ3) (w : aJ2) : Prop :=
 aC pg (rL 72 mX) w fun EC w =>
 aC pg (bS 72) w fun t4 w =>
 aC pg (aL 72 EC 1) w fun t7 w =>
 aC pg (aH 30 t7) w fun t8 w =>
 aC pg (aG .neq 30 (.tmp 8) (.const (.int .i64 0)) t8 (.int .i64 0)) w fun t9 w =>
 eM t9
  (aC pg (aH 72 EC) w fun t10 w =>
  aC pg (aJ 72 t4 t10) w fun _u w =>
  kI pg 72 t4 w fun r0 => R (.tuple #[r0, (.string ⟨#[]⟩)]) w)
  (aC pg (aG .lss 3 aM aM pU (.int .i64 0)) w fun t12 w =>
  eM t12
   (aC pg (aL 72 EC 1) w fun t13 w =>
   aC pg (aJ 30 t13 (.int .i64 1)) w fun _u w =>
   aC pg (aH 72 EC) w fun t14 w =>
   aC pg (aJ 72 t4 t14) w fun _u w =>
   kI pg 72 t4 w fun r0 => R (.tuple #[r0, (.string ⟨#[]⟩)]) w)
   (aC pg (aL 72 EC 0) w fun t16 w =>
   aC pg (aH 9 t16) w fun t17 w =>
   aC pg (jM .len #[9] 3 [t17]) w fun t18 w =>
   aC pg (aG .gtr 3 aM aM pU t18) w fun t19 w =>
   eM t19
    (aC pg (aL 72 EC 1) w fun t20 w =>
    aC pg (aJ 30 t20 (.int .i64 10)) w fun _u w =>
    aC pg (aH 72 EC) w fun t21 w =>
    aC pg (aJ 72 t4 t21) w fun _u w =>
    kI pg 72 t4 w fun r0 => R (.tuple #[r0, (.string ⟨#[]⟩)]) w)
    (aC pg (aL 72 EC 0) w fun t22 w =>
    aC pg (aH 9 t22) w fun t23 w =>
    aC pg (fH 9 t23 none (some pU) none) w fun t25 w =>
    aC pg (aL 72 EC 0) w fun t26 w =>
    aC pg (aH 9 t26) w fun t27 w =>
    aC pg (fH 9 t27 (some pU) none none) w fun t29 w =>
    aC pg (aL 72 EC 0) w fun t30 w =>
    aC pg (aJ 9 t30 t29) w fun _u w =>
    aC pg (aH 72 EC) w fun t31 w =>
    aC pg (aJ 72 t4 t31) w fun _u w =>
    kI pg 72 t4 w fun r0 => R (.tuple #[r0, t25]) w)))
theorem acN (R : K1) (hr : HR VV R Q) (h : Ny R (g 0) (g 1) w) : bH pg TR RZ Q g w :=
 dS (kn := no) (l := []) h eP hr trivial
def anU (a0 a1 : aJ3) (w : aJ2) (R : K1) : Prop :=
 Ny R a0 a1 w
theorem akK {a0 a1 : aJ3} {w : aJ2} {R : K1} (h : anU a0 a1 w R) : aR pg Jb #[a0, a1] w R := by
 refine rQ (ann := TR) Tryd.f54 RZ [a0, a1] VV 33 TrydM.mixed Tryd.func54 ?_
 exact (acN _ _ _ R (fun _ _ h => h) h)
def MA : FA := ⟨Ba, fun i => .leaf ([], []) []⟩
def OP : List ResultVar := [.cell 2 35, .tmp 3]
noncomputable def JW : Code := cU Tryd.f55
def Et (R : K1) (aQ : aJ3) (w : aJ2) : Prop :=
 aC pg (bS 35) w fun t2 w =>
 aC pg (aG .lss 3 aM aM aQ (.int .i64 0)) w fun t5 w =>
 Gd (eX t5 false) (fun K => K aQ w) w fun t7 w =>
 Gd (eX t5 false) (fun K => aC pg (aG .gtr 3 aM aM t7 (.int .i64 2)) w K) w fun t8 w =>
 aC pg (fI t5 (.bool true) t8) w fun t9 w =>
 eM t9
  (aC pg (bV 35 []) w fun t10 w =>
  aC pg (aJ 35 t2 t10) w fun _u w =>
  kI pg 35 t2 w fun r0 => R (.tuple #[r0, (.int .i64 1)]) w)
  (aR pg F9 #[aQ] w fun t12 w =>
  aR pg AQ #[t12] w fun t13 w =>
  aC pg (aW t13 0) w fun t14 w =>
  aC pg (aW t13 1) w fun t15 w =>
  aC pg (aJ 35 t2 t14) w fun _u w =>
  kI pg 35 t2 w fun r0 => R (.tuple #[r0, t15]) w)
theorem Vx (R : K1) (hr : HR OP R Q) (h : Et R (g 0) w) : bH pg MA JW Q g w :=
 dS (kn := no) (l := []) h eP hr trivial
def Wa (a0 : aJ3) (w : aJ2) (R : K1) : Prop :=
 Et R a0 w
theorem WJ {a0 : aJ3} {w : aJ2} {R : K1} (h : Wa a0 w R) : aR pg Ba #[a0] w R := by
 refine rQ (ann := MA) Tryd.f55 JW [a0] OP 16 TrydM.mixed Tryd.func55 ?_
 exact (Vx _ _ _ R (fun _ _ h => h) h)
def VX : FA := ⟨Mh, fun i => .leaf ([], []) []⟩
def YS : List ResultVar := [.cell 2 35]
noncomputable def TG : Code := cU Tryd.f56
def P6 (R : K1) (aoT : aJ3) (w : aJ2) : Prop :=
 aC pg (bS 35) w fun t2 w =>
 aC pg (bV 139 [(0, aoT)]) w fun t4 w =>
 aC pg (bX 33 1 [(0, t4)]) w fun t5 w =>
 aC pg (bV 35 [(1, t5)]) w fun t6 w =>
 aC pg (aJ 35 t2 t6) w fun _u w =>
 kI pg 35 t2 w fun r0 => R r0 w
theorem alE (R : K1) (hr : HR YS R Q) (h : P6 R (g 0) w) : bH pg VX TG Q g w :=
 dS (kn := no) (l := []) h eP hr trivial
def arA (a0 : aJ3) (w : aJ2) (R : K1) : Prop :=
 P6 R a0 w
theorem aoX {a0 : aJ3} {w : aJ2} {R : K1} (h : arA a0 w R) : aR pg Mh #[a0] w R := by
 refine rQ (ann := VX) Tryd.f56 TG [a0] YS 7 TrydM.mixed Tryd.func56 ?_
 exact (alE _ _ _ R (fun _ _ h => h) h)
def eU : FA := ⟨IM, fun i => match Nat.beq i 30 with | true => .leaf ([2, 3], [(0, 2)]) [(false, []), (false, []), (true, [1]), (true, []), (false, []), (false, [])] | false => .leaf ([], []) []⟩
def jT : List ResultVar := [.cell 6 130, .tmp 7, .tmp 8]
noncomputable def eE : Code := cU Tryd.f57
def Fw (R : K1) (t6 kE dQ : aJ3) (w : aJ2) : Prop :=
 aC pg (aH 130 dQ) (dr w) fun t111 w_ => w_ = (dr w) /\
 aC pg (aH 164 kE) (dr w) fun t112 w_ => w_ = (dr w) /\
 aR pg I5 #[t112] (dr w) fun t113 aFt =>
 (eD pg (aH 130 dQ) t111 aFt /\ True) /\
 aC pg (aJ 130 t6 t111) aFt fun _u3 arH =>
 arH = arH /\
 arH = arH /\
 kI pg 130 t6 arH fun r0 => R (.tuple #[r0, t113, (.int .i64 0)]) arH
theorem agK (R : K1) (hr : HR jT R Q) (h : Fw R (g 6) (g 9) (g 12) w) : bH pg eU (aB 1 (aB 7 eE)) Q g w :=
 dS (kn := no) (l := []) h eP hr trivial
def Fy (kn : K5) (R : K1) (aO t6 kE dQ aU : aJ3) (w : aJ2) : Prop :=
 aC pg (aL 130 dQ 1) w fun t101 w =>
 aC pg (aH 77 t101) w fun t102 w =>
 aC pg (jM .len #[77] 3 [t102]) w fun t103 w =>
 aC pg (aG .gtr 3 aM aM t103 aO) w fun t105 w =>
 Gd (eX t105 false) (fun K => K aU w) w fun t107 w =>
 Gd (eX t105 false) (fun K => aC pg (aG .lss 3 aM aM t107 (.int .i64 0)) w K) w fun t108 w =>
 aC pg (fI t105 (.bool true) t108) w fun t109 w =>
 eM t109
  (aC pg (bV 130 []) w fun t110 w =>
  aC pg (aJ 130 t6 t110) w fun _u w =>
  kI pg 130 t6 w fun r0 => R (.tuple #[r0, (.int .i64 0), (.int .i64 11)]) w)
  (kn aO t6 kE dQ aU w)
theorem adD (kn : K5) (R : K1) (hn : N5 Q kn 2 6 9 12 13) (hr : HR jT R Q) (h : Fy kn R (g 2) (g 6) (g 9) (g 12) (g 13) w) : bH pg eU (aB 1 (aB 1 (aB 5 (bI (aB 1 (bI (bI (aD 1 (aB 7 eE))))))))) Q g w :=
 dS (l := []) h hn hr trivial
def FR (kn : K6) (aO t6 kE vN dQ aU : aJ3) (w : aJ2) : Prop :=
 aC pg (aG .eql 73 (.tmp 99) (.const (.int .u64 3)) vN (.int .u64 3)) w fun t100 w =>
 kn aO t6 kE dQ aU t100 w
theorem aeH (kn : K6) (hn : N6 Q kn 2 6 9 12 13 15) (h : FR kn (g 2) (g 6) (g 9) (g 10) (g 12) (g 13) w) : bH pg eU (aB 1 (aB 2 (bI (aB 1 (bI (bI (aD 1 (aB 1 (aB 5 (bI (aB 1 (bI (bI (aD 1 (aB 7 eE))))))))))))))) Q g w :=
 dS (kr := no) (l := []) h hn eP trivial
def F3 (kn : K7) (k4 : K6) (aO t6 kE vN dQ aU Vz : aJ3) (w : aJ2) : Prop :=
 aC pg (fL 73 3 vN) w fun t90 w =>
 aC pg (aG .lss 3 aM aM Vz t90) w fun t91 w =>
 eM t91
  (aC pg (aL 130 dQ 1) w fun t94 w =>
  aC pg (aH 77 t94) w fun t95 w =>
  aC pg (bX 77 1 [(0, (.int .i64 0))]) w fun t96 w =>
  aC pg (jM .append #[77, 77] 77 [t95, t96]) w fun t97 w =>
  aC pg (aL 130 dQ 1) w fun t98 w =>
  aC pg (aJ 77 t98 t97) w fun _u w =>
  aC pg (aG .add 3 aM aM Vz (.int .i64 1)) w fun t93 w =>
  kn aO t6 kE vN dQ aU t93 w)
  (k4 aO t6 kE vN dQ aU w)
theorem afR (kn : K7) (k4 : K6) (hn : N7 Q kn 2 6 9 10 12 13 16) (h4 : E6 Q k4 4 2 6 9 10 12 13) (h : F3 kn k4 (g 2) (g 6) (g 9) (g 10) (g 12) (g 13) (g 16) w) : bH pg eU (bI (bI (aB 1 (aD 1 (aB 2 (bI (aB 1 (bI (bI (aD 1 (aB 1 (aB 5 (bI (aB 1 (bI (bI (aD 1 (aB 7 eE)))))))))))))))))) Q g w :=
 dS (kr := no) (l := [(4, fun g w => k4 (g 2) (g 6) (g 9) (g 10) (g 12) (g 13) w)]) h hn eP ⟨h4, trivial⟩
def NX (k4 : K6) (aO t6 kE vN dQ aU Vz : aJ3) (w : aJ2) : Prop :=
 cG (fun (X : aJ3 -> K0) (t : aJ3) (w : aJ2) => F3 (fun _ _ _ _ _ _ Vz w => X Vz w) k4 aO t6 kE vN dQ aU t w) Vz w
theorem abT (k4 : K6) (h4 : E6 Q k4 4 2 6 9 10 12 13) (h : NX k4 (g 2) (g 6) (g 9) (g 10) (g 12) (g 13) (g 16) w) : bH pg eU (bI (aB 1 (aD 1 (aB 2 (bI (aB 1 (bI (bI (aD 1 (aB 1 (aB 5 (bI (aB 1 (bI (bI (aD 1 (aB 7 eE))))))))))))))))) Q g w := by
 refine Db (fun g : Env => g 16) (fun X t w => F3 (fun _ _ _ _ _ _ Vz w => X Vz w) k4 (g 2) (g 6) (g 9) (g 10) (g 12) (g 13) t w) h (fun X g1 w1 ha hL => ?_)
 rw [<- fF 2 ha, <- fF 6 ha, <- fF 9 ha, <- fF 10 ha, <- fF 12 ha, <- fF 13 ha] at hL
 exact (afR _ g1 w1 (fun _ _ _ _ _ _ Vz w => X Vz w) k4 (fun _ _ h => h) h4 hL)
def MX (kn : K6) (aO t6 kE vN dQ aU Vz : aJ3) (w : aJ2) : Prop :=
 NX kn aO t6 kE vN dQ aU Vz w
def MZ (kn : K7) (aO t6 kE vN dQ aU : aJ3) (w : aJ2) : Prop :=
 kn aO t6 kE vN dQ aU (.int .i64 0) w
theorem aeP (kn : K7) (hn : N7 Q kn 2 6 9 10 12 13 16) (h : MZ kn (g 2) (g 6) (g 9) (g 10) (g 12) (g 13) w) : bH pg eU (aD 1 (aD 1 (aB 2 (bI (aB 1 (bI (bI (aD 1 (aB 1 (aB 5 (bI (aB 1 (bI (bI (aD 1 (aB 7 eE)))))))))))))))) Q g w :=
 dS (kr := no) (l := []) h hn eP trivial
def NW (kn : K6) (aO t6 kE vN dQ aU : aJ3) (w : aJ2) : Prop :=
 MZ (fun aO t6 kE vN dQ aU Vz w => MX kn aO t6 kE vN dQ aU Vz w) aO t6 kE vN dQ aU w
def FV (kn : K6) (aO t6 kE vN dQ aU : aJ3) (w : aJ2) : Prop :=
 NW (fun aO t6 kE vN dQ aU w => FR kn aO t6 kE vN dQ aU w) aO t6 kE vN dQ aU w
theorem agZ (kn : K6) (hn : N6 Q kn 2 6 9 10 12 13) (h : NW kn (g 2) (g 6) (g 9) (g 10) (g 12) (g 13) w) : bH pg eU (aD 1 (aB 2 (bI (aB 1 (bI (bI (aD 1 (aB 1 (aB 5 (bI (aB 1 (bI (bI (aD 1 (aB 7 eE))))))))))))))) Q g w :=
 fP 1 (aeP _ g w (MX kn) (fun g w h => aK (uH 4 (abT _ g w kn hn h))) h)
def Ku (kn : K6) (R : K1) (aO t6 kE dQ aU : aJ3) (w : aJ2) : Prop :=
 aC pg (aH 164 kE) w fun t79 w =>
 aR pg pZ #[t79, (.int .i64 2)] w fun t80 w =>
 aC pg (aW t80 0) w fun t81 w =>
 aC pg (aW t80 1) w fun t82 w =>
 aC pg (aW t80 2) w fun t83 w =>
 aC pg (aJ 164 kE t81) w fun _u w =>
 aC pg (aG .neq 30 (.tmp 84) (.const (.int .i64 0)) t83 (.int .i64 0)) w fun t85 w =>
 eM t85
  (aC pg (bV 130 []) w fun t86 w =>
  aC pg (aJ 130 t6 t86) w fun _u w =>
  kI pg 130 t6 w fun r0 => R (.tuple #[r0, (.int .i64 0), t83]) w)
  (kn aO t6 kE t82 dQ aU w)
theorem ZT (kn : K6) (R : K1) (hn : N6 Q kn 2 6 9 10 12 13) (hr : HR jT R Q) (h : Ku kn R (g 2) (g 6) (g 9) (g 12) (g 13) w) : bH pg eU (aD 2 (bI (aB 1 (bI (bI (aD 1 (aB 1 (aB 5 (bI (aB 1 (bI (bI (aD 1 (aB 7 eE)))))))))))))) Q g w :=
 dS (l := []) h hn hr trivial
def Um (kn : K6) (R : K1) (aO t6 kE dQ aU : aJ3) (w : aJ2) : Prop :=
 Ku (fun aO t6 kE vN dQ aU w => FV kn aO t6 kE vN dQ aU w) R aO t6 kE dQ aU w
def Li (kn : K6) (R : K1) (aO t6 kE dQ aU : aJ3) (w : aJ2) : Prop :=
 Um kn R aO t6 kE dQ aU w
def Ly (kn : K5) (k2 : K5) (aO t6 kE dQ aU t15 : aJ3) (w : aJ2) : Prop :=
 eM t15
  (kn aO t6 kE dQ aU w)
  (k2 aO t6 kE dQ aU w)
theorem Ze (kn : K5) (k2 : K5) (hn : N5 Q kn 2 6 9 12 13) (h2 : E5 Q k2 2 2 6 9 12 13) (h : Ly kn k2 (g 2) (g 6) (g 9) (g 12) (g 13) (g 15) w) : bH pg eU (aD 1 (bI (bI (aD 1 (aB 1 (aB 5 (bI (aB 1 (bI (bI (aD 1 (aB 7 eE)))))))))))) Q g w :=
 dS (kr := no) (l := [(2, fun g w => k2 (g 2) (g 6) (g 9) (g 12) (g 13) w)]) h hn eP ⟨h2, trivial⟩
def DC (kn : K6) (k2 : K5) (R : K1) (aO t6 kE dQ aU t15 : aJ3) (w : aJ2) : Prop :=
 Ly (fun aO t6 kE dQ aU w => Li kn R aO t6 kE dQ aU w) k2 aO t6 kE dQ aU t15 w
def JP (k2 : K5) (R : K1) (aO t6 kE dQ aU t15 : aJ3) (w : aJ2) : Prop :=
 cG (fun (X : aJ3 -> K0) (t : aJ3) (w : aJ2) => DC (fun _ _ _ _ _ t15 w => X t15 w) k2 R aO t6 kE dQ aU t w) t15 w
theorem Zd (kn : K6) (k2 : K5) (R : K1) (hn : N6 Q kn 2 6 9 12 13 15) (h2 : E5 Q k2 2 2 6 9 12 13) (hr : HR jT R Q) (h : DC kn k2 R (g 2) (g 6) (g 9) (g 12) (g 13) (g 15) w) : bH pg eU (bI (bI (aD 1 (aB 1 (aB 5 (bI (aB 1 (bI (bI (aD 1 (aB 7 eE))))))))))) Q g w :=
 fP 1 (Ze _ g w (Li kn R) k2 (fun g w h => aK (uH 3 (fP 2 (ZT _ g w (FV kn) R (fun g w h => aK (fP 1 (agZ _ g w (FR kn) (fun g w h => aK (aeH _ g w kn hn h)) h))) hr h)))) h2 h)
theorem Yl (k2 : K5) (R : K1) (h2 : E5 Q k2 2 2 6 9 12 13) (hr : HR jT R Q) (h : JP k2 R (g 2) (g 6) (g 9) (g 12) (g 13) (g 15) w) : bH pg eU (bI (aD 1 (aB 1 (aB 5 (bI (aB 1 (bI (bI (aD 1 (aB 7 eE)))))))))) Q g w := by
 refine Db (fun g : Env => g 15) (fun X t w => DC (fun _ _ _ _ _ t15 w => X t15 w) k2 R (g 2) (g 6) (g 9) (g 12) (g 13) t w) h (fun X g1 w1 ha hL => ?_)
 rw [<- fF 2 ha, <- fF 6 ha, <- fF 9 ha, <- fF 12 ha, <- fF 13 ha] at hL
 exact (Zd _ g1 w1 (fun _ _ _ _ _ t15 w => X t15 w) k2 R (fun _ _ h => h) h2 hr hL)
def Lv (kn : K5) (R : K1) (aO t6 kE dQ aU t15 : aJ3) (w : aJ2) : Prop :=
 JP kn R aO t6 kE dQ aU t15 w
def Kg (kn : K5) (R : K1) (aO t6 kE dQ aU t15 : aJ3) (w : aJ2) : Prop :=
 Lv (fun aO t6 kE dQ aU w => Fy kn R aO t6 kE dQ aU w) R aO t6 kE dQ aU t15 w
theorem Y8 (kn : K5) (R : K1) (hn : N5 Q kn 2 6 9 12 13) (hr : HR jT R Q) (h : Lv kn R (g 2) (g 6) (g 9) (g 12) (g 13) (g 15) w) : bH pg eU (aD 1 (aB 1 (aB 5 (bI (aB 1 (bI (bI (aD 1 (aB 7 eE))))))))) Q g w :=
 uH 2 (Yl _ g w kn R hn hr h)
def JQ (kn : K6) (aO t6 kE dQ aU ayX : aJ3) (w : aJ2) : Prop :=
 aC pg (aG .eql 3 (.tmp 75) (.const (.int .i64 1)) ayX (.int .i64 1)) w fun t76 w =>
 kn aO t6 kE dQ aU t76 w
theorem aaS (kn : K6) (hn : N6 Q kn 2 6 9 12 13 15) (h : JQ kn (g 2) (g 6) (g 9) (g 12) (g 13) (g 14) w) : bH pg eU (aD 1 (aB 5 (bI (aB 1 (bI (bI (aD 1 (aB 7 eE)))))))) Q g w :=
 dS (kr := no) (l := []) h hn eP trivial
def yE (kn : K5) (R : K1) (aO t6 kE dQ aU ayX : aJ3) (w : aJ2) : Prop :=
 JQ (fun aO t6 kE dQ aU t15 w => Kg kn R aO t6 kE dQ aU t15 w) aO t6 kE dQ aU ayX w
def Lq (kn : K6) (R : K1) (aO t6 kE dQ aU : aJ3) (w : aJ2) : Prop :=
 aC pg (aH 164 kE) w fun t50 w =>
 aR pg IZ #[t50, aU] w fun t52 w =>
 aC pg (aW t52 0) w fun t53 w =>
 aC pg (aW t52 1) w fun t54 w =>
 aC pg (aW t52 2) w fun t55 w =>
 aC pg (aJ 164 kE t53) w fun _u w =>
 aC pg (aG .neq 30 (.tmp 56) (.const (.int .i64 0)) t55 (.int .i64 0)) w fun t57 w =>
 eM t57
  (aC pg (bV 130 []) w fun t58 w =>
  aC pg (aJ 130 t6 t58) w fun _u w =>
  kI pg 130 t6 w fun r0 => R (.tuple #[r0, (.int .i64 0), t55]) w)
  (aC pg (aL 130 dQ 1) w fun t60 w =>
  aC pg (aH 77 t60) w fun t61 w =>
  aC pg (aG .sub 3 aM aM t54 (.int .i64 1)) w fun t63 w =>
  aC pg (bX 77 1 [(0, t63)]) w fun t64 w =>
  aC pg (jM .append #[77, 77] 77 [t61, t64]) w fun t65 w =>
  aC pg (aL 130 dQ 1) w fun t66 w =>
  aC pg (aJ 77 t66 t65) w fun _u w =>
  aC pg (aG .eql 3 (.tmp 67) (.const (.int .i64 0)) t54 (.int .i64 0)) w fun t68 w =>
  eM t68
   (aC pg (aG .sub 3 aM aM aU (.int .i64 1)) w fun t70 w =>
   kn aO t6 kE dQ t70 t54 w)
   (aC pg (aG .sub 3 aM aM t54 (.int .i64 1)) w fun t73 w =>
   aC pg (aG .sub 3 aM aM aU t73) w fun t74 w =>
   kn aO t6 kE dQ t74 t54 w))
theorem Yn (kn : K6) (R : K1) (hn : N6 Q kn 2 6 9 12 13 14) (hr : HR jT R Q) (h : Lq kn R (g 2) (g 6) (g 9) (g 12) (g 13) w) : bH pg eU (aD 5 (bI (aB 1 (bI (bI (aD 1 (aB 7 eE))))))) Q g w :=
 dS (l := []) h hn hr trivial
def UK (kn : K5) (R : K1) (aO t6 kE dQ aU : aJ3) (w : aJ2) : Prop :=
 Lq (fun aO t6 kE dQ aU ayX w => yE kn R aO t6 kE dQ aU ayX w) R aO t6 kE dQ aU w
def JK (kn : K5) (R : K1) (aO t6 kE dQ aU : aJ3) (w : aJ2) : Prop :=
 UK kn R aO t6 kE dQ aU w
def KG (kn : K5) (k0 : K3) (aO t6 kE dQ aU : aJ3) (w : aJ2) : Prop :=
 aC pg (aG .gtr 3 aM aM aU (.int .i64 0)) w fun t48 w =>
 eM t48
  (kn aO t6 kE dQ aU w)
  (k0 t6 kE dQ w)
theorem Zj (kn : K5) (k0 : K3) (hn : N5 Q kn 2 6 9 12 13) (h0 : E3 Q k0 0 6 9 12) (h : KG kn k0 (g 2) (g 6) (g 9) (g 12) (g 13) w) : bH pg eU (aD 1 (bI (bI (aD 1 (aB 7 eE))))) Q g w :=
 dS (kr := no) (l := [(0, fun g w => k0 (g 6) (g 9) (g 12) w)]) h hn eP ⟨h0, trivial⟩
def C4 (kn : K5) (k0 : K3) (R : K1) (aO t6 kE dQ aU : aJ3) (w : aJ2) : Prop :=
 KG (fun aO t6 kE dQ aU w => JK kn R aO t6 kE dQ aU w) k0 aO t6 kE dQ aU w
def J1 (k0 : K3) (R : K1) (aO t6 kE dQ aU : aJ3) (w : aJ2) : Prop :=
 cG (fun (X : aJ3 -> K0) (t : aJ3) (w : aJ2) => C4 (fun _ _ _ _ aU w => X aU w) k0 R aO t6 kE dQ t w) aU w
theorem YH (kn : K5) (k0 : K3) (R : K1) (hn : N5 Q kn 2 6 9 12 13) (h0 : E3 Q k0 0 6 9 12) (hr : HR jT R Q) (h : C4 kn k0 R (g 2) (g 6) (g 9) (g 12) (g 13) w) : bH pg eU (bI (bI (aD 1 (aB 7 eE)))) Q g w :=
 fP 1 (Zj _ g w (JK kn R) k0 (fun g w h => aK (uH 1 (fP 5 (Yn _ g w (yE kn R) R (fun g w h => aK (fP 1 (aaS _ g w (Kg kn R) (fun g w h => aK (fP 1 (Y8 _ g w (Fy kn R) R (fun g w h => aK (adD _ g w kn R hn hr h)) hr h))) h))) hr h)))) h0 h)
theorem aaO (k0 : K3) (R : K1) (h0 : E3 Q k0 0 6 9 12) (hr : HR jT R Q) (h : J1 k0 R (g 2) (g 6) (g 9) (g 12) (g 13) w) : bH pg eU (bI (aD 1 (aB 7 eE))) Q g w := by
 refine Db (fun g : Env => g 13) (fun X t w => C4 (fun _ _ _ _ aU w => X aU w) k0 R (g 2) (g 6) (g 9) (g 12) t w) h (fun X g1 w1 ha hL => ?_)
 rw [<- fF 2 ha, <- fF 6 ha, <- fF 9 ha, <- fF 12 ha] at hL
 exact (YH _ g1 w1 (fun _ _ _ _ aU w => X aU w) k0 R (fun _ _ h => h) h0 hr hL)
def JV (kn : K3) (R : K1) (aO t6 kE dQ aU : aJ3) (w : aJ2) : Prop :=
 J1 kn R aO t6 kE dQ aU w
def Df (R : K1) (aO t6 kE dQ aU : aJ3) (w : aJ2) : Prop :=
 JV (fun t6 kE dQ w => Fw R t6 kE dQ w) R aO t6 kE dQ aU w
theorem aaR (kn : K3) (R : K1) (hn : N3 Q kn 6 9 12) (hr : HR jT R Q) (h : JV kn R (g 2) (g 6) (g 9) (g 12) (g 13) w) : bH pg eU (aD 1 (aB 7 eE)) Q g w :=
 uH 0 (aaO _ g w kn R hn hr h)
def KZ (kn : K5) (R : K1) (D3 La aO : aJ3) (w : aJ2) : Prop :=
 aC pg (bS 130) w fun t6 w =>
 aR pg D2 #[D3] w fun t18 w =>
 aC pg (bV 164 [(0, t18)]) w fun t19 w =>
 aC pg (bS 164) w fun kE w =>
 aC pg (aJ 164 kE t19) w fun _u w =>
 aC pg (aH 164 kE) w fun t21 w =>
 aR pg pZ #[t21, (.int .i64 4)] w fun t22 w =>
 aC pg (aW t22 0) w fun t23 w =>
 aC pg (aW t22 1) w fun t24 w =>
 aC pg (aW t22 2) w fun t25 w =>
 aC pg (aJ 164 kE t23) w fun _u w =>
 aC pg (aG .neq 30 (.tmp 26) (.const (.int .i64 0)) t25 (.int .i64 0)) w fun t27 w =>
 eM t27
  (aC pg (bV 130 []) w fun t28 w =>
  aC pg (aJ 130 t6 t28) w fun _u w =>
  kI pg 130 t6 w fun r0 => R (.tuple #[r0, (.int .i64 0), t25]) w)
  (aC pg (fL 73 3 t24) w fun t31 w =>
  aC pg (aG .add 3 aM aM t31 (.int .i64 5)) w fun t32 w =>
  aC pg (bV 130 [(0, t32)]) w fun t33 w =>
  aC pg (bS 130) w fun dQ w =>
  aC pg (aJ 130 dQ t33) w fun _u w =>
  aC pg (aL 130 dQ 0) w fun t34 w =>
  aC pg (aH 3 t34) w fun t35 w =>
  aC pg (aG .gtr 3 aM aM t35 La) w fun t37 w =>
  Gd (eX t37 false) (fun K => aC pg (aL 130 dQ 0) w K) w fun t39 w =>
  Gd (eX t37 false) (fun K => aC pg (aH 3 t39) w K) w fun t40 w =>
  Gd (eX t37 false) (fun K => aC pg (aG .gtr 3 aM aM t40 (.int .i64 15)) w K) w fun t41 w =>
  aC pg (fI t37 (.bool true) t41) w fun t42 w =>
  eM t42
   (aC pg (bV 130 []) w fun t43 w =>
   aC pg (aJ 130 t6 t43) w fun _u w =>
   kI pg 130 t6 w fun r0 => R (.tuple #[r0, (.int .i64 0), (.int .i64 12)]) w)
   (aC pg (aL 130 dQ 0) w fun t44 w =>
   aC pg (aH 3 t44) w fun t45 w =>
   aR pg mO #[t45] w fun t46 w =>
   kn aO t6 kE dQ t46 w))
theorem aaC (kn : K5) (R : K1) (hn : N5 Q kn 2 6 9 12 13) (hr : HR jT R Q) (h : KZ kn R (g 0) (g 1) (g 2) w) : bH pg eU (aD 7 eE) Q g w :=
 dS (l := []) h hn hr trivial
def KJ (R : K1) (D3 La aO : aJ3) (w : aJ2) : Prop :=
 KZ (fun aO t6 kE dQ aU w => Df R aO t6 kE dQ aU w) R D3 La aO w
theorem aaT (R : K1) (hr : HR jT R Q) (h : KJ R (g 0) (g 1) (g 2) w) : bH pg eU eE Q g w :=
 fP 7 (aaC _ g w (Df R) R (fun g w h => aK (fP 1 (aaR _ g w (Fw R) R (fun g w h => aK (agK _ g w R hr h)) hr h))) hr h)
def amE (a0 a1 a2 : aJ3) (w : aJ2) (R : K1) : Prop :=
 KJ R a0 a1 a2 w
theorem alG {a0 a1 a2 : aJ3} {w : aJ2} {R : K1} (h : amE a0 a1 a2 w R) : aR pg IM #[a0, a1, a2] w R := by
 refine rQ (ann := eU) Tryd.f57 eE [a0, a1, a2] jT 114 TrydM.mixed Tryd.func57 ?_
 exact (aaT _ _ _ R (fun _ _ h => h) h)
def Tp : FA := ⟨I2, fun i => .leaf ([], []) []⟩
def VU : List ResultVar := [.tmp 2]
noncomputable def RY : Code := cU Tryd.f58
def Oe (R : K1) (aQ : aJ3) (w : aJ2) : Prop :=
 aC pg (aG .eql 3 (.tmp 3) (.const (.int .i64 0)) aQ (.int .i64 0)) w fun t4 w =>
 Gd (eX t4 false) (fun K => K aQ w) w fun t6 w =>
 Gd (eX t4 false) (fun K => aC pg (aG .eql 3 (.tmp 6) (.const (.int .i64 2)) t6 (.int .i64 2)) w K) w fun t7 w =>
 aC pg (fI t4 (.bool true) t7) w fun t8 w =>
 eM t8
  (R (.int .i64 9) w)
  (aC pg (aG .eql 3 (.tmp 9) (.const (.int .i64 1)) aQ (.int .i64 1)) w fun t10 w =>
  eM t10
   (R (.int .i64 8) w)
   (R (.int .i64 0) w))
theorem abW (R : K1) (hr : HR VU R Q) (h : Oe R (g 0) w) : bH pg Tp RY Q g w :=
 dS (kn := no) (l := []) h eP hr trivial
def apG (a0 : aJ3) (w : aJ2) (R : K1) : Prop :=
 Oe R a0 w
theorem aiW {a0 : aJ3} {w : aJ2} {R : K1} (h : apG a0 w R) : aR pg I2 #[a0] w R := by
 refine rQ (ann := Tp) Tryd.f58 RY [a0] VU 11 TrydM.mixed Tryd.func58 ?_
 exact (abW _ _ _ R (fun _ _ h => h) h)
def bC : FA := ⟨AQ, fun i => match Nat.beq i 46 with | true => .leaf ([5, 11], [(0, 5), (1, 5)]) [(false, []), (false, []), (false, []), (false, []), (false, []), (true, [3, 4]), (false, []), (false, []), (false, []), (false, []), (false, []), (true, [])] | false => .leaf ([], []) []⟩
def mR : List ResultVar := [.cell 2 35, .tmp 3]
noncomputable def aZ : Code := cU Tryd.f59
def D1 (R : K1) (t2 t6 : aJ3) (w : aJ2) : Prop :=
 aC pg (aH 35 t6) w fun t184 w =>
 aC pg (aJ 35 t2 t184) w fun _u w =>
 kI pg 35 t2 w fun r0 => R (.tuple #[r0, (.int .i64 0)]) w
theorem YT (R : K1) (hr : HR mR R Q) (h : D1 R (g 2) (g 6) w) : bH pg bC (aB 1 (aB 1 (aB 1 (aB 1 (aB 1 (aB 1 (aB 1 (aB 5 aZ)))))))) Q g w :=
 dS (kn := no) (l := []) h eP hr trivial
def xT (kn : K6) (bJ t2 eK t6 cC jO : aJ3) (w : aJ2) : Prop :=
 aC pg (aG .add 3 aM aM jO (.int .i64 1)) w fun t121 w =>
 kn bJ t2 eK t6 cC t121 w
theorem Zs (kn : K6) (hn : N6 Q kn 1 2 5 6 14 15) (h : xT kn (g 1) (g 2) (g 5) (g 6) (g 14) (g 15) w) : bH pg bC (aB 1 (aB 1 (bI (bI (aB 1 (aD 1 (aB 1 (aB 1 (aB 1 (aB 1 (aB 1 (aB 1 (aB 5 aZ))))))))))))) Q g w :=
 dS (kr := no) (l := []) h hn eP trivial
def DF (kn : K6) (bJ t2 eK t6 cC jO Rf lK : aJ3) (w : aJ2) : Prop :=
 aC pg (aL 35 t6 1) w fun t167 w =>
 aC pg (aH 33 t167) w fun t168 w =>
 aC pg (bA 33 t168 jO) w fun t171 w =>
 aC pg (aL 139 t171 1) w fun t172 w =>
 aC pg (aJ 3 t172 lK) w fun _u w =>
 aC pg (aL 35 t6 1) (dr w) fun t173 w_ => w_ = (dr w) /\
 aC pg (aH 33 t173) (dr w) fun t174 w_ => w_ = (dr w) /\
 (dr w) = (dr w) /\
 (dr w) = (dr w) /\
 (dr w) = (dr w) /\
 aR pg mO #[lK] (dr w) fun t178 Pb =>
 (eD pg (aH 33 t173) t174 Pb /\ eD pg (aL 35 t6 1) t173 Pb /\ True) /\
 aC pg (aG .mul 3 aM aM Rf t178) Pb fun t179 w_ => w_ = Pb /\
 Pb = Pb /\
 aC pg (aG .sub 3 aM aM t179 eK) Pb fun t181 w_ => w_ = Pb /\
 aC pg (bA 33 t174 jO) Pb fun t182 w_ => w_ = Pb /\
 aC pg (aL 139 t182 2) Pb fun t183 w_ => w_ = Pb /\
 aC pg (aJ 3 t183 t181) Pb fun _u11 aFY =>
 kn bJ t2 eK t6 cC jO aFY
theorem aaA (kn : K6) (hn : N6 Q kn 1 2 5 6 14 15) (h : DF kn (g 1) (g 2) (g 5) (g 6) (g 14) (g 15) (g 18) (g 19) w) : bH pg bC (aB 1 (aB 3 (aB 2 (aB 2 (bI (aD 1 (aB 1 (bI (bI (aB 1 (aD 1 (aB 1 (aB 1 (aB 1 (aB 1 (aB 1 (aB 1 (aB 5 aZ)))))))))))))))))) Q g w :=
 dS (kr := no) (l := []) h hn eP trivial
def Dn (kn : K8) (k12 : K8) (bJ t2 eK t6 cC jO Rf lK : aJ3) (w : aJ2) : Prop :=
 aC pg (aL 130 bJ 0) w fun t157 w =>
 aC pg (aH 3 t157) w fun t158 w =>
 aC pg (aG .sub 3 aM aM t158 lK) w fun t160 w =>
 aC pg (aG .add 3 aM aM t160 (.int .i64 1)) w fun t161 w =>
 aR pg mO #[t161] w fun t162 w =>
 aC pg (aG .leq 3 aM aM t162 Rf) w fun t164 w =>
 eM t164
  (aC pg (aG .sub 3 aM aM lK (.int .i64 1)) w fun t166 w =>
  kn bJ t2 eK t6 cC jO Rf t166 w)
  (k12 bJ t2 eK t6 cC jO Rf lK w)
theorem aaU (kn : K8) (k12 : K8) (hn : N8 Q kn 1 2 5 6 14 15 18 19) (h12 : E8 Q k12 12 1 2 5 6 14 15 18 19) (h : Dn kn k12 (g 1) (g 2) (g 5) (g 6) (g 14) (g 15) (g 18) (g 19) w) : bH pg bC (bI (bI (aD 1 (aB 3 (aB 2 (aB 2 (bI (aD 1 (aB 1 (bI (bI (aB 1 (aD 1 (aB 1 (aB 1 (aB 1 (aB 1 (aB 1 (aB 1 (aB 5 aZ)))))))))))))))))))) Q g w :=
 dS (kr := no) (l := [(12, fun g w => k12 (g 1) (g 2) (g 5) (g 6) (g 14) (g 15) (g 18) (g 19) w)]) h hn eP ⟨h12, trivial⟩
def CM (k12 : K8) (bJ t2 eK t6 cC jO Rf lK : aJ3) (w : aJ2) : Prop :=
 cG (fun (X : aJ3 -> K0) (t : aJ3) (w : aJ2) => Dn (fun _ _ _ _ _ _ _ lK w => X lK w) k12 bJ t2 eK t6 cC jO Rf t w) lK w
theorem ZD (k12 : K8) (h12 : E8 Q k12 12 1 2 5 6 14 15 18 19) (h : CM k12 (g 1) (g 2) (g 5) (g 6) (g 14) (g 15) (g 18) (g 19) w) : bH pg bC (bI (aD 1 (aB 3 (aB 2 (aB 2 (bI (aD 1 (aB 1 (bI (bI (aB 1 (aD 1 (aB 1 (aB 1 (aB 1 (aB 1 (aB 1 (aB 1 (aB 5 aZ))))))))))))))))))) Q g w := by
 refine Db (fun g : Env => g 19) (fun X t w => Dn (fun _ _ _ _ _ _ _ lK w => X lK w) k12 (g 1) (g 2) (g 5) (g 6) (g 14) (g 15) (g 18) t w) h (fun X g1 w1 ha hL => ?_)
 rw [<- fF 1 ha, <- fF 2 ha, <- fF 5 ha, <- fF 6 ha, <- fF 14 ha, <- fF 15 ha, <- fF 18 ha] at hL
 exact (aaU _ g1 w1 (fun _ _ _ _ _ _ _ lK w => X lK w) k12 (fun _ _ h => h) h12 hL)
def Lg (kn : K8) (bJ t2 eK t6 cC jO Rf lK : aJ3) (w : aJ2) : Prop :=
 CM kn bJ t2 eK t6 cC jO Rf lK w
def Lu (kn : K6) (bJ t2 eK t6 cC jO Rf lK : aJ3) (w : aJ2) : Prop :=
 Lg (fun bJ t2 eK t6 cC jO Rf lK w => DF kn bJ t2 eK t6 cC jO Rf lK w) bJ t2 eK t6 cC jO Rf lK w
theorem YV (kn : K8) (hn : N8 Q kn 1 2 5 6 14 15 18 19) (h : Lg kn (g 1) (g 2) (g 5) (g 6) (g 14) (g 15) (g 18) (g 19) w) : bH pg bC (aD 1 (aB 3 (aB 2 (aB 2 (bI (aD 1 (aB 1 (bI (bI (aB 1 (aD 1 (aB 1 (aB 1 (aB 1 (aB 1 (aB 1 (aB 1 (aB 5 aZ)))))))))))))))))) Q g w :=
 uH 12 (ZD _ g w kn hn h)
def Kv (kn : K8) (bJ t2 eK t6 cC jO IV azD : aJ3) (w : aJ2) : Prop :=
 aC pg (bA 171 cC IV) w fun t146 w =>
 aC pg (aH 3 t146) w fun t147 w =>
 aC pg (aG .add 3 aM aM t147 azD) w fun t149 w =>
 aC pg (bA 171 cC IV) w fun t151 w =>
 aC pg (aH 3 t151) w fun t152 w =>
 aC pg (aG .add 3 aM aM t152 (.int .i64 1)) w fun t153 w =>
 aC pg (bA 171 cC IV) w fun t154 w =>
 aC pg (aJ 3 t154 t153) w fun _u w =>
 aC pg (aL 130 bJ 0) w fun t155 w =>
 aC pg (aH 3 t155) w fun t156 w =>
 kn bJ t2 eK t6 cC jO t149 t156 w
theorem YX (kn : K8) (hn : N8 Q kn 1 2 5 6 14 15 18 19) (h : Kv kn (g 1) (g 2) (g 5) (g 6) (g 14) (g 15) (g 16) (g 17) w) : bH pg bC (aD 3 (aB 2 (aB 2 (bI (aD 1 (aB 1 (bI (bI (aB 1 (aD 1 (aB 1 (aB 1 (aB 1 (aB 1 (aB 1 (aB 1 (aB 5 aZ))))))))))))))))) Q g w :=
 dS (kr := no) (l := []) h hn eP trivial
def DA (kn : K6) (bJ t2 eK t6 cC jO IV azD : aJ3) (w : aJ2) : Prop :=
 Kv (fun bJ t2 eK t6 cC jO Rf lK w => Lu kn bJ t2 eK t6 cC jO Rf lK w) bJ t2 eK t6 cC jO IV azD w
def G3 (kn : K8) (bJ t2 eK t6 cC jO IV : aJ3) (w : aJ2) : Prop :=
 aC pg (aL 130 bJ 1) w fun t138 w =>
 aC pg (aH 77 t138) w fun t139 w =>
 aC pg (bA 77 t139 IV) w fun t141 w =>
 aC pg (aH 3 t141) w fun t142 w =>
 aC pg (aG .lss 3 aM aM t142 (.int .i64 0)) w fun t144 w =>
 eM t144
  (kn bJ t2 eK t6 cC jO IV (.int .i64 1) w)
  (kn bJ t2 eK t6 cC jO IV t142 w)
theorem W8 (kn : K8) (hn : N8 Q kn 1 2 5 6 14 15 16 17) (h : G3 kn (g 1) (g 2) (g 5) (g 6) (g 14) (g 15) (g 16) w) : bH pg bC (aD 2 (aB 2 (bI (aD 1 (aB 1 (bI (bI (aB 1 (aD 1 (aB 1 (aB 1 (aB 1 (aB 1 (aB 1 (aB 1 (aB 5 aZ)))))))))))))))) Q g w :=
 dS (kr := no) (l := []) h hn eP trivial
def Iq (kn : K6) (bJ t2 eK t6 cC jO IV : aJ3) (w : aJ2) : Prop :=
 G3 (fun bJ t2 eK t6 cC jO IV azD w => DA kn bJ t2 eK t6 cC jO IV azD w) bJ t2 eK t6 cC jO IV w
def Ih (kn : K7) (R : K1) (bJ t2 eK t6 cC jO : aJ3) (w : aJ2) : Prop :=
 aC pg (aL 35 t6 1) w fun t122 w =>
 aC pg (aH 33 t122) w fun t123 w =>
 aC pg (bA 33 t123 jO) w fun t125 w =>
 aC pg (aL 139 t125 0) w fun t126 w =>
 aC pg (aH 3 t126) w fun t127 w =>
 aC pg (aG .lss 3 aM aM t127 (.int .i64 0)) w fun t129 w =>
 Gd (eX t129 false) (fun K => K t127 w) w fun t131 w =>
 Gd (eX t129 false) (fun K => aC pg (aL 130 bJ 1) w K) w fun t132 w =>
 Gd (eX t129 false) (fun K => aC pg (aH 77 t132) w K) w fun t133 w =>
 Gd (eX t129 false) (fun K => aC pg (jM .len #[77] 3 [t133]) w K) w fun t134 w =>
 Gd (eX t129 false) (fun K => aC pg (aG .geq 3 aM aM t131 t134) w K) w fun t135 w =>
 aC pg (fI t129 (.bool true) t135) w fun t136 w =>
 eM t136
  (aC pg (bV 35 []) w fun t137 w =>
  aC pg (aJ 35 t2 t137) w fun _u w =>
  kI pg 35 t2 w fun r0 => R (.tuple #[r0, (.int .i64 1)]) w)
  (kn bJ t2 eK t6 cC jO t127 w)
theorem Xc (kn : K7) (R : K1) (hn : N7 Q kn 1 2 5 6 14 15 16) (hr : HR mR R Q) (h : Ih kn R (g 1) (g 2) (g 5) (g 6) (g 14) (g 15) w) : bH pg bC (aD 2 (bI (aD 1 (aB 1 (bI (bI (aB 1 (aD 1 (aB 1 (aB 1 (aB 1 (aB 1 (aB 1 (aB 1 (aB 5 aZ))))))))))))))) Q g w :=
 dS (l := []) h hn hr trivial
def RH (kn : K6) (R : K1) (bJ t2 eK t6 cC jO : aJ3) (w : aJ2) : Prop :=
 Ih (fun bJ t2 eK t6 cC jO IV w => Iq kn bJ t2 eK t6 cC jO IV w) R bJ t2 eK t6 cC jO w
def H9 (kn : K6) (R : K1) (bJ t2 eK t6 cC jO : aJ3) (w : aJ2) : Prop :=
 RH kn R bJ t2 eK t6 cC jO w
def Bb (kn : K6) (R : K1) (bJ t2 eK t6 cC jO : aJ3) (w : aJ2) : Prop :=
 H9 (fun bJ t2 eK t6 cC jO w => xT kn bJ t2 eK t6 cC jO w) R bJ t2 eK t6 cC jO w
theorem W5 (kn : K6) (R : K1) (hn : N6 Q kn 1 2 5 6 14 15) (hr : HR mR R Q) (h : H9 kn R (g 1) (g 2) (g 5) (g 6) (g 14) (g 15) w) : bH pg bC (aD 1 (aB 1 (bI (bI (aB 1 (aD 1 (aB 1 (aB 1 (aB 1 (aB 1 (aB 1 (aB 1 (aB 5 aZ))))))))))))) Q g w :=
 uH 11 (fP 2 (Xc _ g w (Iq kn) R (fun g w h => aK (fP 2 (W8 _ g w (DA kn) (fun g w h => aK (fP 3 (YX _ g w (Lu kn) (fun g w h => aK (fP 1 (YV _ g w (DF kn) (fun g w h => aK (aaA _ g w kn hn h)) h))) h))) h))) hr h))
def Ie (kn : K6) (k10 : K2) (bJ t2 eK t6 cC jO : aJ3) (w : aJ2) : Prop :=
 aC pg (aG .lss 3 aM aM jO eK) w fun t119 w =>
 eM t119
  (kn bJ t2 eK t6 cC jO w)
  (k10 t2 t6 w)
theorem W7 (kn : K6) (k10 : K2) (hn : N6 Q kn 1 2 5 6 14 15) (h10 : E2 Q k10 10 2 6) (h : Ie kn k10 (g 1) (g 2) (g 5) (g 6) (g 14) (g 15) w) : bH pg bC (aD 1 (bI (bI (aB 1 (aD 1 (aB 1 (aB 1 (aB 1 (aB 1 (aB 1 (aB 1 (aB 5 aZ)))))))))))) Q g w :=
 dS (kr := no) (l := [(10, fun g w => k10 (g 2) (g 6) w)]) h hn eP ⟨h10, trivial⟩
def A9 (kn : K6) (k10 : K2) (R : K1) (bJ t2 eK t6 cC jO : aJ3) (w : aJ2) : Prop :=
 Ie (fun bJ t2 eK t6 cC jO w => Bb kn R bJ t2 eK t6 cC jO w) k10 bJ t2 eK t6 cC jO w
def Ij (k10 : K2) (R : K1) (bJ t2 eK t6 cC jO : aJ3) (w : aJ2) : Prop :=
 cG (fun (X : aJ3 -> K0) (t : aJ3) (w : aJ2) => A9 (fun _ _ _ _ _ jO w => X jO w) k10 R bJ t2 eK t6 cC t w) jO w
theorem Wp (kn : K6) (k10 : K2) (R : K1) (hn : N6 Q kn 1 2 5 6 14 15) (h10 : E2 Q k10 10 2 6) (hr : HR mR R Q) (h : A9 kn k10 R (g 1) (g 2) (g 5) (g 6) (g 14) (g 15) w) : bH pg bC (bI (bI (aB 1 (aD 1 (aB 1 (aB 1 (aB 1 (aB 1 (aB 1 (aB 1 (aB 5 aZ))))))))))) Q g w :=
 fP 1 (W7 _ g w (Bb kn R) k10 (fun g w h => aK (fP 1 (W5 _ g w (xT kn) R (fun g w h => aK (Zs _ g w kn hn h)) hr h))) h10 h)
theorem XY (k10 : K2) (R : K1) (h10 : E2 Q k10 10 2 6) (hr : HR mR R Q) (h : Ij k10 R (g 1) (g 2) (g 5) (g 6) (g 14) (g 15) w) : bH pg bC (bI (aB 1 (aD 1 (aB 1 (aB 1 (aB 1 (aB 1 (aB 1 (aB 1 (aB 5 aZ)))))))))) Q g w := by
 refine Db (fun g : Env => g 15) (fun X t w => A9 (fun _ _ _ _ _ jO w => X jO w) k10 R (g 1) (g 2) (g 5) (g 6) (g 14) t w) h (fun X g1 w1 ha hL => ?_)
 rw [<- fF 1 ha, <- fF 2 ha, <- fF 5 ha, <- fF 6 ha, <- fF 14 ha] at hL
 exact (Wp _ g1 w1 (fun _ _ _ _ _ jO w => X jO w) k10 R (fun _ _ h => h) h10 hr hL)
def G7 (kn : K2) (R : K1) (bJ t2 eK t6 cC jO : aJ3) (w : aJ2) : Prop :=
 Ij kn R bJ t2 eK t6 cC jO w
def HF (kn : K6) (bJ t2 eK t6 cC : aJ3) (w : aJ2) : Prop :=
 kn bJ t2 eK t6 cC (.int .i64 0) w
theorem WN (kn : K6) (hn : N6 Q kn 1 2 5 6 14 15) (h : HF kn (g 1) (g 2) (g 5) (g 6) (g 14) w) : bH pg bC (aD 1 (aD 1 (aB 1 (aB 1 (aB 1 (aB 1 (aB 1 (aB 1 (aB 5 aZ))))))))) Q g w :=
 dS (kr := no) (l := []) h hn eP trivial
def Hl (kn : K2) (R : K1) (bJ t2 eK t6 cC : aJ3) (w : aJ2) : Prop :=
 HF (fun bJ t2 eK t6 cC jO w => G7 kn R bJ t2 eK t6 cC jO w) bJ t2 eK t6 cC w
def Hy (R : K1) (bJ t2 eK t6 cC : aJ3) (w : aJ2) : Prop :=
 Hl (fun t2 t6 w => D1 R t2 t6 w) R bJ t2 eK t6 cC w
theorem WA (kn : K2) (R : K1) (hn : N2 Q kn 2 6) (hr : HR mR R Q) (h : Hl kn R (g 1) (g 2) (g 5) (g 6) (g 14) w) : bH pg bC (aD 1 (aB 1 (aB 1 (aB 1 (aB 1 (aB 1 (aB 1 (aB 5 aZ)))))))) Q g w :=
 fP 1 (WN _ g w (G7 kn R) (fun g w h => aK (uH 10 (XY _ g w kn R hn hr h))) h)
def H3 (kn : K5) (bJ t2 eK t6 : aJ3) (w : aJ2) : Prop :=
 aC pg (bS 171) w fun cC w =>
 kn bJ t2 eK t6 cC w
theorem WD (kn : K5) (hn : N5 Q kn 1 2 5 6 14) (h : H3 kn (g 1) (g 2) (g 5) (g 6) w) : bH pg bC (aD 1 (aB 1 (aB 1 (aB 1 (aB 1 (aB 1 (aB 5 aZ))))))) Q g w :=
 dS (kr := no) (l := []) h hn eP trivial
def AZ (R : K1) (bJ t2 eK t6 : aJ3) (w : aJ2) : Prop :=
 H3 (fun bJ t2 eK t6 cC w => Hy R bJ t2 eK t6 cC w) bJ t2 eK t6 w
def Bj (kn : K7) (bJ t2 eK t6 t8 dX jG : aJ3) (w : aJ2) : Prop :=
 aC pg (aG .add 3 aM aM jG (.int .i64 1)) w fun t71 w =>
 kn bJ t2 eK t6 t8 dX t71 w
theorem XX (kn : K7) (hn : N7 Q kn 1 2 5 6 8 10 11) (h : Bj kn (g 1) (g 2) (g 5) (g 6) (g 8) (g 10) (g 11) w) : bH pg bC (aB 1 (aB 1 (bI (bI (aB 1 (aD 1 (aB 1 (aB 1 (aB 1 (aB 1 (aB 5 aZ))))))))))) Q g w :=
 dS (kr := no) (l := []) h hn eP trivial
def Bc (kn : K8) (bJ t2 eK t6 t8 dX jG qR : aJ3) (w : aJ2) : Prop :=
 aC pg (aG .add 3 aM aM qR (.int .i64 1)) w fun t80 w =>
 kn bJ t2 eK t6 t8 dX jG t80 w
theorem WG (kn : K8) (hn : N8 Q kn 1 2 5 6 8 10 11 12) (h : Bc kn (g 1) (g 2) (g 5) (g 6) (g 8) (g 10) (g 11) (g 12) w) : bH pg bC (aB 1 (aB 1 (bI (bI (aB 1 (bI (aD 1 (aB 1 (bI (bI (aB 1 (aD 1 (aB 1 (aB 1 (aB 1 (aB 1 (aB 5 aZ))))))))))))))))) Q g w :=
 dS (kr := no) (l := []) h hn eP trivial
def AW (kn : K9) (k8 : K8) (bJ t2 eK t6 t8 dX jG qR VD : aJ3) (w : aJ2) : Prop :=
 aC pg (aG .lss 3 aM aM VD eK) w fun t99 w =>
 Gd (eX t99 true) (fun K => K dX w) w fun t101 w =>
 Gd (eX t99 true) (fun K => K t8 w) w fun t102 w =>
 Gd (eX t99 true) (fun K => aC pg (aG .gtr 3 aM aM t101 t102) w K) w fun t103 w =>
 aC pg (fI t99 t103 (.bool false)) w fun t104 w =>
 eM t104
  (aC pg (aG .quo 3 aM aM eK (.int .i64 2)) w fun t109 w =>
  aC pg (aG .add 3 aM aM dX t109) w fun t110 w =>
  aC pg (aG .quo 3 aM aM eK (.int .i64 8)) w fun t112 w =>
  aC pg (aG .add 3 aM aM t110 t112) w fun t113 w =>
  aC pg (aG .add 3 aM aM t113 (.int .i64 3)) w fun t114 w =>
  aC pg (aG .rem 3 aM aM t114 eK) w fun t116 w =>
  aC pg (aG .add 3 aM aM VD (.int .i64 1)) w fun t106 w =>
  kn bJ t2 eK t6 t8 t116 jG qR t106 w)
  (k8 bJ t2 eK t6 t8 dX jG qR w)
theorem Ww (kn : K9) (k8 : K8) (hn : N9 Q kn 1 2 5 6 8 10 11 12 13) (h8 : E8 Q k8 8 1 2 5 6 8 10 11 12) (h : AW kn k8 (g 1) (g 2) (g 5) (g 6) (g 8) (g 10) (g 11) (g 12) (g 13) w) : bH pg bC (bI (bI (aB 3 (bI (aD 1 (aB 1 (bI (bI (aB 1 (bI (aD 1 (aB 1 (bI (bI (aB 1 (aD 1 (aB 1 (aB 1 (aB 1 (aB 1 (aB 5 aZ))))))))))))))))))))) Q g w :=
 dS (kr := no) (l := [(8, fun g w => k8 (g 1) (g 2) (g 5) (g 6) (g 8) (g 10) (g 11) (g 12) w)]) h hn eP ⟨h8, trivial⟩
def A0 (k8 : K8) (bJ t2 eK t6 t8 dX jG qR VD : aJ3) (w : aJ2) : Prop :=
 cG (fun (X : (aJ3 × aJ3) -> K0) (t : aJ3 × aJ3) (w : aJ2) => AW (fun _ _ _ _ _ dX _ _ VD w => X (dX, VD) w) k8 bJ t2 eK t6 t8 t.1 jG qR t.2 w) (dX, VD) w
theorem Ye (k8 : K8) (h8 : E8 Q k8 8 1 2 5 6 8 10 11 12) (h : A0 k8 (g 1) (g 2) (g 5) (g 6) (g 8) (g 10) (g 11) (g 12) (g 13) w) : bH pg bC (bI (aB 3 (bI (aD 1 (aB 1 (bI (bI (aB 1 (bI (aD 1 (aB 1 (bI (bI (aB 1 (aD 1 (aB 1 (aB 1 (aB 1 (aB 1 (aB 5 aZ)))))))))))))))))))) Q g w := by
 refine Db (fun g : Env => (g 10, g 13)) (fun X t w => AW (fun _ _ _ _ _ dX _ _ VD w => X (dX, VD) w) k8 (g 1) (g 2) (g 5) (g 6) (g 8) t.1 (g 11) (g 12) t.2 w) h (fun X g1 w1 ha hL => ?_)
 rw [<- fF 1 ha, <- fF 2 ha, <- fF 5 ha, <- fF 6 ha, <- fF 8 ha, <- fF 11 ha, <- fF 12 ha] at hL
 exact (Ww _ g1 w1 (fun _ _ _ _ _ dX _ _ VD w => X (dX, VD) w) k8 (fun _ _ h => h) h8 hL)
def Hv (kn : K8) (bJ t2 eK t6 t8 dX jG qR VD : aJ3) (w : aJ2) : Prop :=
 A0 kn bJ t2 eK t6 t8 dX jG qR VD w
def H7 (kn : K9) (bJ t2 eK t6 t8 dX jG qR : aJ3) (w : aJ2) : Prop :=
 aC pg (aL 35 t6 1) w fun t81 w =>
 aC pg (aH 33 t81) w fun t82 w =>
 aC pg (bA 33 t82 dX) w fun t85 w =>
 aC pg (aL 139 t85 0) w fun t86 w =>
 aC pg (aJ 3 t86 jG) w fun _u w =>
 aC pg (aG .quo 3 aM aM eK (.int .i64 2)) w fun t89 w =>
 aC pg (aG .add 3 aM aM dX t89) w fun t90 w =>
 aC pg (aG .quo 3 aM aM eK (.int .i64 8)) w fun t92 w =>
 aC pg (aG .add 3 aM aM t90 t92) w fun t93 w =>
 aC pg (aG .add 3 aM aM t93 (.int .i64 3)) w fun t94 w =>
 aC pg (aG .rem 3 aM aM t94 eK) w fun t96 w =>
 kn bJ t2 eK t6 t8 t96 jG qR (.int .i64 0) w
theorem Yb (kn : K9) (hn : N9 Q kn 1 2 5 6 8 10 11 12 13) (h : H7 kn (g 1) (g 2) (g 5) (g 6) (g 8) (g 10) (g 11) (g 12) w) : bH pg bC (aD 3 (bI (aD 1 (aB 1 (bI (bI (aB 1 (bI (aD 1 (aB 1 (bI (bI (aB 1 (aD 1 (aB 1 (aB 1 (aB 1 (aB 1 (aB 5 aZ))))))))))))))))))) Q g w :=
 dS (kr := no) (l := []) h hn eP trivial
def RD (kn : K8) (bJ t2 eK t6 t8 dX jG qR : aJ3) (w : aJ2) : Prop :=
 H7 (fun bJ t2 eK t6 t8 dX jG qR VD w => Hv kn bJ t2 eK t6 t8 dX jG qR VD w) bJ t2 eK t6 t8 dX jG qR w
def Ic (kn : K8) (bJ t2 eK t6 t8 dX jG qR : aJ3) (w : aJ2) : Prop :=
 RD kn bJ t2 eK t6 t8 dX jG qR w
def GJ (kn : K8) (bJ t2 eK t6 t8 dX jG qR : aJ3) (w : aJ2) : Prop :=
 Ic (fun bJ t2 eK t6 t8 dX jG qR w => Bc kn bJ t2 eK t6 t8 dX jG qR w) bJ t2 eK t6 t8 dX jG qR w
theorem Wi (kn : K8) (hn : N8 Q kn 1 2 5 6 8 10 11 12) (h : Ic kn (g 1) (g 2) (g 5) (g 6) (g 8) (g 10) (g 11) (g 12) w) : bH pg bC (aD 1 (aB 1 (bI (bI (aB 1 (bI (aD 1 (aB 1 (bI (bI (aB 1 (aD 1 (aB 1 (aB 1 (aB 1 (aB 1 (aB 5 aZ))))))))))))))))) Q g w :=
 uH 7 (fP 3 (Yb _ g w (Hv kn) (fun g w h => aK (uH 8 (Ye _ g w kn hn h))) h))
def HV (kn : K8) (k6 : K7) (bJ t2 eK t6 t8 dX jG qR : aJ3) (w : aJ2) : Prop :=
 aC pg (aL 130 bJ 1) w fun t73 w =>
 aC pg (aH 77 t73) w fun t74 w =>
 aC pg (bA 77 t74 jG) w fun t76 w =>
 aC pg (aH 3 t76) w fun t77 w =>
 aC pg (aG .lss 3 aM aM qR t77) w fun t78 w =>
 eM t78
  (kn bJ t2 eK t6 t8 dX jG qR w)
  (k6 bJ t2 eK t6 t8 dX jG w)
theorem X3 (kn : K8) (k6 : K7) (hn : N8 Q kn 1 2 5 6 8 10 11 12) (h6 : E7 Q k6 6 1 2 5 6 8 10 11) (h : HV kn k6 (g 1) (g 2) (g 5) (g 6) (g 8) (g 10) (g 11) (g 12) w) : bH pg bC (aD 1 (bI (bI (aB 1 (bI (aD 1 (aB 1 (bI (bI (aB 1 (aD 1 (aB 1 (aB 1 (aB 1 (aB 1 (aB 5 aZ)))))))))))))))) Q g w :=
 dS (kr := no) (l := [(6, fun g w => k6 (g 1) (g 2) (g 5) (g 6) (g 8) (g 10) (g 11) w)]) h hn eP ⟨h6, trivial⟩
def Bu (kn : K8) (k6 : K7) (bJ t2 eK t6 t8 dX jG qR : aJ3) (w : aJ2) : Prop :=
 HV (fun bJ t2 eK t6 t8 dX jG qR w => GJ kn bJ t2 eK t6 t8 dX jG qR w) k6 bJ t2 eK t6 t8 dX jG qR w
def HS (k6 : K7) (bJ t2 eK t6 t8 dX jG qR : aJ3) (w : aJ2) : Prop :=
 cG (fun (X : (aJ3 × aJ3) -> K0) (t : aJ3 × aJ3) (w : aJ2) => Bu (fun _ _ _ _ _ dX _ qR w => X (dX, qR) w) k6 bJ t2 eK t6 t8 t.1 jG t.2 w) (dX, qR) w
theorem XR (kn : K8) (k6 : K7) (hn : N8 Q kn 1 2 5 6 8 10 11 12) (h6 : E7 Q k6 6 1 2 5 6 8 10 11) (h : Bu kn k6 (g 1) (g 2) (g 5) (g 6) (g 8) (g 10) (g 11) (g 12) w) : bH pg bC (bI (bI (aB 1 (bI (aD 1 (aB 1 (bI (bI (aB 1 (aD 1 (aB 1 (aB 1 (aB 1 (aB 1 (aB 5 aZ))))))))))))))) Q g w :=
 fP 1 (X3 _ g w (GJ kn) k6 (fun g w h => aK (fP 1 (Wi _ g w (Bc kn) (fun g w h => aK (WG _ g w kn hn h)) h))) h6 h)
theorem XF (k6 : K7) (h6 : E7 Q k6 6 1 2 5 6 8 10 11) (h : HS k6 (g 1) (g 2) (g 5) (g 6) (g 8) (g 10) (g 11) (g 12) w) : bH pg bC (bI (aB 1 (bI (aD 1 (aB 1 (bI (bI (aB 1 (aD 1 (aB 1 (aB 1 (aB 1 (aB 1 (aB 5 aZ)))))))))))))) Q g w := by
 refine Db (fun g : Env => (g 10, g 12)) (fun X t w => Bu (fun _ _ _ _ _ dX _ qR w => X (dX, qR) w) k6 (g 1) (g 2) (g 5) (g 6) (g 8) t.1 (g 11) t.2 w) h (fun X g1 w1 ha hL => ?_)
 rw [<- fF 1 ha, <- fF 2 ha, <- fF 5 ha, <- fF 6 ha, <- fF 8 ha, <- fF 11 ha] at hL
 exact (XR _ g1 w1 (fun _ _ _ _ _ dX _ qR w => X (dX, qR) w) k6 (fun _ _ h => h) h6 hL)
def HU (kn : K7) (bJ t2 eK t6 t8 dX jG qR : aJ3) (w : aJ2) : Prop :=
 HS kn bJ t2 eK t6 t8 dX jG qR w
def Hn (kn : K8) (bJ t2 eK t6 t8 dX jG : aJ3) (w : aJ2) : Prop :=
 kn bJ t2 eK t6 t8 dX jG (.int .i64 0) w
theorem XZ (kn : K8) (hn : N8 Q kn 1 2 5 6 8 10 11 12) (h : Hn kn (g 1) (g 2) (g 5) (g 6) (g 8) (g 10) (g 11) w) : bH pg bC (aD 1 (bI (aD 1 (aB 1 (bI (bI (aB 1 (aD 1 (aB 1 (aB 1 (aB 1 (aB 1 (aB 5 aZ))))))))))))) Q g w :=
 dS (kr := no) (l := []) h hn eP trivial
def Rz (kn : K7) (bJ t2 eK t6 t8 dX jG : aJ3) (w : aJ2) : Prop :=
 Hn (fun bJ t2 eK t6 t8 dX jG qR w => HU kn bJ t2 eK t6 t8 dX jG qR w) bJ t2 eK t6 t8 dX jG w
def HH (kn : K7) (bJ t2 eK t6 t8 dX jG : aJ3) (w : aJ2) : Prop :=
 Rz kn bJ t2 eK t6 t8 dX jG w
def Hq (kn : K7) (bJ t2 eK t6 t8 dX jG : aJ3) (w : aJ2) : Prop :=
 HH (fun bJ t2 eK t6 t8 dX jG w => Bj kn bJ t2 eK t6 t8 dX jG w) bJ t2 eK t6 t8 dX jG w
theorem WB (kn : K7) (hn : N7 Q kn 1 2 5 6 8 10 11) (h : HH kn (g 1) (g 2) (g 5) (g 6) (g 8) (g 10) (g 11) w) : bH pg bC (aD 1 (aB 1 (bI (bI (aB 1 (aD 1 (aB 1 (aB 1 (aB 1 (aB 1 (aB 5 aZ))))))))))) Q g w :=
 uH 5 (fP 1 (XZ _ g w (HU kn) (fun g w h => aK (uH 6 (XF _ g w kn hn h))) h))
def HP (kn : K7) (k4 : K4) (bJ t2 eK t6 t8 dX jG : aJ3) (w : aJ2) : Prop :=
 aC pg (aL 130 bJ 1) w fun t66 w =>
 aC pg (aH 77 t66) w fun t67 w =>
 aC pg (jM .len #[77] 3 [t67]) w fun t68 w =>
 aC pg (aG .lss 3 aM aM jG t68) w fun t69 w =>
 eM t69
  (kn bJ t2 eK t6 t8 dX jG w)
  (k4 bJ t2 eK t6 w)
theorem X0 (kn : K7) (k4 : K4) (hn : N7 Q kn 1 2 5 6 8 10 11) (h4 : E4 Q k4 4 1 2 5 6) (h : HP kn k4 (g 1) (g 2) (g 5) (g 6) (g 8) (g 10) (g 11) w) : bH pg bC (aD 1 (bI (bI (aB 1 (aD 1 (aB 1 (aB 1 (aB 1 (aB 1 (aB 5 aZ)))))))))) Q g w :=
 dS (kr := no) (l := [(4, fun g w => k4 (g 1) (g 2) (g 5) (g 6) w)]) h hn eP ⟨h4, trivial⟩
def A5 (kn : K7) (k4 : K4) (bJ t2 eK t6 t8 dX jG : aJ3) (w : aJ2) : Prop :=
 HP (fun bJ t2 eK t6 t8 dX jG w => Hq kn bJ t2 eK t6 t8 dX jG w) k4 bJ t2 eK t6 t8 dX jG w
def Bt (k4 : K4) (bJ t2 eK t6 t8 dX jG : aJ3) (w : aJ2) : Prop :=
 cG (fun (X : (aJ3 × aJ3) -> K0) (t : aJ3 × aJ3) (w : aJ2) => A5 (fun _ _ _ _ _ dX jG w => X (dX, jG) w) k4 bJ t2 eK t6 t8 t.1 t.2 w) (dX, jG) w
theorem X4 (kn : K7) (k4 : K4) (hn : N7 Q kn 1 2 5 6 8 10 11) (h4 : E4 Q k4 4 1 2 5 6) (h : A5 kn k4 (g 1) (g 2) (g 5) (g 6) (g 8) (g 10) (g 11) w) : bH pg bC (bI (bI (aB 1 (aD 1 (aB 1 (aB 1 (aB 1 (aB 1 (aB 5 aZ))))))))) Q g w :=
 fP 1 (X0 _ g w (Hq kn) k4 (fun g w h => aK (fP 1 (WB _ g w (Bj kn) (fun g w h => aK (XX _ g w kn hn h)) h))) h4 h)
theorem Wq (k4 : K4) (h4 : E4 Q k4 4 1 2 5 6) (h : Bt k4 (g 1) (g 2) (g 5) (g 6) (g 8) (g 10) (g 11) w) : bH pg bC (bI (aB 1 (aD 1 (aB 1 (aB 1 (aB 1 (aB 1 (aB 5 aZ)))))))) Q g w := by
 refine Db (fun g : Env => (g 10, g 11)) (fun X t w => A5 (fun _ _ _ _ _ dX jG w => X (dX, jG) w) k4 (g 1) (g 2) (g 5) (g 6) (g 8) t.1 t.2 w) h (fun X g1 w1 ha hL => ?_)
 rw [<- fF 1 ha, <- fF 2 ha, <- fF 5 ha, <- fF 6 ha, <- fF 8 ha] at hL
 exact (X4 _ g1 w1 (fun _ _ _ _ _ dX jG w => X (dX, jG) w) k4 (fun _ _ h => h) h4 hL)
def Hd (kn : K4) (bJ t2 eK t6 t8 dX jG : aJ3) (w : aJ2) : Prop :=
 Bt kn bJ t2 eK t6 t8 dX jG w
def Ia (kn : K7) (bJ t2 eK t6 t8 dX : aJ3) (w : aJ2) : Prop :=
 kn bJ t2 eK t6 t8 dX (.int .i64 0) w
theorem Xb (kn : K7) (hn : N7 Q kn 1 2 5 6 8 10 11) (h : Ia kn (g 1) (g 2) (g 5) (g 6) (g 8) (g 10) w) : bH pg bC (aD 1 (aD 1 (aB 1 (aB 1 (aB 1 (aB 1 (aB 5 aZ))))))) Q g w :=
 dS (kr := no) (l := []) h hn eP trivial
def Ha (kn : K4) (bJ t2 eK t6 t8 dX : aJ3) (w : aJ2) : Prop :=
 Ia (fun bJ t2 eK t6 t8 dX jG w => Hd kn bJ t2 eK t6 t8 dX jG w) bJ t2 eK t6 t8 dX w
def H8 (R : K1) (bJ t2 eK t6 t8 dX : aJ3) (w : aJ2) : Prop :=
 Ha (fun bJ t2 eK t6 w => AZ R bJ t2 eK t6 w) bJ t2 eK t6 t8 dX w
theorem WV (kn : K4) (hn : N4 Q kn 1 2 5 6) (h : Ha kn (g 1) (g 2) (g 5) (g 6) (g 8) (g 10) w) : bH pg bC (aD 1 (aB 1 (aB 1 (aB 1 (aB 1 (aB 5 aZ)))))) Q g w :=
 fP 1 (Xb _ g w (Hd kn) (fun g w h => aK (uH 4 (Wq _ g w kn hn h))) h)
def GL (kn : K6) (bJ t2 eK t6 t8 : aJ3) (w : aJ2) : Prop :=
 kn bJ t2 eK t6 t8 (.int .i64 0) w
theorem WX (kn : K6) (hn : N6 Q kn 1 2 5 6 8 10) (h : GL kn (g 1) (g 2) (g 5) (g 6) (g 8) w) : bH pg bC (aD 1 (aB 1 (aB 1 (aB 1 (aB 5 aZ))))) Q g w :=
 dS (kr := no) (l := []) h hn eP trivial
def Ii (R : K1) (bJ t2 eK t6 t8 : aJ3) (w : aJ2) : Prop :=
 GL (fun bJ t2 eK t6 t8 dX w => H8 R bJ t2 eK t6 t8 dX w) bJ t2 eK t6 t8 w
def wB (kn : K6) (bJ t2 eK t6 t8 vY : aJ3) (w : aJ2) : Prop :=
 aC pg (aG .add 3 aM aM vY (.int .i64 1)) w fun t50 w =>
 kn bJ t2 eK t6 t8 t50 w
theorem Xa (kn : K6) (hn : N6 Q kn 1 2 5 6 8 9) (h : wB kn (g 1) (g 2) (g 5) (g 6) (g 8) (g 9) w) : bH pg bC (aB 2 (bI (bI (aB 1 (aD 1 (aB 1 (aB 1 (aB 5 aZ)))))))) Q g w :=
 dS (kr := no) (l := []) h hn eP trivial
def He (kn : K6) (k2 : K5) (bJ t2 eK t6 t8 vY : aJ3) (w : aJ2) : Prop :=
 aC pg (aL 130 bJ 1) w fun t45 w =>
 aC pg (aH 77 t45) w fun t46 w =>
 aC pg (jM .len #[77] 3 [t46]) w fun t47 w =>
 aC pg (aG .lss 3 aM aM vY t47) w fun t48 w =>
 eM t48
  (aC pg (aL 130 bJ 1) w fun t51 w =>
  aC pg (aH 77 t51) w fun t52 w =>
  aC pg (bA 77 t52 vY) w fun t54 w =>
  aC pg (aH 3 t54) w fun t55 w =>
  aC pg (aG .lss 3 aM aM t55 (.int .i64 0)) w fun t56 w =>
  eM t56
   (aC pg (aL 35 t6 1) w fun t57 w =>
   aC pg (aH 33 t57) w fun t58 w =>
   aC pg (bA 33 t58 t8) w fun t61 w =>
   aC pg (aL 139 t61 0) w fun t62 w =>
   aC pg (aJ 3 t62 vY) w fun _u w =>
   aC pg (aG .sub 3 aM aM t8 (.int .i64 1)) w fun t64 w =>
   kn bJ t2 eK t6 t64 vY w)
   (kn bJ t2 eK t6 t8 vY w))
  (k2 bJ t2 eK t6 t8 w)
theorem W0 (kn : K6) (k2 : K5) (hn : N6 Q kn 1 2 5 6 8 9) (h2 : E5 Q k2 2 1 2 5 6 8) (h : He kn k2 (g 1) (g 2) (g 5) (g 6) (g 8) (g 9) w) : bH pg bC (aD 2 (bI (bI (aB 1 (aD 1 (aB 1 (aB 1 (aB 5 aZ)))))))) Q g w :=
 dS (kr := no) (l := [(2, fun g w => k2 (g 1) (g 2) (g 5) (g 6) (g 8) w)]) h hn eP ⟨h2, trivial⟩
def Bo (kn : K6) (k2 : K5) (bJ t2 eK t6 t8 vY : aJ3) (w : aJ2) : Prop :=
 He (fun bJ t2 eK t6 t8 vY w => wB kn bJ t2 eK t6 t8 vY w) k2 bJ t2 eK t6 t8 vY w
def Bk (k2 : K5) (bJ t2 eK t6 t8 vY : aJ3) (w : aJ2) : Prop :=
 cG (fun (X : (aJ3 × aJ3) -> K0) (t : aJ3 × aJ3) (w : aJ2) => Bo (fun _ _ _ _ t8 vY w => X (t8, vY) w) k2 bJ t2 eK t6 t.1 t.2 w) (t8, vY) w
theorem X6 (kn : K6) (k2 : K5) (hn : N6 Q kn 1 2 5 6 8 9) (h2 : E5 Q k2 2 1 2 5 6 8) (h : Bo kn k2 (g 1) (g 2) (g 5) (g 6) (g 8) (g 9) w) : bH pg bC (bI (bI (aB 1 (aD 1 (aB 1 (aB 1 (aB 5 aZ))))))) Q g w :=
 fP 2 (W0 _ g w (wB kn) k2 (fun g w h => aK (Xa _ g w kn hn h)) h2 h)
theorem Wo (k2 : K5) (h2 : E5 Q k2 2 1 2 5 6 8) (h : Bk k2 (g 1) (g 2) (g 5) (g 6) (g 8) (g 9) w) : bH pg bC (bI (aB 1 (aD 1 (aB 1 (aB 1 (aB 5 aZ)))))) Q g w := by
 refine Db (fun g : Env => (g 8, g 9)) (fun X t w => Bo (fun _ _ _ _ t8 vY w => X (t8, vY) w) k2 (g 1) (g 2) (g 5) (g 6) t.1 t.2 w) h (fun X g1 w1 ha hL => ?_)
 rw [<- fF 1 ha, <- fF 2 ha, <- fF 5 ha, <- fF 6 ha] at hL
 exact (X6 _ g1 w1 (fun _ _ _ _ t8 vY w => X (t8, vY) w) k2 (fun _ _ h => h) h2 hL)
def G6 (kn : K5) (bJ t2 eK t6 t8 vY : aJ3) (w : aJ2) : Prop :=
 Bk kn bJ t2 eK t6 t8 vY w
def Hu (kn : K6) (bJ t2 eK t6 t8 : aJ3) (w : aJ2) : Prop :=
 kn bJ t2 eK t6 t8 (.int .i64 0) w
theorem Xg (kn : K6) (hn : N6 Q kn 1 2 5 6 8 9) (h : Hu kn (g 1) (g 2) (g 5) (g 6) (g 8) w) : bH pg bC (aD 1 (aD 1 (aB 1 (aB 1 (aB 5 aZ))))) Q g w :=
 dS (kr := no) (l := []) h hn eP trivial
def Ig (kn : K5) (bJ t2 eK t6 t8 : aJ3) (w : aJ2) : Prop :=
 Hu (fun bJ t2 eK t6 t8 vY w => G6 kn bJ t2 eK t6 t8 vY w) bJ t2 eK t6 t8 w
def H5 (R : K1) (bJ t2 eK t6 t8 : aJ3) (w : aJ2) : Prop :=
 Ig (fun bJ t2 eK t6 t8 w => Ii R bJ t2 eK t6 t8 w) bJ t2 eK t6 t8 w
theorem WC (kn : K5) (hn : N5 Q kn 1 2 5 6 8) (h : Ig kn (g 1) (g 2) (g 5) (g 6) (g 8) w) : bH pg bC (aD 1 (aB 1 (aB 1 (aB 5 aZ)))) Q g w :=
 fP 1 (Xg _ g w (G6 kn) (fun g w h => aK (uH 2 (Wo _ g w kn hn h))) h)
def HJ (kn : K5) (bJ t2 eK t6 : aJ3) (w : aJ2) : Prop :=
 aC pg (aG .sub 3 aM aM eK (.int .i64 1)) w fun t43 w =>
 kn bJ t2 eK t6 t43 w
theorem Xs (kn : K5) (hn : N5 Q kn 1 2 5 6 8) (h : HJ kn (g 1) (g 2) (g 5) (g 6) w) : bH pg bC (aD 1 (aB 1 (aB 5 aZ))) Q g w :=
 dS (kr := no) (l := []) h hn eP trivial
def G4 (R : K1) (bJ t2 eK t6 : aJ3) (w : aJ2) : Prop :=
 HJ (fun bJ t2 eK t6 t8 w => H5 R bJ t2 eK t6 t8 w) bJ t2 eK t6 w
def Bg (kn : K5) (k0 : K4) (bJ t2 eK t6 i_7 : aJ3) (w : aJ2) : Prop :=
 aC pg (aG .lss 3 aM aM i_7 eK) w fun t33 w =>
 eM t33
  (aC pg (aL 35 t6 1) w fun t36 w =>
  aC pg (aH 33 t36) w fun t37 w =>
  aC pg (bV 139 [(0, (.int .i64 (-1)))]) w fun t38 w =>
  aC pg (bX 33 1 [(0, t38)]) w fun t39 w =>
  aC pg (jM .append #[33, 33] 33 [t37, t39]) w fun t40 w =>
  aC pg (aL 35 t6 1) w fun t41 w =>
  aC pg (aJ 33 t41 t40) w fun _u w =>
  aC pg (aG .add 3 aM aM i_7 (.int .i64 1)) w fun t35 w =>
  kn bJ t2 eK t6 t35 w)
  (k0 bJ t2 eK t6 w)
theorem XW (kn : K5) (k0 : K4) (hn : N5 Q kn 1 2 5 6 7) (h0 : E4 Q k0 0 1 2 5 6) (h : Bg kn k0 (g 1) (g 2) (g 5) (g 6) (g 7) w) : bH pg bC (bI (bI (aB 1 (aD 1 (aB 5 aZ))))) Q g w :=
 dS (kr := no) (l := [(0, fun g w => k0 (g 1) (g 2) (g 5) (g 6) w)]) h hn eP ⟨h0, trivial⟩
def A4 (k0 : K4) (bJ t2 eK t6 i_7 : aJ3) (w : aJ2) : Prop :=
 cG (fun (X : aJ3 -> K0) (t : aJ3) (w : aJ2) => Bg (fun _ _ _ _ i_7 w => X i_7 w) k0 bJ t2 eK t6 t w) i_7 w
theorem XC (k0 : K4) (h0 : E4 Q k0 0 1 2 5 6) (h : A4 k0 (g 1) (g 2) (g 5) (g 6) (g 7) w) : bH pg bC (bI (aB 1 (aD 1 (aB 5 aZ)))) Q g w := by
 refine Db (fun g : Env => g 7) (fun X t w => Bg (fun _ _ _ _ i_7 w => X i_7 w) k0 (g 1) (g 2) (g 5) (g 6) t w) h (fun X g1 w1 ha hL => ?_)
 rw [<- fF 1 ha, <- fF 2 ha, <- fF 5 ha, <- fF 6 ha] at hL
 exact (XW _ g1 w1 (fun _ _ _ _ i_7 w => X i_7 w) k0 (fun _ _ h => h) h0 hL)
def Ib (kn : K4) (bJ t2 eK t6 i_7 : aJ3) (w : aJ2) : Prop :=
 A4 kn bJ t2 eK t6 i_7 w
def H2 (kn : K5) (bJ t2 eK t6 : aJ3) (w : aJ2) : Prop :=
 kn bJ t2 eK t6 (.int .i64 0) w
theorem WW (kn : K5) (hn : N5 Q kn 1 2 5 6 7) (h : H2 kn (g 1) (g 2) (g 5) (g 6) w) : bH pg bC (aD 1 (aD 1 (aB 5 aZ))) Q g w :=
 dS (kr := no) (l := []) h hn eP trivial
def HX (kn : K4) (bJ t2 eK t6 : aJ3) (w : aJ2) : Prop :=
 H2 (fun bJ t2 eK t6 i_7 w => Ib kn bJ t2 eK t6 i_7 w) bJ t2 eK t6 w
def HE (R : K1) (bJ t2 eK t6 : aJ3) (w : aJ2) : Prop :=
 HX (fun bJ t2 eK t6 w => G4 R bJ t2 eK t6 w) bJ t2 eK t6 w
theorem W9 (kn : K4) (hn : N4 Q kn 1 2 5 6) (h : HX kn (g 1) (g 2) (g 5) (g 6) w) : bH pg bC (aD 1 (aB 5 aZ)) Q g w :=
 fP 1 (WW _ g w (Ib kn) (fun g w h => aK (uH 0 (XC _ g w kn hn h))) h)
def GU (kn : K4) (R : K1) (c_0 : aJ3) (w : aJ2) : Prop :=
 aC pg (rL 130 c_0) w fun bJ w =>
 aC pg (bS 35) w fun t2 w =>
 aC pg (aH 130 bJ) w fun t20 w =>
 aR pg F8 #[t20, (.int .i64 15)] w fun t21 w =>
 aC pg (aG .neq 30 (.tmp 22) (.const (.int .i64 0)) t21 (.int .i64 0)) w fun t23 w =>
 eM t23
  (aC pg (bV 35 []) w fun t24 w =>
  aC pg (aJ 35 t2 t24) w fun _u w =>
  kI pg 35 t2 w fun r0 => R (.tuple #[r0, (.int .i64 1)]) w)
  (aC pg (aL 130 bJ 0) w fun t25 w =>
  aC pg (aH 3 t25) w fun t26 w =>
  aR pg mO #[t26] w fun t27 w =>
  aC pg (aL 130 bJ 0) w fun t28 w =>
  aC pg (aH 3 t28) w fun t29 w =>
  aC pg (bV 35 [(0, t29)]) w fun t30 w =>
  aC pg (bS 35) w fun t6 w =>
  aC pg (aJ 35 t6 t30) w fun _u w =>
  kn bJ t2 t27 t6 w)
theorem XM (kn : K4) (R : K1) (hn : N4 Q kn 1 2 5 6) (hr : HR mR R Q) (h : GU kn R (g 0) w) : bH pg bC (aD 5 aZ) Q g w :=
 dS (l := []) h hn hr trivial
def GO (R : K1) (c_0 : aJ3) (w : aJ2) : Prop :=
 GU (fun bJ t2 eK t6 w => HE R bJ t2 eK t6 w) R c_0 w
theorem XI (R : K1) (hr : HR mR R Q) (h : GO R (g 0) w) : bH pg bC aZ Q g w :=
 fP 5 (XM _ g w (HE R) R (fun g w h => aK (fP 1 (W9 _ g w (G4 R) (fun g w h => aK (fP 1 (Xs _ g w (H5 R) (fun g w h => aK (fP 1 (WC _ g w (Ii R) (fun g w h => aK (fP 1 (WX _ g w (H8 R) (fun g w h => aK (fP 1 (WV _ g w (AZ R) (fun g w h => aK (fP 1 (WD _ g w (Hy R) (fun g w h => aK (fP 1 (WA _ g w (D1 R) R (fun g w h => aK (YT _ g w R hr h)) hr h))) h))) h))) h))) h))) h))) h))) hr h)
def ahU (a0 : aJ3) (w : aJ2) (R : K1) : Prop :=
 GO R a0 w
theorem agN {a0 : aJ3} {w : aJ2} {R : K1} (h : ahU a0 w R) : aR pg AQ #[a0] w R := by
 refine rQ (ann := bC) Tryd.f59 aZ [a0] mR 185 TrydM.mixed Tryd.func59 ?_
 exact (XI _ _ _ R (fun _ _ h => h) h)
def iD : FA := ⟨D2, fun i => .leaf ([], []) []⟩
def MP : List ResultVar := [.tmp 2]
noncomputable def gY : Code := cU Tryd.f60
def FZ (R : K1) (bQ : aJ3) (w : aJ2) : Prop :=
 R bQ w
theorem aeW (R : K1) (hr : HR MP R Q) (h : FZ R (g 3) w) : bH pg iD (aB 1 (aB 2 gY)) Q g w :=
 dS (kn := no) (l := []) h eP hr trivial
def FH (kn : K3) (wN bQ iG : aJ3) (w : aJ2) : Prop :=
 aC pg (aG .add 3 aM aM iG (.int .i64 1)) w fun t12 w =>
 kn wN bQ t12 w
theorem aeG (kn : K3) (hn : N3 Q kn 0 3 4) (h : FH kn (g 0) (g 3) (g 4) w) : bH pg iD (aB 1 (aB 1 (bI (bI (aB 1 (aD 1 (aB 2 gY))))))) Q g w :=
 dS (kr := no) (l := []) h hn eP trivial
def FE (kn : K5) (k2 : K3) (wN bQ iG c_5 GC : aJ3) (w : aJ2) : Prop :=
 aC pg (aG .lss 3 aM aM GC (.int .i64 8)) w fun t17 w =>
 eM t17
  (aC pg (aG .rem 5 aM aM c_5 (.int .u8 2)) w fun t22 w =>
  aC pg (aG .eql 5 (.tmp 22) (.const (.int .u8 1)) t22 (.int .u8 1)) w fun t23 w =>
  aC pg (bX 80 1 [(0, t23)]) w fun t24 w =>
  aC pg (jM .append #[80, 80] 80 [bQ, t24]) w fun t25 w =>
  aC pg (aG .quo 5 aM aM c_5 (.int .u8 2)) w fun t27 w =>
  aC pg (aG .add 3 aM aM GC (.int .i64 1)) w fun t19 w =>
  kn wN t25 iG t27 t19 w)
  (k2 wN bQ iG w)
theorem abU (kn : K5) (k2 : K3) (hn : N5 Q kn 0 3 4 5 6) (h2 : E3 Q k2 2 0 3 4) (h : FE kn k2 (g 0) (g 3) (g 4) (g 5) (g 6) w) : bH pg iD (bI (bI (aB 2 (bI (aD 1 (aB 1 (bI (bI (aB 1 (aD 1 (aB 2 gY))))))))))) Q g w :=
 dS (kr := no) (l := [(2, fun g w => k2 (g 0) (g 3) (g 4) w)]) h hn eP ⟨h2, trivial⟩
def NL (k2 : K3) (wN bQ iG c_5 GC : aJ3) (w : aJ2) : Prop :=
 cG (fun (X : (aJ3 × aJ3 × aJ3) -> K0) (t : aJ3 × aJ3 × aJ3) (w : aJ2) => FE (fun _ bQ _ c_5 GC w => X (bQ, c_5, GC) w) k2 wN t.1 iG t.2.1 t.2.2 w) (bQ, c_5, GC) w
theorem afJ (k2 : K3) (h2 : E3 Q k2 2 0 3 4) (h : NL k2 (g 0) (g 3) (g 4) (g 5) (g 6) w) : bH pg iD (bI (aB 2 (bI (aD 1 (aB 1 (bI (bI (aB 1 (aD 1 (aB 2 gY)))))))))) Q g w := by
 refine Db (fun g : Env => (g 3, g 5, g 6)) (fun X t w => FE (fun _ bQ _ c_5 GC w => X (bQ, c_5, GC) w) k2 (g 0) t.1 (g 4) t.2.1 t.2.2 w) h (fun X g1 w1 ha hL => ?_)
 rw [<- fF 0 ha, <- fF 4 ha] at hL
 exact (abU _ g1 w1 (fun _ bQ _ c_5 GC w => X (bQ, c_5, GC) w) k2 (fun _ _ h => h) h2 hL)
def Ow (kn : K3) (wN bQ iG c_5 GC : aJ3) (w : aJ2) : Prop :=
 NL kn wN bQ iG c_5 GC w
def MQ (kn : K5) (wN bQ iG : aJ3) (w : aJ2) : Prop :=
 aC pg (HM 9 wN iG) w fun t15 w =>
 kn wN bQ iG t15 (.int .i64 0) w
theorem agU (kn : K5) (hn : N5 Q kn 0 3 4 5 6) (h : MQ kn (g 0) (g 3) (g 4) w) : bH pg iD (aD 2 (bI (aD 1 (aB 1 (bI (bI (aB 1 (aD 1 (aB 2 gY))))))))) Q g w :=
 dS (kr := no) (l := []) h hn eP trivial
def VT (kn : K3) (wN bQ iG : aJ3) (w : aJ2) : Prop :=
 MQ (fun wN bQ iG c_5 GC w => Ow kn wN bQ iG c_5 GC w) wN bQ iG w
def M7 (kn : K3) (wN bQ iG : aJ3) (w : aJ2) : Prop :=
 VT kn wN bQ iG w
def OJ (kn : K3) (wN bQ iG : aJ3) (w : aJ2) : Prop :=
 M7 (fun wN bQ iG w => FH kn wN bQ iG w) wN bQ iG w
theorem adJ (kn : K3) (hn : N3 Q kn 0 3 4) (h : M7 kn (g 0) (g 3) (g 4) w) : bH pg iD (aD 1 (aB 1 (bI (bI (aB 1 (aD 1 (aB 2 gY))))))) Q g w :=
 uH 1 (fP 2 (agU _ g w (Ow kn) (fun g w h => aK (uH 2 (afJ _ g w kn hn h))) h))
def LY (kn : K3) (k0 : K1) (wN bQ iG : aJ3) (w : aJ2) : Prop :=
 aC pg (jM .len #[9] 3 [wN]) w fun t9 w =>
 aC pg (aG .lss 3 aM aM iG t9) w fun t10 w =>
 eM t10
  (kn wN bQ iG w)
  (k0 bQ w)
theorem YA (kn : K3) (k0 : K1) (hn : N3 Q kn 0 3 4) (h0 : E1 Q k0 0 3) (h : LY kn k0 (g 0) (g 3) (g 4) w) : bH pg iD (aD 1 (bI (bI (aB 1 (aD 1 (aB 2 gY)))))) Q g w :=
 dS (kr := no) (l := [(0, fun g w => k0 (g 3) w)]) h hn eP ⟨h0, trivial⟩
def Dk (kn : K3) (k0 : K1) (wN bQ iG : aJ3) (w : aJ2) : Prop :=
 LY (fun wN bQ iG w => OJ kn wN bQ iG w) k0 wN bQ iG w
def JO (k0 : K1) (wN bQ iG : aJ3) (w : aJ2) : Prop :=
 cG (fun (X : (aJ3 × aJ3) -> K0) (t : aJ3 × aJ3) (w : aJ2) => Dk (fun _ bQ iG w => X (bQ, iG) w) k0 wN t.1 t.2 w) (bQ, iG) w
theorem abQ (kn : K3) (k0 : K1) (hn : N3 Q kn 0 3 4) (h0 : E1 Q k0 0 3) (h : Dk kn k0 (g 0) (g 3) (g 4) w) : bH pg iD (bI (bI (aB 1 (aD 1 (aB 2 gY))))) Q g w :=
 fP 1 (YA _ g w (OJ kn) k0 (fun g w h => aK (fP 1 (adJ _ g w (FH kn) (fun g w h => aK (aeG _ g w kn hn h)) h))) h0 h)
theorem Zb (k0 : K1) (h0 : E1 Q k0 0 3) (h : JO k0 (g 0) (g 3) (g 4) w) : bH pg iD (bI (aB 1 (aD 1 (aB 2 gY)))) Q g w := by
 refine Db (fun g : Env => (g 3, g 4)) (fun X t w => Dk (fun _ bQ iG w => X (bQ, iG) w) k0 (g 0) t.1 t.2 w) h (fun X g1 w1 ha hL => ?_)
 rw [<- fF 0 ha] at hL
 exact (abQ _ g1 w1 (fun _ bQ iG w => X (bQ, iG) w) k0 (fun _ _ h => h) h0 hL)
def Lc (kn : K1) (wN bQ iG : aJ3) (w : aJ2) : Prop :=
 JO kn wN bQ iG w
def LL (kn : K3) (wN bQ : aJ3) (w : aJ2) : Prop :=
 kn wN bQ (.int .i64 0) w
theorem Zu (kn : K3) (hn : N3 Q kn 0 3 4) (h : LL kn (g 0) (g 3) w) : bH pg iD (aD 1 (aD 1 (aB 2 gY))) Q g w :=
 dS (kr := no) (l := []) h hn eP trivial
def KI (kn : K1) (wN bQ : aJ3) (w : aJ2) : Prop :=
 LL (fun wN bQ iG w => Lc kn wN bQ iG w) wN bQ w
def JB (R : K1) (wN bQ : aJ3) (w : aJ2) : Prop :=
 KI (fun bQ w => FZ R bQ w) wN bQ w
theorem Yk (kn : K1) (hn : N1 Q kn 3) (h : KI kn (g 0) (g 3) w) : bH pg iD (aD 1 (aB 2 gY)) Q g w :=
 fP 1 (Zu _ g w (Lc kn) (fun g w h => aK (uH 0 (Zb _ g w kn hn h))) h)
def KT (kn : K2) (wN : aJ3) (w : aJ2) : Prop :=
 kn wN (.slice none 0 0) w
theorem YC (kn : K2) (hn : N2 Q kn 0 3) (h : KT kn (g 0) w) : bH pg iD (aD 2 gY) Q g w :=
 dS (kr := no) (l := []) h hn eP trivial
def JF (R : K1) (wN : aJ3) (w : aJ2) : Prop :=
 KT (fun wN bQ w => JB R wN bQ w) wN w
theorem aaN (R : K1) (hr : HR MP R Q) (h : JF R (g 0) w) : bH pg iD gY Q g w :=
 fP 2 (YC _ g w (JB R) (fun g w h => aK (fP 1 (Yk _ g w (FZ R) (fun g w h => aK (aeW _ g w R hr h)) h))) h)
def apC (a0 : aJ3) (w : aJ2) (R : K1) : Prop :=
 JF R a0 w
theorem alQ {a0 : aJ3} {w : aJ2} {R : K1} (h : apC a0 w R) : aR pg D2 #[a0] w R := by
 refine rQ (ann := iD) Tryd.f60 gY [a0] MP 29 TrydM.mixed Tryd.func60 ?_
 exact (aaN _ _ _ R (fun _ _ h => h) h)
def mQ : FA := ⟨uP, fun i => .leaf ([], []) []⟩
def FO : List ResultVar := [.cell 4 82, .tmp 5]
noncomputable def lU : Code := cU Tryd.f61
def FY (R : K1) (C9 t4 GC pD : aJ3) (w : aJ2) : Prop :=
 aC pg (aL 82 C9 0) w fun t46 w =>
 aC pg (aH 80 t46) w fun t47 w =>
 aC pg (aL 82 C9 0) w fun t48 w =>
 aC pg (aH 80 t48) w fun t49 w =>
 aC pg (jM .len #[80] 3 [t49]) w fun t50 w =>
 aC pg (aG .sub 3 aM aM t50 GC) w fun t52 w =>
 aC pg (fH 80 t47 none (some t52) none) w fun t53 w =>
 aC pg (aL 82 C9 0) w fun t54 w =>
 aC pg (aJ 80 t54 t53) w fun _u w =>
 aC pg (aH 82 C9) w fun t55 w =>
 aC pg (aJ 82 t4 t55) w fun _u w =>
 kI pg 82 t4 w fun r0 => R (.tuple #[r0, pD]) w
theorem ahN (R : K1) (hr : HR FO R Q) (h : FY R (g 2) (g 4) (g 6) (g 7) w) : bH pg mQ (aB 1 (aB 1 (aB 4 lU))) Q g w :=
 dS (kn := no) (l := []) h eP hr trivial
def F6 (kn : K6) (k0 : K4) (pU C9 t4 GC pD i_8 : aJ3) (w : aJ2) : Prop :=
 aC pg (aG .lss 3 aM aM i_8 pU) w fun t37 w =>
 eM t37
  (aC pg (aG .mul 73 aM aM pD (.int .u64 2)) w fun t41 w =>
  aC pg (aL 82 C9 1) w fun t42 w =>
  aC pg (aH 3 t42) w fun t43 w =>
  aC pg (aG .add 3 aM aM t43 (.int .i64 1)) w fun t44 w =>
  aC pg (aL 82 C9 1) w fun t45 w =>
  aC pg (aJ 3 t45 t44) w fun _u w =>
  aC pg (aG .add 3 aM aM i_8 (.int .i64 1)) w fun t39 w =>
  kn pU C9 t4 GC t41 t39 w)
  (k0 C9 t4 GC pD w)
theorem ahM (kn : K6) (k0 : K4) (hn : N6 Q kn 1 2 4 6 7 8) (h0 : E4 Q k0 0 2 4 6 7) (h : F6 kn k0 (g 1) (g 2) (g 4) (g 6) (g 7) (g 8) w) : bH pg mQ (bI (bI (aB 1 (aD 1 (aB 1 (aB 4 lU)))))) Q g w :=
 dS (kr := no) (l := [(0, fun g w => k0 (g 2) (g 4) (g 6) (g 7) w)]) h hn eP ⟨h0, trivial⟩
def Ng (k0 : K4) (pU C9 t4 GC pD i_8 : aJ3) (w : aJ2) : Prop :=
 cG (fun (X : (aJ3 × aJ3) -> K0) (t : aJ3 × aJ3) (w : aJ2) => F6 (fun _ _ _ _ pD i_8 w => X (pD, i_8) w) k0 pU C9 t4 GC t.1 t.2 w) (pD, i_8) w
theorem acR (k0 : K4) (h0 : E4 Q k0 0 2 4 6 7) (h : Ng k0 (g 1) (g 2) (g 4) (g 6) (g 7) (g 8) w) : bH pg mQ (bI (aB 1 (aD 1 (aB 1 (aB 4 lU))))) Q g w := by
 refine Db (fun g : Env => (g 7, g 8)) (fun X t w => F6 (fun _ _ _ _ pD i_8 w => X (pD, i_8) w) k0 (g 1) (g 2) (g 4) (g 6) t.1 t.2 w) h (fun X g1 w1 ha hL => ?_)
 rw [<- fF 1 ha, <- fF 2 ha, <- fF 4 ha, <- fF 6 ha] at hL
 exact (ahM _ g1 w1 (fun _ _ _ _ pD i_8 w => X (pD, i_8) w) k0 (fun _ _ h => h) h0 hL)
def Nb (kn : K4) (pU C9 t4 GC pD i_8 : aJ3) (w : aJ2) : Prop :=
 Ng kn pU C9 t4 GC pD i_8 w
def OF (kn : K6) (pU C9 t4 GC pD : aJ3) (w : aJ2) : Prop :=
 kn pU C9 t4 GC pD GC w
theorem acU (kn : K6) (hn : N6 Q kn 1 2 4 6 7 8) (h : OF kn (g 1) (g 2) (g 4) (g 6) (g 7) w) : bH pg mQ (aD 1 (aD 1 (aB 1 (aB 4 lU)))) Q g w :=
 dS (kr := no) (l := []) h hn eP trivial
def Ol (kn : K4) (pU C9 t4 GC pD : aJ3) (w : aJ2) : Prop :=
 OF (fun pU C9 t4 GC pD i_8 w => Nb kn pU C9 t4 GC pD i_8 w) pU C9 t4 GC pD w
def MM (R : K1) (pU C9 t4 GC pD : aJ3) (w : aJ2) : Prop :=
 Ol (fun C9 t4 GC pD w => FY R C9 t4 GC pD w) pU C9 t4 GC pD w
theorem agB (kn : K4) (hn : N4 Q kn 2 4 6 7) (h : Ol kn (g 1) (g 2) (g 4) (g 6) (g 7) w) : bH pg mQ (aD 1 (aB 1 (aB 4 lU))) Q g w :=
 fP 1 (acU _ g w (Nb kn) (fun g w h => aK (uH 0 (acR _ g w kn hn h))) h)
def NU (kn : K5) (pU C9 t4 GC : aJ3) (w : aJ2) : Prop :=
 aC pg (aL 82 C9 0) w fun t25 w =>
 aC pg (aH 80 t25) w fun t26 w =>
 aC pg (aL 82 C9 0) w fun t27 w =>
 aC pg (aH 80 t27) w fun t28 w =>
 aC pg (jM .len #[80] 3 [t28]) w fun t29 w =>
 aC pg (aG .sub 3 aM aM t29 GC) w fun t31 w =>
 aC pg (fH 80 t26 (some t31) none none) w fun t32 w =>
 aR pg xX #[t32] w fun t33 w =>
 kn pU C9 t4 GC t33 w
theorem afE (kn : K5) (hn : N5 Q kn 1 2 4 6 7) (h : NU kn (g 1) (g 2) (g 4) (g 6) w) : bH pg mQ (aD 1 (aB 4 lU)) Q g w :=
 dS (kr := no) (l := []) h hn eP trivial
def FM (R : K1) (pU C9 t4 GC : aJ3) (w : aJ2) : Prop :=
 NU (fun pU C9 t4 GC pD w => MM R pU C9 t4 GC pD w) pU C9 t4 GC w
def Kb (kn : K4) (R : K1) (D3 pU : aJ3) (w : aJ2) : Prop :=
 aC pg (rL 82 D3) w fun C9 w =>
 aC pg (bS 82) w fun t4 w =>
 aC pg (aG .lss 3 aM aM pU (.int .i64 1)) w fun t10 w =>
 Gd (eX t10 false) (fun K => K pU w) w fun t12 w =>
 Gd (eX t10 false) (fun K => aC pg (aG .gtr 3 aM aM t12 (.int .i64 56)) w K) w fun t13 w =>
 aC pg (fI t10 (.bool true) t13) w fun t14 w =>
 eM t14
  (aC pg (aH 82 C9) w fun t15 w =>
  aC pg (aJ 82 t4 t15) w fun _u w =>
  kI pg 82 t4 w fun r0 => R (.tuple #[r0, (.int .u64 0)]) w)
  (aC pg (aL 82 C9 0) w fun t18 w =>
  aC pg (aH 80 t18) w fun t19 w =>
  aC pg (jM .len #[80] 3 [t19]) w fun t20 w =>
  aC pg (aG .gtr 3 aM aM pU t20) w fun t21 w =>
  eM t21
   (aC pg (aL 82 C9 0) w fun t22 w =>
   aC pg (aH 80 t22) w fun t23 w =>
   aC pg (jM .len #[80] 3 [t23]) w fun t24 w =>
   kn pU C9 t4 t24 w)
   (kn pU C9 t4 pU w))
theorem Zw (kn : K4) (R : K1) (hn : N4 Q kn 1 2 4 6) (hr : HR FO R Q) (h : Kb kn R (g 0) (g 1) w) : bH pg mQ (aD 4 lU) Q g w :=
 dS (l := []) h hn hr trivial
def LG (R : K1) (D3 pU : aJ3) (w : aJ2) : Prop :=
 Kb (fun pU C9 t4 GC w => FM R pU C9 t4 GC w) R D3 pU w
theorem Ys (R : K1) (hr : HR FO R Q) (h : LG R (g 0) (g 1) w) : bH pg mQ lU Q g w :=
 fP 4 (Zw _ g w (FM R) R (fun g w h => aK (fP 1 (afE _ g w (MM R) (fun g w h => aK (fP 1 (agB _ g w (FY R) (fun g w h => aK (ahN _ g w R hr h)) h))) h))) hr h)
def aoV (a0 a1 : aJ3) (w : aJ2) (R : K1) : Prop :=
 LG R a0 a1 w
theorem alD {a0 a1 : aJ3} {w : aJ2} {R : K1} (h : aoV a0 a1 w R) : aR pg uP #[a0, a1] w R := by
 refine rQ (ann := mQ) Tryd.f61 lU [a0, a1] FO 57 TrydM.mixed Tryd.func61 ?_
 exact (Ys _ _ _ R (fun _ _ h => h) h)
def Ug : FA := ⟨IP, fun i => match Nat.beq i 6 with | true => .leaf ([5], [(2, 5), (3, 5)]) [(false, []), (false, []), (false, []), (false, []), (false, []), (true, [1, 2]), (false, []), (false, []), (false, []), (false, []), (false, []), (false, [])] | false => .leaf ([], []) []⟩
def V2 : List ResultVar := [.tmp 4, .tmp 5, .tmp 6]
noncomputable def RW : Code := cU Tryd.f62
def Oo (R : K1) (aQ iJ : aJ3) (w : aJ2) : Prop :=
 aR pg yG #[aQ] w fun t9 w =>
 aC pg (jM .len #[91] 3 [t9]) w fun t11 w =>
 aC pg (aG .eql 3 (.tmp 11) (.const (.int .i64 0)) t11 (.int .i64 0)) w fun t12 w =>
 eM t12
  (R (.tuple #[(.int .u32 0), (.int .i64 0), (.int .i64 1)]) w)
  (aC pg (aG .lss 3 aM aM iJ (.int .i64 0)) w fun t14 w =>
  Gd (eX t14 false) (fun K => K iJ w) w fun t16 w =>
  Gd (eX t14 false) (fun K => K t9 w) w fun t17 w =>
  Gd (eX t14 false) (fun K => aC pg (jM .len #[91] 3 [t17]) w K) w fun t18 w =>
  Gd (eX t14 false) (fun K => aC pg (aG .geq 3 aM aM t16 t18) w K) w fun t19 w =>
  aC pg (fI t14 (.bool true) t19) w fun t20 w =>
  eM t20
   (R (.tuple #[(.int .u32 0), (.int .i64 0), (.int .i64 17)]) w)
   ((dr w) = (dr w) /\
   (dr w) = (dr w) /\
   aC pg (bA 91 t9 iJ) (dr w) fun t23 w_ => w_ = (dr w) /\
   aC pg (aH 43 t23) (dr w) fun t24 w_ => w_ = (dr w) /\
   (dr w) = (dr w) /\
   aR pg IL #[aQ] (dr w) fun t26 XK =>
   (eD pg (aH 43 t23) t24 XK /\ eD pg (bA 91 t9 iJ) t23 XK /\ True) /\
   XK = XK /\
   aC pg (bA 77 t26 iJ) XK fun t28 w_ => w_ = XK /\
   aC pg (aH 3 t28) XK fun t29 w_ => w_ = XK /\
   XK = XK /\
   XK = XK /\
   XK = XK /\
   R (.tuple #[t24, t29, (.int .i64 0)]) XK))
theorem aeJ (R : K1) (hr : HR V2 R Q) (h : Oo R (g 0) (g 1) w) : bH pg Ug RW Q g w :=
 dS (kn := no) (l := []) h eP hr trivial
def anP (a0 a1 : aJ3) (w : aJ2) (R : K1) : Prop :=
 Oo R a0 a1 w
theorem akS {a0 a1 : aJ3} {w : aJ2} {R : K1} (h : anP a0 a1 w R) : aR pg IP #[a0, a1] w R := by
 refine rQ (ann := Ug) Tryd.f62 RW [a0, a1] V2 30 TrydM.mixed Tryd.func62 ?_
 exact (aeJ _ _ _ R (fun _ _ h => h) h)
def Gq : FA := ⟨qV, fun i => .leaf ([], []) []⟩
def Iv : List ResultVar := [.cell 2 142]
noncomputable def Ef : Code := cU Tryd.f63
def Al (R : K1) (wN : aJ3) (w : aJ2) : Prop :=
 aC pg (rL 47 wN) w fun s_1 w =>
 aC pg (bS 142) w fun t2 w =>
 aC pg (aL 47 s_1 0) w fun t3 w =>
 aC pg (aH 43 t3) w fun t4 w =>
 aC pg (aL 47 s_1 2) w fun t5 w =>
 aC pg (aH 43 t5) w fun t6 w =>
 aC pg (aL 47 s_1 1) w fun t7 w =>
 aC pg (aH 43 t7) w fun t8 w =>
 aC pg (bV 142 [(0, t4), (1, t6), (2, t8)]) w fun t9 w =>
 aC pg (aJ 142 t2 t9) w fun _u w =>
 kI pg 142 t2 w fun r0 => R r0 w
theorem QL (R : K1) (hr : HR Iv R Q) (h : Al R (g 0) w) : bH pg Gq Ef Q g w :=
 dS (kn := no) (l := []) h eP hr trivial
def P3 (a0 : aJ3) (w : aJ2) (R : K1) : Prop :=
 Al R a0 w
theorem Sy {a0 : aJ3} {w : aJ2} {R : K1} (h : P3 a0 w R) : aR pg qV #[a0] w R := by
 refine rQ (ann := Gq) Tryd.f63 Ef [a0] Iv 10 TrydM.mixed Tryd.func63 ?_
 exact (QL _ _ _ R (fun _ _ h => h) h)
def sI : FA := ⟨QS, fun i => match Nat.beq i 8 with | true => .leaf ([], []) [(false, []), (false, []), (false, []), (false, []), (false, []), (false, []), (false, []), (false, [])] | false => .leaf ([], []) []⟩
def yC : List ResultVar := [.tmp 4, .tmp 5, .tmp 6]
noncomputable def qD : Code := cU Tryd.f64
def Mx (R : K1)  (w : aJ2) : Prop :=
 R (.tuple #[(.int .i64 0), (.int .u32 0), (.int .i64 17)]) w
theorem amH (R : K1) (hr : HR yC R Q) (h : Mx R w) : bH pg sI (aB 1 (aB 6 qD)) Q g w :=
 dS (kn := no) (l := []) h eP hr trivial
def Mf (kn : K5) (k1 : K0) (R : K1) (iB pK t58 t59 t60 : aJ3) (w : aJ2) : Prop :=
 aC pg (aG .lss 3 aM aM t60 t59) w fun t61 w =>
 eM t61
  (aC pg (bA 77 t58 t60) w fun t63 w =>
  aC pg (aH 3 t63) w fun t64 w =>
  aC pg (aG .shl 43 aM aM (.int .u32 1) t64) w fun t67 w =>
  aC pg (aG .lss 43 aM aM iB t67) w fun t68 w =>
  eM t68
   (aC pg (aG .add 3 aM aM pK t60) w fun t71 w =>
   R (.tuple #[t71, iB, (.int .i64 0)]) w)
   (aC pg (aG .shl 43 aM aM (.int .u32 1) t64) w fun t75 w =>
   aC pg (aG .sub 43 aM aM iB t75) w fun t76 w =>
   aC pg (aG .add 3 aM aM t60 (.int .i64 1)) w fun t77 w =>
   kn t76 pK t58 t59 t77 w))
  (k1 w)
theorem apQ (kn : K5) (k1 : K0) (R : K1) (hn : N5 Q kn 1 7 58 59 60) (h1 : E0 Q k1 1) (hr : HR yC R Q) (h : Mf kn k1 R (g 1) (g 7) (g 58) (g 59) (g 60) w) : bH pg sI (bI (bI (aB 1 (aD 1 (aB 6 qD))))) Q g w :=
 dS (l := [(1, fun g w => k1 w)]) h hn hr ⟨h1, trivial⟩
def UM (k1 : K0) (R : K1) (iB pK t58 t59 t60 : aJ3) (w : aJ2) : Prop :=
 cG (fun (X : (aJ3 × aJ3) -> K0) (t : aJ3 × aJ3) (w : aJ2) => Mf (fun iB _ _ _ t60 w => X (iB, t60) w) k1 R t.1 pK t58 t59 t.2 w) (iB, t60) w
theorem aoH (k1 : K0) (R : K1) (h1 : E0 Q k1 1) (hr : HR yC R Q) (h : UM k1 R (g 1) (g 7) (g 58) (g 59) (g 60) w) : bH pg sI (bI (aB 1 (aD 1 (aB 6 qD)))) Q g w := by
 refine Db (fun g : Env => (g 1, g 60)) (fun X t w => Mf (fun iB _ _ _ t60 w => X (iB, t60) w) k1 R t.1 (g 7) (g 58) (g 59) t.2 w) h (fun X g1 w1 ha hL => ?_)
 rw [<- fF 7 ha, <- fF 58 ha, <- fF 59 ha] at hL
 exact (apQ _ g1 w1 (fun iB _ _ _ t60 w => X (iB, t60) w) k1 R (fun _ _ h => h) h1 hr hL)
def TN (kn : K0) (R : K1) (iB pK t58 t59 t60 : aJ3) (w : aJ2) : Prop :=
 UM kn R iB pK t58 t59 t60 w
def Uo (kn : K5) (iB pK OB : aJ3) (w : aJ2) : Prop :=
 aC pg (jM .len #[77] 3 [OB]) w fun t59 w =>
 kn iB pK OB t59 (.int .i64 0) w
theorem apF (kn : K5) (hn : N5 Q kn 1 7 58 59 60) (h : Uo kn (g 1) (g 7) (g 9) w) : bH pg sI (aD 1 (aD 1 (aB 6 qD))) Q g w :=
 dS (kr := no) (l := []) h hn eP trivial
def Tg (kn : K0) (R : K1) (iB pK OB : aJ3) (w : aJ2) : Prop :=
 Uo (fun iB pK t58 t59 t60 w => TN kn R iB pK t58 t59 t60 w) iB pK OB w
def Uk (R : K1) (iB pK OB : aJ3) (w : aJ2) : Prop :=
 Tg (fun  w => Mx R w) R iB pK OB w
theorem amU (kn : K0) (R : K1) (hn : N0 Q kn) (hr : HR yC R Q) (h : Tg kn R (g 1) (g 7) (g 9) w) : bH pg sI (aD 1 (aB 6 qD)) Q g w :=
 fP 1 (apF _ g w (TN kn R) (fun g w h => aK (uH 1 (aoH _ g w kn R hn hr h))) h)
def TW (kn : K3) (R : K1) (aQ iB : aJ3) (w : aJ2) : Prop :=
 aR pg Cp #[aQ] w fun t15 w =>
 aC pg (aW t15 0) w fun t16 w =>
 aC pg (aW t15 1) w fun t17 w =>
 aC pg (aW t15 2) w fun t18 w =>
 aR pg vW #[aQ] w fun t21 w =>
 aC pg (aG .lss 3 aM aM t21 (.int .i64 0)) w fun t22 w =>
 eM t22
  (R (.tuple #[(.int .i64 0), (.int .u32 0), (.int .i64 1)]) w)
  (aC pg (aG .eql 3 (.tmp 24) (.const (.int .i64 1)) aQ (.int .i64 1)) w fun t25 w =>
  Gd (eX t25 true) (fun K => K iB w) w fun t27 w =>
  Gd (eX t25 true) (fun K => aC pg (aG .eql 43 (.tmp 27) (.const (.int .u32 0)) t27 (.int .u32 0)) w K) w fun t28 w =>
  aC pg (fI t25 t28 (.bool false)) w fun t29 w =>
  eM t29
   (R (.tuple #[(.int .i64 0), (.int .u32 0), (.int .i64 17)]) w)
   (aC pg (aG .eql 3 (.tmp 31) (.const (.int .i64 1)) aQ (.int .i64 1)) w fun t32 w =>
   eM t32
    (aR pg sJ #[iB] w fun t34 w =>
    aC pg (aG .sub 3 aM aM t34 (.int .i64 1)) w fun t35 w =>
    (dr w) = (dr w) /\
    (dr w) = (dr w) /\
    (dr w) = (dr w) /\
    aC pg (aG .shl 43 aM aM (.int .u32 1) t35) (dr w) fun t39 w_ => w_ = (dr w) /\
    aC pg (aG .sub 43 aM aM iB t39) (dr w) fun t40 w_ => w_ = (dr w) /\
    (dr w) = (dr w) /\
    (dr w) = (dr w) /\
    (dr w) = (dr w) /\
    R (.tuple #[t35, t40, (.int .i64 0)]) (dr w))
    (aC pg (aG .lss 43 aM aM iB t17) w fun t44 w =>
    eM t44
     (R (.tuple #[(.int .i64 0), (.int .u32 0), (.int .i64 17)]) w)
     (aC pg (aG .sub 43 aM aM iB t17) w fun t47 w =>
     aC pg (fL 3 43 t16) w fun t50 w =>
     aC pg (aG .lss 43 aM aM t47 t50) w fun t51 w =>
     eM t51
      (aC pg (fL 43 3 t47) w fun t53 w =>
      R (.tuple #[t53, (.int .u32 0), (.int .i64 0)]) w)
      (aC pg (fL 3 43 t16) w fun t56 w =>
      aC pg (aG .sub 43 aM aM t47 t56) w fun t57 w =>
      kn t57 t16 t18 w)))))
theorem apS (kn : K3) (R : K1) (hn : N3 Q kn 1 7 9) (hr : HR yC R Q) (h : TW kn R (g 0) (g 1) w) : bH pg sI (aD 6 qD) Q g w :=
 dS (l := []) h hn hr trivial
def Tf (R : K1) (aQ iB : aJ3) (w : aJ2) : Prop :=
 TW (fun iB pK OB w => Uk R iB pK OB w) R aQ iB w
theorem apL (R : K1) (hr : HR yC R Q) (h : Tf R (g 0) (g 1) w) : bH pg sI qD Q g w :=
 fP 6 (apS _ g w (Uk R) R (fun g w h => aK (fP 1 (amU _ g w (fun  w => Mx R w) R (fun g w h => aK (amH _ g w R hr h)) hr h))) hr h)
def axK (a0 a1 : aJ3) (w : aJ2) (R : K1) : Prop :=
 Tf R a0 a1 w
theorem aqE {a0 a1 : aJ3} {w : aJ2} {R : K1} (h : axK a0 a1 w R) : aR pg QS #[a0, a1] w R := by
 refine rQ (ann := sI) Tryd.f64 qD [a0, a1] yC 78 TrydM.mixed Tryd.func64 ?_
 exact (apL _ _ _ R (fun _ _ h => h) h)
def UH : FA := ⟨vW, fun i => .leaf ([], []) []⟩
def Wf : List ResultVar := [.tmp 2]
noncomputable def Rw : Code := cU Tryd.f65
def NT (R : K1) (aQ : aJ3) (w : aJ2) : Prop :=
 aC pg (aG .eql 3 (.tmp 6) (.const (.int .i64 1)) aQ (.int .i64 1)) w fun t7 w =>
 eM t7
  (R (.int .i64 31) w)
  (aR pg Cp #[aQ] w fun t10 w =>
  aC pg (aW t10 0) w fun t11 w =>
  aC pg (aW t10 1) w fun t12 w =>
  aC pg (aW t10 2) w fun t13 w =>
  aC pg (jM .len #[77] 3 [t13]) w fun t16 w =>
  aC pg (aG .add 3 aM aM t11 t16) w fun t17 w =>
  aC pg (aG .sub 3 aM aM t17 (.int .i64 1)) w fun t18 w =>
  R t18 w)
theorem ahJ (R : K1) (hr : HR Wf R Q) (h : NT R (g 0) w) : bH pg UH Rw Q g w :=
 dS (kn := no) (l := []) h eP hr trivial
def anJ (a0 : aJ3) (w : aJ2) (R : K1) : Prop :=
 NT R a0 w
theorem ajR {a0 : aJ3} {w : aJ2} {R : K1} (h : anJ a0 w R) : aR pg vW #[a0] w R := by
 refine rQ (ann := UH) Tryd.f65 Rw [a0] Wf 19 TrydM.mixed Tryd.func65 ?_
 exact (ahJ _ _ _ R (fun _ _ h => h) h)
def P2 : FA := ⟨yN, fun i => .leaf ([], []) []⟩
def RS : List ResultVar := [.cell 2 145]
noncomputable def Mz : Code := cU Tryd.f66
def Ho (R : K1) (aQ : aJ3) (w : aJ2) : Prop :=
 aC pg (bS 145) w fun t2 w =>
 aC pg (aG .eql 3 (.tmp 6) (.const (.int .i64 0)) aQ (.int .i64 0)) w fun t8 w =>
 eM t8
  (aC pg (aH 174 (.pointer (some ⟨0, 0, none⟩))) w fun t9 w =>
  aC pg (bS 174) w fun l_3 w =>
  aC pg (aJ 174 l_3 t9) w fun _u w =>
  aC pg (fH 174 l_3 none none none) w fun t10 w =>
  aC pg (bV 145 [(0, (.int .i64 6)), (1, t10)]) w fun t11 w =>
  aC pg (aJ 145 t2 t11) w fun _u w =>
  kI pg 145 t2 w fun r0 => R r0 w)
  (aC pg (aG .eql 3 (.tmp 6) (.const (.int .i64 1)) aQ (.int .i64 1)) w fun t13 w =>
  eM t13
   (aC pg (aH 175 (.pointer (some ⟨1, 0, none⟩))) w fun t14 w =>
   aC pg (bS 175) w fun l_4 w =>
   aC pg (aJ 175 l_4 t14) w fun _u w =>
   aC pg (fH 175 l_4 none none none) w fun t15 w =>
   aC pg (bV 145 [(0, (.int .i64 5)), (1, t15)]) w fun t16 w =>
   aC pg (aJ 145 t2 t16) w fun _u w =>
   kI pg 145 t2 w fun r0 => R r0 w)
   (aC pg (aG .eql 3 (.tmp 6) (.const (.int .i64 2)) aQ (.int .i64 2)) w fun t18 w =>
   eM t18
    (aC pg (aH 176 (.pointer (some ⟨2, 0, none⟩))) w fun t19 w =>
    aC pg (bS 176) w fun l_5 w =>
    aC pg (aJ 176 l_5 t19) w fun _u w =>
    aC pg (fH 176 l_5 none none none) w fun t20 w =>
    aC pg (bV 145 [(0, (.int .i64 6)), (1, t20)]) w fun t21 w =>
    aC pg (aJ 145 t2 t21) w fun _u w =>
    kI pg 145 t2 w fun r0 => R r0 w)
    (aC pg (bV 145 []) w fun t22 w =>
    aC pg (aJ 145 t2 t22) w fun _u w =>
    kI pg 145 t2 w fun r0 => R r0 w)))
theorem Xq (R : K1) (hr : HR RS R Q) (h : Ho R (g 0) w) : bH pg P2 Mz Q g w :=
 dS (kn := no) (l := []) h eP hr trivial
def ZK (a0 : aJ3) (w : aJ2) (R : K1) : Prop :=
 Ho R a0 w
theorem ZG {a0 : aJ3} {w : aJ2} {R : K1} (h : ZK a0 w R) : aR pg yN #[a0] w R := by
 refine rQ (ann := P2) Tryd.f66 Mz [a0] RS 23 TrydM.mixed Tryd.func66 ?_
 exact (Xq _ _ _ R (fun _ _ h => h) h)
def fT : FA := ⟨sC, fun i => match Nat.beq i 3 with | true => .split 3 5 (.perm [0, 1, 2, 3, 4, 5, 6] [(3, 5)] ([3, 5, 6], [(0, 3), (0, 5), (1, 3), (1, 5), (4, 5)]) [(false, []), (false, []), (false, []), (true, [1, 2]), (false, []), (true, [0, 3, 4]), (true, [])]) (.perm [0, 1, 2, 5, 3, 4, 6] [(5, 3)] ([3, 4, 6], [(0, 3), (0, 4), (1, 3), (1, 4), (2, 3)]) [(false, []), (false, []), (false, []), (true, [0, 1, 2]), (true, [2, 3]), (false, []), (true, [])]) | false => match Nat.beq i 16 with | true => .leaf ([5, 10], [(1, 5), (2, 5)]) [(false, []), (false, []), (false, []), (false, []), (false, []), (true, [2, 3]), (false, []), (false, []), (false, []), (false, []), (true, [])] | false => match Nat.beq i 17 with | true => .leaf ([13], []) [(false, []), (false, []), (false, []), (false, []), (false, []), (false, []), (false, []), (false, []), (false, []), (false, []), (false, []), (false, []), (false, []), (true, [])] | false => .leaf ([], []) []⟩
def I4 : List ResultVar := [.cell 2 27, .tmp 3]
noncomputable def fD : Code := cU Tryd.f67
def Ji (R : K1) (t2 t4 : aJ3) (w : aJ2) : Prop :=
 aC pg (aH 27 t4) w fun t90 w =>
 aC pg (aJ 27 t2 t90) w fun _u w =>
 kI pg 27 t2 w fun r0 => R (.tuple #[r0, (.int .i64 0)]) w
theorem ajN (R : K1) (hr : HR I4 R Q) (h : Ji R (g 2) (g 4) w) : bH pg fT (aB 1 (aB 1 (aB 1 (aB 3 fD)))) Q g w :=
 dS (kn := no) (l := []) h eP hr trivial
def I0 (kn : K6) (bJ t2 t4 dT t42 t43 : aJ3) (w : aJ2) : Prop :=
 aC pg (aG .add 3 aM aM t43 (.int .i64 1)) w fun t89 w =>
 kn bJ t2 t4 dT t42 t89 w
theorem ajH (kn : K6) (hn : N6 Q kn 1 2 4 5 42 43) (h : I0 kn (g 1) (g 2) (g 4) (g 5) (g 42) (g 43) w) : bH pg fT (aB 1 (aB 2 (bI (bI (aB 1 (aD 1 (aB 1 (aB 1 (aB 3 fD))))))))) Q g w :=
 dS (kr := no) (l := []) h hn eP trivial
def I8 (kn : K6) (bJ t2 t4 dT x_9 YD t42 t43 : aJ3) (w : aJ2) : Prop :=
 (dr w) = (dr w) /\
 (dr w) = (dr w) /\
 (dr w) = (dr w) /\
 aC pg (qJ x_9) (dr w) fun t79 w_ => w_ = (dr w) /\
 aC pg (aL 123 t79 1) (dr w) fun t80 w_ => w_ = (dr w) /\
 aC pg (aH 3 t80) (dr w) fun t81 w_ => w_ = (dr w) /\
 aC pg (aG .shl 3 aM aM YD t81) (dr w) fun t82 w_ => w_ = (dr w) /\
 aC pg (aL 27 t4 1) (dr w) fun t83 w_ => w_ = (dr w) /\
 aC pg (aH 25 t83) (dr w) fun t84 w_ => w_ = (dr w) /\
 aC pg (jM .len #[25] 3 [t84]) (dr w) fun t85 w_ => w_ = (dr w) /\
 aC pg (aG .sub 3 aM aM t82 t85) (dr w) fun t86 w_ => w_ = (dr w) /\
 aC pg (qJ x_9) (dr w) fun t87 w_ => w_ = (dr w) /\
 aC pg (aL 123 t87 2) (dr w) fun t88 w_ => w_ = (dr w) /\
 aC pg (aJ 3 t88 t86) (dr w) fun _u13 aGi =>
 kn bJ t2 t4 dT t42 t43 aGi
theorem alA (kn : K6) (hn : N6 Q kn 1 2 4 5 42 43) (h : I8 kn (g 1) (g 2) (g 4) (g 5) (g 9) (g 10) (g 42) (g 43) w) : bH pg fT (aB 1 (aB 4 (bI (aD 1 (aB 2 (bI (bI (aB 1 (aD 1 (aB 1 (aB 1 (aB 3 fD)))))))))))) Q g w :=
 dS (kr := no) (l := []) h hn eP trivial
def Rk (kn : K8) (bJ t2 t4 dT x_9 YD t42 t43 : aJ3) (w : aJ2) : Prop :=
 (dr w) = (dr w) /\
 aC pg (aL 145 bJ 0) (dr w) fun t67 w_ => w_ = (dr w) /\
 aC pg (aH 3 t67) (dr w) fun t68 w_ => w_ = (dr w) /\
 (dr w) = (dr w) /\
 aC pg (fL 3 94 YD) (dr w) fun t70 w_ => w_ = (dr w) /\
 aR pg rU #[t70] (dr w) fun t71 TI =>
 (eD pg (aH 3 t67) t68 TI /\ eD pg (aL 145 bJ 0) t67 TI /\ True) /\
 aC pg (aG .sub 3 aM aM t68 t71) TI fun t72 w_ => w_ = TI /\
 aC pg (aG .add 3 aM aM t72 (.int .i64 1)) TI fun t73 w_ => w_ = TI /\
 aC pg (qJ x_9) TI fun t74 w_ => w_ = TI /\
 aC pg (aL 123 t74 1) TI fun t75 w_ => w_ = TI /\
 aC pg (aJ 3 t75 t73) TI fun _u10 aF8 =>
 kn bJ t2 t4 dT x_9 YD t42 t43 aF8
theorem akI (kn : K8) (hn : N8 Q kn 1 2 4 5 9 10 42 43) (h : Rk kn (g 1) (g 2) (g 4) (g 5) (g 9) (g 10) (g 42) (g 43) w) : bH pg fT (aD 1 (aB 4 (bI (aD 1 (aB 2 (bI (bI (aB 1 (aD 1 (aB 1 (aB 1 (aB 3 fD)))))))))))) Q g w :=
 dS (kr := no) (l := []) h hn eP trivial
def Qx (kn : K6) (bJ t2 t4 dT x_9 YD t42 t43 : aJ3) (w : aJ2) : Prop :=
 Rk (fun bJ t2 t4 dT x_9 YD t42 t43 w => I8 kn bJ t2 t4 dT x_9 YD t42 t43 w) bJ t2 t4 dT x_9 YD t42 t43 w
def QX (kn : K8) (bJ t2 t4 dT t42 t43 : aJ3) (w : aJ2) : Prop :=
 aC pg (aL 27 t4 1) w fun t46 w =>
 aC pg (aH 25 t46) w fun t47 w =>
 aC pg (bA 25 t47 t43) w fun t49 w =>
 aC pg (qJ t49) w fun t52 w =>
 aC pg (aL 123 t52 0) w fun t53 w =>
 aC pg (aH 5 t53) w fun t54 w =>
 aC pg (bA 77 dT t54) w fun t55 w =>
 aC pg (aH 3 t55) w fun t56 w =>
 aC pg (qJ t49) w fun t59 w =>
 aC pg (aL 123 t59 0) w fun t60 w =>
 aC pg (aH 5 t60) w fun t61 w =>
 aC pg (bA 77 dT t61) w fun t62 w =>
 aC pg (aH 3 t62) w fun t63 w =>
 aC pg (aG .add 3 aM aM t63 (.int .i64 1)) w fun t64 w =>
 aC pg (bA 77 dT t61) w fun t65 w =>
 aC pg (aJ 3 t65 t64) w fun _u w =>
 kn bJ t2 t4 dT t49 t56 t42 t43 w
theorem ajF (kn : K8) (hn : N8 Q kn 1 2 4 5 9 10 42 43) (h : QX kn (g 1) (g 2) (g 4) (g 5) (g 42) (g 43) w) : bH pg fT (aD 4 (bI (aD 1 (aB 2 (bI (bI (aB 1 (aD 1 (aB 1 (aB 1 (aB 3 fD))))))))))) Q g w :=
 dS (kr := no) (l := []) h hn eP trivial
def Zr (kn : K6) (bJ t2 t4 dT t42 t43 : aJ3) (w : aJ2) : Prop :=
 QX (fun bJ t2 t4 dT x_9 YD t42 t43 w => Qx kn bJ t2 t4 dT x_9 YD t42 t43 w) bJ t2 t4 dT t42 t43 w
def Q1 (kn : K6) (bJ t2 t4 dT t42 t43 : aJ3) (w : aJ2) : Prop :=
 Zr kn bJ t2 t4 dT t42 t43 w
def IU (kn : K6) (bJ t2 t4 dT t42 t43 : aJ3) (w : aJ2) : Prop :=
 Q1 (fun bJ t2 t4 dT t42 t43 w => I0 kn bJ t2 t4 dT t42 t43 w) bJ t2 t4 dT t42 t43 w
theorem alJ (kn : K6) (hn : N6 Q kn 1 2 4 5 42 43) (h : Q1 kn (g 1) (g 2) (g 4) (g 5) (g 42) (g 43) w) : bH pg fT (aD 1 (aB 2 (bI (bI (aB 1 (aD 1 (aB 1 (aB 1 (aB 3 fD))))))))) Q g w :=
 uH 3 (fP 4 (ajF _ g w (Qx kn) (fun g w h => aK (fP 1 (akI _ g w (I8 kn) (fun g w h => aK (alA _ g w kn hn h)) h))) h))
def Nf (kn : K6) (k2 : K2) (bJ t2 t4 dT t42 t43 : aJ3) (w : aJ2) : Prop :=
 aC pg (aG .lss 3 aM aM t43 t42) w fun t44 w =>
 eM t44
  (kn bJ t2 t4 dT t42 t43 w)
  (k2 t2 t4 w)
theorem afM (kn : K6) (k2 : K2) (hn : N6 Q kn 1 2 4 5 42 43) (h2 : E2 Q k2 2 2 4) (h : Nf kn k2 (g 1) (g 2) (g 4) (g 5) (g 42) (g 43) w) : bH pg fT (aD 2 (bI (bI (aB 1 (aD 1 (aB 1 (aB 1 (aB 3 fD)))))))) Q g w :=
 dS (kr := no) (l := [(2, fun g w => k2 (g 2) (g 4) w)]) h hn eP ⟨h2, trivial⟩
def F4 (kn : K6) (k2 : K2) (bJ t2 t4 dT t42 t43 : aJ3) (w : aJ2) : Prop :=
 Nf (fun bJ t2 t4 dT t42 t43 w => IU kn bJ t2 t4 dT t42 t43 w) k2 bJ t2 t4 dT t42 t43 w
def NR (k2 : K2) (bJ t2 t4 dT t42 t43 : aJ3) (w : aJ2) : Prop :=
 cG (fun (X : aJ3 -> K0) (t : aJ3) (w : aJ2) => F4 (fun _ _ _ _ _ t43 w => X t43 w) k2 bJ t2 t4 dT t42 t w) t43 w
theorem agT (kn : K6) (k2 : K2) (hn : N6 Q kn 1 2 4 5 42 43) (h2 : E2 Q k2 2 2 4) (h : F4 kn k2 (g 1) (g 2) (g 4) (g 5) (g 42) (g 43) w) : bH pg fT (bI (bI (aB 1 (aD 1 (aB 1 (aB 1 (aB 3 fD))))))) Q g w :=
 fP 2 (afM _ g w (IU kn) k2 (fun g w h => aK (fP 1 (alJ _ g w (I0 kn) (fun g w h => aK (ajH _ g w kn hn h)) h))) h2 h)
theorem aeE (k2 : K2) (h2 : E2 Q k2 2 2 4) (h : NR k2 (g 1) (g 2) (g 4) (g 5) (g 42) (g 43) w) : bH pg fT (bI (aB 1 (aD 1 (aB 1 (aB 1 (aB 3 fD)))))) Q g w := by
 refine Db (fun g : Env => g 43) (fun X t w => F4 (fun _ _ _ _ _ t43 w => X t43 w) k2 (g 1) (g 2) (g 4) (g 5) (g 42) t w) h (fun X g1 w1 ha hL => ?_)
 rw [<- fF 1 ha, <- fF 2 ha, <- fF 4 ha, <- fF 5 ha, <- fF 42 ha] at hL
 exact (agT _ g1 w1 (fun _ _ _ _ _ t43 w => X t43 w) k2 (fun _ _ h => h) h2 hL)
def M4 (kn : K2) (bJ t2 t4 dT t42 t43 : aJ3) (w : aJ2) : Prop :=
 NR kn bJ t2 t4 dT t42 t43 w
def Ob (kn : K6) (bJ t2 t4 dT : aJ3) (w : aJ2) : Prop :=
 aC pg (aL 27 t4 1) w fun t40 w =>
 aC pg (aH 25 t40) w fun t41 w =>
 aC pg (jM .len #[25] 3 [t41]) w fun t42 w =>
 kn bJ t2 t4 dT t42 (.int .i64 0) w
theorem aeX (kn : K6) (hn : N6 Q kn 1 2 4 5 42 43) (h : Ob kn (g 1) (g 2) (g 4) (g 5) w) : bH pg fT (aD 1 (aD 1 (aB 1 (aB 1 (aB 3 fD))))) Q g w :=
 dS (kr := no) (l := []) h hn eP trivial
def NO (kn : K2) (bJ t2 t4 dT : aJ3) (w : aJ2) : Prop :=
 Ob (fun bJ t2 t4 dT t42 t43 w => M4 kn bJ t2 t4 dT t42 t43 w) bJ t2 t4 dT w
def FG (R : K1) (bJ t2 t4 dT : aJ3) (w : aJ2) : Prop :=
 NO (fun t2 t4 w => Ji R t2 t4 w) bJ t2 t4 dT w
theorem ahA (kn : K2) (hn : N2 Q kn 2 4) (h : NO kn (g 1) (g 2) (g 4) (g 5) w) : bH pg fT (aD 1 (aB 1 (aB 1 (aB 3 fD)))) Q g w :=
 fP 1 (aeX _ g w (M4 kn) (fun g w h => aK (uH 2 (aeE _ g w kn hn h))) h)
def AJ (kn : K7) (k0 : K4) (bJ t2 t4 dT t25 t26 t27 : aJ3) (w : aJ2) : Prop :=
 aC pg (aG .lss 3 aM aM t27 t26) w fun t28 w =>
 eM t28
  (aC pg (bA 77 t25 t27) w fun t30 w =>
  aC pg (aH 3 t30) w fun t31 w =>
  aC pg (sUn .neg t31) w fun t36 w =>
  aC pg (jM .max #[3, 3] 3 [t31, t36]) w fun t37 w =>
  aC pg (bA 77 dT t27) w fun t38 w =>
  aC pg (aJ 3 t38 t37) w fun _u w =>
  aC pg (aG .add 3 aM aM t27 (.int .i64 1)) w fun t39 w =>
  kn bJ t2 t4 dT t25 t26 t39 w)
  (k0 bJ t2 t4 dT w)
theorem adF (kn : K7) (k0 : K4) (hn : N7 Q kn 1 2 4 5 25 26 27) (h0 : E4 Q k0 0 1 2 4 5) (h : AJ kn k0 (g 1) (g 2) (g 4) (g 5) (g 25) (g 26) (g 27) w) : bH pg fT (bI (bI (aB 1 (aD 1 (aB 1 (aB 3 fD)))))) Q g w :=
 dS (kr := no) (l := [(0, fun g w => k0 (g 1) (g 2) (g 4) (g 5) w)]) h hn eP ⟨h0, trivial⟩
def ME (k0 : K4) (bJ t2 t4 dT t25 t26 t27 : aJ3) (w : aJ2) : Prop :=
 cG (fun (X : aJ3 -> K0) (t : aJ3) (w : aJ2) => AJ (fun _ _ _ _ _ _ t27 w => X t27 w) k0 bJ t2 t4 dT t25 t26 t w) t27 w
theorem aeY (k0 : K4) (h0 : E4 Q k0 0 1 2 4 5) (h : ME k0 (g 1) (g 2) (g 4) (g 5) (g 25) (g 26) (g 27) w) : bH pg fT (bI (aB 1 (aD 1 (aB 1 (aB 3 fD))))) Q g w := by
 refine Db (fun g : Env => g 27) (fun X t w => AJ (fun _ _ _ _ _ _ t27 w => X t27 w) k0 (g 1) (g 2) (g 4) (g 5) (g 25) (g 26) t w) h (fun X g1 w1 ha hL => ?_)
 rw [<- fF 1 ha, <- fF 2 ha, <- fF 4 ha, <- fF 5 ha, <- fF 25 ha, <- fF 26 ha] at hL
 exact (adF _ g1 w1 (fun _ _ _ _ _ _ t27 w => X t27 w) k0 (fun _ _ h => h) h0 hL)
def Nq (kn : K4) (bJ t2 t4 dT t25 t26 t27 : aJ3) (w : aJ2) : Prop :=
 ME kn bJ t2 t4 dT t25 t26 t27 w
def No (kn : K7) (bJ t2 t4 dT : aJ3) (w : aJ2) : Prop :=
 aC pg (aL 145 bJ 1) w fun t24 w =>
 aC pg (aH 77 t24) w fun t25 w =>
 aC pg (jM .len #[77] 3 [t25]) w fun t26 w =>
 kn bJ t2 t4 dT t25 t26 (.int .i64 0) w
theorem adA (kn : K7) (hn : N7 Q kn 1 2 4 5 25 26 27) (h : No kn (g 1) (g 2) (g 4) (g 5) w) : bH pg fT (aD 1 (aD 1 (aB 1 (aB 3 fD)))) Q g w :=
 dS (kr := no) (l := []) h hn eP trivial
def NQ (kn : K4) (bJ t2 t4 dT : aJ3) (w : aJ2) : Prop :=
 No (fun bJ t2 t4 dT t25 t26 t27 w => Nq kn bJ t2 t4 dT t25 t26 t27 w) bJ t2 t4 dT w
def Og (R : K1) (bJ t2 t4 dT : aJ3) (w : aJ2) : Prop :=
 NQ (fun bJ t2 t4 dT w => FG R bJ t2 t4 dT w) bJ t2 t4 dT w
theorem aeB (kn : K4) (hn : N4 Q kn 1 2 4 5) (h : NQ kn (g 1) (g 2) (g 4) (g 5) w) : bH pg fT (aD 1 (aB 1 (aB 3 fD))) Q g w :=
 fP 1 (adA _ g w (Nq kn) (fun g w h => aK (uH 0 (aeY _ g w kn hn h))) h)
def Oq (kn : K4) (bJ t2 t4 : aJ3) (w : aJ2) : Prop :=
 aC pg (aL 145 bJ 1) w fun t20 w =>
 aC pg (aH 77 t20) w fun t21 w =>
 aC pg (jM .len #[77] 3 [t21]) w fun t22 w =>
 aC pg (xZ 77 t22 t22) w fun t23 w =>
 kn bJ t2 t4 t23 w
theorem abX (kn : K4) (hn : N4 Q kn 1 2 4 5) (h : Oq kn (g 1) (g 2) (g 4) w) : bH pg fT (aD 1 (aB 3 fD)) Q g w :=
 dS (kr := no) (l := []) h hn eP trivial
def AT (R : K1) (bJ t2 t4 : aJ3) (w : aJ2) : Prop :=
 Oq (fun bJ t2 t4 dT w => Og R bJ t2 t4 dT w) bJ t2 t4 w
def Fz (kn : K3) (R : K1) (c_0 : aJ3) (w : aJ2) : Prop :=
 aC pg (rL 145 c_0) w fun bJ w =>
 aC pg (bS 27) w fun t2 w =>
 aC pg (aH 145 bJ) w fun t11 w =>
 aR pg Ds #[t11, (.int .i64 15)] w fun t12 w =>
 aC pg (aG .neq 30 (.tmp 12) (.const (.int .i64 0)) t12 (.int .i64 0)) w fun t13 w =>
 eM t13
  (aC pg (bV 27 []) w fun t14 w =>
  aC pg (aJ 27 t2 t14) w fun _u w =>
  kI pg 27 t2 w fun r0 => R (.tuple #[r0, (.int .i64 1)]) w)
  (Ord (aqK sC 3 (IH 3 fD) 3 5 w)
   (aC pg (aL 145 bJ 0) (dr w) fun t15 w_ => w_ = (dr w) /\
   aC pg (aH 3 t15) (dr w) fun t16 w_ => w_ = (dr w) /\
   aC pg (aH 145 bJ) (dr w) fun t17 w_ => w_ = (dr w) /\
   aR pg DI #[t17] (dr w) fun t18 aqJ =>
   (eD pg (aH 3 t15) t16 aqJ /\ eD pg (aL 145 bJ 0) t15 aqJ /\ True) /\
   aC pg (bV 27 [(0, t16), (1, t18)]) aqJ fun t19 w_ => w_ = aqJ /\
   aC pg (bS 27) aqJ fun t4 aFe =>
   (eD pg (bV 27 [(0, t16), (1, t18)]) t19 aFe /\ eD pg (aH 3 t15) t16 aFe /\ eD pg (aL 145 bJ 0) t15 aFe /\ True) /\
   aC pg (aJ 27 t4 t19) aFe fun _u6 aGd =>
   kn bJ t2 t4 aGd)
   (aC pg (aL 145 bJ 0) (dr w) fun t15 w_ => w_ = (dr w) /\
   aC pg (aH 3 t15) (dr w) fun t16 w_ => w_ = (dr w) /\
   aC pg (aH 145 bJ) (dr w) fun t17 w_ => w_ = (dr w) /\
   aC pg (bS 27) (dr w) fun t4 aqJ =>
   (eD pg (aH 145 bJ) t17 aqJ /\ eD pg (aH 3 t15) t16 aqJ /\ eD pg (aL 145 bJ 0) t15 aqJ /\ True) /\
   aR pg DI #[t17] aqJ fun t18 Uq =>
   (eD pg (aH 3 t15) t16 Uq /\ eD pg (aL 145 bJ 0) t15 Uq /\ True) /\
   aC pg (bV 27 [(0, t16), (1, t18)]) Uq fun t19 w_ => w_ = Uq /\
   aC pg (aJ 27 t4 t19) Uq fun _u6 aGd =>
   kn bJ t2 t4 aGd))
theorem afL (kn : K3) (R : K1) (hn : N3 Q kn 1 2 4) (hr : HR I4 R Q) (h : Fz kn R (g 0) w) : bH pg fT (aD 3 fD) Q g w :=
 dS (l := []) h hn hr trivial
def FN (R : K1) (c_0 : aJ3) (w : aJ2) : Prop :=
 Fz (fun bJ t2 t4 w => AT R bJ t2 t4 w) R c_0 w
theorem aeU (R : K1) (hr : HR I4 R Q) (h : FN R (g 0) w) : bH pg fT fD Q g w :=
 fP 3 (afL _ g w (AT R) R (fun g w h => aK (fP 1 (abX _ g w (Og R) (fun g w h => aK (fP 1 (aeB _ g w (FG R) (fun g w h => aK (fP 1 (ahA _ g w (Ji R) (fun g w h => aK (ajN _ g w R hr h)) h))) h))) h))) hr h)
def agE (a0 : aJ3) (w : aJ2) (R : K1) : Prop :=
 FN R a0 w
theorem UJ {a0 : aJ3} {w : aJ2} {R : K1} (h : agE a0 w R) : aR pg sC #[a0] w R := by
 refine rQ (ann := fT) Tryd.f67 fD [a0] I4 91 TrydM.mixed Tryd.func67 ?_
 exact (aeU _ _ _ R (fun _ _ h => h) h)
def gU : FA := ⟨Cs, fun i => match Nat.beq i 22 with | true => .leaf ([], []) [(false, []), (false, []), (false, []), (false, []), (false, []), (false, []), (false, []), (false, []), (false, []), (false, []), (false, [])] | false => .leaf ([], []) []⟩
def I3 : List ResultVar := [.cell 4 145, .tmp 5]
noncomputable def gC : Code := cU Tryd.f68
def DK (R : K1) (t4 pQ gE cH : aJ3) (w : aJ2) : Prop :=
 aC pg (aL 145 pQ 1) w fun t120 w =>
 aC pg (aH 77 t120) w fun t121 w =>
 aC pg (bA 77 t121 cH) w fun t123 w =>
 aC pg (aH 3 t123) w fun t124 w =>
 aC pg (aG .add 3 aM aM t124 gE) w fun t126 w =>
 aC pg (bA 77 t121 cH) w fun t127 w =>
 aC pg (aJ 3 t127 t126) w fun _u w =>
 aC pg (aH 145 pQ) w fun t128 w =>
 aC pg (aJ 145 t4 t128) w fun _u w =>
 kI pg 145 t4 w fun r0 => R (.tuple #[r0, (.int .i64 0)]) w
theorem aiX (R : K1) (hr : HR I3 R Q) (h : DK R (g 4) (g 11) (g 12) (g 13) w) : bH pg gU (aB 1 (aB 4 (aB 1 (aB 3 gC)))) Q g w :=
 dS (kn := no) (l := []) h eP hr trivial
def I7 (kn : AL) (fM t4 fQ t7 pQ gE cH t78 t79 t80 : aJ3) (w : aJ2) : Prop :=
 aC pg (aG .add 3 aM aM t80 (.int .i64 1)) w fun t119 w =>
 kn fM t4 fQ t7 pQ gE cH t78 t79 t119 w
theorem akE (kn : AL) (hn : N10 Q kn 1 4 6 7 11 12 13 78 79 80) (h : I7 kn (g 1) (g 4) (g 6) (g 7) (g 11) (g 12) (g 13) (g 78) (g 79) (g 80) w) : bH pg gU (aB 3 (bI (bI (aB 1 (aD 1 (aB 4 (aB 1 (aB 3 gC)))))))) Q g w :=
 dS (kr := no) (l := []) h hn eP trivial
def Qe (kn : AL) (k2 : K4) (fM t4 fQ t7 pQ gE cH t78 t79 t80 : aJ3) (w : aJ2) : Prop :=
 aC pg (aG .lss 3 aM aM t80 t79) w fun t81 w =>
 eM t81
  (aC pg (bA 91 t78 t80) w fun t83 w =>
  aC pg (aH 43 t83) w fun t84 w =>
  aC pg (aG .eql 43 (.tmp 85) (.const (.int .u32 0)) t84 (.int .u32 0)) w fun t86 w =>
  eM t86
   (kn fM t4 fQ t7 pQ gE cH t78 t79 t80 w)
   (aC pg (fL 43 73 t84) w fun t88 w =>
   aC pg (aG .shl 3 aM aM (.int .i64 1) fM) w fun t90 w =>
   aC pg (aG .sub 3 aM aM t90 t7) w fun t92 w =>
   aC pg (fL 3 73 t92) w fun t93 w =>
   aC pg (aG .mul 73 aM aM t88 t93) w fun t94 w =>
   aC pg (aG .quo 73 aM aM t94 fQ) w fun t96 w =>
   aC pg (fL 73 3 t96) w fun t97 w =>
   aC pg (aL 145 pQ 1) w fun t98 w =>
   aC pg (aH 77 t98) w fun t99 w =>
   aC pg (aG .add 3 aM aM (.int .i64 1) t97) w fun t102 w =>
   aC pg (bA 77 t99 t80) w fun t103 w =>
   aC pg (aJ 3 t103 t102) w fun _u w =>
   aC pg (aG .sub 3 aM aM gE t97) w fun t106 w =>
   aC pg (aL 145 pQ 1) (dr w) fun t107 w_ => w_ = (dr w) /\
   aC pg (aH 77 t107) (dr w) fun t108 w_ => w_ = (dr w) /\
   (dr w) = (dr w) /\
   aC pg (bA 77 t108 t80) (dr w) fun t110 w_ => w_ = (dr w) /\
   aC pg (aH 3 t110) (dr w) fun t111 w_ => w_ = (dr w) /\
   aC pg (aL 145 pQ 1) (dr w) fun t112 w_ => w_ = (dr w) /\
   aC pg (aH 77 t112) (dr w) fun t113 w_ => w_ = (dr w) /\
   (dr w) = (dr w) /\
   aC pg (bA 77 t113 cH) (dr w) fun t115 w_ => w_ = (dr w) /\
   aC pg (aH 3 t115) (dr w) fun t116 w_ => w_ = (dr w) /\
   aC pg (aG .gtr 3 aM aM t111 t116) (dr w) fun t117 w_ => w_ = (dr w) /\
   eM t117
    (kn fM t4 fQ t7 pQ t106 t80 t78 t79 t80 (dr w))
    (kn fM t4 fQ t7 pQ t106 cH t78 t79 t80 (dr w))))
  (k2 t4 pQ gE cH w)
theorem alH (kn : AL) (k2 : K4) (hn : N10 Q kn 1 4 6 7 11 12 13 78 79 80) (h2 : E4 Q k2 2 4 11 12 13) (h : Qe kn k2 (g 1) (g 4) (g 6) (g 7) (g 11) (g 12) (g 13) (g 78) (g 79) (g 80) w) : bH pg gU (aD 3 (bI (bI (aB 1 (aD 1 (aB 4 (aB 1 (aB 3 gC)))))))) Q g w :=
 dS (kr := no) (l := [(2, fun g w => k2 (g 4) (g 11) (g 12) (g 13) w)]) h hn eP ⟨h2, trivial⟩
def IS (kn : AL) (k2 : K4) (fM t4 fQ t7 pQ gE cH t78 t79 t80 : aJ3) (w : aJ2) : Prop :=
 Qe (fun fM t4 fQ t7 pQ gE cH t78 t79 t80 w => I7 kn fM t4 fQ t7 pQ gE cH t78 t79 t80 w) k2 fM t4 fQ t7 pQ gE cH t78 t79 t80 w
def Qo (k2 : K4) (fM t4 fQ t7 pQ gE cH t78 t79 t80 : aJ3) (w : aJ2) : Prop :=
 cG (fun (X : (aJ3 × aJ3 × aJ3) -> K0) (t : aJ3 × aJ3 × aJ3) (w : aJ2) => IS (fun _ _ _ _ _ gE cH _ _ t80 w => X (gE, cH, t80) w) k2 fM t4 fQ t7 pQ t.1 t.2.1 t78 t79 t.2.2 w) (gE, cH, t80) w
theorem akD (kn : AL) (k2 : K4) (hn : N10 Q kn 1 4 6 7 11 12 13 78 79 80) (h2 : E4 Q k2 2 4 11 12 13) (h : IS kn k2 (g 1) (g 4) (g 6) (g 7) (g 11) (g 12) (g 13) (g 78) (g 79) (g 80) w) : bH pg gU (bI (bI (aB 1 (aD 1 (aB 4 (aB 1 (aB 3 gC))))))) Q g w :=
 fP 3 (alH _ g w (I7 kn) k2 (fun g w h => aK (akE _ g w kn hn h)) h2 h)
theorem akZ (k2 : K4) (h2 : E4 Q k2 2 4 11 12 13) (h : Qo k2 (g 1) (g 4) (g 6) (g 7) (g 11) (g 12) (g 13) (g 78) (g 79) (g 80) w) : bH pg gU (bI (aB 1 (aD 1 (aB 4 (aB 1 (aB 3 gC)))))) Q g w := by
 refine Db (fun g : Env => (g 12, g 13, g 80)) (fun X t w => IS (fun _ _ _ _ _ gE cH _ _ t80 w => X (gE, cH, t80) w) k2 (g 1) (g 4) (g 6) (g 7) (g 11) t.1 t.2.1 (g 78) (g 79) t.2.2 w) h (fun X g1 w1 ha hL => ?_)
 rw [<- fF 1 ha, <- fF 4 ha, <- fF 6 ha, <- fF 7 ha, <- fF 11 ha, <- fF 78 ha, <- fF 79 ha] at hL
 exact (akD _ g1 w1 (fun _ _ _ _ _ gE cH _ _ t80 w => X (gE, cH, t80) w) k2 (fun _ _ h => h) h2 hL)
def Ro (kn : K4) (fM t4 fQ t7 pQ gE cH t78 t79 t80 : aJ3) (w : aJ2) : Prop :=
 Qo kn fM t4 fQ t7 pQ gE cH t78 t79 t80 w
def QY (kn : AL) (eI fM t4 fQ t7 cD pQ gE cH : aJ3) (w : aJ2) : Prop :=
 aC pg (aG .add 3 aM aM cD (.int .i64 1)) w fun t77 w =>
 aC pg (fH 91 eI none (some t77) none) w fun t78 w =>
 aC pg (jM .len #[91] 3 [t78]) w fun t79 w =>
 kn fM t4 fQ t7 pQ gE cH t78 t79 (.int .i64 0) w
theorem alB (kn : AL) (hn : N10 Q kn 1 4 6 7 11 12 13 78 79 80) (h : QY kn (g 0) (g 1) (g 4) (g 6) (g 7) (g 8) (g 11) (g 12) (g 13) w) : bH pg gU (aD 1 (aD 1 (aB 4 (aB 1 (aB 3 gC))))) Q g w :=
 dS (kr := no) (l := []) h hn eP trivial
def Qu (kn : K4) (eI fM t4 fQ t7 cD pQ gE cH : aJ3) (w : aJ2) : Prop :=
 QY (fun fM t4 fQ t7 pQ gE cH t78 t79 t80 w => Ro kn fM t4 fQ t7 pQ gE cH t78 t79 t80 w) eI fM t4 fQ t7 cD pQ gE cH w
def I1 (R : K1) (eI fM t4 fQ t7 cD pQ gE cH : aJ3) (w : aJ2) : Prop :=
 Qu (fun t4 pQ gE cH w => DK R t4 pQ gE cH w) eI fM t4 fQ t7 cD pQ gE cH w
theorem ajX (kn : K4) (hn : N4 Q kn 4 11 12 13) (h : Qu kn (g 0) (g 1) (g 4) (g 6) (g 7) (g 8) (g 11) (g 12) (g 13) w) : bH pg gU (aD 1 (aB 4 (aB 1 (aB 3 gC)))) Q g w :=
 fP 1 (alB _ g w (Ro kn) (fun g w h => aK (uH 2 (akZ _ g w kn hn h))) h)
def MV (kn : K9) (R : K1) (eI fM t4 fQ t7 cD : aJ3) (w : aJ2) : Prop :=
 aC pg (aG .lss 3 aM aM fM (.int .i64 5)) w fun t35 w =>
 Gd (eX t35 false) (fun K => K fM w) w fun t37 w =>
 Gd (eX t35 false) (fun K => aC pg (aG .gtr 3 aM aM t37 (.int .i64 15)) w K) w fun t38 w =>
 aC pg (fI t35 (.bool true) t38) w fun t39 w =>
 Gd (eX t39 false) (fun K => K eI w) w fun t41 w =>
 Gd (eX t39 false) (fun K => aC pg (jM .len #[91] 3 [t41]) w K) w fun t42 w =>
 Gd (eX t39 false) (fun K => aC pg (aG .lss 3 aM aM t42 (.int .i64 1)) w K) w fun t43 w =>
 aC pg (fI t39 (.bool true) t43) w fun t44 w =>
 Gd (eX t44 false) (fun K => K eI w) w fun t46 w =>
 Gd (eX t44 false) (fun K => aC pg (jM .len #[91] 3 [t46]) w K) w fun t47 w =>
 Gd (eX t44 false) (fun K => aC pg (aG .gtr 3 aM aM t47 (.int .i64 256)) w K) w fun t48 w =>
 aC pg (fI t44 (.bool true) t48) w fun t49 w =>
 Gd (eX t49 false) (fun K => K t7 w) w fun t51 w =>
 Gd (eX t49 false) (fun K => aC pg (aG .lss 3 aM aM t51 (.int .i64 2)) w K) w fun t52 w =>
 aC pg (fI t49 (.bool true) t52) w fun t53 w =>
 Gd (eX t53 false) (fun K => K t7 w) w fun t55 w =>
 Gd (eX t53 false) (fun K => K fM w) w fun t56 w =>
 Gd (eX t53 false) (fun K => aC pg (aG .shl 3 aM aM (.int .i64 1) t56) w K) w fun t57 w =>
 Gd (eX t53 false) (fun K => aC pg (aG .gtr 3 aM aM t55 t57) w K) w fun t58 w =>
 aC pg (fI t53 (.bool true) t58) w fun t59 w =>
 Gd (eX t59 false) (fun K => K fQ w) w fun t61 w =>
 Gd (eX t59 false) (fun K => aC pg (aG .gtr 73 aM aM t61 (.int .u64 2147483647)) w K) w fun t62 w =>
 aC pg (fI t59 (.bool true) t62) w fun t63 w =>
 eM t63
  (aC pg (bV 145 []) w fun t64 w =>
  aC pg (aJ 145 t4 t64) w fun _u w =>
  kI pg 145 t4 w fun r0 => R (.tuple #[r0, (.int .i64 1)]) w)
  (aC pg (aG .add 3 aM aM cD (.int .i64 1)) w fun t67 w =>
  aC pg (xZ 77 t67 t67) w fun t68 w =>
  aC pg (bV 145 [(0, fM), (1, t68)]) w fun t69 w =>
  aC pg (bS 145) w fun pQ w =>
  aC pg (aJ 145 pQ t69) w fun _u w =>
  aC pg (aG .shl 3 aM aM (.int .i64 1) fM) w fun t71 w =>
  aC pg (aG .sub 3 aM aM t71 t7) w fun t73 w =>
  kn eI fM t4 fQ t7 cD pQ t73 cD w)
theorem acS (kn : K9) (R : K1) (hn : N9 Q kn 0 1 4 6 7 8 11 12 13) (hr : HR I3 R Q) (h : MV kn R (g 0) (g 1) (g 4) (g 6) (g 7) (g 8) w) : bH pg gU (aD 4 (aB 1 (aB 3 gC))) Q g w :=
 dS (l := []) h hn hr trivial
def FL (R : K1) (eI fM t4 fQ t7 cD : aJ3) (w : aJ2) : Prop :=
 MV (fun eI fM t4 fQ t7 cD pQ gE cH w => I1 R eI fM t4 fQ t7 cD pQ gE cH w) R eI fM t4 fQ t7 cD w
def AR (kn : K9) (eI fM t4 fQ t7 cD t17 t18 t19 : aJ3) (w : aJ2) : Prop :=
 aC pg (aG .add 3 aM aM t19 (.int .i64 1)) w fun t33 w =>
 kn eI fM t4 fQ t7 cD t17 t18 t33 w
theorem adG (kn : K9) (hn : N9 Q kn 0 1 4 6 7 8 17 18 19) (h : AR kn (g 0) (g 1) (g 4) (g 6) (g 7) (g 8) (g 17) (g 18) (g 19) w) : bH pg gU (aB 3 (bI (bI (aB 1 (aD 1 (aB 3 gC)))))) Q g w :=
 dS (kr := no) (l := []) h hn eP trivial
def Nv (kn : K9) (k0 : K6) (eI fM t4 fQ t7 cD t17 t18 t19 : aJ3) (w : aJ2) : Prop :=
 aC pg (aG .lss 3 aM aM t19 t18) w fun t20 w =>
 eM t20
  (aC pg (bA 91 t17 t19) w fun t22 w =>
  aC pg (aH 43 t22) w fun t23 w =>
  aC pg (fL 43 73 t23) w fun t26 w =>
  aC pg (aG .add 73 aM aM fQ t26) w fun t27 w =>
  aC pg (aG .gtr 43 aM aM t23 (.int .u32 0)) w fun t29 w =>
  eM t29
   (aC pg (aG .add 3 aM aM t7 (.int .i64 1)) w fun t31 w =>
   kn eI fM t4 t27 t31 t19 t17 t18 t19 w)
   (kn eI fM t4 t27 t7 cD t17 t18 t19 w))
  (k0 eI fM t4 fQ t7 cD w)
theorem adL (kn : K9) (k0 : K6) (hn : N9 Q kn 0 1 4 6 7 8 17 18 19) (h0 : E6 Q k0 0 0 1 4 6 7 8) (h : Nv kn k0 (g 0) (g 1) (g 4) (g 6) (g 7) (g 8) (g 17) (g 18) (g 19) w) : bH pg gU (aD 3 (bI (bI (aB 1 (aD 1 (aB 3 gC)))))) Q g w :=
 dS (kr := no) (l := [(0, fun g w => k0 (g 0) (g 1) (g 4) (g 6) (g 7) (g 8) w)]) h hn eP ⟨h0, trivial⟩
def FX (kn : K9) (k0 : K6) (eI fM t4 fQ t7 cD t17 t18 t19 : aJ3) (w : aJ2) : Prop :=
 Nv (fun eI fM t4 fQ t7 cD t17 t18 t19 w => AR kn eI fM t4 fQ t7 cD t17 t18 t19 w) k0 eI fM t4 fQ t7 cD t17 t18 t19 w
def NF (k0 : K6) (eI fM t4 fQ t7 cD t17 t18 t19 : aJ3) (w : aJ2) : Prop :=
 cG (fun (X : (aJ3 × aJ3 × aJ3 × aJ3) -> K0) (t : aJ3 × aJ3 × aJ3 × aJ3) (w : aJ2) => FX (fun _ _ _ fQ t7 cD _ _ t19 w => X (fQ, t7, cD, t19) w) k0 eI fM t4 t.1 t.2.1 t.2.2.1 t17 t18 t.2.2.2 w) (fQ, t7, cD, t19) w
theorem aeA (kn : K9) (k0 : K6) (hn : N9 Q kn 0 1 4 6 7 8 17 18 19) (h0 : E6 Q k0 0 0 1 4 6 7 8) (h : FX kn k0 (g 0) (g 1) (g 4) (g 6) (g 7) (g 8) (g 17) (g 18) (g 19) w) : bH pg gU (bI (bI (aB 1 (aD 1 (aB 3 gC))))) Q g w :=
 fP 3 (adL _ g w (AR kn) k0 (fun g w h => aK (adG _ g w kn hn h)) h0 h)
theorem acB (k0 : K6) (h0 : E6 Q k0 0 0 1 4 6 7 8) (h : NF k0 (g 0) (g 1) (g 4) (g 6) (g 7) (g 8) (g 17) (g 18) (g 19) w) : bH pg gU (bI (aB 1 (aD 1 (aB 3 gC)))) Q g w := by
 refine Db (fun g : Env => (g 6, g 7, g 8, g 19)) (fun X t w => FX (fun _ _ _ fQ t7 cD _ _ t19 w => X (fQ, t7, cD, t19) w) k0 (g 0) (g 1) (g 4) t.1 t.2.1 t.2.2.1 (g 17) (g 18) t.2.2.2 w) h (fun X g1 w1 ha hL => ?_)
 rw [<- fF 0 ha, <- fF 1 ha, <- fF 4 ha, <- fF 17 ha, <- fF 18 ha] at hL
 exact (aeA _ g1 w1 (fun _ _ _ fQ t7 cD _ _ t19 w => X (fQ, t7, cD, t19) w) k0 (fun _ _ h => h) h0 hL)
def On (kn : K6) (eI fM t4 fQ t7 cD t17 t18 t19 : aJ3) (w : aJ2) : Prop :=
 NF kn eI fM t4 fQ t7 cD t17 t18 t19 w
def M0 (kn : K9) (eI fM t4 fQ t7 cD : aJ3) (w : aJ2) : Prop :=
 aC pg (jM .len #[91] 3 [eI]) w fun t18 w =>
 kn eI fM t4 fQ t7 cD eI t18 (.int .i64 0) w
theorem aeR (kn : K9) (hn : N9 Q kn 0 1 4 6 7 8 17 18 19) (h : M0 kn (g 0) (g 1) (g 4) (g 6) (g 7) (g 8) w) : bH pg gU (aD 1 (aD 1 (aB 3 gC))) Q g w :=
 dS (kr := no) (l := []) h hn eP trivial
def Oj (kn : K6) (eI fM t4 fQ t7 cD : aJ3) (w : aJ2) : Prop :=
 M0 (fun eI fM t4 fQ t7 cD t17 t18 t19 w => On kn eI fM t4 fQ t7 cD t17 t18 t19 w) eI fM t4 fQ t7 cD w
def F0 (R : K1) (eI fM t4 fQ t7 cD : aJ3) (w : aJ2) : Prop :=
 Oj (fun eI fM t4 fQ t7 cD w => FL R eI fM t4 fQ t7 cD w) eI fM t4 fQ t7 cD w
theorem acC (kn : K6) (hn : N6 Q kn 0 1 4 6 7 8) (h : Oj kn (g 0) (g 1) (g 4) (g 6) (g 7) (g 8) w) : bH pg gU (aD 1 (aB 3 gC)) Q g w :=
 fP 1 (aeR _ g w (On kn) (fun g w h => aK (uH 0 (acB _ g w kn hn h))) h)
def Nu (kn : K6) (eI fM : aJ3) (w : aJ2) : Prop :=
 aC pg (bS 145) w fun t4 w =>
 kn eI fM t4 (.int .u64 0) (.int .i64 0) (.int .i64 0) w
theorem adB (kn : K6) (hn : N6 Q kn 0 1 4 6 7 8) (h : Nu kn (g 0) (g 1) w) : bH pg gU (aD 3 gC) Q g w :=
 dS (kr := no) (l := []) h hn eP trivial
def M9 (R : K1) (eI fM : aJ3) (w : aJ2) : Prop :=
 Nu (fun eI fM t4 fQ t7 cD w => F0 R eI fM t4 fQ t7 cD w) eI fM w
theorem acH (R : K1) (hr : HR I3 R Q) (h : M9 R (g 0) (g 1) w) : bH pg gU gC Q g w :=
 fP 3 (adB _ g w (F0 R) (fun g w h => aK (fP 1 (acC _ g w (FL R) (fun g w h => aK (fP 4 (acS _ g w (I1 R) R (fun g w h => aK (fP 1 (ajX _ g w (DK R) (fun g w h => aK (aiX _ g w R hr h)) h))) hr h))) h))) h)
def arD (a0 a1 : aJ3) (w : aJ2) (R : K1) : Prop :=
 M9 R a0 a1 w
theorem amT {a0 a1 : aJ3} {w : aJ2} {R : K1} (h : arD a0 a1 w R) : aR pg Cs #[a0, a1] w R := by
 refine rQ (ann := gU) Tryd.f68 gC [a0, a1] I3 129 TrydM.mixed Tryd.func68 ?_
 exact (acH _ _ _ R (fun _ _ h => h) h)
def nD : FA := ⟨sW, fun i => .leaf ([], []) []⟩
def yT : List ResultVar := [.tmp 2]
noncomputable def mA : Code := cU Tryd.f69
def DT (R : K1)  (w : aJ2) : Prop :=
 R (.int .i64 0) w
theorem ZP (R : K1) (hr : HR yT R Q) (h : DT R w) : bH pg nD (aB 1 (aB 1 mA)) Q g w :=
 dS (kn := no) (l := []) h eP hr trivial
def rD (kn : K0) (R : K1) (t3 t4 : aJ3) (w : aJ2) : Prop :=
 eM t4
  (R (.int .i64 9) w)
  (aC pg (aG .eql 3 (.tmp 3) (.const (.int .i64 1)) t3 (.int .i64 1)) w fun t8 w =>
  eM t8
   (R (.int .i64 8) w)
   (kn w))
theorem Zo (kn : K0) (R : K1) (hn : N0 Q kn) (hr : HR yT R Q) (h : rD kn R (g 3) (g 4) w) : bH pg nD (aB 1 (bI (aB 1 (aD 1 (aB 1 mA))))) Q g w :=
 dS (l := []) h hn hr trivial
def Lb (kn : K2) (t3 : aJ3) (w : aJ2) : Prop :=
 aC pg (aG .eql 3 (.tmp 3) (.const (.int .i64 0)) t3 (.int .i64 0)) w fun t5 w =>
 eM t5
  (kn t3 t5 w)
  (aC pg (aG .eql 3 (.tmp 3) (.const (.int .i64 2)) t3 (.int .i64 2)) w fun t6 w =>
  kn t3 t6 w)
theorem aaY (kn : K2) (hn : N2 Q kn 3 4) (h : Lb kn (g 3) w) : bH pg nD (aD 1 (bI (aB 1 (aD 1 (aB 1 mA))))) Q g w :=
 dS (kr := no) (l := []) h hn eP trivial
def TY (kn : K0) (R : K1) (t3 : aJ3) (w : aJ2) : Prop :=
 Lb (fun t3 t4 w => rD kn R t3 t4 w) t3 w
def J6 (kn : K0) (R : K1) (t3 : aJ3) (w : aJ2) : Prop :=
 TY kn R t3 w
def Kp (kn : K1) (aQ : aJ3) (w : aJ2) : Prop :=
 kn aQ w
theorem Yr (kn : K1) (hn : N1 Q kn 3) (h : Kp kn (g 0) w) : bH pg nD (aD 1 (aD 1 (aB 1 mA))) Q g w :=
 dS (kr := no) (l := []) h hn eP trivial
def Lr (kn : K0) (R : K1) (aQ : aJ3) (w : aJ2) : Prop :=
 Kp (fun t3 w => J6 kn R t3 w) aQ w
def Lh (R : K1) (aQ : aJ3) (w : aJ2) : Prop :=
 Lr (fun  w => DT R w) R aQ w
theorem Yq (kn : K0) (R : K1) (hn : N0 Q kn) (hr : HR yT R Q) (h : Lr kn R (g 0) w) : bH pg nD (aD 1 (aB 1 mA)) Q g w :=
 fP 1 (Yr _ g w (J6 kn R) (fun g w h => aK (uH 0 (fP 1 (aaY _ g w (rD kn R) (fun g w h => aK (Zo _ g w kn R hn hr h)) h)))) h)
def LX (kn : K1) (aQ : aJ3) (w : aJ2) : Prop :=
 kn aQ w
theorem abK (kn : K1) (hn : N1 Q kn 0) (h : LX kn (g 0) w) : bH pg nD (aD 1 mA) Q g w :=
 dS (kr := no) (l := []) h hn eP trivial
def Hc (R : K1) (aQ : aJ3) (w : aJ2) : Prop :=
 LX (fun aQ w => Lh R aQ w) aQ w
theorem WK (R : K1) (hr : HR yT R Q) (h : Hc R (g 0) w) : bH pg nD mA Q g w :=
 fP 1 (abK _ g w (Lh R) (fun g w h => aK (fP 1 (Yq _ g w (fun  w => DT R w) R (fun g w h => aK (ZP _ g w R hr h)) hr h))) h)
def ahY (a0 : aJ3) (w : aJ2) (R : K1) : Prop :=
 Hc R a0 w
theorem agX {a0 : aJ3} {w : aJ2} {R : K1} (h : ahY a0 w R) : aR pg sW #[a0] w R := by
 refine rQ (ann := nD) Tryd.f69 mA [a0] yT 9 TrydM.mixed Tryd.func69 ?_
 exact (WK _ _ _ R (fun _ _ h => h) h)
def dW : FA := ⟨DS, fun i => .leaf ([], []) []⟩
def A3 : List ResultVar := [.tmp 2, .tmp 3]
noncomputable def dI : Code := cU Tryd.f70
def wJ (R : K1) (kR : aJ3) (w : aJ2) : Prop :=
 aR pg xE #[kR] w fun t107 w =>
 R (.tuple #[t107, (.int .i64 0)]) w
theorem Wv (R : K1) (hr : HR A3 R Q) (h : wJ R (g 4) w) : bH pg dW (aB 1 (aB 5 dI)) Q g w :=
 dS (kn := no) (l := []) h eP hr trivial
def wM (kn : K4) (bJ kR cK qS : aJ3) (w : aJ2) : Prop :=
 aC pg (aG .add 3 aM aM qS (.int .i64 1)) w fun t31 w =>
 kn bJ kR cK t31 w
theorem X5 (kn : K4) (hn : N4 Q kn 1 4 5 6) (h : wM kn (g 1) (g 4) (g 5) (g 6) w) : bH pg dW (aB 1 (aB 1 (bI (bI (aB 1 (aD 1 (aB 5 dI))))))) Q g w :=
 dS (kr := no) (l := []) h hn eP trivial
def AY (kn : K4) (bJ kR cK qS fW : aJ3) (w : aJ2) : Prop :=
 aC pg (fL 3 73 fW) w fun t104 w =>
 aR pg eZ #[kR, t104, (.int .i64 2)] w fun t105 w =>
 kn bJ kR cK qS w
theorem XN (kn : K4) (hn : N4 Q kn 1 4 5 6) (h : AY kn (g 1) (g 4) (g 5) (g 6) (g 11) w) : bH pg dW (aB 1 (aB 1 (aB 1 (aB 3 (aB 5 (bI (aD 1 (aB 1 (bI (bI (aB 1 (aD 1 (aB 5 dI))))))))))))) Q g w :=
 dS (kr := no) (l := []) h hn eP trivial
def Bd (kn : K5) (k5 : K5) (bJ kR cK qS fW : aJ3) (w : aJ2) : Prop :=
 aC pg (aG .geq 3 aM aM fW (.int .i64 3)) w fun t97 w =>
 eM t97
  (aR pg eZ #[kR, (.int .u64 3), (.int .i64 2)] w fun t101 w =>
  aC pg (aG .sub 3 aM aM fW (.int .i64 3)) w fun t99 w =>
  kn bJ kR cK qS t99 w)
  (k5 bJ kR cK qS fW w)
theorem Wz (kn : K5) (k5 : K5) (hn : N5 Q kn 1 4 5 6 11) (h5 : E5 Q k5 5 1 4 5 6 11) (h : Bd kn k5 (g 1) (g 4) (g 5) (g 6) (g 11) w) : bH pg dW (bI (bI (aD 1 (aB 1 (aB 1 (aB 3 (aB 5 (bI (aD 1 (aB 1 (bI (bI (aB 1 (aD 1 (aB 5 dI))))))))))))))) Q g w :=
 dS (kr := no) (l := [(5, fun g w => k5 (g 1) (g 4) (g 5) (g 6) (g 11) w)]) h hn eP ⟨h5, trivial⟩
def Hb (k5 : K5) (bJ kR cK qS fW : aJ3) (w : aJ2) : Prop :=
 cG (fun (X : aJ3 -> K0) (t : aJ3) (w : aJ2) => Bd (fun _ _ _ _ fW w => X fW w) k5 bJ kR cK qS t w) fW w
theorem Wj (k5 : K5) (h5 : E5 Q k5 5 1 4 5 6 11) (h : Hb k5 (g 1) (g 4) (g 5) (g 6) (g 11) w) : bH pg dW (bI (aD 1 (aB 1 (aB 1 (aB 3 (aB 5 (bI (aD 1 (aB 1 (bI (bI (aB 1 (aD 1 (aB 5 dI)))))))))))))) Q g w := by
 refine Db (fun g : Env => g 11) (fun X t w => Bd (fun _ _ _ _ fW w => X fW w) k5 (g 1) (g 4) (g 5) (g 6) t w) h (fun X g1 w1 ha hL => ?_)
 rw [<- fF 1 ha, <- fF 4 ha, <- fF 5 ha, <- fF 6 ha] at hL
 exact (Wz _ g1 w1 (fun _ _ _ _ fW w => X fW w) k5 (fun _ _ h => h) h5 hL)
def G0 (kn : K5) (bJ kR cK qS fW : aJ3) (w : aJ2) : Prop :=
 Hb kn bJ kR cK qS fW w
def AV (kn : K4) (bJ kR cK qS fW : aJ3) (w : aJ2) : Prop :=
 G0 (fun bJ kR cK qS fW w => AY kn bJ kR cK qS fW w) bJ kR cK qS fW w
theorem Xf (kn : K5) (hn : N5 Q kn 1 4 5 6 11) (h : G0 kn (g 1) (g 4) (g 5) (g 6) (g 11) w) : bH pg dW (aD 1 (aB 1 (aB 1 (aB 3 (aB 5 (bI (aD 1 (aB 1 (bI (bI (aB 1 (aD 1 (aB 5 dI))))))))))))) Q g w :=
 uH 5 (Wj _ g w kn hn h)
def Hw (kn : K5) (bJ kR cK qS fW : aJ3) (w : aJ2) : Prop :=
 aC pg (aG .add 3 aM aM qS fW) w fun t95 w =>
 kn bJ kR cK t95 fW w
theorem Xr (kn : K5) (hn : N5 Q kn 1 4 5 6 11) (h : Hw kn (g 1) (g 4) (g 5) (g 6) (g 11) w) : bH pg dW (aD 1 (aB 1 (aB 3 (aB 5 (bI (aD 1 (aB 1 (bI (bI (aB 1 (aD 1 (aB 5 dI)))))))))))) Q g w :=
 dS (kr := no) (l := []) h hn eP trivial
def G5 (kn : K4) (bJ kR cK qS fW : aJ3) (w : aJ2) : Prop :=
 Hw (fun bJ kR cK qS fW w => AV kn bJ kR cK qS fW w) bJ kR cK qS fW w
def zQ (kn : K5) (k3 : K5) (bJ kR cK qS fW : aJ3) (w : aJ2) : Prop :=
 aC pg (aL 145 bJ 1) w fun t82 w =>
 aC pg (aH 77 t82) w fun t83 w =>
 aC pg (aG .add 3 aM aM qS (.int .i64 1)) w fun t85 w =>
 aC pg (aG .add 3 aM aM t85 fW) w fun t87 w =>
 aC pg (bA 77 t83 t87) w fun t88 w =>
 aC pg (aH 3 t88) w fun t89 w =>
 aC pg (aG .eql 3 (.tmp 89) (.const (.int .i64 0)) t89 (.int .i64 0)) w fun t90 w =>
 eM t90
  (aC pg (aG .add 3 aM aM fW (.int .i64 1)) w fun t92 w =>
  kn bJ kR cK qS t92 w)
  (k3 bJ kR cK qS fW w)
theorem VO (kn : K5) (k3 : K5) (hn : N5 Q kn 1 4 5 6 11) (h3 : E5 Q k3 3 1 4 5 6 11) (h : zQ kn k3 (g 1) (g 4) (g 5) (g 6) (g 11) w) : bH pg dW (bI (bI (aD 1 (aB 3 (aB 5 (bI (aD 1 (aB 1 (bI (bI (aB 1 (aD 1 (aB 5 dI))))))))))))) Q g w :=
 dS (kr := no) (l := [(3, fun g w => k3 (g 1) (g 4) (g 5) (g 6) (g 11) w)]) h hn eP ⟨h3, trivial⟩
def zX (k3 : K5) (bJ kR cK qS fW : aJ3) (w : aJ2) : Prop :=
 cG (fun (X : aJ3 -> K0) (t : aJ3) (w : aJ2) => zQ (fun _ _ _ _ fW w => X fW w) k3 bJ kR cK qS t w) fW w
theorem Vl (k3 : K5) (h3 : E5 Q k3 3 1 4 5 6 11) (h : zX k3 (g 1) (g 4) (g 5) (g 6) (g 11) w) : bH pg dW (bI (aD 1 (aB 3 (aB 5 (bI (aD 1 (aB 1 (bI (bI (aB 1 (aD 1 (aB 5 dI)))))))))))) Q g w := by
 refine Db (fun g : Env => g 11) (fun X t w => zQ (fun _ _ _ _ fW w => X fW w) k3 (g 1) (g 4) (g 5) (g 6) t w) h (fun X g1 w1 ha hL => ?_)
 rw [<- fF 1 ha, <- fF 4 ha, <- fF 5 ha, <- fF 6 ha] at hL
 exact (VO _ g1 w1 (fun _ _ _ _ fW w => X fW w) k3 (fun _ _ h => h) h3 hL)
def EM (kn : K5) (bJ kR cK qS fW : aJ3) (w : aJ2) : Prop :=
 zX kn bJ kR cK qS fW w
def EP (kn : K4) (bJ kR cK qS fW : aJ3) (w : aJ2) : Prop :=
 EM (fun bJ kR cK qS fW w => G5 kn bJ kR cK qS fW w) bJ kR cK qS fW w
theorem Vg (kn : K5) (hn : N5 Q kn 1 4 5 6 11) (h : EM kn (g 1) (g 4) (g 5) (g 6) (g 11) w) : bH pg dW (aD 1 (aB 3 (aB 5 (bI (aD 1 (aB 1 (bI (bI (aB 1 (aD 1 (aB 5 dI))))))))))) Q g w :=
 uH 3 (Vl _ g w kn hn h)
def EY (kn : K5) (k1 : K4) (bJ kR cK qS p_7 : aJ3) (w : aJ2) : Prop :=
 aR pg qM #[p_7] w fun t78 w =>
 aC pg (aG .sub 3 aM aM cK t78) w fun t79 w =>
 aC pg (aG .neq 3 (.tmp 80) (.const (.int .i64 0)) p_7 (.int .i64 0)) w fun t81 w =>
 eM t81
  (k1 bJ kR t79 qS w)
  (kn bJ kR t79 qS (.int .i64 0) w)
theorem Vb (kn : K5) (k1 : K4) (hn : N5 Q kn 1 4 5 6 11) (h1 : E4 Q k1 1 1 4 5 6) (h : EY kn k1 (g 1) (g 4) (g 5) (g 6) (g 7) w) : bH pg dW (aD 3 (aB 5 (bI (aD 1 (aB 1 (bI (bI (aB 1 (aD 1 (aB 5 dI)))))))))) Q g w :=
 dS (kr := no) (l := [(1, fun g w => k1 (g 1) (g 4) (g 5) (g 6) w)]) h hn eP ⟨h1, trivial⟩
def Fp (kn : K4) (k1 : K4) (bJ kR cK qS p_7 : aJ3) (w : aJ2) : Prop :=
 EY (fun bJ kR cK qS fW w => EP kn bJ kR cK qS fW w) k1 bJ kR cK qS p_7 w
def Ab (kn : K5) (bJ kR cK qS : aJ3) (w : aJ2) : Prop :=
 aC pg (aL 145 bJ 1) w fun t32 w =>
 aC pg (aH 77 t32) w fun t33 w =>
 aC pg (bA 77 t33 qS) w fun t35 w =>
 aC pg (aH 3 t35) w fun t36 w =>
 aC pg (aG .add 3 aM aM cK (.int .i64 1)) w fun t38 w =>
 aC pg (fL 3 94 t38) w fun t39 w =>
 aR pg rU #[t39] w fun t40 w =>
 aC pg (aG .shl 3 aM aM (.int .i64 1) t40) w fun t42 w =>
 aC pg (aG .sub 3 aM aM t42 (.int .i64 2)) w fun t43 w =>
 aC pg (aG .sub 3 aM aM t43 cK) w fun t45 w =>
 aC pg (aG .add 3 aM aM t36 (.int .i64 1)) w fun t47 w =>
 aC pg (aG .lss 3 aM aM t47 t45) w fun t58 w =>
 eM t58
  (aC pg (fL 3 73 t47) w fun t61 w =>
  aC pg (aG .sub 3 aM aM t40 (.int .i64 1)) w fun t63 w =>
  aR pg eZ #[kR, t61, t63] w fun t64 w =>
  kn bJ kR cK qS t36 w)
  (aC pg (aG .sub 3 aM aM t40 (.int .i64 1)) w fun t68 w =>
  aC pg (aG .shl 3 aM aM (.int .i64 1) t68) w fun t69 w =>
  aC pg (aG .lss 3 aM aM t47 t69) w fun t70 w =>
  eM t70
   (aC pg (fL 3 73 t47) w fun t73 w =>
   aR pg eZ #[kR, t73, t40] w fun t75 w =>
   kn bJ kR cK qS t36 w)
   (aC pg (aG .add 3 aM aM t47 t45) w fun t51 w =>
   aC pg (fL 3 73 t51) w fun t52 w =>
   aR pg eZ #[kR, t52, t40] w fun t54 w =>
   kn bJ kR cK qS t36 w))
theorem Vn (kn : K5) (hn : N5 Q kn 1 4 5 6 7) (h : Ab kn (g 1) (g 4) (g 5) (g 6) w) : bH pg dW (aD 5 (bI (aD 1 (aB 1 (bI (bI (aB 1 (aD 1 (aB 5 dI))))))))) Q g w :=
 dS (kr := no) (l := []) h hn eP trivial
def PY (kn : K4) (k1 : K4) (bJ kR cK qS : aJ3) (w : aJ2) : Prop :=
 Ab (fun bJ kR cK qS p_7 w => Fp kn k1 bJ kR cK qS p_7 w) bJ kR cK qS w
def Ey (kn : K4) (bJ kR cK qS : aJ3) (w : aJ2) : Prop :=
 PY kn kn bJ kR cK qS w
def EN (kn : K4) (bJ kR cK qS : aJ3) (w : aJ2) : Prop :=
 Ey (fun bJ kR cK qS w => wM kn bJ kR cK qS w) bJ kR cK qS w
theorem Vs (kn : K4) (hn : N4 Q kn 1 4 5 6) (h : Ey kn (g 1) (g 4) (g 5) (g 6) w) : bH pg dW (aD 1 (aB 1 (bI (bI (aB 1 (aD 1 (aB 5 dI))))))) Q g w :=
 uH 1 (fP 5 (Vn _ g w (Fp kn kn) (fun g w h => aK (fP 3 (Vb _ g w (EP kn) kn (fun g w h => aK (fP 1 (Vg _ g w (G5 kn) (fun g w h => aK (fP 1 (Xr _ g w (AV kn) (fun g w h => aK (fP 1 (Xf _ g w (AY kn) (fun g w h => aK (XN _ g w kn hn h)) h))) h))) h))) hn h))) h))
def EG (kn : K4) (k0 : K1) (bJ kR cK qS : aJ3) (w : aJ2) : Prop :=
 aC pg (aL 145 bJ 1) w fun t26 w =>
 aC pg (aH 77 t26) w fun t27 w =>
 aC pg (jM .len #[77] 3 [t27]) w fun t28 w =>
 aC pg (aG .lss 3 aM aM qS t28) w fun t29 w =>
 eM t29
  (kn bJ kR cK qS w)
  (k0 kR w)
theorem VF (kn : K4) (k0 : K1) (hn : N4 Q kn 1 4 5 6) (h0 : E1 Q k0 0 4) (h : EG kn k0 (g 1) (g 4) (g 5) (g 6) w) : bH pg dW (aD 1 (bI (bI (aB 1 (aD 1 (aB 5 dI)))))) Q g w :=
 dS (kr := no) (l := [(0, fun g w => k0 (g 4) w)]) h hn eP ⟨h0, trivial⟩
def zN (kn : K4) (k0 : K1) (bJ kR cK qS : aJ3) (w : aJ2) : Prop :=
 EG (fun bJ kR cK qS w => EN kn bJ kR cK qS w) k0 bJ kR cK qS w
def Ev (k0 : K1) (bJ kR cK qS : aJ3) (w : aJ2) : Prop :=
 cG (fun (X : (aJ3 × aJ3) -> K0) (t : aJ3 × aJ3) (w : aJ2) => zN (fun _ _ cK qS w => X (cK, qS) w) k0 bJ kR t.1 t.2 w) (cK, qS) w
theorem VL (kn : K4) (k0 : K1) (hn : N4 Q kn 1 4 5 6) (h0 : E1 Q k0 0 4) (h : zN kn k0 (g 1) (g 4) (g 5) (g 6) w) : bH pg dW (bI (bI (aB 1 (aD 1 (aB 5 dI))))) Q g w :=
 fP 1 (VF _ g w (EN kn) k0 (fun g w h => aK (fP 1 (Vs _ g w (wM kn) (fun g w h => aK (X5 _ g w kn hn h)) h))) h0 h)
theorem Vu (k0 : K1) (h0 : E1 Q k0 0 4) (h : Ev k0 (g 1) (g 4) (g 5) (g 6) w) : bH pg dW (bI (aB 1 (aD 1 (aB 5 dI)))) Q g w := by
 refine Db (fun g : Env => (g 5, g 6)) (fun X t w => zN (fun _ _ cK qS w => X (cK, qS) w) k0 (g 1) (g 4) t.1 t.2 w) h (fun X g1 w1 ha hL => ?_)
 rw [<- fF 1 ha, <- fF 4 ha] at hL
 exact (VL _ g1 w1 (fun _ _ cK qS w => X (cK, qS) w) k0 (fun _ _ h => h) h0 hL)
def EI (kn : K1) (bJ kR cK qS : aJ3) (w : aJ2) : Prop :=
 Ev kn bJ kR cK qS w
def EL (kn : K4) (bJ kR cK : aJ3) (w : aJ2) : Prop :=
 kn bJ kR cK (.int .i64 0) w
theorem Vo (kn : K4) (hn : N4 Q kn 1 4 5 6) (h : EL kn (g 1) (g 4) (g 5) w) : bH pg dW (aD 1 (aD 1 (aB 5 dI))) Q g w :=
 dS (kr := no) (l := []) h hn eP trivial
def Fi (kn : K1) (bJ kR cK : aJ3) (w : aJ2) : Prop :=
 EL (fun bJ kR cK qS w => EI kn bJ kR cK qS w) bJ kR cK w
def zT (R : K1) (bJ kR cK : aJ3) (w : aJ2) : Prop :=
 Fi (fun kR w => wJ R kR w) bJ kR cK w
theorem VN (kn : K1) (hn : N1 Q kn 4) (h : Fi kn (g 1) (g 4) (g 5) w) : bH pg dW (aD 1 (aB 5 dI)) Q g w :=
 fP 1 (Vo _ g w (EI kn) (fun g w h => aK (uH 0 (Vu _ g w kn hn h))) h)
def ED (kn : K3) (R : K1) (c_0 : aJ3) (w : aJ2) : Prop :=
 aC pg (rL 145 c_0) w fun bJ w =>
 aC pg (aH 145 bJ) w fun t12 w =>
 aR pg CG #[t12] w fun t13 w =>
 aC pg (sUn .not t13) w fun t14 w =>
 eM t14
  (R (.tuple #[(.slice none 0 0), (.int .i64 1)]) w)
  (aR pg qI #[] w fun t15 w =>
  aC pg (aL 145 bJ 0) w fun t17 w =>
  aC pg (aH 3 t17) w fun t18 w =>
  aC pg (aG .sub 3 aM aM t18 (.int .i64 5)) w fun t19 w =>
  aC pg (fL 3 73 t19) w fun t20 w =>
  aR pg eZ #[t15, t20, (.int .i64 4)] w fun t21 w =>
  aC pg (aL 145 bJ 0) w fun t22 w =>
  aC pg (aH 3 t22) w fun t23 w =>
  aC pg (aG .shl 3 aM aM (.int .i64 1) t23) w fun t24 w =>
  kn bJ t15 t24 w)
theorem Vp (kn : K3) (R : K1) (hn : N3 Q kn 1 4 5) (hr : HR A3 R Q) (h : ED kn R (g 0) w) : bH pg dW (aD 5 dI) Q g w :=
 dS (l := []) h hn hr trivial
def EZ (R : K1) (c_0 : aJ3) (w : aJ2) : Prop :=
 ED (fun bJ kR cK w => zT R bJ kR cK w) R c_0 w
theorem VQ (R : K1) (hr : HR A3 R Q) (h : EZ R (g 0) w) : bH pg dW dI Q g w :=
 fP 5 (Vp _ g w (zT R) R (fun g w h => aK (fP 1 (VN _ g w (wJ R) (fun g w h => aK (Wv _ g w R hr h)) h))) hr h)
def Ym (a0 : aJ3) (w : aJ2) (R : K1) : Prop :=
 EZ R a0 w
theorem YU {a0 : aJ3} {w : aJ2} {R : K1} (h : Ym a0 w R) : aR pg DS #[a0] w R := by
 refine rQ (ann := dW) Tryd.f70 dI [a0] A3 108 TrydM.mixed Tryd.func70 ?_
 exact (VQ _ _ _ R (fun _ _ h => h) h)
def Jq : FA := ⟨qI, fun i => .leaf ([], []) []⟩
def Mq : List ResultVar := [.tmp 0]
noncomputable def IC : Code := cU Tryd.f71
def xN (R : K1)  (w : aJ2) : Prop :=
 aC pg (bV 183 []) w fun t1 w =>
 aC pg (rL 183 t1) w fun t2 w =>
 R t2 w
theorem Te (R : K1) (hr : HR Mq R Q) (h : xN R w) : bH pg Jq IC Q g w :=
 dS (kn := no) (l := []) h eP hr trivial
def Jr (w : aJ2) (R : K1) : Prop :=
 xN R w
theorem IG {w : aJ2} {R : K1} (h : Jr w R) : aR pg qI #[] w R := by
 refine rQ (ann := Jq) Tryd.f71 IC [] Mq 3 TrydM.mixed Tryd.func71 ?_
 exact (Te _ _ _ R (fun _ _ h => h) h)
def qC : FA := ⟨Mr, fun i => .leaf ([], []) []⟩
def Af : List ResultVar := [.tmp 4, .tmp 5]
noncomputable def oL : Code := cU Tryd.f72
def Jg (R : K1)  (w : aJ2) : Prop :=
 R (.tuple #[(.int .i64 0), (.int .i64 21)]) w
theorem ajG (R : K1) (hr : HR Af R Q) (h : Jg R w) : bH pg qC (aB 1 (aB 1 oL)) Q g w :=
 dS (kn := no) (l := []) h eP hr trivial
def Ja (kn : K4) (k0 : K0) (R : K1) (kC t9 t10 t11 : aJ3) (w : aJ2) : Prop :=
 aC pg (aG .lss 3 aM aM t11 t10) w fun t12 w =>
 eM t12
  (aC pg (bA 25 t9 t11) w fun t14 w =>
  aC pg (aH 123 t14) w fun t15 w =>
  aC pg (bS 123) w fun pD w =>
  aC pg (aJ 123 pD t15) w fun _u w =>
  aC pg (aL 123 pD 0) w fun t16 w =>
  aC pg (aH 5 t16) w fun t17 w =>
  aC pg (aG .eql 5 (.tmp 17) (.tmp 18) t17 kC) w fun t19 w =>
  eM t19
   (R (.tuple #[t11, (.int .i64 0)]) w)
   (aC pg (aG .add 3 aM aM t11 (.int .i64 1)) w fun t21 w =>
   kn kC t9 t10 t21 w))
  (k0 w)
theorem akC (kn : K4) (k0 : K0) (R : K1) (hn : N4 Q kn 1 9 10 11) (h0 : E0 Q k0 0) (hr : HR Af R Q) (h : Ja kn k0 R (g 1) (g 9) (g 10) (g 11) w) : bH pg qC (bI (bI (aB 1 (aD 1 (aB 1 oL))))) Q g w :=
 dS (l := [(0, fun g w => k0 w)]) h hn hr ⟨h0, trivial⟩
def Qf (k0 : K0) (R : K1) (kC t9 t10 t11 : aJ3) (w : aJ2) : Prop :=
 cG (fun (X : aJ3 -> K0) (t : aJ3) (w : aJ2) => Ja (fun _ _ _ t11 w => X t11 w) k0 R kC t9 t10 t w) t11 w
theorem aiV (k0 : K0) (R : K1) (h0 : E0 Q k0 0) (hr : HR Af R Q) (h : Qf k0 R (g 1) (g 9) (g 10) (g 11) w) : bH pg qC (bI (aB 1 (aD 1 (aB 1 oL)))) Q g w := by
 refine Db (fun g : Env => g 11) (fun X t w => Ja (fun _ _ _ t11 w => X t11 w) k0 R (g 1) (g 9) (g 10) t w) h (fun X g1 w1 ha hL => ?_)
 rw [<- fF 1 ha, <- fF 9 ha, <- fF 10 ha] at hL
 exact (akC _ g1 w1 (fun _ _ _ t11 w => X t11 w) k0 R (fun _ _ h => h) h0 hr hL)
def QH (kn : K0) (R : K1) (kC t9 t10 t11 : aJ3) (w : aJ2) : Prop :=
 Qf kn R kC t9 t10 t11 w
def Qp (kn : K4) (kC t2 : aJ3) (w : aJ2) : Prop :=
 aC pg (aL 27 t2 1) w fun t8 w =>
 aC pg (aH 25 t8) w fun t9 w =>
 aC pg (jM .len #[25] 3 [t9]) w fun t10 w =>
 kn kC t9 t10 (.int .i64 0) w
theorem akX (kn : K4) (hn : N4 Q kn 1 9 10 11) (h : Qp kn (g 1) (g 2) w) : bH pg qC (aD 1 (aD 1 (aB 1 oL))) Q g w :=
 dS (kr := no) (l := []) h hn eP trivial
def Qv (kn : K0) (R : K1) (kC t2 : aJ3) (w : aJ2) : Prop :=
 Qp (fun kC t9 t10 t11 w => QH kn R kC t9 t10 t11 w) kC t2 w
def Rb (R : K1) (kC t2 : aJ3) (w : aJ2) : Prop :=
 Qv (fun  w => Jg R w) R kC t2 w
theorem ajO (kn : K0) (R : K1) (hn : N0 Q kn) (hr : HR Af R Q) (h : Qv kn R (g 1) (g 2) w) : bH pg qC (aD 1 (aB 1 oL)) Q g w :=
 fP 1 (akX _ g w (QH kn R) (fun g w h => aK (uH 0 (aiV _ g w kn R hn hr h))) h)
def Q2 (kn : K2) (t0 kC : aJ3) (w : aJ2) : Prop :=
 aC pg (rL 27 t0) w fun t2 w =>
 kn kC t2 w
theorem aiZ (kn : K2) (hn : N2 Q kn 1 2) (h : Q2 kn (g 0) (g 1) w) : bH pg qC (aD 1 oL) Q g w :=
 dS (kr := no) (l := []) h hn eP trivial
def QO (R : K1) (t0 kC : aJ3) (w : aJ2) : Prop :=
 Q2 (fun kC t2 w => Rb R kC t2 w) t0 kC w
theorem ajE (R : K1) (hr : HR Af R Q) (h : QO R (g 0) (g 1) w) : bH pg qC oL Q g w :=
 fP 1 (aiZ _ g w (Rb R) (fun g w h => aK (fP 1 (ajO _ g w (fun  w => Jg R w) R (fun g w h => aK (ajG _ g w R hr h)) hr h))) h)
def asH (a0 a1 : aJ3) (w : aJ2) (R : K1) : Prop :=
 QO R a0 a1 w
theorem aoA {a0 a1 : aJ3} {w : aJ2} {R : K1} (h : asH a0 a1 w R) : aR pg Mr #[a0, a1] w R := by
 refine rQ (ann := qC) Tryd.f72 oL [a0, a1] Af 22 TrydM.mixed Tryd.func72 ?_
 exact (ajE _ _ _ R (fun _ _ h => h) h)
def oD : FA := ⟨Jh, fun i => match Nat.beq i 8 with | true => .leaf ([], []) [(false, []), (false, []), (false, []), (false, []), (false, []), (false, []), (false, []), (false, []), (false, [])] | false => .leaf ([], []) []⟩
def sU : List ResultVar := [.tmp 6, .tmp 7, .tmp 8, .tmp 9]
noncomputable def nC : Code := cU Tryd.f73
def FT (R : K1)  (w : aJ2) : Prop :=
 R (.tuple #[(.int .i64 0), (.int .u64 0), (.int .i64 0), (.int .i64 21)]) w
theorem aeI (R : K1) (hr : HR sU R Q) (h : FT R w) : bH pg oD (aB 1 (aB 2 nC)) Q g w :=
 dS (kn := no) (l := []) h eP hr trivial
def FD (kn : K5) (k0 : K0) (R : K1) (hY jZ t23 t24 t25 : aJ3) (w : aJ2) : Prop :=
 aC pg (aG .lss 3 aM aM t25 t24) w fun t26 w =>
 eM t26
  (aC pg (bA 25 t23 t25) w fun t28 w =>
  aC pg (aH 123 t28) w fun t29 w =>
  aC pg (bS 123) w fun aC4 w =>
  aC pg (aJ 123 aC4 t29) w fun _u w =>
  aC pg (aL 123 aC4 2) w fun t31 w =>
  aC pg (aH 3 t31) w fun t32 w =>
  aC pg (aG .sub 3 aM aM hY t32) w fun t33 w =>
  aC pg (aL 123 aC4 0) w fun t34 w =>
  aC pg (aH 5 t34) w fun t35 w =>
  aC pg (aG .eql 5 (.tmp 35) (.tmp 36) t35 jZ) w fun t37 w =>
  Gd (eX t37 true) (fun K => K t33 w) w fun t39 w =>
  Gd (eX t37 true) (fun K => aC pg (aG .geq 3 aM aM t39 (.int .i64 0)) w K) w fun t40 w =>
  aC pg (fI t37 t40 (.bool false)) w fun t41 w =>
  Gd (eX t41 true) (fun K => K t33 w) w fun t43 w =>
  Gd (eX t41 true) (fun K => aC pg (aL 123 aC4 1) w K) w fun t44 w =>
  Gd (eX t41 true) (fun K => aC pg (aH 3 t44) w K) w fun t45 w =>
  Gd (eX t41 true) (fun K => aC pg (aG .shl 3 aM aM (.int .i64 1) t45) w K) w fun t46 w =>
  Gd (eX t41 true) (fun K => aC pg (aG .lss 3 aM aM t43 t46) w K) w fun t47 w =>
  aC pg (fI t41 t47 (.bool false)) w fun t48 w =>
  eM t48
   ((dr w) = (dr w) /\
   (dr w) = (dr w) /\
   aC pg (fL 3 73 t33) (dr w) fun t51 w_ => w_ = (dr w) /\
   aC pg (aL 123 aC4 1) (dr w) fun t52 w_ => w_ = (dr w) /\
   aC pg (aH 3 t52) (dr w) fun t53 w_ => w_ = (dr w) /\
   (dr w) = (dr w) /\
   (dr w) = (dr w) /\
   (dr w) = (dr w) /\
   (dr w) = (dr w) /\
   R (.tuple #[t25, t51, t53, (.int .i64 0)]) (dr w))
   (aC pg (aG .add 3 aM aM t25 (.int .i64 1)) w fun t54 w =>
   kn hY jZ t23 t24 t54 w))
  (k0 w)
theorem adO (kn : K5) (k0 : K0) (R : K1) (hn : N5 Q kn 1 2 23 24 25) (h0 : E0 Q k0 0) (hr : HR sU R Q) (h : FD kn k0 R (g 1) (g 2) (g 23) (g 24) (g 25) w) : bH pg oD (bI (bI (aB 1 (aD 1 (aB 2 nC))))) Q g w :=
 dS (l := [(0, fun g w => k0 w)]) h hn hr ⟨h0, trivial⟩
def OL (k0 : K0) (R : K1) (hY jZ t23 t24 t25 : aJ3) (w : aJ2) : Prop :=
 cG (fun (X : aJ3 -> K0) (t : aJ3) (w : aJ2) => FD (fun _ _ _ _ t25 w => X t25 w) k0 R hY jZ t23 t24 t w) t25 w
theorem afN (k0 : K0) (R : K1) (h0 : E0 Q k0 0) (hr : HR sU R Q) (h : OL k0 R (g 1) (g 2) (g 23) (g 24) (g 25) w) : bH pg oD (bI (aB 1 (aD 1 (aB 2 nC)))) Q g w := by
 refine Db (fun g : Env => g 25) (fun X t w => FD (fun _ _ _ _ t25 w => X t25 w) k0 R (g 1) (g 2) (g 23) (g 24) t w) h (fun X g1 w1 ha hL => ?_)
 rw [<- fF 1 ha, <- fF 2 ha, <- fF 23 ha, <- fF 24 ha] at hL
 exact (adO _ g1 w1 (fun _ _ _ _ t25 w => X t25 w) k0 R (fun _ _ h => h) h0 hr hL)
def NS (kn : K0) (R : K1) (hY jZ t23 t24 t25 : aJ3) (w : aJ2) : Prop :=
 OL kn R hY jZ t23 t24 t25 w
def Nd (kn : K5) (hY jZ t3 : aJ3) (w : aJ2) : Prop :=
 aC pg (aL 27 t3 1) w fun t22 w =>
 aC pg (aH 25 t22) w fun t23 w =>
 aC pg (jM .len #[25] 3 [t23]) w fun t24 w =>
 kn hY jZ t23 t24 (.int .i64 0) w
theorem ahI (kn : K5) (hn : N5 Q kn 1 2 23 24 25) (h : Nd kn (g 1) (g 2) (g 3) w) : bH pg oD (aD 1 (aD 1 (aB 2 nC))) Q g w :=
 dS (kr := no) (l := []) h hn eP trivial
def Od (kn : K0) (R : K1) (hY jZ t3 : aJ3) (w : aJ2) : Prop :=
 Nd (fun hY jZ t23 t24 t25 w => NS kn R hY jZ t23 t24 t25 w) hY jZ t3 w
def OH (R : K1) (hY jZ t3 : aJ3) (w : aJ2) : Prop :=
 Od (fun  w => FT R w) R hY jZ t3 w
theorem aeV (kn : K0) (R : K1) (hn : N0 Q kn) (hr : HR sU R Q) (h : Od kn R (g 1) (g 2) (g 3) w) : bH pg oD (aD 1 (aB 2 nC)) Q g w :=
 fP 1 (ahI _ g w (NS kn R) (fun g w h => aK (uH 0 (afN _ g w kn R hn hr h))) h)
def Oz (kn : K3) (R : K1) (t0 hY jZ : aJ3) (w : aJ2) : Prop :=
 aC pg (rL 27 t0) w fun t3 w =>
 aC pg (aG .lss 3 aM aM hY (.int .i64 0)) w fun t14 w =>
 Gd (eX t14 false) (fun K => K hY w) w fun t16 w =>
 Gd (eX t14 false) (fun K => aC pg (aL 27 t3 1) w K) w fun t17 w =>
 Gd (eX t14 false) (fun K => aC pg (aH 25 t17) w K) w fun t18 w =>
 Gd (eX t14 false) (fun K => aC pg (jM .len #[25] 3 [t18]) w K) w fun t19 w =>
 Gd (eX t14 false) (fun K => aC pg (aG .geq 3 aM aM t16 t19) w K) w fun t20 w =>
 aC pg (fI t14 (.bool true) t20) w fun t21 w =>
 eM t21
  (R (.tuple #[(.int .i64 0), (.int .u64 0), (.int .i64 0), (.int .i64 1)]) w)
  (kn hY jZ t3 w)
theorem acD (kn : K3) (R : K1) (hn : N3 Q kn 1 2 3) (hr : HR sU R Q) (h : Oz kn R (g 0) (g 1) (g 2) w) : bH pg oD (aD 2 nC) Q g w :=
 dS (l := []) h hn hr trivial
def Nn (R : K1) (t0 hY jZ : aJ3) (w : aJ2) : Prop :=
 Oz (fun hY jZ t3 w => OH R hY jZ t3 w) R t0 hY jZ w
theorem adY (R : K1) (hr : HR sU R Q) (h : Nn R (g 0) (g 1) (g 2) w) : bH pg oD nC Q g w :=
 fP 2 (acD _ g w (OH R) R (fun g w h => aK (fP 1 (aeV _ g w (fun  w => FT R w) R (fun g w h => aK (aeI _ g w R hr h)) hr h))) hr h)
def aoY (a0 a1 a2 : aJ3) (w : aJ2) (R : K1) : Prop :=
 Nn R a0 a1 a2 w
theorem ajL {a0 a1 a2 : aJ3} {w : aJ2} {R : K1} (h : aoY a0 a1 a2 w R) : aR pg Jh #[a0, a1, a2] w R := by
 refine rQ (ann := oD) Tryd.f73 nC [a0, a1, a2] sU 55 TrydM.mixed Tryd.func73 ?_
 exact (adY _ _ _ R (fun _ _ h => h) h)
def gJ : FA := ⟨eZ, fun i => match Nat.beq i 6 with | true => .leaf ([25], []) [(false, []), (false, []), (false, []), (false, []), (false, []), (false, []), (false, []), (false, []), (false, []), (false, []), (false, []), (false, []), (false, []), (false, []), (false, []), (false, []), (false, []), (false, []), (false, []), (false, []), (false, []), (false, []), (false, []), (false, []), (false, []), (true, [])] | false => .leaf ([], []) []⟩
def xS : List ResultVar := []
noncomputable def fZ : Code := cU Tryd.f74
def pC (kn : K4) (uG D6 t17 t18 : aJ3) (w : aJ2) : Prop :=
 aC pg (aG .add 3 aM aM t18 (.int .i64 1)) w fun t68 w =>
 kn uG D6 t17 t68 w
theorem PZ (kn : K4) (hn : N4 Q kn 0 1 17 18) (h : pC kn (g 0) (g 1) (g 17) (g 18) w) : bH pg gJ (aB 1 (aB 2 (bI (bI (aB 2 fZ))))) Q g w :=
 dS (kr := no) (l := []) h hn eP trivial
def kL (kn : K4) (uG D6 qS t17 t18 : aJ3) (w : aJ2) : Prop :=
 (dr w) = (dr w) /\
 aC pg (qJ uG) (dr w) fun t37 w_ => w_ = (dr w) /\
 aC pg (aL 183 t37 0) (dr w) fun t38 w_ => w_ = (dr w) /\
 aC pg (aH 22 t38) (dr w) fun t39 w_ => w_ = (dr w) /\
 (dr w) = (dr w) /\
 aC pg (qJ uG) (dr w) fun t41 w_ => w_ = (dr w) /\
 aC pg (aL 183 t41 1) (dr w) fun t42 w_ => w_ = (dr w) /\
 aC pg (aH 3 t42) (dr w) fun t43 w_ => w_ = (dr w) /\
 aC pg (aG .quo 3 aM aM t43 (.int .i64 8)) (dr w) fun t44 w_ => w_ = (dr w) /\
 aC pg (bA 22 t39 t44) (dr w) fun t45 w_ => w_ = (dr w) /\
 aC pg (aH 5 t45) (dr w) fun t46 w_ => w_ = (dr w) /\
 (dr w) = (dr w) /\
 (dr w) = (dr w) /\
 aC pg (fL 3 94 qS) (dr w) fun t49 w_ => w_ = (dr w) /\
 aC pg (aG .shr 73 aM aM D6 t49) (dr w) fun t50 w_ => w_ = (dr w) /\
 aC pg (aG .and 73 aM aM t50 (.int .u64 1)) (dr w) fun t51 w_ => w_ = (dr w) /\
 aC pg (fL 73 5 t51) (dr w) fun t52 w_ => w_ = (dr w) /\
 (dr w) = (dr w) /\
 aC pg (qJ uG) (dr w) fun t54 w_ => w_ = (dr w) /\
 aC pg (aL 183 t54 1) (dr w) fun t55 w_ => w_ = (dr w) /\
 aC pg (aH 3 t55) (dr w) fun t56 w_ => w_ = (dr w) /\
 aC pg (aG .rem 3 aM aM t56 (.int .i64 8)) (dr w) fun t57 w_ => w_ = (dr w) /\
 aC pg (aG .shl 5 aM aM t52 t57) (dr w) fun t58 w_ => w_ = (dr w) /\
 aC pg (aG .or 5 aM aM t46 t58) (dr w) fun t59 w_ => w_ = (dr w) /\
 aC pg (bA 22 t39 t44) (dr w) fun t60 w_ => w_ = (dr w) /\
 aC pg (aJ 5 t60 t59) (dr w) fun _u25 aG2 =>
 aC pg (qJ uG) aG2 fun t62 w =>
 aC pg (aL 183 t62 1) w fun t63 w =>
 aC pg (aH 3 t63) w fun t64 w =>
 aC pg (aG .add 3 aM aM t64 (.int .i64 1)) w fun t65 w =>
 aC pg (qJ uG) w fun t66 w =>
 aC pg (aL 183 t66 1) w fun t67 w =>
 aC pg (aJ 3 t67 t65) w fun _u w =>
 kn uG D6 t17 t18 w
theorem O8 (kn : K4) (hn : N4 Q kn 0 1 17 18) (h : kL kn (g 0) (g 1) (g 6) (g 17) (g 18) w) : bH pg gJ (aB 2 (bI (aD 1 (aB 2 (bI (bI (aB 2 fZ))))))) Q g w :=
 dS (kr := no) (l := []) h hn eP trivial
def sF (kn : K5) (uG D6 t17 t18 : aJ3) (w : aJ2) : Prop :=
 aC pg (qJ uG) w fun t22 w =>
 aC pg (aL 183 t22 1) w fun t23 w =>
 aC pg (aH 3 t23) w fun t24 w =>
 aC pg (aG .rem 3 aM aM t24 (.int .i64 8)) w fun t25 w =>
 aC pg (aG .eql 3 (.tmp 25) (.const (.int .i64 0)) t25 (.int .i64 0)) w fun t26 w =>
 eM t26
  (aC pg (qJ uG) w fun t29 w =>
  aC pg (aL 183 t29 0) w fun t30 w =>
  aC pg (aH 22 t30) w fun t31 w =>
  aC pg (bX 22 1 [(0, (.int .u8 0))]) w fun t32 w =>
  aC pg (jM .append #[22, 22] 22 [t31, t32]) w fun t33 w =>
  aC pg (qJ uG) w fun t34 w =>
  aC pg (aL 183 t34 0) w fun t35 w =>
  aC pg (aJ 22 t35 t33) w fun _u w =>
  kn uG D6 t18 t17 t18 w)
  (kn uG D6 t18 t17 t18 w)
theorem Pt (kn : K5) (hn : N5 Q kn 0 1 6 17 18) (h : sF kn (g 0) (g 1) (g 17) (g 18) w) : bH pg gJ (aD 2 (bI (aD 1 (aB 2 (bI (bI (aB 2 fZ))))))) Q g w :=
 dS (kr := no) (l := []) h hn eP trivial
def oP (kn : K4) (uG D6 t17 t18 : aJ3) (w : aJ2) : Prop :=
 sF (fun uG D6 qS t17 t18 w => kL kn uG D6 qS t17 t18 w) uG D6 t17 t18 w
def sG (kn : K4) (uG D6 t17 t18 : aJ3) (w : aJ2) : Prop :=
 oP kn uG D6 t17 t18 w
def sK (kn : K4) (uG D6 t17 t18 : aJ3) (w : aJ2) : Prop :=
 sG (fun uG D6 t17 t18 w => pC kn uG D6 t17 t18 w) uG D6 t17 t18 w
theorem PK (kn : K4) (hn : N4 Q kn 0 1 17 18) (h : sG kn (g 0) (g 1) (g 17) (g 18) w) : bH pg gJ (aD 1 (aB 2 (bI (bI (aB 2 fZ))))) Q g w :=
 uH 1 (fP 2 (Pt _ g w (kL kn) (fun g w h => aK (O8 _ g w kn hn h)) h))
def rW (kn : K4) (k0 : K0) (uG D6 t17 t18 : aJ3) (w : aJ2) : Prop :=
 aC pg (aG .lss 3 aM aM t18 t17) w fun t19 w =>
 eM t19
  (kn uG D6 t17 t18 w)
  (k0 w)
theorem P0 (kn : K4) (k0 : K0) (hn : N4 Q kn 0 1 17 18) (h0 : E0 Q k0 0) (h : rW kn k0 (g 0) (g 1) (g 17) (g 18) w) : bH pg gJ (aD 2 (bI (bI (aB 2 fZ)))) Q g w :=
 dS (kr := no) (l := [(0, fun g w => k0 w)]) h hn eP ⟨h0, trivial⟩
def oZ (kn : K4) (k0 : K0) (uG D6 t17 t18 : aJ3) (w : aJ2) : Prop :=
 rW (fun uG D6 t17 t18 w => sK kn uG D6 t17 t18 w) k0 uG D6 t17 t18 w
def sL (k0 : K0) (uG D6 t17 t18 : aJ3) (w : aJ2) : Prop :=
 cG (fun (X : aJ3 -> K0) (t : aJ3) (w : aJ2) => oZ (fun _ _ _ t18 w => X t18 w) k0 uG D6 t17 t w) t18 w
theorem OU (kn : K4) (k0 : K0) (hn : N4 Q kn 0 1 17 18) (h0 : E0 Q k0 0) (h : oZ kn k0 (g 0) (g 1) (g 17) (g 18) w) : bH pg gJ (bI (bI (aB 2 fZ))) Q g w :=
 fP 2 (P0 _ g w (sK kn) k0 (fun g w h => aK (fP 1 (PK _ g w (pC kn) (fun g w h => aK (PZ _ g w kn hn h)) h))) h0 h)
theorem Py (k0 : K0) (h0 : E0 Q k0 0) (h : sL k0 (g 0) (g 1) (g 17) (g 18) w) : bH pg gJ (bI (aB 2 fZ)) Q g w := by
 refine Db (fun g : Env => g 18) (fun X t w => oZ (fun _ _ _ t18 w => X t18 w) k0 (g 0) (g 1) (g 17) t w) h (fun X g1 w1 ha hL => ?_)
 rw [<- fF 0 ha, <- fF 1 ha, <- fF 17 ha] at hL
 exact (OU _ g1 w1 (fun _ _ _ t18 w => X t18 w) k0 (fun _ _ h => h) h0 hL)
def rG (kn : K0) (uG D6 t17 t18 : aJ3) (w : aJ2) : Prop :=
 sL kn uG D6 t17 t18 w
def rI (kn : K4) (R : K1) (uG D6 AX : aJ3) (w : aJ2) : Prop :=
 aC pg (aG .eql 151 (.tmp 7) (.const (.pointer none)) uG (.pointer none)) w fun t8 w =>
 Gd (eX t8 false) (fun K => K AX w) w fun t10 w =>
 Gd (eX t8 false) (fun K => aC pg (aG .lss 3 aM aM t10 (.int .i64 1)) w K) w fun t11 w =>
 aC pg (fI t8 (.bool true) t11) w fun t12 w =>
 Gd (eX t12 false) (fun K => K AX w) w fun t14 w =>
 Gd (eX t12 false) (fun K => aC pg (aG .gtr 3 aM aM t14 (.int .i64 56)) w K) w fun t15 w =>
 aC pg (fI t12 (.bool true) t15) w fun t16 w =>
 eM t16
  (R (.tuple #[]) w)
  (kn uG D6 AX (.int .i64 0) w)
theorem MJ (kn : K4) (R : K1) (hn : N4 Q kn 0 1 17 18) (hr : HR xS R Q) (h : rI kn R (g 0) (g 1) (g 2) w) : bH pg gJ (aD 2 fZ) Q g w :=
 dS (l := []) h hn hr trivial
def rK (kn : K0) (R : K1) (uG D6 AX : aJ3) (w : aJ2) : Prop :=
 rI (fun uG D6 t17 t18 w => rG kn uG D6 t17 t18 w) R uG D6 AX w
theorem Ok (kn : K0) (R : K1) (hn : N0 Q kn) (hr : HR xS R Q) (h : rK kn R (g 0) (g 1) (g 2) w) : bH pg gJ fZ Q g w :=
 fP 2 (MJ _ g w (rG kn) R (fun g w h => aK (uH 0 (Py _ g w kn hn h))) hr h)
def C8 (a0 a1 a2 : aJ3) (w : aJ2) (R : K1) : Prop :=
 rK (fun  w => R (.tuple #[]) w) R a0 a1 a2 w
theorem Dl {a0 a1 a2 : aJ3} {w : aJ2} {R : K1} (h : C8 a0 a1 a2 w R) : aR pg eZ #[a0, a1, a2] w R := by
 refine rQ (ann := gJ) Tryd.f74 fZ [a0, a1, a2] xS 69 TrydM.mixed Tryd.func74 ?_
 exact (Ok _ _ _ (fun  w => R (.tuple #[]) w) R (fun _ _ h => h) (fun _ _ h => h) h)
def CX : FA := ⟨sE, fun i => match Nat.beq i 3 with | true => .leaf ([4, 10], [(4, 6), (4, 7), (4, 8)]) [(false, []), (false, []), (false, []), (false, []), (true, []), (false, []), (false, [1]), (false, [2]), (false, [3]), (false, []), (true, []), (false, [])] | false => .leaf ([], []) []⟩
def D8 : List ResultVar := [.tmp 2]
noncomputable def Cz : Code := cU Tryd.f75
def wV (R : K1) (uG : aJ3) (w : aJ2) : Prop :=
 aC pg (aG .eql 151 (.tmp 4) (.const (.pointer none)) uG (.pointer none)) w fun t5 w =>
 eM t5
  (R (.slice none 0 0) w)
  ((dr w) = (dr w) /\
  aC pg (qJ uG) (dr w) fun t7 w_ => w_ = (dr w) /\
  aC pg (aL 183 t7 0) (dr w) fun t8 w_ => w_ = (dr w) /\
  aC pg (aH 22 t8) (dr w) fun t9 w_ => w_ = (dr w) /\
  aR pg iQ #[t9] (dr w) fun t10 Uq =>
  Uq = Uq /\
  aC pg (qJ uG) Uq fun t12 w_ => w_ = Uq /\
  (eD pg (qJ uG) t12 (dr w) /\ True) /\
  aC pg (aL 183 t12 1) Uq fun t13 w_ => w_ = Uq /\
  (eD pg (aL 183 t12 1) t13 (dr w) /\ True) /\
  aC pg (aH 3 t13) Uq fun t14 w_ => w_ = Uq /\
  (eD pg (aH 3 t13) t14 (dr w) /\ True) /\
  aC pg (bV 183 [(0, t10), (1, t14)]) Uq fun t15 w_ => w_ = Uq /\
  aC pg (rL 183 t15) Uq fun t16 aDK =>
  aDK = aDK /\
  aR pg eZ #[t16, (.int .u64 1), (.int .i64 1)] aDK fun t18 w =>
  aC pg (qJ t16) w fun t20 w =>
  aC pg (aL 183 t20 0) w fun t21 w =>
  aC pg (aH 22 t21) w fun t22 w =>
  R t22 w)
theorem Oi (R : K1) (hr : HR D8 R Q) (h : wV R (g 0) w) : bH pg CX Cz Q g w :=
 dS (kn := no) (l := []) h eP hr trivial
def Le (a0 : aJ3) (w : aJ2) (R : K1) : Prop :=
 wV R a0 w
theorem Pe {a0 : aJ3} {w : aJ2} {R : K1} (h : Le a0 w R) : aR pg sE #[a0] w R := by
 refine rQ (ann := CX) Tryd.f75 Cz [a0] D8 23 TrydM.mixed Tryd.func75 ?_
 exact (Oi _ _ _ R (fun _ _ h => h) h)
def kP : FA := ⟨Fs, fun i => match Nat.beq i 25 with | true => .leaf ([2, 3], [(0, 2)]) [(false, []), (false, []), (true, [1]), (true, []), (false, []), (false, [])] | false => .leaf ([], []) []⟩
def mT : List ResultVar := [.cell 6 145, .tmp 7, .tmp 8]
noncomputable def jQ : Code := cU Tryd.f76
def CH (R : K1) (t6 kE dQ : aJ3) (w : aJ2) : Prop :=
 aC pg (aH 145 dQ) (dr w) fun t101 w_ => w_ = (dr w) /\
 (dr w) = (dr w) /\
 aR pg tI #[kE] (dr w) fun t103 aFz =>
 (eD pg (aH 145 dQ) t101 aFz /\ True) /\
 aC pg (aJ 145 t6 t101) aFz fun _u3 aqT =>
 aqT = aqT /\
 aqT = aqT /\
 kI pg 145 t6 aqT fun r0 => R (.tuple #[r0, t103, (.int .i64 0)]) aqT
theorem Z7 (R : K1) (hr : HR mT R Q) (h : CH R (g 6) (g 9) (g 12) w) : bH pg kP (aB 1 (aB 7 jQ)) Q g w :=
 dS (kn := no) (l := []) h eP hr trivial
def yQ (kn : K5) (R : K1) (aO t6 kE dQ aU : aJ3) (w : aJ2) : Prop :=
 aC pg (aL 145 dQ 1) w fun t91 w =>
 aC pg (aH 77 t91) w fun t92 w =>
 aC pg (jM .len #[77] 3 [t92]) w fun t93 w =>
 aC pg (aG .gtr 3 aM aM t93 aO) w fun t95 w =>
 Gd (eX t95 false) (fun K => K aU w) w fun t97 w =>
 Gd (eX t95 false) (fun K => aC pg (aG .lss 3 aM aM t97 (.int .i64 0)) w K) w fun t98 w =>
 aC pg (fI t95 (.bool true) t98) w fun t99 w =>
 eM t99
  (aC pg (bV 145 []) w fun t100 w =>
  aC pg (aJ 145 t6 t100) w fun _u w =>
  kI pg 145 t6 w fun r0 => R (.tuple #[r0, (.int .i64 0), (.int .i64 11)]) w)
  (kn aO t6 kE dQ aU w)
theorem Y1 (kn : K5) (R : K1) (hn : N5 Q kn 2 6 9 12 13) (hr : HR mT R Q) (h : yQ kn R (g 2) (g 6) (g 9) (g 12) (g 13) w) : bH pg kP (aB 6 (bI (aB 1 (bI (bI (aD 1 (aB 7 jQ))))))) Q g w :=
 dS (l := []) h hn hr trivial
def LH (kn : K5) (R : K1) (aO t6 kE dQ aU : aJ3) (w : aJ2) : Prop :=
 aR pg CL #[kE, aU] w fun t52 w =>
 aC pg (aW t52 0) w fun t53 w =>
 aC pg (aW t52 1) w fun t54 w =>
 aC pg (aG .neq 30 (.tmp 55) (.const (.int .i64 0)) t54 (.int .i64 0)) w fun t56 w =>
 eM t56
  (aC pg (bV 145 []) w fun t57 w =>
  aC pg (aJ 145 t6 t57) w fun _u w =>
  kI pg 145 t6 w fun r0 => R (.tuple #[r0, (.int .i64 0), t54]) w)
  (aC pg (aG .sub 3 aM aM t53 (.int .i64 1)) w fun t60 w =>
  aR pg qM #[t60] w fun t63 w =>
  aC pg (aG .sub 3 aM aM aU t63) w fun t64 w =>
  aC pg (aL 145 dQ 1) w fun t65 w =>
  aC pg (aH 77 t65) w fun t66 w =>
  aC pg (bX 77 1 [(0, t60)]) w fun t68 w =>
  aC pg (jM .append #[77, 77] 77 [t66, t68]) w fun t69 w =>
  aC pg (aL 145 dQ 1) w fun t70 w =>
  aC pg (aJ 77 t70 t69) w fun _u w =>
  aC pg (aG .eql 3 (.tmp 71) (.const (.int .i64 0)) t60 (.int .i64 0)) w fun t72 w =>
  eM t72
   (aR pg zR #[kE] w fun t75 w =>
   aC pg (aW t75 0) w fun t76 w =>
   aC pg (aW t75 1) w fun t77 w =>
   aC pg (aG .neq 30 (.tmp 78) (.const (.int .i64 0)) t77 (.int .i64 0)) w fun t79 w =>
   eM t79
    (aC pg (bV 145 []) w fun t80 w =>
    aC pg (aJ 145 t6 t80) w fun _u w =>
    kI pg 145 t6 w fun r0 => R (.tuple #[r0, (.int .i64 0), t77]) w)
    (aC pg (aG .gtr 3 aM aM t76 aO) w fun t84 w =>
    eM t84
     (aC pg (bV 145 []) w fun t85 w =>
     aC pg (aJ 145 t6 t85) w fun _u w =>
     kI pg 145 t6 w fun r0 => R (.tuple #[r0, (.int .i64 0), (.int .i64 11)]) w)
     (aC pg (aL 145 dQ 1) w fun t86 w =>
     aC pg (aH 77 t86) w fun t87 w =>
     aC pg (jM .append #[77, 3] 77 [t87, t76]) w fun t89 w =>
     aC pg (aL 145 dQ 1) w fun t90 w =>
     aC pg (aJ 77 t90 t89) w fun _u w =>
     kn aO t6 kE dQ t64 w)))
   (kn aO t6 kE dQ t64 w))
theorem Yi (kn : K5) (R : K1) (hn : N5 Q kn 2 6 9 12 13) (hr : HR mT R Q) (h : LH kn R (g 2) (g 6) (g 9) (g 12) (g 13) w) : bH pg kP (aD 6 (bI (aB 1 (bI (bI (aD 1 (aB 7 jQ))))))) Q g w :=
 dS (l := []) h hn hr trivial
def TZ (kn : K5) (R : K1) (aO t6 kE dQ aU : aJ3) (w : aJ2) : Prop :=
 LH (fun aO t6 kE dQ aU w => yQ kn R aO t6 kE dQ aU w) R aO t6 kE dQ aU w
def LR (kn : K5) (R : K1) (aO t6 kE dQ aU : aJ3) (w : aJ2) : Prop :=
 TZ kn R aO t6 kE dQ aU w
def Lm (kn : K5) (k0 : K3) (aO t6 kE dQ aU : aJ3) (w : aJ2) : Prop :=
 aC pg (aG .gtr 3 aM aM aU (.int .i64 0)) w fun t48 w =>
 eM t48
  (kn aO t6 kE dQ aU w)
  (k0 t6 kE dQ w)
theorem Yx (kn : K5) (k0 : K3) (hn : N5 Q kn 2 6 9 12 13) (h0 : E3 Q k0 0 6 9 12) (h : Lm kn k0 (g 2) (g 6) (g 9) (g 12) (g 13) w) : bH pg kP (aD 1 (bI (bI (aD 1 (aB 7 jQ))))) Q g w :=
 dS (kr := no) (l := [(0, fun g w => k0 (g 6) (g 9) (g 12) w)]) h hn eP ⟨h0, trivial⟩
def Dv (kn : K5) (k0 : K3) (R : K1) (aO t6 kE dQ aU : aJ3) (w : aJ2) : Prop :=
 Lm (fun aO t6 kE dQ aU w => LR kn R aO t6 kE dQ aU w) k0 aO t6 kE dQ aU w
def LP (k0 : K3) (R : K1) (aO t6 kE dQ aU : aJ3) (w : aJ2) : Prop :=
 cG (fun (X : aJ3 -> K0) (t : aJ3) (w : aJ2) => Dv (fun _ _ _ _ aU w => X aU w) k0 R aO t6 kE dQ t w) aU w
theorem Y9 (kn : K5) (k0 : K3) (R : K1) (hn : N5 Q kn 2 6 9 12 13) (h0 : E3 Q k0 0 6 9 12) (hr : HR mT R Q) (h : Dv kn k0 R (g 2) (g 6) (g 9) (g 12) (g 13) w) : bH pg kP (bI (bI (aD 1 (aB 7 jQ)))) Q g w :=
 fP 1 (Yx _ g w (LR kn R) k0 (fun g w h => aK (uH 1 (fP 6 (Yi _ g w (yQ kn R) R (fun g w h => aK (Y1 _ g w kn R hn hr h)) hr h)))) h0 h)
theorem YL (k0 : K3) (R : K1) (h0 : E3 Q k0 0 6 9 12) (hr : HR mT R Q) (h : LP k0 R (g 2) (g 6) (g 9) (g 12) (g 13) w) : bH pg kP (bI (aD 1 (aB 7 jQ))) Q g w := by
 refine Db (fun g : Env => g 13) (fun X t w => Dv (fun _ _ _ _ aU w => X aU w) k0 R (g 2) (g 6) (g 9) (g 12) t w) h (fun X g1 w1 ha hL => ?_)
 rw [<- fF 2 ha, <- fF 6 ha, <- fF 9 ha, <- fF 12 ha] at hL
 exact (Y9 _ g1 w1 (fun _ _ _ _ aU w => X aU w) k0 R (fun _ _ h => h) h0 hr hL)
def JM (kn : K3) (R : K1) (aO t6 kE dQ aU : aJ3) (w : aJ2) : Prop :=
 LP kn R aO t6 kE dQ aU w
def Bq (R : K1) (aO t6 kE dQ aU : aJ3) (w : aJ2) : Prop :=
 JM (fun t6 kE dQ w => CH R t6 kE dQ w) R aO t6 kE dQ aU w
theorem aaW (kn : K3) (R : K1) (hn : N3 Q kn 6 9 12) (hr : HR mT R Q) (h : JM kn R (g 2) (g 6) (g 9) (g 12) (g 13) w) : bH pg kP (aD 1 (aB 7 jQ)) Q g w :=
 uH 0 (YL _ g w kn R hn hr h)
def Is (kn : K5) (R : K1) (D3 La aO : aJ3) (w : aJ2) : Prop :=
 aC pg (bS 145) w fun t6 w =>
 aR pg xG #[D3] w fun t20 w =>
 aR pg lE #[t20, (.int .i64 4)] w fun t23 w =>
 aC pg (aW t23 0) w fun t24 w =>
 aC pg (aW t23 1) w fun t25 w =>
 aC pg (aG .neq 30 (.tmp 26) (.const (.int .i64 0)) t25 (.int .i64 0)) w fun t27 w =>
 eM t27
  (aC pg (bV 145 []) w fun t28 w =>
  aC pg (aJ 145 t6 t28) w fun _u w =>
  kI pg 145 t6 w fun r0 => R (.tuple #[r0, (.int .i64 0), t25]) w)
  (aC pg (fL 73 3 t24) w fun t31 w =>
  aC pg (aG .add 3 aM aM t31 (.int .i64 5)) w fun t32 w =>
  aC pg (bV 145 [(0, t32)]) w fun t33 w =>
  aC pg (bS 145) w fun dQ w =>
  aC pg (aJ 145 dQ t33) w fun _u w =>
  aC pg (aL 145 dQ 0) w fun t34 w =>
  aC pg (aH 3 t34) w fun t35 w =>
  aC pg (aG .gtr 3 aM aM t35 La) w fun t37 w =>
  Gd (eX t37 false) (fun K => aC pg (aL 145 dQ 0) w K) w fun t39 w =>
  Gd (eX t37 false) (fun K => aC pg (aH 3 t39) w K) w fun t40 w =>
  Gd (eX t37 false) (fun K => aC pg (aG .gtr 3 aM aM t40 (.int .i64 15)) w K) w fun t41 w =>
  aC pg (fI t37 (.bool true) t41) w fun t42 w =>
  eM t42
   (aC pg (bV 145 []) w fun t43 w =>
   aC pg (aJ 145 t6 t43) w fun _u w =>
   kI pg 145 t6 w fun r0 => R (.tuple #[r0, (.int .i64 0), (.int .i64 12)]) w)
   (aC pg (aL 145 dQ 0) w fun t44 w =>
   aC pg (aH 3 t44) w fun t45 w =>
   aC pg (aG .shl 3 aM aM (.int .i64 1) t45) w fun t46 w =>
   kn aO t6 t20 dQ t46 w))
theorem WY (kn : K5) (R : K1) (hn : N5 Q kn 2 6 9 12 13) (hr : HR mT R Q) (h : Is kn R (g 0) (g 1) (g 2) w) : bH pg kP (aD 7 jQ) Q g w :=
 dS (l := []) h hn hr trivial
def HK (R : K1) (D3 La aO : aJ3) (w : aJ2) : Prop :=
 Is (fun aO t6 kE dQ aU w => Bq R aO t6 kE dQ aU w) R D3 La aO w
theorem Wx (R : K1) (hr : HR mT R Q) (h : HK R (g 0) (g 1) (g 2) w) : bH pg kP jQ Q g w :=
 fP 7 (WY _ g w (Bq R) R (fun g w h => aK (fP 1 (aaW _ g w (CH R) R (fun g w h => aK (Z7 _ g w R hr h)) hr h))) hr h)
def aiJ (a0 a1 a2 : aJ3) (w : aJ2) (R : K1) : Prop :=
 HK R a0 a1 a2 w
theorem acL {a0 a1 a2 : aJ3} {w : aJ2} {R : K1} (h : aiJ a0 a1 a2 w R) : aR pg Fs #[a0, a1, a2] w R := by
 refine rQ (ann := kP) Tryd.f76 jQ [a0, a1, a2] mT 104 TrydM.mixed Tryd.func76 ?_
 exact (Wx _ _ _ R (fun _ _ h => h) h)
def qF : FA := ⟨Gg, fun i => .leaf ([], []) []⟩
def Ra : List ResultVar := [.tmp 6]
noncomputable def oJ : Code := cU Tryd.f77
def IQ (R : K1) (pD : aJ3) (w : aJ2) : Prop :=
 R pD w
theorem akG (R : K1) (hr : HR Ra R Q) (h : IQ R (g 7) w) : bH pg qF (aB 1 (aB 2 oJ)) Q g w :=
 dS (kn := no) (l := []) h eP hr trivial
def Jd (kn : K5) (k0 : K1) (D3 CE pD t10 t11 : aJ3) (w : aJ2) : Prop :=
 aC pg (aG .lss 3 aM aM t11 t10) w fun t12 w =>
 eM t12
  (aC pg (aG .add 3 aM aM CE t11) w fun t16 w =>
  aC pg (aG .quo 3 aM aM t16 (.int .i64 8)) w fun t20 w =>
  aC pg (bA 22 D3 t20) w fun t21 w =>
  aC pg (aH 5 t21) w fun t22 w =>
  aC pg (aG .rem 3 aM aM t16 (.int .i64 8)) w fun t24 w =>
  aC pg (aG .shr 5 aM aM t22 t24) w fun t25 w =>
  aC pg (aG .and 5 aM aM t25 (.int .u8 1)) w fun t26 w =>
  aC pg (fL 5 73 t26) w fun t27 w =>
  aC pg (fL 3 94 t11) w fun t29 w =>
  aC pg (aG .shl 73 aM aM t27 t29) w fun t30 w =>
  aC pg (aG .or 73 aM aM pD t30) w fun t31 w =>
  aC pg (aG .add 3 aM aM t11 (.int .i64 1)) w fun t32 w =>
  kn D3 CE t31 t10 t32 w)
  (k0 pD w)
theorem ajP (kn : K5) (k0 : K1) (hn : N5 Q kn 0 1 7 10 11) (h0 : E1 Q k0 0 7) (h : Jd kn k0 (g 0) (g 1) (g 7) (g 10) (g 11) w) : bH pg qF (bI (bI (aB 1 (aD 1 (aB 2 oJ))))) Q g w :=
 dS (kr := no) (l := [(0, fun g w => k0 (g 7) w)]) h hn eP ⟨h0, trivial⟩
def Rd (k0 : K1) (D3 CE pD t10 t11 : aJ3) (w : aJ2) : Prop :=
 cG (fun (X : (aJ3 × aJ3) -> K0) (t : aJ3 × aJ3) (w : aJ2) => Jd (fun _ _ pD _ t11 w => X (pD, t11) w) k0 D3 CE t.1 t10 t.2 w) (pD, t11) w
theorem alM (k0 : K1) (h0 : E1 Q k0 0 7) (h : Rd k0 (g 0) (g 1) (g 7) (g 10) (g 11) w) : bH pg qF (bI (aB 1 (aD 1 (aB 2 oJ)))) Q g w := by
 refine Db (fun g : Env => (g 7, g 11)) (fun X t w => Jd (fun _ _ pD _ t11 w => X (pD, t11) w) k0 (g 0) (g 1) t.1 (g 10) t.2 w) h (fun X g1 w1 ha hL => ?_)
 rw [<- fF 0 ha, <- fF 1 ha, <- fF 10 ha] at hL
 exact (ajP _ g1 w1 (fun _ _ pD _ t11 w => X (pD, t11) w) k0 (fun _ _ h => h) h0 hL)
def QK (kn : K1) (D3 CE pD t10 t11 : aJ3) (w : aJ2) : Prop :=
 Rd kn D3 CE pD t10 t11 w
def Rh (kn : K5) (D3 CE AX pD : aJ3) (w : aJ2) : Prop :=
 kn D3 CE pD AX (.int .i64 0) w
theorem ajW (kn : K5) (hn : N5 Q kn 0 1 7 10 11) (h : Rh kn (g 0) (g 1) (g 2) (g 7) w) : bH pg qF (aD 1 (aD 1 (aB 2 oJ))) Q g w :=
 dS (kr := no) (l := []) h hn eP trivial
def Qt (kn : K1) (D3 CE AX pD : aJ3) (w : aJ2) : Prop :=
 Rh (fun D3 CE pD t10 t11 w => QK kn D3 CE pD t10 t11 w) D3 CE AX pD w
def QC (R : K1) (D3 CE AX pD : aJ3) (w : aJ2) : Prop :=
 Qt (fun pD w => IQ R pD w) D3 CE AX pD w
theorem alP (kn : K1) (hn : N1 Q kn 7) (h : Qt kn (g 0) (g 1) (g 2) (g 7) w) : bH pg qF (aD 1 (aB 2 oJ)) Q g w :=
 fP 1 (ajW _ g w (QK kn) (fun g w h => aK (uH 0 (alM _ g w kn hn h))) h)
def Ru (kn : K4) (D3 CE AX : aJ3) (w : aJ2) : Prop :=
 kn D3 CE AX (.int .u64 0) w
theorem akU (kn : K4) (hn : N4 Q kn 0 1 2 7) (h : Ru kn (g 0) (g 1) (g 2) w) : bH pg qF (aD 2 oJ) Q g w :=
 dS (kr := no) (l := []) h hn eP trivial
def Rj (R : K1) (D3 CE AX : aJ3) (w : aJ2) : Prop :=
 Ru (fun D3 CE AX pD w => QC R D3 CE AX pD w) D3 CE AX w
theorem ajC (R : K1) (hr : HR Ra R Q) (h : Rj R (g 0) (g 1) (g 2) w) : bH pg qF oJ Q g w :=
 fP 2 (akU _ g w (QC R) (fun g w h => aK (fP 1 (alP _ g w (IQ R) (fun g w h => aK (akG _ g w R hr h)) h))) h)
def arT (a0 a1 a2 : aJ3) (w : aJ2) (R : K1) : Prop :=
 Rj R a0 a1 a2 w
theorem aoZ {a0 a1 a2 : aJ3} {w : aJ2} {R : K1} (h : arT a0 a1 a2 w R) : aR pg Gg #[a0, a1, a2] w R := by
 refine rQ (ann := qF) Tryd.f77 oJ [a0, a1, a2] Ra 34 TrydM.mixed Tryd.func77 ?_
 exact (ajC _ _ _ R (fun _ _ h => h) h)
def VS : FA := ⟨Cp, fun i => match Nat.beq i 4 with | true => .leaf ([], []) [(false, []), (false, []), (false, []), (false, [])] | false => match Nat.beq i 7 with | true => .leaf ([], []) [(false, []), (false, []), (false, []), (false, [])] | false => .leaf ([], []) []⟩
def aaP : List ResultVar := [.tmp 2, .tmp 3, .tmp 4]
noncomputable def T7 : Code := cU Tryd.f78
def Qr (R : K1) (aQ : aJ3) (w : aJ2) : Prop :=
 aC pg (aG .eql 3 (.tmp 7) (.const (.int .i64 0)) aQ (.int .i64 0)) w fun t9 w =>
 eM t9
  (aC pg (aH 190 (.pointer (some ⟨3, 0, none⟩))) w fun t10 w =>
  aC pg (bS 190) w fun l_5 w =>
  aC pg (aJ 190 l_5 t10) w fun _u w =>
  aC pg (fH 190 l_5 none none none) (dr w) fun t11 w_ => w_ = (dr w) /\
  (dr w) = (dr w) /\
  (dr w) = (dr w) /\
  (dr w) = (dr w) /\
  R (.tuple #[(.int .i64 16), (.int .u32 0), t11]) (dr w))
  (aC pg (aG .eql 3 (.tmp 7) (.const (.int .i64 2)) aQ (.int .i64 2)) w fun t13 w =>
  eM t13
   (aC pg (aH 191 (.pointer (some ⟨4, 0, none⟩))) w fun t14 w =>
   aC pg (bS 191) w fun l_6 w =>
   aC pg (aJ 191 l_6 t14) w fun _u w =>
   aC pg (fH 191 l_6 none none none) (dr w) fun t15 w_ => w_ = (dr w) /\
   (dr w) = (dr w) /\
   (dr w) = (dr w) /\
   (dr w) = (dr w) /\
   R (.tuple #[(.int .i64 32), (.int .u32 3), t15]) (dr w))
   (R (.tuple #[(.int .i64 0), (.int .u32 0), (.slice none 0 0)]) w))
theorem akL (R : K1) (hr : HR aaP R Q) (h : Qr R (g 0) w) : bH pg VS T7 Q g w :=
 dS (kn := no) (l := []) h eP hr trivial
def asG (a0 : aJ3) (w : aJ2) (R : K1) : Prop :=
 Qr R a0 w
theorem apE {a0 : aJ3} {w : aJ2} {R : K1} (h : asG a0 w R) : aR pg Cp #[a0] w R := by
 refine rQ (ann := VS) Tryd.f78 T7 [a0] aaP 16 TrydM.mixed Tryd.func78 ?_
 exact (akL _ _ _ R (fun _ _ h => h) h)
def Sb : FA := ⟨F9, fun i => .leaf ([], []) []⟩
def T1 : List ResultVar := [.cell 2 130]
noncomputable def PD : Code := cU Tryd.f79
def KU (R : K1) (aQ : aJ3) (w : aJ2) : Prop :=
 aC pg (bS 130) w fun t2 w =>
 aC pg (aG .eql 3 (.tmp 3) (.const (.int .i64 0)) aQ (.int .i64 0)) w fun t4 w =>
 eM t4
  (aC pg (bX 77 36 [(0, (.int .i64 4)), (1, (.int .i64 3)), (2, (.int .i64 2)), (3, (.int .i64 2)), (4, (.int .i64 2)), (5, (.int .i64 2)), (6, (.int .i64 2)), (7, (.int .i64 2)), (8, (.int .i64 2)), (9, (.int .i64 2)), (10, (.int .i64 2)), (11, (.int .i64 2)), (12, (.int .i64 2)), (13, (.int .i64 1)), (14, (.int .i64 1)), (15, (.int .i64 1)), (16, (.int .i64 2)), (17, (.int .i64 2)), (18, (.int .i64 2)), (19, (.int .i64 2)), (20, (.int .i64 2)), (21, (.int .i64 2)), (22, (.int .i64 2)), (23, (.int .i64 2)), (24, (.int .i64 2)), (25, (.int .i64 3)), (26, (.int .i64 2)), (27, (.int .i64 1)), (28, (.int .i64 1)), (29, (.int .i64 1)), (30, (.int .i64 1)), (31, (.int .i64 1)), (32, (.int .i64 (-1))), (33, (.int .i64 (-1))), (34, (.int .i64 (-1))), (35, (.int .i64 (-1)))]) w fun t5 w =>
  aC pg (bV 130 [(0, (.int .i64 6)), (1, t5)]) w fun t6 w =>
  aC pg (aJ 130 t2 t6) w fun _u w =>
  kI pg 130 t2 w fun r0 => R r0 w)
  (aC pg (aG .eql 3 (.tmp 7) (.const (.int .i64 1)) aQ (.int .i64 1)) w fun t8 w =>
  eM t8
   (aC pg (bX 77 29 [(0, (.int .i64 1)), (1, (.int .i64 1)), (2, (.int .i64 1)), (3, (.int .i64 1)), (4, (.int .i64 1)), (5, (.int .i64 1)), (6, (.int .i64 2)), (7, (.int .i64 2)), (8, (.int .i64 2)), (9, (.int .i64 1)), (10, (.int .i64 1)), (11, (.int .i64 1)), (12, (.int .i64 1)), (13, (.int .i64 1)), (14, (.int .i64 1)), (15, (.int .i64 1)), (16, (.int .i64 1)), (17, (.int .i64 1)), (18, (.int .i64 1)), (19, (.int .i64 1)), (20, (.int .i64 1)), (21, (.int .i64 1)), (22, (.int .i64 1)), (23, (.int .i64 1)), (24, (.int .i64 (-1))), (25, (.int .i64 (-1))), (26, (.int .i64 (-1))), (27, (.int .i64 (-1))), (28, (.int .i64 (-1)))]) w fun t9 w =>
   aC pg (bV 130 [(0, (.int .i64 5)), (1, t9)]) w fun t10 w =>
   aC pg (aJ 130 t2 t10) w fun _u w =>
   kI pg 130 t2 w fun r0 => R r0 w)
   (aC pg (bX 77 53 [(0, (.int .i64 1)), (1, (.int .i64 4)), (2, (.int .i64 3)), (3, (.int .i64 2)), (4, (.int .i64 2)), (5, (.int .i64 2)), (6, (.int .i64 2)), (7, (.int .i64 2)), (8, (.int .i64 2)), (9, (.int .i64 1)), (10, (.int .i64 1)), (11, (.int .i64 1)), (12, (.int .i64 1)), (13, (.int .i64 1)), (14, (.int .i64 1)), (15, (.int .i64 1)), (16, (.int .i64 1)), (17, (.int .i64 1)), (18, (.int .i64 1)), (19, (.int .i64 1)), (20, (.int .i64 1)), (21, (.int .i64 1)), (22, (.int .i64 1)), (23, (.int .i64 1)), (24, (.int .i64 1)), (25, (.int .i64 1)), (26, (.int .i64 1)), (27, (.int .i64 1)), (28, (.int .i64 1)), (29, (.int .i64 1)), (30, (.int .i64 1)), (31, (.int .i64 1)), (32, (.int .i64 1)), (33, (.int .i64 1)), (34, (.int .i64 1)), (35, (.int .i64 1)), (36, (.int .i64 1)), (37, (.int .i64 1)), (38, (.int .i64 1)), (39, (.int .i64 1)), (40, (.int .i64 1)), (41, (.int .i64 1)), (42, (.int .i64 1)), (43, (.int .i64 1)), (44, (.int .i64 1)), (45, (.int .i64 1)), (46, (.int .i64 (-1))), (47, (.int .i64 (-1))), (48, (.int .i64 (-1))), (49, (.int .i64 (-1))), (50, (.int .i64 (-1))), (51, (.int .i64 (-1))), (52, (.int .i64 (-1)))]) w fun t11 w =>
   aC pg (bV 130 [(0, (.int .i64 6)), (1, t11)]) w fun t12 w =>
   aC pg (aJ 130 t2 t12) w fun _u w =>
   kI pg 130 t2 w fun r0 => R r0 w))
theorem Zc (R : K1) (hr : HR T1 R Q) (h : KU R (g 0) w) : bH pg Sb PD Q g w :=
 dS (kn := no) (l := []) h eP hr trivial
def aiH (a0 : aJ3) (w : aJ2) (R : K1) : Prop :=
 KU R a0 w
theorem afZ {a0 : aJ3} {w : aJ2} {R : K1} (h : aiH a0 w R) : aR pg F9 #[a0] w R := by
 refine rQ (ann := Sb) Tryd.f79 PD [a0] T1 13 TrydM.mixed Tryd.func79 ?_
 exact (Zc _ _ _ R (fun _ _ h => h) h)
def Uw : FA := ⟨pZ, fun i => .leaf ([], []) []⟩
def V9 : List ResultVar := [.cell 4 164, .tmp 5, .tmp 6]
noncomputable def Sc : Code := cU Tryd.f80
def NG (R : K1) (Iy pU : aJ3) (w : aJ2) : Prop :=
 aC pg (rL 164 Iy) w fun S9 w =>
 aC pg (bS 164) w fun t4 w =>
 aC pg (aG .lss 3 aM aM pU (.int .i64 0)) w fun t9 w =>
 Gd (eX t9 false) (fun K => K pU w) w fun t11 w =>
 Gd (eX t9 false) (fun K => aC pg (aG .gtr 3 aM aM t11 (.int .i64 32)) w K) w fun t12 w =>
 aC pg (fI t9 (.bool true) t12) w fun t13 w =>
 eM t13
  (aC pg (aH 164 S9) w fun t14 w =>
  aC pg (aJ 164 t4 t14) w fun _u w =>
  kI pg 164 t4 w fun r0 => R (.tuple #[r0, (.int .u64 0), (.int .i64 1)]) w)
  (aC pg (aL 164 S9 0) w fun t15 w =>
  aC pg (aH 80 t15) w fun t16 w =>
  aC pg (jM .len #[80] 3 [t16]) w fun t17 w =>
  aC pg (aL 164 S9 1) w fun t18 w =>
  aC pg (aH 3 t18) w fun t19 w =>
  aC pg (aG .sub 3 aM aM t17 t19) w fun t20 w =>
  aC pg (aG .lss 3 aM aM t20 pU) w fun t22 w =>
  eM t22
   (aC pg (aH 164 S9) w fun t23 w =>
   aC pg (aJ 164 t4 t23) w fun _u w =>
   kI pg 164 t4 w fun r0 => R (.tuple #[r0, (.int .u64 0), (.int .i64 10)]) w)
   (aC pg (aL 164 S9 0) w fun t24 w =>
   aC pg (aH 80 t24) w fun t25 w =>
   aC pg (aL 164 S9 1) w fun t26 w =>
   aC pg (aH 3 t26) w fun t27 w =>
   aC pg (aL 164 S9 1) w fun t28 w =>
   aC pg (aH 3 t28) w fun t29 w =>
   aC pg (aG .add 3 aM aM t29 pU) w fun t31 w =>
   aC pg (fH 80 t25 (some t27) (some t31) none) w fun t32 w =>
   aR pg xX #[t32] w fun t33 w =>
   aC pg (aL 164 S9 1) w fun t34 w =>
   aC pg (aH 3 t34) w fun t35 w =>
   aC pg (aG .add 3 aM aM t35 pU) w fun t37 w =>
   aC pg (aL 164 S9 1) w fun t38 w =>
   aC pg (aJ 3 t38 t37) w fun _u w =>
   aC pg (aH 164 S9) w fun t39 w =>
   aC pg (aJ 164 t4 t39) w fun _u w =>
   kI pg 164 t4 w fun r0 => R (.tuple #[r0, t33, (.int .i64 0)]) w))
theorem ahL (R : K1) (hr : HR V9 R Q) (h : NG R (g 0) (g 1) w) : bH pg Uw Sc Q g w :=
 dS (kn := no) (l := []) h eP hr trivial
def anX (a0 a1 : aJ3) (w : aJ2) (R : K1) : Prop :=
 NG R a0 a1 w
theorem ajK {a0 a1 : aJ3} {w : aJ2} {R : K1} (h : anX a0 a1 w R) : aR pg pZ #[a0, a1] w R := by
 refine rQ (ann := Uw) Tryd.f80 Sc [a0, a1] V9 41 TrydM.mixed Tryd.func80 ?_
 exact (ahL _ _ _ R (fun _ _ h => h) h)
def nA : FA := ⟨mO, fun i => .leaf ([], []) []⟩
def Ld : List ResultVar := [.tmp 2]
noncomputable def mD : Code := cU Tryd.f81
def DE (R : K1) (xP : aJ3) (w : aJ2) : Prop :=
 R xP w
theorem YM (R : K1) (hr : HR Ld R Q) (h : DE R (g 3) w) : bH pg nA (aB 1 (aB 2 mD)) Q g w :=
 dS (kn := no) (l := []) h eP hr trivial
def yJ (kn : K3) (k0 : K1) (n_0 xP iG : aJ3) (w : aJ2) : Prop :=
 aC pg (aG .lss 3 aM aM iG n_0) w fun t7 w =>
 Gd (eX t7 true) (fun K => K iG w) w fun t9 w =>
 Gd (eX t7 true) (fun K => aC pg (aG .lss 3 aM aM t9 (.int .i64 40)) w K) w fun t10 w =>
 aC pg (fI t7 t10 (.bool false)) w fun t11 w =>
 eM t11
  (aC pg (aG .mul 3 aM aM xP (.int .i64 2)) w fun t15 w =>
  aC pg (aG .add 3 aM aM iG (.int .i64 1)) w fun t13 w =>
  kn n_0 t15 t13 w)
  (k0 xP w)
theorem ZO (kn : K3) (k0 : K1) (hn : N3 Q kn 0 3 4) (h0 : E1 Q k0 0 3) (h : yJ kn k0 (g 0) (g 3) (g 4) w) : bH pg nA (bI (bI (aB 1 (aD 1 (aB 2 mD))))) Q g w :=
 dS (kr := no) (l := [(0, fun g w => k0 (g 3) w)]) h hn eP ⟨h0, trivial⟩
def Km (k0 : K1) (n_0 xP iG : aJ3) (w : aJ2) : Prop :=
 cG (fun (X : (aJ3 × aJ3) -> K0) (t : aJ3 × aJ3) (w : aJ2) => yJ (fun _ xP iG w => X (xP, iG) w) k0 n_0 t.1 t.2 w) (xP, iG) w
theorem aaD (k0 : K1) (h0 : E1 Q k0 0 3) (h : Km k0 (g 0) (g 3) (g 4) w) : bH pg nA (bI (aB 1 (aD 1 (aB 2 mD)))) Q g w := by
 refine Db (fun g : Env => (g 3, g 4)) (fun X t w => yJ (fun _ xP iG w => X (xP, iG) w) k0 (g 0) t.1 t.2 w) h (fun X g1 w1 ha hL => ?_)
 rw [<- fF 0 ha] at hL
 exact (ZO _ g1 w1 (fun _ xP iG w => X (xP, iG) w) k0 (fun _ _ h => h) h0 hL)
def LU (kn : K1) (n_0 xP iG : aJ3) (w : aJ2) : Prop :=
 Km kn n_0 xP iG w
def LC (kn : K3) (n_0 xP : aJ3) (w : aJ2) : Prop :=
 kn n_0 xP (.int .i64 0) w
theorem abC (kn : K3) (hn : N3 Q kn 0 3 4) (h : LC kn (g 0) (g 3) w) : bH pg nA (aD 1 (aD 1 (aB 2 mD))) Q g w :=
 dS (kr := no) (l := []) h hn eP trivial
def Jy (kn : K1) (n_0 xP : aJ3) (w : aJ2) : Prop :=
 LC (fun n_0 xP iG w => LU kn n_0 xP iG w) n_0 xP w
def J7 (R : K1) (n_0 xP : aJ3) (w : aJ2) : Prop :=
 Jy (fun xP w => DE R xP w) n_0 xP w
theorem YP (kn : K1) (hn : N1 Q kn 3) (h : Jy kn (g 0) (g 3) w) : bH pg nA (aD 1 (aB 2 mD)) Q g w :=
 fP 1 (abC _ g w (LU kn) (fun g w h => aK (uH 0 (aaD _ g w kn hn h))) h)
def Kx (kn : K2) (n_0 : aJ3) (w : aJ2) : Prop :=
 kn n_0 (.int .i64 1) w
theorem abG (kn : K2) (hn : N2 Q kn 0 3) (h : Kx kn (g 0) w) : bH pg nA (aD 2 mD) Q g w :=
 dS (kr := no) (l := []) h hn eP trivial
def KE (R : K1) (n_0 : aJ3) (w : aJ2) : Prop :=
 Kx (fun n_0 xP w => J7 R n_0 xP w) n_0 w
theorem aaJ (R : K1) (hr : HR Ld R Q) (h : KE R (g 0) w) : bH pg nA mD Q g w :=
 fP 2 (abG _ g w (J7 R) (fun g w h => aK (fP 1 (YP _ g w (DE R) (fun g w h => aK (YM _ g w R hr h)) h))) h)
def ahW (a0 : aJ3) (w : aJ2) (R : K1) : Prop :=
 KE R a0 w
theorem acO {a0 : aJ3} {w : aJ2} {R : K1} (h : ahW a0 w R) : aR pg mO #[a0] w R := by
 refine rQ (ann := nA) Tryd.f81 mD [a0] Ld 17 TrydM.mixed Tryd.func81 ?_
 exact (aaJ _ _ _ R (fun _ _ h => h) h)
def zH : FA := ⟨IZ, fun i => .leaf ([], []) []⟩
def AN : List ResultVar := [.cell 4 164, .tmp 5, .tmp 6]
noncomputable def wI : Code := cU Tryd.f82
def Hj (R : K1) (S9 t4 x_8 ZW Zi : aJ3) (w : aJ2) : Prop :=
 aC pg (aH 164 S9) w fun t44 w =>
 aR pg pZ #[t44, (.int .i64 1)] w fun t45 w =>
 aC pg (aW t45 0) w fun t46 w =>
 aC pg (aW t45 1) w fun t47 w =>
 aC pg (aW t45 2) w fun t48 w =>
 aC pg (aJ 164 S9 t46) w fun _u w =>
 aC pg (aG .neq 30 (.tmp 49) (.const (.int .i64 0)) t48 (.int .i64 0)) w fun t50 w =>
 eM t50
  (aC pg (aH 164 S9) w fun t51 w =>
  aC pg (aJ 164 t4 t51) w fun _u w =>
  kI pg 164 t4 w fun r0 => R (.tuple #[r0, (.int .i64 0), t48]) w)
  (aC pg (aG .eql 73 (.tmp 53) (.const (.int .u64 1)) t47 (.int .u64 1)) w fun t54 w =>
  eM t54
   (aC pg (aH 164 S9) w fun t55 w =>
   aC pg (fL 73 3 x_8) w fun t57 w =>
   aC pg (aG .add 3 aM aM t57 ZW) w fun t59 w =>
   aC pg (aG .sub 3 aM aM t59 Zi) w fun t61 w =>
   aC pg (aJ 164 t4 t55) w fun _u w =>
   kI pg 164 t4 w fun r0 => R (.tuple #[r0, t61, (.int .i64 0)]) w)
   (aC pg (aH 164 S9) w fun t62 w =>
   aC pg (fL 73 3 x_8) w fun t64 w =>
   aC pg (aJ 164 t4 t62) w fun _u w =>
   kI pg 164 t4 w fun r0 => R (.tuple #[r0, t64, (.int .i64 0)]) w))
theorem XQ (R : K1) (hr : HR AN R Q) (h : Hj R (g 2) (g 4) (g 8) (g 10) (g 11) w) : bH pg zH (aB 7 wI) Q g w :=
 dS (kn := no) (l := []) h eP hr trivial
def RF (kn : K5) (R : K1) (Iy MD : aJ3) (w : aJ2) : Prop :=
 aC pg (rL 164 Iy) w fun S9 w =>
 aC pg (bS 164) w fun t4 w =>
 aC pg (aG .add 3 aM aM MD (.int .i64 1)) w fun t14 w =>
 aR pg AU #[t14] w fun t15 w =>
 aC pg (aH 164 S9) w fun t17 w =>
 aC pg (aG .sub 3 aM aM t15 (.int .i64 1)) w fun t19 w =>
 aR pg pZ #[t17, t19] w fun t20 w =>
 aC pg (aW t20 0) w fun t21 w =>
 aC pg (aW t20 1) w fun t22 w =>
 aC pg (aW t20 2) w fun t23 w =>
 aC pg (aJ 164 S9 t21) w fun _u w =>
 aC pg (aG .neq 30 (.tmp 24) (.const (.int .i64 0)) t23 (.int .i64 0)) w fun t25 w =>
 eM t25
  (aC pg (aH 164 S9) w fun t26 w =>
  aC pg (aJ 164 t4 t26) w fun _u w =>
  kI pg 164 t4 w fun r0 => R (.tuple #[r0, (.int .i64 0), t23]) w)
  (aC pg (aG .sub 3 aM aM t15 (.int .i64 1)) w fun t29 w =>
  aR pg mO #[t29] w fun t30 w =>
  aC pg (aG .mul 3 aM aM (.int .i64 2) t30) w fun t32 w =>
  aC pg (aG .sub 3 aM aM t32 (.int .i64 2)) w fun t33 w =>
  aC pg (aG .sub 3 aM aM t33 MD) w fun t35 w =>
  aC pg (fL 73 3 t22) w fun t37 w =>
  aC pg (aG .lss 3 aM aM t37 t35) w fun t39 w =>
  eM t39
   (aC pg (aH 164 S9) w fun t40 w =>
   aC pg (fL 73 3 t22) w fun t42 w =>
   aC pg (aJ 164 t4 t40) w fun _u w =>
   kI pg 164 t4 w fun r0 => R (.tuple #[r0, t42, (.int .i64 0)]) w)
   (kn S9 t4 t22 t30 t35 w))
theorem WT (kn : K5) (R : K1) (hn : N5 Q kn 2 4 8 10 11) (hr : HR AN R Q) (h : RF kn R (g 0) (g 1) w) : bH pg zH (aD 7 wI) Q g w :=
 dS (l := []) h hn hr trivial
def akV (R : K1) (Iy MD : aJ3) (w : aJ2) : Prop :=
 RF (fun S9 t4 x_8 ZW Zi w => Hj R S9 t4 x_8 ZW Zi w) R Iy MD w
theorem X7 (R : K1) (hr : HR AN R Q) (h : akV R (g 0) (g 1) w) : bH pg zH wI Q g w :=
 fP 7 (WT _ g w (Hj R) R (fun g w h => aK (XQ _ g w R hr h)) hr h)
def Nt (R : K1) (Iy MD : aJ3) (w : aJ2) : Prop :=
 aC pg (rL 164 Iy) w fun S9 w =>
 aC pg (bS 164) w fun t4 w =>
 aC pg (aG .add 3 aM aM MD (.int .i64 1)) w fun t14 w =>
 aR pg AU #[t14] w fun t15 w =>
 aC pg (aH 164 S9) w fun t17 w =>
 aC pg (aG .sub 3 aM aM t15 (.int .i64 1)) w fun t19 w =>
 aR pg pZ #[t17, t19] w fun t20 w =>
 aC pg (aW t20 0) w fun t21 w =>
 aC pg (aW t20 1) w fun t22 w =>
 aC pg (aW t20 2) w fun t23 w =>
 aC pg (aJ 164 S9 t21) w fun _u w =>
 aC pg (aG .neq 30 (.tmp 24) (.const (.int .i64 0)) t23 (.int .i64 0)) w fun t25 w =>
 eM t25
  (aC pg (aH 164 S9) w fun t26 w =>
  aC pg (aJ 164 t4 t26) w fun _u w =>
  kI pg 164 t4 w fun r0 => R (.tuple #[r0, (.int .i64 0), t23]) w)
  (aC pg (aG .sub 3 aM aM t15 (.int .i64 1)) w fun t29 w =>
  aR pg mO #[t29] w fun t30 w =>
  aC pg (aG .mul 3 aM aM (.int .i64 2) t30) w fun t32 w =>
  aC pg (aG .sub 3 aM aM t32 (.int .i64 2)) w fun t33 w =>
  aC pg (aG .sub 3 aM aM t33 MD) w fun t35 w =>
  aC pg (fL 73 3 t22) w fun t37 w =>
  aC pg (aG .lss 3 aM aM t37 t35) w fun t39 w =>
  eM t39
   (aC pg (aH 164 S9) w fun t40 w =>
   aC pg (fL 73 3 t22) w fun t42 w =>
   aC pg (aJ 164 t4 t40) w fun _u w =>
   kI pg 164 t4 w fun r0 => R (.tuple #[r0, t42, (.int .i64 0)]) w)
   (aC pg (aH 164 S9) w fun t44 w =>
   aR pg pZ #[t44, (.int .i64 1)] w fun t45 w =>
   aC pg (aW t45 0) w fun t46 w =>
   aC pg (aW t45 1) w fun t47 w =>
   aC pg (aW t45 2) w fun t48 w =>
   aC pg (aJ 164 S9 t46) w fun _u w =>
   aC pg (aG .neq 30 (.tmp 49) (.const (.int .i64 0)) t48 (.int .i64 0)) w fun t50 w =>
   eM t50
    (aC pg (aH 164 S9) w fun t51 w =>
    aC pg (aJ 164 t4 t51) w fun _u w =>
    kI pg 164 t4 w fun r0 => R (.tuple #[r0, (.int .i64 0), t48]) w)
    (aC pg (aG .eql 73 (.tmp 53) (.const (.int .u64 1)) t47 (.int .u64 1)) w fun t54 w =>
    eM t54
     (aC pg (aH 164 S9) w fun t55 w =>
     aC pg (fL 73 3 t22) w fun t57 w =>
     aC pg (aG .add 3 aM aM t57 t30) w fun t59 w =>
     aC pg (aG .sub 3 aM aM t59 t35) w fun t61 w =>
     aC pg (aJ 164 t4 t55) w fun _u w =>
     kI pg 164 t4 w fun r0 => R (.tuple #[r0, t61, (.int .i64 0)]) w)
     (aC pg (aH 164 S9) w fun t62 w =>
     aC pg (fL 73 3 t22) w fun t64 w =>
     aC pg (aJ 164 t4 t62) w fun _u w =>
     kI pg 164 t4 w fun r0 => R (.tuple #[r0, t64, (.int .i64 0)]) w))))
theorem aeO (R : K1) (hr : HR AN R Q) (h : Nt R (g 0) (g 1) w) : bH pg zH wI Q g w :=
 X7 Q g w R hr (Eq.mp (by kernel_rfl) h)
def apX (a0 a1 : aJ3) (w : aJ2) (R : K1) : Prop :=
 Nt R a0 a1 w
theorem ajI {a0 a1 : aJ3} {w : aJ2} {R : K1} (h : apX a0 a1 w R) : aR pg IZ #[a0, a1] w R := by
 refine rQ (ann := zH) Tryd.f82 wI [a0, a1] AN 65 TrydM.mixed Tryd.func82 ?_
 exact (aeO _ _ _ R (fun _ _ h => h) h)
def TF : FA := ⟨I5, fun i => .leaf ([], []) []⟩
def Wc : List ResultVar := [.tmp 2]
noncomputable def Sf : Code := cU Tryd.f83
def MW (R : K1) (Iy : aJ3) (w : aJ2) : Prop :=
 aC pg (rL 164 Iy) w fun f_1 w =>
 aC pg (aL 164 f_1 1) w fun t3 w =>
 aC pg (aH 3 t3) w fun t4 w =>
 aC pg (aG .add 3 aM aM t4 (.int .i64 7)) w fun t5 w =>
 aC pg (aG .quo 3 aM aM t5 (.int .i64 8)) w fun t6 w =>
 R t6 w
theorem agH (R : K1) (hr : HR Wc R Q) (h : MW R (g 0) w) : bH pg TF Sf Q g w :=
 dS (kn := no) (l := []) h eP hr trivial
def anR (a0 : aJ3) (w : aJ2) (R : K1) : Prop :=
 MW R a0 w
theorem akO {a0 : aJ3} {w : aJ2} {R : K1} (h : anR a0 w R) : aR pg I5 #[a0] w R := by
 refine rQ (ann := TF) Tryd.f83 Sf [a0] Wc 7 TrydM.mixed Tryd.func83 ?_
 exact (agH _ _ _ R (fun _ _ h => h) h)
def R6 : FA := ⟨F8, fun i => .leaf ([], []) []⟩
def T0 : List ResultVar := [.tmp 4]
noncomputable def Pd : Code := cU Tryd.f84
def Jw (R : K1) (c_0 La : aJ3) (w : aJ2) : Prop :=
 aC pg (rL 130 c_0) w fun c_2 w =>
 aC pg (aH 130 c_2) w fun t6 w =>
 aR pg Mj #[t6] w fun t7 w =>
 aC pg (sUn .not t7) w fun t9 w =>
 eM t9
  (R (.int .i64 1) w)
  (aC pg (aL 130 c_2 0) w fun t10 w =>
  aC pg (aH 3 t10) w fun t11 w =>
  aC pg (aG .gtr 3 aM aM t11 La) w fun t13 w =>
  eM t13
   (R (.int .i64 12) w)
   (R (.int .i64 0) w))
theorem aaG (R : K1) (hr : HR T0 R Q) (h : Jw R (g 0) (g 1) w) : bH pg R6 Pd Q g w :=
 dS (kn := no) (l := []) h eP hr trivial
def ahQ (a0 a1 : aJ3) (w : aJ2) (R : K1) : Prop :=
 Jw R a0 a1 w
theorem afK {a0 a1 : aJ3} {w : aJ2} {R : K1} (h : ahQ a0 a1 w R) : aR pg F8 #[a0, a1] w R := by
 refine rQ (ann := R6) Tryd.f84 Pd [a0, a1] T0 14 TrydM.mixed Tryd.func84 ?_
 exact (aaG _ _ _ R (fun _ _ h => h) h)
def jU : FA := ⟨xX, fun i => .leaf ([], []) []⟩
def H4 : List ResultVar := [.tmp 2]
noncomputable def iY : Code := cU Tryd.f85
def Br (R : K1) (xP : aJ3) (w : aJ2) : Prop :=
 R xP w
theorem Wu (R : K1) (hr : HR H4 R Q) (h : Br R (g 3) w) : bH pg jU (aB 1 (aB 2 iY)) Q g w :=
 dS (kn := no) (l := []) h eP hr trivial
def wL (kn : K3) (gK xP iG : aJ3) (w : aJ2) : Prop :=
 aC pg (aG .sub 3 aM aM iG (.int .i64 1)) w fun t11 w =>
 kn gK xP t11 w
theorem Wl (kn : K3) (hn : N3 Q kn 0 3 4) (h : wL kn (g 0) (g 3) (g 4) w) : bH pg jU (aB 2 (bI (bI (aB 1 (aD 1 (aB 2 iY)))))) Q g w :=
 dS (kr := no) (l := []) h hn eP trivial
def H0 (kn : K3) (k0 : K1) (gK xP iG : aJ3) (w : aJ2) : Prop :=
 aC pg (aG .geq 3 aM aM iG (.int .i64 0)) w fun t9 w =>
 eM t9
  (aC pg (aG .mul 73 aM aM xP (.int .u64 2)) w fun t13 w =>
  aC pg (bA 80 gK iG) w fun t16 w =>
  aC pg (aH 4 t16) w fun t17 w =>
  eM t17
   (aC pg (aG .add 73 aM aM t13 (.int .u64 1)) w fun t19 w =>
   kn gK t19 iG w)
   (kn gK t13 iG w))
  (k0 xP w)
theorem XP (kn : K3) (k0 : K1) (hn : N3 Q kn 0 3 4) (h0 : E1 Q k0 0 3) (h : H0 kn k0 (g 0) (g 3) (g 4) w) : bH pg jU (aD 2 (bI (bI (aB 1 (aD 1 (aB 2 iY)))))) Q g w :=
 dS (kr := no) (l := [(0, fun g w => k0 (g 3) w)]) h hn eP ⟨h0, trivial⟩
def Bi (kn : K3) (k0 : K1) (gK xP iG : aJ3) (w : aJ2) : Prop :=
 H0 (fun gK xP iG w => wL kn gK xP iG w) k0 gK xP iG w
def G1 (k0 : K1) (gK xP iG : aJ3) (w : aJ2) : Prop :=
 cG (fun (X : (aJ3 × aJ3) -> K0) (t : aJ3 × aJ3) (w : aJ2) => Bi (fun _ xP iG w => X (xP, iG) w) k0 gK t.1 t.2 w) (xP, iG) w
theorem WO (kn : K3) (k0 : K1) (hn : N3 Q kn 0 3 4) (h0 : E1 Q k0 0 3) (h : Bi kn k0 (g 0) (g 3) (g 4) w) : bH pg jU (bI (bI (aB 1 (aD 1 (aB 2 iY))))) Q g w :=
 fP 2 (XP _ g w (wL kn) k0 (fun g w h => aK (Wl _ g w kn hn h)) h0 h)
theorem W3 (k0 : K1) (h0 : E1 Q k0 0 3) (h : G1 k0 (g 0) (g 3) (g 4) w) : bH pg jU (bI (aB 1 (aD 1 (aB 2 iY)))) Q g w := by
 refine Db (fun g : Env => (g 3, g 4)) (fun X t w => Bi (fun _ xP iG w => X (xP, iG) w) k0 (g 0) t.1 t.2 w) h (fun X g1 w1 ha hL => ?_)
 rw [<- fF 0 ha] at hL
 exact (WO _ g1 w1 (fun _ xP iG w => X (xP, iG) w) k0 (fun _ _ h => h) h0 hL)
def HD (kn : K1) (gK xP iG : aJ3) (w : aJ2) : Prop :=
 G1 kn gK xP iG w
def Hf (kn : K3) (gK xP : aJ3) (w : aJ2) : Prop :=
 aC pg (jM .len #[80] 3 [gK]) w fun t6 w =>
 aC pg (aG .sub 3 aM aM t6 (.int .i64 1)) w fun t7 w =>
 kn gK xP t7 w
theorem Wt (kn : K3) (hn : N3 Q kn 0 3 4) (h : Hf kn (g 0) (g 3) w) : bH pg jU (aD 1 (aD 1 (aB 2 iY))) Q g w :=
 dS (kr := no) (l := []) h hn eP trivial
def HA (kn : K1) (gK xP : aJ3) (w : aJ2) : Prop :=
 Hf (fun gK xP iG w => HD kn gK xP iG w) gK xP w
def GK (R : K1) (gK xP : aJ3) (w : aJ2) : Prop :=
 HA (fun xP w => Br R xP w) gK xP w
theorem Xm (kn : K1) (hn : N1 Q kn 3) (h : HA kn (g 0) (g 3) w) : bH pg jU (aD 1 (aB 2 iY)) Q g w :=
 fP 1 (Wt _ g w (HD kn) (fun g w h => aK (uH 0 (W3 _ g w kn hn h))) h)
def Ex (kn : K2) (gK : aJ3) (w : aJ2) : Prop :=
 kn gK (.int .u64 0) w
theorem Vh (kn : K2) (hn : N2 Q kn 0 3) (h : Ex kn (g 0) w) : bH pg jU (aD 2 iY) Q g w :=
 dS (kr := no) (l := []) h hn eP trivial
def ER (R : K1) (gK : aJ3) (w : aJ2) : Prop :=
 Ex (fun gK xP w => GK R gK xP w) gK w
theorem VC (R : K1) (hr : HR H4 R Q) (h : ER R (g 0) w) : bH pg jU iY Q g w :=
 fP 2 (Vh _ g w (GK R) (fun g w h => aK (fP 1 (Xm _ g w (Br R) (fun g w h => aK (Wu _ g w R hr h)) h))) h)
def Z6 (a0 : aJ3) (w : aJ2) (R : K1) : Prop :=
 ER R a0 w
theorem Y7 {a0 : aJ3} {w : aJ2} {R : K1} (h : Z6 a0 w R) : aR pg xX #[a0] w R := by
 refine rQ (ann := jU) Tryd.f85 iY [a0] H4 21 TrydM.mixed Tryd.func85 ?_
 exact (VC _ _ _ R (fun _ _ h => h) h)
def pT : FA := ⟨sJ, fun i => .leaf ([], []) []⟩
def BT : List ResultVar := [.tmp 2]
noncomputable def oA : Code := cU Tryd.f86
def qU (R : K1) (uJ AX : aJ3) (w : aJ2) : Prop :=
 aC pg (fL 43 5 uJ) w fun t15 w =>
 aC pg (HM 9 (.string ⟨#[0, 1, 2, 2, 3, 3, 3, 3, 4, 4, 4, 4, 4, 4, 4, 4, 5, 5, 5, 5, 5, 5, 5, 5, 5, 5, 5, 5, 5, 5, 5, 5, 6, 6, 6, 6, 6, 6, 6, 6, 6, 6, 6, 6, 6, 6, 6, 6, 6, 6, 6, 6, 6, 6, 6, 6, 6, 6, 6, 6, 6, 6, 6, 6, 7, 7, 7, 7, 7, 7, 7, 7, 7, 7, 7, 7, 7, 7, 7, 7, 7, 7, 7, 7, 7, 7, 7, 7, 7, 7, 7, 7, 7, 7, 7, 7, 7, 7, 7, 7, 7, 7, 7, 7, 7, 7, 7, 7, 7, 7, 7, 7, 7, 7, 7, 7, 7, 7, 7, 7, 7, 7, 7, 7, 7, 7, 7, 7, 8, 8, 8, 8, 8, 8, 8, 8, 8, 8, 8, 8, 8, 8, 8, 8, 8, 8, 8, 8, 8, 8, 8, 8, 8, 8, 8, 8, 8, 8, 8, 8, 8, 8, 8, 8, 8, 8, 8, 8, 8, 8, 8, 8, 8, 8, 8, 8, 8, 8, 8, 8, 8, 8, 8, 8, 8, 8, 8, 8, 8, 8, 8, 8, 8, 8, 8, 8, 8, 8, 8, 8, 8, 8, 8, 8, 8, 8, 8, 8, 8, 8, 8, 8, 8, 8, 8, 8, 8, 8, 8, 8, 8, 8, 8, 8, 8, 8, 8, 8, 8, 8, 8, 8, 8, 8, 8, 8, 8, 8, 8, 8, 8, 8, 8, 8, 8, 8, 8, 8, 8, 8, 8, 8, 8, 8, 8, 8]⟩) t15) w fun t16 w =>
 aC pg (fL 5 3 t16) w fun t17 w =>
 aC pg (aG .add 3 aM aM AX t17) w fun t18 w =>
 R t18 w
theorem SY (R : K1) (hr : HR BT R Q) (h : qU R (g 0) (g 2) w) : bH pg pT (aB 1 (aB 2 oA)) Q g w :=
 dS (kn := no) (l := []) h eP hr trivial
def Cj (kn : K2) (uJ AX : aJ3) (w : aJ2) : Prop :=
 aC pg (aG .geq 43 aM aM uJ (.int .u32 256)) w fun t8 w =>
 eM t8
  (aC pg (aG .shr 43 aM aM uJ (.int .u64 8)) w fun t10 w =>
  aC pg (aG .add 3 aM aM AX (.int .i64 8)) w fun t12 w =>
  kn t10 t12 w)
  (kn uJ AX w)
theorem SO (kn : K2) (hn : N2 Q kn 0 2) (h : Cj kn (g 0) (g 2) w) : bH pg pT (aD 1 (aB 2 oA)) Q g w :=
 dS (kr := no) (l := []) h hn eP trivial
def vA (R : K1) (uJ AX : aJ3) (w : aJ2) : Prop :=
 Cj (fun uJ AX w => qU R uJ AX w) uJ AX w
def Cf (kn : K2) (uJ : aJ3) (w : aJ2) : Prop :=
 aC pg (aG .geq 43 aM aM uJ (.int .u32 65536)) w fun t4 w =>
 eM t4
  (aC pg (aG .shr 43 aM aM uJ (.int .u64 16)) w fun t6 w =>
  kn t6 (.int .i64 16) w)
  (kn uJ (.int .i64 0) w)
theorem S3 (kn : K2) (hn : N2 Q kn 0 2) (h : Cf kn (g 0) w) : bH pg pT (aD 2 oA) Q g w :=
 dS (kr := no) (l := []) h hn eP trivial
def Bz (R : K1) (uJ : aJ3) (w : aJ2) : Prop :=
 Cf (fun uJ AX w => vA R uJ AX w) uJ w
theorem SR (R : K1) (hr : HR BT R Q) (h : Bz R (g 0) w) : bH pg pT oA Q g w :=
 fP 2 (S3 _ g w (vA R) (fun g w h => aK (fP 1 (SO _ g w (qU R) (fun g w h => aK (SY _ g w R hr h)) h))) h)
def R0 (a0 : aJ3) (w : aJ2) (R : K1) : Prop :=
 Bz R a0 w
theorem Ui {a0 : aJ3} {w : aJ2} {R : K1} (h : R0 a0 w R) : aR pg sJ #[a0] w R := by
 refine rQ (ann := pT) Tryd.f86 oA [a0] BT 19 TrydM.mixed Tryd.func86 ?_
 exact (SR _ _ _ R (fun _ _ h => h) h)
def P1 : FA := ⟨Ds, fun i => .leaf ([], []) []⟩
def RO : List ResultVar := [.tmp 4]
noncomputable def Mu : Code := cU Tryd.f87
def HL (R : K1) (c_0 La : aJ3) (w : aJ2) : Prop :=
 aC pg (rL 145 c_0) w fun c_2 w =>
 aC pg (aH 145 c_2) w fun t6 w =>
 aR pg CG #[t6] w fun t7 w =>
 aC pg (sUn .not t7) w fun t8 w =>
 eM t8
  (R (.int .i64 1) w)
  (aC pg (aL 145 c_2 0) w fun t10 w =>
  aC pg (aH 3 t10) w fun t11 w =>
  aC pg (aG .gtr 3 aM aM t11 La) w fun t13 w =>
  eM t13
   (R (.int .i64 12) w)
   (R (.int .i64 0) w))
theorem Xn (R : K1) (hr : HR RO R Q) (h : HL R (g 0) (g 1) w) : bH pg P1 Mu Q g w :=
 dS (kn := no) (l := []) h eP hr trivial
def YI (a0 a1 : aJ3) (w : aJ2) (R : K1) : Prop :=
 HL R a0 a1 w
theorem Y0 {a0 a1 : aJ3} {w : aJ2} {R : K1} (h : YI a0 a1 w R) : aR pg Ds #[a0, a1] w R := by
 refine rQ (ann := P1) Tryd.f87 Mu [a0, a1] RO 14 TrydM.mixed Tryd.func87 ?_
 exact (Xn _ _ _ R (fun _ _ h => h) h)
def dA : FA := ⟨DI, fun i => .leaf ([], []) []⟩
def Nm : List ResultVar := [.tmp 2]
noncomputable def cO : Code := cU Tryd.f88
def Ga (R : K1) (bF : aJ3) (w : aJ2) : Prop :=
 R bF w
theorem acG (R : K1) (hr : HR Nm R Q) (h : Ga R (g 4) w) : bH pg dA (aB 1 (aB 1 (aB 1 (aB 4 cO)))) Q g w :=
 dS (kn := no) (l := []) h eP hr trivial
def Fx (kn : K7) (jN bF bL fU t37 t38 t39 : aJ3) (w : aJ2) : Prop :=
 aC pg (aG .add 3 aM aM t39 (.int .i64 1)) w fun t68 w =>
 kn jN bF bL fU t37 t38 t68 w
theorem agL (kn : K7) (hn : N7 Q kn 3 4 5 8 37 38 39) (h : Fx kn (g 3) (g 4) (g 5) (g 8) (g 37) (g 38) (g 39) w) : bH pg dA (aB 1 (aB 2 (bI (bI (aB 1 (aD 1 (aB 1 (aB 1 (aB 4 cO))))))))) Q g w :=
 dS (kr := no) (l := []) h hn eP trivial
def Gc (kn : AL) (jN bF bL fU vY t37 t38 t39 t45 t46 : aJ3) (w : aJ2) : Prop :=
 aC pg (aG .add 3 aM aM t46 (.int .i64 1)) w fun t67 w =>
 kn jN bF bL fU vY t37 t38 t39 t45 t67 w
theorem aeT (kn : AL) (hn : N10 Q kn 3 4 5 8 9 37 38 39 45 46) (h : Gc kn (g 3) (g 4) (g 5) (g 8) (g 9) (g 37) (g 38) (g 39) (g 45) (g 46) w) : bH pg dA (aB 1 (aB 2 (bI (bI (aB 2 (bI (aB 1 (bI (aD 1 (aB 2 (bI (bI (aB 1 (aD 1 (aB 1 (aB 1 (aB 4 cO))))))))))))))))) Q g w :=
 dS (kr := no) (l := []) h hn eP trivial
def Fu (kn : AL) (k5 : AL) (jN bF bL fU vY t37 t38 t39 t45 t46 : aJ3) (w : aJ2) : Prop :=
 aC pg (aG .shr 3 aM aM jN (.int .u64 1)) w fun t56 w =>
 aC pg (aG .add 3 aM aM fU t56) w fun t57 w =>
 aC pg (aG .shr 3 aM aM jN (.int .u64 3)) w fun t59 w =>
 aC pg (aG .add 3 aM aM t57 t59) w fun t60 w =>
 aC pg (aG .add 3 aM aM t60 (.int .i64 3)) w fun t61 w =>
 aC pg (aG .rem 3 aM aM t61 jN) w fun t63 w =>
 aC pg (aG .lss 3 aM aM t63 bL) w fun t66 w =>
 eM t66
  (k5 jN bF bL t63 vY t37 t38 t39 t45 t46 w)
  (kn jN bF bL t63 vY t37 t38 t39 t45 t46 w)
theorem afW (kn : AL) (k5 : AL) (hn : N10 Q kn 3 4 5 8 9 37 38 39 45 46) (h5 : E10 Q k5 5 3 4 5 8 9 37 38 39 45 46) (h : Fu kn k5 (g 3) (g 4) (g 5) (g 8) (g 9) (g 37) (g 38) (g 39) (g 45) (g 46) w) : bH pg dA (bI (bI (aB 1 (bI (aD 1 (aB 2 (bI (bI (aB 2 (bI (aB 1 (bI (aD 1 (aB 2 (bI (bI (aB 1 (aD 1 (aB 1 (aB 1 (aB 4 cO))))))))))))))))))))) Q g w :=
 dS (kr := no) (l := [(5, fun g w => k5 (g 3) (g 4) (g 5) (g 8) (g 9) (g 37) (g 38) (g 39) (g 45) (g 46) w)]) h hn eP ⟨h5, trivial⟩
def FU (k5 : AL) (jN bF bL fU vY t37 t38 t39 t45 t46 : aJ3) (w : aJ2) : Prop :=
 cG (fun (X : aJ3 -> K0) (t : aJ3) (w : aJ2) => Fu (fun _ _ _ fU _ _ _ _ _ _ w => X fU w) k5 jN bF bL t vY t37 t38 t39 t45 t46 w) fU w
theorem afB (k5 : AL) (h5 : E10 Q k5 5 3 4 5 8 9 37 38 39 45 46) (h : FU k5 (g 3) (g 4) (g 5) (g 8) (g 9) (g 37) (g 38) (g 39) (g 45) (g 46) w) : bH pg dA (bI (aB 1 (bI (aD 1 (aB 2 (bI (bI (aB 2 (bI (aB 1 (bI (aD 1 (aB 2 (bI (bI (aB 1 (aD 1 (aB 1 (aB 1 (aB 4 cO)))))))))))))))))))) Q g w := by
 refine Db (fun g : Env => g 8) (fun X t w => Fu (fun _ _ _ fU _ _ _ _ _ _ w => X fU w) k5 (g 3) (g 4) (g 5) t (g 9) (g 37) (g 38) (g 39) (g 45) (g 46) w) h (fun X g1 w1 ha hL => ?_)
 rw [<- fF 3 ha, <- fF 4 ha, <- fF 5 ha, <- fF 9 ha, <- fF 37 ha, <- fF 38 ha, <- fF 39 ha, <- fF 45 ha, <- fF 46 ha] at hL
 exact (afW _ g1 w1 (fun _ _ _ fU _ _ _ _ _ _ w => X fU w) k5 (fun _ _ h => h) h5 hL)
def MH (k5 : AL) (jN bF bL fU vY t37 t38 t39 t45 t46 : aJ3) (w : aJ2) : Prop :=
 FU k5 jN bF bL fU vY t37 t38 t39 t45 t46 w
def Nh (kn : AL) (jN bF bL fU vY t37 t38 t39 t45 t46 : aJ3) (w : aJ2) : Prop :=
 aC pg (fL 3 5 vY) w fun t51 w =>
 aC pg (bA 25 bF fU) w fun t52 w =>
 aC pg (aL 123 t52 0) w fun t53 w =>
 aC pg (aJ 5 t53 t51) w fun _u w =>
 kn jN bF bL fU vY t37 t38 t39 t45 t46 w
theorem aeM (kn : AL) (hn : N10 Q kn 3 4 5 8 9 37 38 39 45 46) (h : Nh kn (g 3) (g 4) (g 5) (g 8) (g 9) (g 37) (g 38) (g 39) (g 45) (g 46) w) : bH pg dA (aD 1 (bI (aD 1 (aB 2 (bI (bI (aB 2 (bI (aB 1 (bI (aD 1 (aB 2 (bI (bI (aB 1 (aD 1 (aB 1 (aB 1 (aB 4 cO))))))))))))))))))) Q g w :=
 dS (kr := no) (l := []) h hn eP trivial
def VW (k5 : AL) (jN bF bL fU vY t37 t38 t39 t45 t46 : aJ3) (w : aJ2) : Prop :=
 Nh (fun jN bF bL fU vY t37 t38 t39 t45 t46 w => MH k5 jN bF bL fU vY t37 t38 t39 t45 t46 w) jN bF bL fU vY t37 t38 t39 t45 t46 w
def MI (kn : AL) (jN bF bL fU vY t37 t38 t39 t45 t46 : aJ3) (w : aJ2) : Prop :=
 VW kn jN bF bL fU vY t37 t38 t39 t45 t46 w
def KB (kn : AL) (jN bF bL fU vY t37 t38 t39 t45 t46 : aJ3) (w : aJ2) : Prop :=
 MI (fun jN bF bL fU vY t37 t38 t39 t45 t46 w => Gc kn jN bF bL fU vY t37 t38 t39 t45 t46 w) jN bF bL fU vY t37 t38 t39 t45 t46 w
theorem afQ (kn : AL) (hn : N10 Q kn 3 4 5 8 9 37 38 39 45 46) (h : MI kn (g 3) (g 4) (g 5) (g 8) (g 9) (g 37) (g 38) (g 39) (g 45) (g 46) w) : bH pg dA (aD 1 (aB 2 (bI (bI (aB 2 (bI (aB 1 (bI (aD 1 (aB 2 (bI (bI (aB 1 (aD 1 (aB 1 (aB 1 (aB 4 cO))))))))))))))))) Q g w :=
 uH 5 (fP 1 (aeM _ g w (MH kn) (fun g w h => aK (uH 6 (afB _ g w kn hn h))) h))
def Dr (kn : AL) (k4 : K7) (jN bF bL fU vY t37 t38 t39 t45 t46 : aJ3) (w : aJ2) : Prop :=
 aC pg (aG .lss 3 aM aM t46 t45) w fun t47 w =>
 eM t47
  (kn jN bF bL fU vY t37 t38 t39 t45 t46 w)
  (k4 jN bF bL fU t37 t38 t39 w)
theorem Y3 (kn : AL) (k4 : K7) (hn : N10 Q kn 3 4 5 8 9 37 38 39 45 46) (h4 : E7 Q k4 4 3 4 5 8 37 38 39) (h : Dr kn k4 (g 3) (g 4) (g 5) (g 8) (g 9) (g 37) (g 38) (g 39) (g 45) (g 46) w) : bH pg dA (aD 2 (bI (bI (aB 2 (bI (aB 1 (bI (aD 1 (aB 2 (bI (bI (aB 1 (aD 1 (aB 1 (aB 1 (aB 4 cO)))))))))))))))) Q g w :=
 dS (kr := no) (l := [(4, fun g w => k4 (g 3) (g 4) (g 5) (g 8) (g 37) (g 38) (g 39) w)]) h hn eP ⟨h4, trivial⟩
def yW (kn : AL) (k4 : K7) (jN bF bL fU vY t37 t38 t39 t45 t46 : aJ3) (w : aJ2) : Prop :=
 Dr (fun jN bF bL fU vY t37 t38 t39 t45 t46 w => KB kn jN bF bL fU vY t37 t38 t39 t45 t46 w) k4 jN bF bL fU vY t37 t38 t39 t45 t46 w
def Kz (k4 : K7) (jN bF bL fU vY t37 t38 t39 t45 t46 : aJ3) (w : aJ2) : Prop :=
 cG (fun (X : (aJ3 × aJ3) -> K0) (t : aJ3 × aJ3) (w : aJ2) => yW (fun _ _ _ fU _ _ _ _ _ t46 w => X (fU, t46) w) k4 jN bF bL t.1 vY t37 t38 t39 t45 t.2 w) (fU, t46) w
theorem Zh (kn : AL) (k4 : K7) (hn : N10 Q kn 3 4 5 8 9 37 38 39 45 46) (h4 : E7 Q k4 4 3 4 5 8 37 38 39) (h : yW kn k4 (g 3) (g 4) (g 5) (g 8) (g 9) (g 37) (g 38) (g 39) (g 45) (g 46) w) : bH pg dA (bI (bI (aB 2 (bI (aB 1 (bI (aD 1 (aB 2 (bI (bI (aB 1 (aD 1 (aB 1 (aB 1 (aB 4 cO))))))))))))))) Q g w :=
 fP 2 (Y3 _ g w (KB kn) k4 (fun g w h => aK (fP 1 (afQ _ g w (Gc kn) (fun g w h => aK (aeT _ g w kn hn h)) h))) h4 h)
theorem abF (k4 : K7) (h4 : E7 Q k4 4 3 4 5 8 37 38 39) (h : Kz k4 (g 3) (g 4) (g 5) (g 8) (g 9) (g 37) (g 38) (g 39) (g 45) (g 46) w) : bH pg dA (bI (aB 2 (bI (aB 1 (bI (aD 1 (aB 2 (bI (bI (aB 1 (aD 1 (aB 1 (aB 1 (aB 4 cO)))))))))))))) Q g w := by
 refine Db (fun g : Env => (g 8, g 46)) (fun X t w => yW (fun _ _ _ fU _ _ _ _ _ t46 w => X (fU, t46) w) k4 (g 3) (g 4) (g 5) t.1 (g 9) (g 37) (g 38) (g 39) (g 45) t.2 w) h (fun X g1 w1 ha hL => ?_)
 rw [<- fF 3 ha, <- fF 4 ha, <- fF 5 ha, <- fF 9 ha, <- fF 37 ha, <- fF 38 ha, <- fF 39 ha, <- fF 45 ha] at hL
 exact (Zh _ g1 w1 (fun _ _ _ fU _ _ _ _ _ t46 w => X (fU, t46) w) k4 (fun _ _ h => h) h4 hL)
def J4 (kn : K7) (jN bF bL fU vY t37 t38 t39 t45 t46 : aJ3) (w : aJ2) : Prop :=
 Kz kn jN bF bL fU vY t37 t38 t39 t45 t46 w
def JI (kn : AL) (jN bF bL fU vY auI t37 t38 t39 : aJ3) (w : aJ2) : Prop :=
 aC pg (jM .max #[3, 3] 3 [auI, (.int .i64 0)]) w fun t45 w =>
 kn jN bF bL fU vY t37 t38 t39 t45 (.int .i64 0) w
theorem abJ (kn : AL) (hn : N10 Q kn 3 4 5 8 9 37 38 39 45 46) (h : JI kn (g 3) (g 4) (g 5) (g 8) (g 9) (g 10) (g 37) (g 38) (g 39) w) : bH pg dA (aD 2 (bI (aB 1 (bI (aD 1 (aB 2 (bI (bI (aB 1 (aD 1 (aB 1 (aB 1 (aB 4 cO))))))))))))) Q g w :=
 dS (kr := no) (l := []) h hn eP trivial
def UD (kn : K7) (jN bF bL fU vY auI t37 t38 t39 : aJ3) (w : aJ2) : Prop :=
 JI (fun jN bF bL fU vY t37 t38 t39 t45 t46 w => J4 kn jN bF bL fU vY t37 t38 t39 t45 t46 w) jN bF bL fU vY auI t37 t38 t39 w
def Ll (kn : K7) (jN bF bL fU vY auI t37 t38 t39 : aJ3) (w : aJ2) : Prop :=
 UD kn jN bF bL fU vY auI t37 t38 t39 w
def LF (kn : K9) (jN bF bL fU t37 t38 t39 : aJ3) (w : aJ2) : Prop :=
 aC pg (bA 77 t37 t39) w fun t42 w =>
 aC pg (aH 3 t42) w fun t43 w =>
 kn jN bF bL fU t39 t43 t37 t38 t39 w
theorem abA (kn : K9) (hn : N9 Q kn 3 4 5 8 9 10 37 38 39) (h : LF kn (g 3) (g 4) (g 5) (g 8) (g 37) (g 38) (g 39) w) : bH pg dA (aD 1 (bI (aD 1 (aB 2 (bI (bI (aB 1 (aD 1 (aB 1 (aB 1 (aB 4 cO))))))))))) Q g w :=
 dS (kr := no) (l := []) h hn eP trivial
def T6 (kn : K7) (jN bF bL fU t37 t38 t39 : aJ3) (w : aJ2) : Prop :=
 LF (fun jN bF bL fU vY auI t37 t38 t39 w => Ll kn jN bF bL fU vY auI t37 t38 t39 w) jN bF bL fU t37 t38 t39 w
def JS (kn : K7) (jN bF bL fU t37 t38 t39 : aJ3) (w : aJ2) : Prop :=
 T6 kn jN bF bL fU t37 t38 t39 w
def Kf (kn : K7) (jN bF bL fU t37 t38 t39 : aJ3) (w : aJ2) : Prop :=
 JS (fun jN bF bL fU t37 t38 t39 w => Fx kn jN bF bL fU t37 t38 t39 w) jN bF bL fU t37 t38 t39 w
theorem Zt (kn : K7) (hn : N7 Q kn 3 4 5 8 37 38 39) (h : JS kn (g 3) (g 4) (g 5) (g 8) (g 37) (g 38) (g 39) w) : bH pg dA (aD 1 (aB 2 (bI (bI (aB 1 (aD 1 (aB 1 (aB 1 (aB 4 cO))))))))) Q g w :=
 uH 3 (fP 1 (abA _ g w (Ll kn) (fun g w h => aK (scD (fP 2 (abJ _ g w (J4 kn) (fun g w h => aK (uH 4 (abF _ g w kn hn h))) h)))) h))
def C0 (kn : K7) (k2 : K1) (jN bF bL fU t37 t38 t39 : aJ3) (w : aJ2) : Prop :=
 aC pg (aG .lss 3 aM aM t39 t38) w fun t40 w =>
 eM t40
  (kn jN bF bL fU t37 t38 t39 w)
  (k2 bF w)
theorem Z8 (kn : K7) (k2 : K1) (hn : N7 Q kn 3 4 5 8 37 38 39) (h2 : E1 Q k2 2 4) (h : C0 kn k2 (g 3) (g 4) (g 5) (g 8) (g 37) (g 38) (g 39) w) : bH pg dA (aD 2 (bI (bI (aB 1 (aD 1 (aB 1 (aB 1 (aB 4 cO)))))))) Q g w :=
 dS (kr := no) (l := [(2, fun g w => k2 (g 4) w)]) h hn eP ⟨h2, trivial⟩
def xQ (kn : K7) (k2 : K1) (jN bF bL fU t37 t38 t39 : aJ3) (w : aJ2) : Prop :=
 C0 (fun jN bF bL fU t37 t38 t39 w => Kf kn jN bF bL fU t37 t38 t39 w) k2 jN bF bL fU t37 t38 t39 w
def Ky (k2 : K1) (jN bF bL fU t37 t38 t39 : aJ3) (w : aJ2) : Prop :=
 cG (fun (X : (aJ3 × aJ3) -> K0) (t : aJ3 × aJ3) (w : aJ2) => xQ (fun _ _ _ fU _ _ t39 w => X (fU, t39) w) k2 jN bF bL t.1 t37 t38 t.2 w) (fU, t39) w
theorem aaZ (kn : K7) (k2 : K1) (hn : N7 Q kn 3 4 5 8 37 38 39) (h2 : E1 Q k2 2 4) (h : xQ kn k2 (g 3) (g 4) (g 5) (g 8) (g 37) (g 38) (g 39) w) : bH pg dA (bI (bI (aB 1 (aD 1 (aB 1 (aB 1 (aB 4 cO))))))) Q g w :=
 fP 2 (Z8 _ g w (Kf kn) k2 (fun g w h => aK (fP 1 (Zt _ g w (Fx kn) (fun g w h => aK (agL _ g w kn hn h)) h))) h2 h)
theorem ZV (k2 : K1) (h2 : E1 Q k2 2 4) (h : Ky k2 (g 3) (g 4) (g 5) (g 8) (g 37) (g 38) (g 39) w) : bH pg dA (bI (aB 1 (aD 1 (aB 1 (aB 1 (aB 4 cO)))))) Q g w := by
 refine Db (fun g : Env => (g 8, g 39)) (fun X t w => xQ (fun _ _ _ fU _ _ t39 w => X (fU, t39) w) k2 (g 3) (g 4) (g 5) t.1 (g 37) (g 38) t.2 w) h (fun X g1 w1 ha hL => ?_)
 rw [<- fF 3 ha, <- fF 4 ha, <- fF 5 ha, <- fF 37 ha, <- fF 38 ha] at hL
 exact (aaZ _ g1 w1 (fun _ _ _ fU _ _ t39 w => X (fU, t39) w) k2 (fun _ _ h => h) h2 hL)
def J0 (kn : K1) (jN bF bL fU t37 t38 t39 : aJ3) (w : aJ2) : Prop :=
 Ky kn jN bF bL fU t37 t38 t39 w
def Lo (kn : K7) (bJ jN bF bL fU : aJ3) (w : aJ2) : Prop :=
 aC pg (aL 145 bJ 1) w fun t36 w =>
 aC pg (aH 77 t36) w fun t37 w =>
 aC pg (jM .len #[77] 3 [t37]) w fun t38 w =>
 kn jN bF bL fU t37 t38 (.int .i64 0) w
theorem YQ (kn : K7) (hn : N7 Q kn 3 4 5 8 37 38 39) (h : Lo kn (g 1) (g 3) (g 4) (g 5) (g 8) w) : bH pg dA (aD 1 (aD 1 (aB 1 (aB 1 (aB 4 cO))))) Q g w :=
 dS (kr := no) (l := []) h hn eP trivial
def Lz (kn : K1) (bJ jN bF bL fU : aJ3) (w : aJ2) : Prop :=
 Lo (fun jN bF bL fU t37 t38 t39 w => J0 kn jN bF bL fU t37 t38 t39 w) bJ jN bF bL fU w
def Ko (R : K1) (bJ jN bF bL fU : aJ3) (w : aJ2) : Prop :=
 Lz (fun bF w => Ga R bF w) bJ jN bF bL fU w
theorem aaH (kn : K1) (hn : N1 Q kn 4) (h : Lz kn (g 1) (g 3) (g 4) (g 5) (g 8) w) : bH pg dA (aD 1 (aB 1 (aB 1 (aB 4 cO)))) Q g w :=
 fP 1 (YQ _ g w (J0 kn) (fun g w h => aK (uH 2 (ZV _ g w kn hn h))) h)
def JX (kn : K5) (bJ jN bF bL : aJ3) (w : aJ2) : Prop :=
 kn bJ jN bF bL (.int .i64 0) w
theorem YB (kn : K5) (hn : N5 Q kn 1 3 4 5 8) (h : JX kn (g 1) (g 3) (g 4) (g 5) w) : bH pg dA (aD 1 (aB 1 (aB 4 cO))) Q g w :=
 dS (kr := no) (l := []) h hn eP trivial
def KF (R : K1) (bJ jN bF bL : aJ3) (w : aJ2) : Prop :=
 JX (fun bJ jN bF bL fU w => Ko R bJ jN bF bL fU w) bJ jN bF bL w
def DY (kn : K7) (bJ jN bF bL t18 t19 t20 : aJ3) (w : aJ2) : Prop :=
 aC pg (aG .add 3 aM aM t20 (.int .i64 1)) w fun t35 w =>
 kn bJ jN bF bL t18 t19 t35 w
theorem abL (kn : K7) (hn : N7 Q kn 1 3 4 5 18 19 20) (h : DY kn (g 1) (g 3) (g 4) (g 5) (g 18) (g 19) (g 20) w) : bH pg dA (aB 3 (bI (bI (aB 1 (aD 1 (aB 4 cO)))))) Q g w :=
 dS (kr := no) (l := []) h hn eP trivial
def Dw (kn : K7) (k0 : K4) (bJ jN bF bL t18 t19 t20 : aJ3) (w : aJ2) : Prop :=
 aC pg (aG .lss 3 aM aM t20 t19) w fun t21 w =>
 eM t21
  (aC pg (bA 77 t18 t20) w fun t23 w =>
  aC pg (aH 3 t23) w fun t24 w =>
  aC pg (aG .eql 3 (.tmp 25) (.const (.int .i64 (-1))) t24 (.int .i64 (-1))) w fun t26 w =>
  eM t26
   (aC pg (aG .sub 3 aM aM bL (.int .i64 1)) w fun t28 w =>
   aC pg (fL 3 5 t20) w fun t32 w =>
   aC pg (bA 25 bF t28) w fun t33 w =>
   aC pg (aL 123 t33 0) w fun t34 w =>
   aC pg (aJ 5 t34 t32) w fun _u w =>
   kn bJ jN bF t28 t18 t19 t20 w)
   (kn bJ jN bF bL t18 t19 t20 w))
  (k0 bJ jN bF bL w)
theorem aaE (kn : K7) (k0 : K4) (hn : N7 Q kn 1 3 4 5 18 19 20) (h0 : E4 Q k0 0 1 3 4 5) (h : Dw kn k0 (g 1) (g 3) (g 4) (g 5) (g 18) (g 19) (g 20) w) : bH pg dA (aD 3 (bI (bI (aB 1 (aD 1 (aB 4 cO)))))) Q g w :=
 dS (kr := no) (l := [(0, fun g w => k0 (g 1) (g 3) (g 4) (g 5) w)]) h hn eP ⟨h0, trivial⟩
def zD (kn : K7) (k0 : K4) (bJ jN bF bL t18 t19 t20 : aJ3) (w : aJ2) : Prop :=
 Dw (fun bJ jN bF bL t18 t19 t20 w => DY kn bJ jN bF bL t18 t19 t20 w) k0 bJ jN bF bL t18 t19 t20 w
def Ju (k0 : K4) (bJ jN bF bL t18 t19 t20 : aJ3) (w : aJ2) : Prop :=
 cG (fun (X : (aJ3 × aJ3) -> K0) (t : aJ3 × aJ3) (w : aJ2) => zD (fun _ _ _ bL _ _ t20 w => X (bL, t20) w) k0 bJ jN bF t.1 t18 t19 t.2 w) (bL, t20) w
theorem YW (kn : K7) (k0 : K4) (hn : N7 Q kn 1 3 4 5 18 19 20) (h0 : E4 Q k0 0 1 3 4 5) (h : zD kn k0 (g 1) (g 3) (g 4) (g 5) (g 18) (g 19) (g 20) w) : bH pg dA (bI (bI (aB 1 (aD 1 (aB 4 cO))))) Q g w :=
 fP 3 (aaE _ g w (DY kn) k0 (fun g w h => aK (abL _ g w kn hn h)) h0 h)
theorem ZB (k0 : K4) (h0 : E4 Q k0 0 1 3 4 5) (h : Ju k0 (g 1) (g 3) (g 4) (g 5) (g 18) (g 19) (g 20) w) : bH pg dA (bI (aB 1 (aD 1 (aB 4 cO)))) Q g w := by
 refine Db (fun g : Env => (g 5, g 20)) (fun X t w => zD (fun _ _ _ bL _ _ t20 w => X (bL, t20) w) k0 (g 1) (g 3) (g 4) t.1 (g 18) (g 19) t.2 w) h (fun X g1 w1 ha hL => ?_)
 rw [<- fF 1 ha, <- fF 3 ha, <- fF 4 ha, <- fF 18 ha, <- fF 19 ha] at hL
 exact (YW _ g1 w1 (fun _ _ _ bL _ _ t20 w => X (bL, t20) w) k0 (fun _ _ h => h) h0 hL)
def JD (kn : K4) (bJ jN bF bL t18 t19 t20 : aJ3) (w : aJ2) : Prop :=
 Ju kn bJ jN bF bL t18 t19 t20 w
def KL (kn : K7) (bJ jN bF bL : aJ3) (w : aJ2) : Prop :=
 aC pg (aL 145 bJ 1) w fun t17 w =>
 aC pg (aH 77 t17) w fun t18 w =>
 aC pg (jM .len #[77] 3 [t18]) w fun t19 w =>
 kn bJ jN bF bL t18 t19 (.int .i64 0) w
theorem ZM (kn : K7) (hn : N7 Q kn 1 3 4 5 18 19 20) (h : KL kn (g 1) (g 3) (g 4) (g 5) w) : bH pg dA (aD 1 (aD 1 (aB 4 cO))) Q g w :=
 dS (kr := no) (l := []) h hn eP trivial
def JG (kn : K4) (bJ jN bF bL : aJ3) (w : aJ2) : Prop :=
 KL (fun bJ jN bF bL t18 t19 t20 w => JD kn bJ jN bF bL t18 t19 t20 w) bJ jN bF bL w
def LD (R : K1) (bJ jN bF bL : aJ3) (w : aJ2) : Prop :=
 JG (fun bJ jN bF bL w => KF R bJ jN bF bL w) bJ jN bF bL w
theorem abP (kn : K4) (hn : N4 Q kn 1 3 4 5) (h : JG kn (g 1) (g 3) (g 4) (g 5) w) : bH pg dA (aD 1 (aB 4 cO)) Q g w :=
 fP 1 (ZM _ g w (JD kn) (fun g w h => aK (uH 0 (ZB _ g w kn hn h))) h)
def JL (kn : K4) (c_0 : aJ3) (w : aJ2) : Prop :=
 aC pg (rL 145 c_0) w fun bJ w =>
 aC pg (aL 145 bJ 0) w fun t11 w =>
 aC pg (aH 3 t11) w fun t12 w =>
 aC pg (aG .shl 3 aM aM (.int .i64 1) t12) w fun t13 w =>
 aC pg (xZ 25 t13 t13) w fun t15 w =>
 kn bJ t13 t15 t13 w
theorem Y6 (kn : K4) (hn : N4 Q kn 1 3 4 5) (h : JL kn (g 0) w) : bH pg dA (aD 4 cO) Q g w :=
 dS (kr := no) (l := []) h hn eP trivial
def KN (R : K1) (c_0 : aJ3) (w : aJ2) : Prop :=
 JL (fun bJ jN bF bL w => LD R bJ jN bF bL w) c_0 w
theorem Zg (R : K1) (hr : HR Nm R Q) (h : KN R (g 0) w) : bH pg dA cO Q g w :=
 fP 4 (Y6 _ g w (LD R) (fun g w h => aK (fP 1 (abP _ g w (KF R) (fun g w h => aK (fP 1 (YB _ g w (Ko R) (fun g w h => aK (fP 1 (aaH _ g w (Ga R) (fun g w h => aK (acG _ g w R hr h)) h))) h))) h))) h)
def apO (a0 : aJ3) (w : aJ2) (R : K1) : Prop :=
 KN R a0 w
theorem alO {a0 : aJ3} {w : aJ2} {R : K1} (h : apO a0 w R) : aR pg DI #[a0] w R := by
 refine rQ (ann := dA) Tryd.f88 cO [a0] Nm 70 TrydM.mixed Tryd.func88 ?_
 exact (Zg _ _ _ R (fun _ _ h => h) h)
def Mm : FA := ⟨rU, fun i => .leaf ([], []) []⟩
def Px : List ResultVar := [.tmp 2]
noncomputable def Jz : Code := cU Tryd.f89
def EH (R : K1) (uJ : aJ3) (w : aJ2) : Prop :=
 eM (.bool false)
  (aC pg (fL 94 43 uJ) w fun t4 w =>
  aR pg sJ #[t4] w fun t5 w =>
  R t5 w)
  (aR pg xB #[uJ] w fun t7 w =>
  R t7 w)
theorem Vt (R : K1) (hr : HR Px R Q) (h : EH R (g 0) w) : bH pg Mm Jz Q g w :=
 dS (kn := no) (l := []) h eP hr trivial
def Wg (a0 : aJ3) (w : aJ2) (R : K1) : Prop :=
 EH R a0 w
theorem Xu {a0 : aJ3} {w : aJ2} {R : K1} (h : Wg a0 w R) : aR pg rU #[a0] w R := by
 refine rQ (ann := Mm) Tryd.f89 Jz [a0] Px 8 TrydM.mixed Tryd.func89 ?_
 exact (Vt _ _ _ R (fun _ _ h => h) h)
def nZ : FA := ⟨CG, fun i => .leaf ([], []) []⟩
def sR : List ResultVar := [.tmp 2]
noncomputable def nB : Code := cU Tryd.f90
def FK (R : K1) (lF : aJ3) (w : aJ2) : Prop :=
 aC pg (aG .eql 3 (.tmp 60) (.const (.int .i64 0)) lF (.int .i64 0)) w fun t61 w =>
 R t61 w
theorem ahG (R : K1) (hr : HR sR R Q) (h : FK R (g 3) w) : bH pg nZ (aB 1 (aB 3 nB)) Q g w :=
 dS (kn := no) (l := []) h eP hr trivial
def wR (kn : K4) (k0 : K1) (R : K1) (lF t41 t42 t43 : aJ3) (w : aJ2) : Prop :=
 aC pg (aG .lss 3 aM aM t43 t42) w fun t44 w =>
 eM t44
  (aC pg (bA 77 t41 t43) w fun t45 w =>
  aC pg (aH 3 t45) w fun t46 w =>
  aC pg (aG .lss 3 aM aM t46 (.int .i64 (-1))) w fun t48 w =>
  Gd (eX t48 false) (fun K => K t46 w) w fun t50 w =>
  Gd (eX t48 false) (fun K => aR pg qM #[t50] w K) w fun t51 w =>
  Gd (eX t48 false) (fun K => K lF w) w fun t52 w =>
  Gd (eX t48 false) (fun K => aC pg (aG .gtr 3 aM aM t51 t52) w K) w fun t53 w =>
  aC pg (fI t48 (.bool true) t53) w fun t54 w =>
  eM t54
   (R (.bool false) w)
   (aR pg qM #[t46] w fun t57 w =>
   aC pg (aG .sub 3 aM aM lF t57) w fun t58 w =>
   aC pg (aG .add 3 aM aM t43 (.int .i64 1)) w fun t59 w =>
   kn t58 t41 t42 t59 w))
  (k0 lF w)
theorem acX (kn : K4) (k0 : K1) (R : K1) (hn : N4 Q kn 3 41 42 43) (h0 : E1 Q k0 0 3) (hr : HR sR R Q) (h : wR kn k0 R (g 3) (g 41) (g 42) (g 43) w) : bH pg nZ (bI (bI (aB 1 (aD 1 (aB 3 nB))))) Q g w :=
 dS (l := [(0, fun g w => k0 (g 3) w)]) h hn hr ⟨h0, trivial⟩
def M1 (k0 : K1) (R : K1) (lF t41 t42 t43 : aJ3) (w : aJ2) : Prop :=
 cG (fun (X : (aJ3 × aJ3) -> K0) (t : aJ3 × aJ3) (w : aJ2) => wR (fun lF _ _ t43 w => X (lF, t43) w) k0 R t.1 t41 t42 t.2 w) (lF, t43) w
theorem acJ (k0 : K1) (R : K1) (h0 : E1 Q k0 0 3) (hr : HR sR R Q) (h : M1 k0 R (g 3) (g 41) (g 42) (g 43) w) : bH pg nZ (bI (aB 1 (aD 1 (aB 3 nB)))) Q g w := by
 refine Db (fun g : Env => (g 3, g 43)) (fun X t w => wR (fun lF _ _ t43 w => X (lF, t43) w) k0 R t.1 (g 41) (g 42) t.2 w) h (fun X g1 w1 ha hL => ?_)
 rw [<- fF 41 ha, <- fF 42 ha] at hL
 exact (acX _ g1 w1 (fun lF _ _ t43 w => X (lF, t43) w) k0 R (fun _ _ h => h) h0 hr hL)
def NB (kn : K1) (R : K1) (lF t41 t42 t43 : aJ3) (w : aJ2) : Prop :=
 M1 kn R lF t41 t42 t43 w
def NC (kn : K4) (bJ lF : aJ3) (w : aJ2) : Prop :=
 aC pg (aL 145 bJ 1) w fun t40 w =>
 aC pg (aH 77 t40) w fun t41 w =>
 aC pg (jM .len #[77] 3 [t41]) w fun t42 w =>
 kn lF t41 t42 (.int .i64 0) w
theorem agW (kn : K4) (hn : N4 Q kn 3 41 42 43) (h : NC kn (g 1) (g 3) w) : bH pg nZ (aD 1 (aD 1 (aB 3 nB))) Q g w :=
 dS (kr := no) (l := []) h hn eP trivial
def Nr (kn : K1) (R : K1) (bJ lF : aJ3) (w : aJ2) : Prop :=
 NC (fun lF t41 t42 t43 w => NB kn R lF t41 t42 t43 w) bJ lF w
def NZ (R : K1) (bJ lF : aJ3) (w : aJ2) : Prop :=
 Nr (fun lF w => FK R lF w) R bJ lF w
theorem afU (kn : K1) (R : K1) (hn : N1 Q kn 3) (hr : HR sR R Q) (h : Nr kn R (g 1) (g 3) w) : bH pg nZ (aD 1 (aB 3 nB)) Q g w :=
 fP 1 (agW _ g w (NB kn R) (fun g w h => aK (uH 0 (acJ _ g w kn R hn hr h))) h)
def OE (kn : K2) (R : K1) (c_0 : aJ3) (w : aJ2) : Prop :=
 aC pg (rL 145 c_0) w fun bJ w =>
 aC pg (aL 145 bJ 0) w fun t6 w =>
 aC pg (aH 3 t6) w fun t7 w =>
 aC pg (aG .lss 3 aM aM t7 (.int .i64 5)) w fun t8 w =>
 Gd (eX t8 false) (fun K => aC pg (aL 145 bJ 0) w K) w fun t10 w =>
 Gd (eX t8 false) (fun K => aC pg (aH 3 t10) w K) w fun t11 w =>
 Gd (eX t8 false) (fun K => aC pg (aG .gtr 3 aM aM t11 (.int .i64 15)) w K) w fun t12 w =>
 aC pg (fI t8 (.bool true) t12) w fun t13 w =>
 Gd (eX t13 false) (fun K => aC pg (aL 145 bJ 1) w K) w fun t15 w =>
 Gd (eX t13 false) (fun K => aC pg (aH 77 t15) w K) w fun t16 w =>
 Gd (eX t13 false) (fun K => aC pg (jM .len #[77] 3 [t16]) w K) w fun t17 w =>
 Gd (eX t13 false) (fun K => aC pg (aG .lss 3 aM aM t17 (.int .i64 1)) w K) w fun t18 w =>
 aC pg (fI t13 (.bool true) t18) w fun t19 w =>
 Gd (eX t19 false) (fun K => aC pg (aL 145 bJ 1) w K) w fun t21 w =>
 Gd (eX t19 false) (fun K => aC pg (aH 77 t21) w K) w fun t22 w =>
 Gd (eX t19 false) (fun K => aC pg (jM .len #[77] 3 [t22]) w K) w fun t23 w =>
 Gd (eX t19 false) (fun K => aC pg (aG .gtr 3 aM aM t23 (.int .i64 256)) w K) w fun t24 w =>
 aC pg (fI t19 (.bool true) t24) w fun t25 w =>
 Gd (eX t25 false) (fun K => aC pg (aL 145 bJ 1) w K) w fun t27 w =>
 Gd (eX t25 false) (fun K => aC pg (aH 77 t27) w K) w fun t28 w =>
 Gd (eX t25 false) (fun K => aC pg (aL 145 bJ 1) w K) w fun t29 w =>
 Gd (eX t25 false) (fun K => aC pg (aH 77 t29) w K) w fun t30 w =>
 Gd (eX t25 false) (fun K => aC pg (jM .len #[77] 3 [t30]) w K) w fun t31 w =>
 Gd (eX t25 false) (fun K => aC pg (aG .sub 3 aM aM t31 (.int .i64 1)) w K) w fun t32 w =>
 Gd (eX t25 false) (fun K => aC pg (bA 77 t28 t32) w K) w fun t33 w =>
 Gd (eX t25 false) (fun K => aC pg (aH 3 t33) w K) w fun t34 w =>
 Gd (eX t25 false) (fun K => aC pg (aG .eql 3 (.tmp 34) (.const (.int .i64 0)) t34 (.int .i64 0)) w K) w fun t35 w =>
 aC pg (fI t25 (.bool true) t35) w fun t36 w =>
 eM t36
  (R (.bool false) w)
  (aC pg (aL 145 bJ 0) w fun t37 w =>
  aC pg (aH 3 t37) w fun t38 w =>
  aC pg (aG .shl 3 aM aM (.int .i64 1) t38) w fun t39 w =>
  kn bJ t39 w)
theorem adN (kn : K2) (R : K1) (hn : N2 Q kn 1 3) (hr : HR sR R Q) (h : OE kn R (g 0) w) : bH pg nZ (aD 3 nB) Q g w :=
 dS (l := []) h hn hr trivial
def MO (R : K1) (c_0 : aJ3) (w : aJ2) : Prop :=
 OE (fun bJ lF w => NZ R bJ lF w) R c_0 w
theorem agJ (R : K1) (hr : HR sR R Q) (h : MO R (g 0) w) : bH pg nZ nB Q g w :=
 fP 3 (adN _ g w (NZ R) R (fun g w h => aK (fP 1 (afU _ g w (FK R) R (fun g w h => aK (ahG _ g w R hr h)) hr h))) hr h)
def apH (a0 : aJ3) (w : aJ2) (R : K1) : Prop :=
 MO R a0 w
theorem akQ {a0 : aJ3} {w : aJ2} {R : K1} (h : apH a0 w R) : aR pg CG #[a0] w R := by
 refine rQ (ann := nZ) Tryd.f90 nB [a0] sR 62 TrydM.mixed Tryd.func90 ?_
 exact (agJ _ _ _ R (fun _ _ h => h) h)
def Pg : FA := ⟨qM, fun i => .leaf ([], []) []⟩
def RC : List ResultVar := [.tmp 2]
noncomputable def Mg : Code := cU Tryd.f91
def A2 (R : K1) (p_0 : aJ3) (w : aJ2) : Prop :=
 aC pg (aG .lss 3 aM aM p_0 (.int .i64 0)) w fun t4 w =>
 eM t4
  (R (.int .i64 1) w)
  (R p_0 w)
theorem WE (R : K1) (hr : HR RC R Q) (h : A2 R (g 0) w) : bH pg Pg Mg Q g w :=
 dS (kn := no) (l := []) h eP hr trivial
def Q7 (a0 : aJ3) (w : aJ2) (R : K1) : Prop :=
 A2 R a0 w
theorem Y2 {a0 : aJ3} {w : aJ2} {R : K1} (h : Q7 a0 w R) : aR pg qM #[a0] w R := by
 refine rQ (ann := Pg) Tryd.f91 Mg [a0] RC 6 TrydM.mixed Tryd.func91 ?_
 exact (WE _ _ _ R (fun _ _ h => h) h)
def Iz : FA := ⟨xE, fun i => .leaf ([], []) []⟩
def KA : List ResultVar := [.tmp 2]
noncomputable def Gh : Code := cU Tryd.f92
def BV (R : K1) (uG : aJ3) (w : aJ2) : Prop :=
 aC pg (aG .eql 151 (.tmp 3) (.const (.pointer none)) uG (.pointer none)) w fun t4 w =>
 eM t4
  (R (.slice none 0 0) w)
  (aC pg (qJ uG) w fun t6 w =>
  aC pg (aL 183 t6 0) w fun t7 w =>
  aC pg (aH 22 t7) w fun t8 w =>
  aR pg iQ #[t8] w fun t9 w =>
  R t9 w)
theorem Sz (R : K1) (hr : HR KA R Q) (h : BV R (g 0) w) : bH pg Iz Gh Q g w :=
 dS (kn := no) (l := []) h eP hr trivial
def R2 (a0 : aJ3) (w : aJ2) (R : K1) : Prop :=
 BV R a0 w
theorem UL {a0 : aJ3} {w : aJ2} {R : K1} (h : R2 a0 w R) : aR pg xE #[a0] w R := by
 refine rQ (ann := Iz) Tryd.f92 Gh [a0] KA 10 TrydM.mixed Tryd.func92 ?_
 exact (Sz _ _ _ R (fun _ _ h => h) h)
def IB : FA := ⟨xG, fun i => .leaf ([], []) []⟩
def Lx : List ResultVar := [.tmp 2]
noncomputable def Gk : Code := cU Tryd.f93
def B8 (R : K1) (D3 : aJ3) (w : aJ2) : Prop :=
 aR pg iQ #[D3] w fun t4 w =>
 aC pg (bV 195 [(0, t4)]) w fun t5 w =>
 aC pg (rL 195 t5) w fun t6 w =>
 R t6 w
theorem St (R : K1) (hr : HR Lx R Q) (h : B8 R (g 0) w) : bH pg IB Gk Q g w :=
 dS (kn := no) (l := []) h eP hr trivial
def R1 (a0 : aJ3) (w : aJ2) (R : K1) : Prop :=
 B8 R a0 w
theorem UB {a0 : aJ3} {w : aJ2} {R : K1} (h : R1 a0 w R) : aR pg xG #[a0] w R := by
 refine rQ (ann := IB) Tryd.f93 Gk [a0] Lx 7 TrydM.mixed Tryd.func93 ?_
 exact (St _ _ _ R (fun _ _ h => h) h)
def Eh : FA := ⟨lE, fun i => match Nat.beq i 3 with | true => .leaf ([], []) [(false, []), (false, []), (false, []), (false, []), (false, []), (false, []), (false, []), (false, []), (false, []), (false, []), (false, []), (false, []), (false, []), (false, [])] | false => match Nat.beq i 5 with | true => .leaf ([9], []) [(false, []), (false, []), (false, []), (false, []), (false, []), (false, []), (false, []), (false, []), (false, []), (true, []), (false, [])] | false => .leaf ([], []) []⟩
def GH : List ResultVar := [.tmp 4, .tmp 5]
noncomputable def CK : Code := cU Tryd.f94
def yX (R : K1) (Iy pU : aJ3) (w : aJ2) : Prop :=
 aC pg (aG .eql 184 (.tmp 8) (.const (.pointer none)) Iy (.pointer none)) w fun t9 w =>
 Gd (eX t9 false) (fun K => K pU w) w fun t11 w =>
 Gd (eX t9 false) (fun K => aC pg (aG .lss 3 aM aM t11 (.int .i64 0)) w K) w fun t12 w =>
 aC pg (fI t9 (.bool true) t12) w fun t13 w =>
 Gd (eX t13 false) (fun K => K pU w) w fun t15 w =>
 Gd (eX t13 false) (fun K => aC pg (aG .gtr 3 aM aM t15 (.int .i64 32)) w K) w fun t16 w =>
 aC pg (fI t13 (.bool true) t16) w fun t17 w =>
 eM t17
  (R (.tuple #[(.int .u64 0), (.int .i64 1)]) w)
  ((dr w) = (dr w) /\
  aC pg (qJ Iy) (dr w) fun t20 w_ => w_ = (dr w) /\
  aC pg (aL 195 t20 0) (dr w) fun t21 w_ => w_ = (dr w) /\
  aC pg (aH 22 t21) (dr w) fun t22 w_ => w_ = (dr w) /\
  aC pg (jM .len #[22] 3 [t22]) (dr w) fun t23 w_ => w_ = (dr w) /\
  aC pg (aG .mul 3 aM aM (.int .i64 8) t23) (dr w) fun t24 w_ => w_ = (dr w) /\
  (dr w) = (dr w) /\
  aC pg (qJ Iy) (dr w) fun t26 w_ => w_ = (dr w) /\
  aC pg (aL 195 t26 1) (dr w) fun t27 w_ => w_ = (dr w) /\
  aC pg (aH 3 t27) (dr w) fun t28 w_ => w_ = (dr w) /\
  aC pg (aG .sub 3 aM aM t24 t28) (dr w) fun t29 w_ => w_ = (dr w) /\
  (dr w) = (dr w) /\
  aC pg (aG .lss 3 aM aM t29 pU) (dr w) fun t31 w_ => w_ = (dr w) /\
  (dr w) = (dr w) /\
  eM t31
   (R (.tuple #[(.int .u64 0), (.int .i64 10)]) (dr w))
   ((dr (dr w)) = (dr (dr w)) /\
   aC pg (qJ Iy) (dr (dr w)) fun t33 w_ => w_ = (dr (dr w)) /\
   aC pg (aL 195 t33 0) (dr (dr w)) fun t34 w_ => w_ = (dr (dr w)) /\
   aC pg (aH 22 t34) (dr (dr w)) fun t35 w_ => w_ = (dr (dr w)) /\
   (dr (dr w)) = (dr (dr w)) /\
   aC pg (qJ Iy) (dr (dr w)) fun t37 w_ => w_ = (dr (dr w)) /\
   aC pg (aL 195 t37 1) (dr (dr w)) fun t38 w_ => w_ = (dr (dr w)) /\
   aC pg (aH 3 t38) (dr (dr w)) fun t39 w_ => w_ = (dr (dr w)) /\
   (dr (dr w)) = (dr (dr w)) /\
   aR pg Gg #[t35, t39, pU] (dr (dr w)) fun t41 aF1 =>
   aF1 = aF1 /\
   aC pg (qJ Iy) aF1 fun t43 w =>
   aC pg (aL 195 t43 1) w fun t44 w =>
   aC pg (aH 3 t44) w fun t45 w =>
   aC pg (aG .add 3 aM aM t45 pU) w fun t47 w =>
   aC pg (qJ Iy) w fun t48 w =>
   aC pg (aL 195 t48 1) w fun t49 w =>
   aC pg (aJ 3 t49 t47) w fun _u w =>
   R (.tuple #[t41, (.int .i64 0)]) w))
theorem Ph (R : K1) (hr : HR GH R Q) (h : yX R (g 0) (g 1) w) : bH pg Eh CK Q g w :=
 dS (kn := no) (l := []) h eP hr trivial
def Me (a0 a1 : aJ3) (w : aJ2) (R : K1) : Prop :=
 yX R a0 a1 w
theorem Q0 {a0 a1 : aJ3} {w : aJ2} {R : K1} (h : Me a0 a1 w R) : aR pg lE #[a0, a1] w R := by
 refine rQ (ann := Eh) Tryd.f94 CK [a0, a1] GH 51 TrydM.mixed Tryd.func94 ?_
 exact (Ph _ _ _ R (fun _ _ h => h) h)
def OS : FA := ⟨CL, fun i => .leaf ([], []) []⟩
def R7 : List ResultVar := [.tmp 4, .tmp 5]
noncomputable def MC : Code := cU Tryd.f95
def HN (R : K1) (Iy MD : aJ3) (w : aJ2) : Prop :=
 aC pg (aG .add 3 aM aM MD (.int .i64 1)) w fun t12 w =>
 aC pg (fL 3 94 t12) w fun t13 w =>
 aR pg rU #[t13] w fun t14 w =>
 aC pg (aG .sub 3 aM aM t14 (.int .i64 1)) w fun t18 w =>
 aR pg lE #[Iy, t18] w fun t19 w =>
 aC pg (aW t19 0) w fun t20 w =>
 aC pg (aW t19 1) w fun t21 w =>
 aC pg (aG .neq 30 (.tmp 22) (.const (.int .i64 0)) t21 (.int .i64 0)) w fun t23 w =>
 eM t23
  (R (.tuple #[(.int .i64 0), t21]) w)
  (aC pg (aG .shl 3 aM aM (.int .i64 1) t14) w fun t26 w =>
  aC pg (aG .sub 3 aM aM t26 (.int .i64 2)) w fun t27 w =>
  aC pg (aG .sub 3 aM aM t27 MD) w fun t29 w =>
  aC pg (fL 73 3 t20) w fun t31 w =>
  aC pg (aG .lss 3 aM aM t31 t29) w fun t33 w =>
  eM t33
   (aC pg (fL 73 3 t20) w fun t35 w =>
   R (.tuple #[t35, (.int .i64 0)]) w)
   (aR pg lE #[Iy, (.int .i64 1)] w fun t38 w =>
   aC pg (aW t38 0) w fun t39 w =>
   aC pg (aW t38 1) w fun t40 w =>
   aC pg (aG .neq 30 (.tmp 42) (.const (.int .i64 0)) t40 (.int .i64 0)) w fun t43 w =>
   eM t43
    (R (.tuple #[(.int .i64 0), t40]) w)
    (aC pg (aG .eql 73 (.tmp 46) (.const (.int .u64 0)) t39 (.int .u64 0)) w fun t47 w =>
    eM t47
     (aC pg (fL 73 3 t20) w fun t49 w =>
     R (.tuple #[t49, (.int .i64 0)]) w)
     (aC pg (fL 73 3 t20) w fun t51 w =>
     aC pg (aG .sub 3 aM aM t14 (.int .i64 1)) w fun t53 w =>
     aC pg (aG .shl 3 aM aM (.int .i64 1) t53) w fun t54 w =>
     aC pg (aG .add 3 aM aM t51 t54) w fun t55 w =>
     aC pg (aG .sub 3 aM aM t55 t29) w fun t57 w =>
     R (.tuple #[t57, (.int .i64 0)]) w))))
theorem WZ (R : K1) (hr : HR R7 R Q) (h : HN R (g 0) (g 1) w) : bH pg OS MC Q g w :=
 dS (kn := no) (l := []) h eP hr trivial
def Zm (a0 a1 : aJ3) (w : aJ2) (R : K1) : Prop :=
 HN R a0 a1 w
theorem Yo {a0 a1 : aJ3} {w : aJ2} {R : K1} (h : Zm a0 a1 w R) : aR pg CL #[a0, a1] w R := by
 refine rQ (ann := OS) Tryd.f95 MC [a0, a1] R7 58 TrydM.mixed Tryd.func95 ?_
 exact (WZ _ _ _ R (fun _ _ h => h) h)
def kN : FA := ⟨zR, fun i => .leaf ([], []) []⟩
def pH : List ResultVar := [.tmp 2, .tmp 3]
noncomputable def jV : Code := cU Tryd.f96
def wY (R : K1) (n_4 : aJ3) (w : aJ2) : Prop :=
 R (.tuple #[n_4, (.int .i64 0)]) w
theorem Tj (R : K1) (hr : HR pH R Q) (h : wY R (g 4) w) : bH pg kN (aB 1 (aB 2 (bI (aB 1 jV)))) Q g w :=
 dS (kn := no) (l := []) h eP hr trivial
def xC (kn : K2) (k0 : K1) (R : K1) (Iy n_4 : aJ3) (w : aJ2) : Prop :=
 aR pg lE #[Iy, (.int .i64 2)] w fun t9 w =>
 aC pg (aW t9 0) w fun t10 w =>
 aC pg (aW t9 1) w fun t11 w =>
 aC pg (aG .neq 30 (.tmp 12) (.const (.int .i64 0)) t11 (.int .i64 0)) w fun t13 w =>
 eM t13
  (R (.tuple #[(.int .i64 0), t11]) w)
  (aC pg (fL 73 3 t10) w fun t17 w =>
  aC pg (aG .add 3 aM aM n_4 t17) w fun t18 w =>
  aC pg (aG .lss 73 aM aM t10 (.int .u64 3)) w fun t20 w =>
  eM t20
   (k0 t18 w)
   (kn Iy t18 w))
theorem Tz (kn : K2) (k0 : K1) (R : K1) (hn : N2 Q kn 0 4) (h0 : E1 Q k0 0 4) (hr : HR pH R Q) (h : xC kn k0 R (g 0) (g 4) w) : bH pg kN (bI (bI (aD 1 (aB 2 (bI (aB 1 jV)))))) Q g w :=
 dS (l := [(0, fun g w => k0 (g 4) w)]) h hn hr ⟨h0, trivial⟩
def Dc (k0 : K1) (R : K1) (Iy n_4 : aJ3) (w : aJ2) : Prop :=
 cG (fun (X : aJ3 -> K0) (t : aJ3) (w : aJ2) => xC (fun _ n_4 w => X n_4 w) k0 R Iy t w) n_4 w
theorem Uv (k0 : K1) (R : K1) (h0 : E1 Q k0 0 4) (hr : HR pH R Q) (h : Dc k0 R (g 0) (g 4) w) : bH pg kN (bI (aD 1 (aB 2 (bI (aB 1 jV))))) Q g w := by
 refine Db (fun g : Env => g 4) (fun X t w => xC (fun _ n_4 w => X n_4 w) k0 R (g 0) t w) h (fun X g1 w1 ha hL => ?_)
 rw [<- fF 0 ha] at hL
 exact (Tz _ g1 w1 (fun _ n_4 w => X n_4 w) k0 R (fun _ _ h => h) h0 hr hL)
def C6 (kn : K1) (R : K1) (Iy n_4 : aJ3) (w : aJ2) : Prop :=
 Dc kn R Iy n_4 w
def DX (R : K1) (Iy n_4 : aJ3) (w : aJ2) : Prop :=
 C6 (fun n_4 w => wY R n_4 w) R Iy n_4 w
theorem T9 (kn : K1) (R : K1) (hn : N1 Q kn 4) (hr : HR pH R Q) (h : C6 kn R (g 0) (g 4) w) : bH pg kN (aD 1 (aB 2 (bI (aB 1 jV)))) Q g w :=
 uH 0 (Uv _ g w kn R hn hr h)
def DL (kn : K2) (Iy : aJ3) (w : aJ2) : Prop :=
 kn Iy (.int .i64 0) w
theorem Ts (kn : K2) (hn : N2 Q kn 0 4) (h : DL kn (g 0) w) : bH pg kN (aD 2 (bI (aB 1 jV))) Q g w :=
 dS (kr := no) (l := []) h hn eP trivial
def Mc (R : K1) (Iy : aJ3) (w : aJ2) : Prop :=
 DL (fun Iy n_4 w => DX R Iy n_4 w) Iy w
def Dm (R : K1) (Iy : aJ3) (w : aJ2) : Prop :=
 Mc R Iy w
def DN (kn : K1) (Iy : aJ3) (w : aJ2) : Prop :=
 kn Iy w
theorem Tr (kn : K1) (hn : N1 Q kn 0) (h : DN kn (g 0) w) : bH pg kN (aD 1 jV) Q g w :=
 dS (kr := no) (l := []) h hn eP trivial
def Ca (R : K1) (Iy : aJ3) (w : aJ2) : Prop :=
 DN (fun Iy w => Dm R Iy w) Iy w
theorem Ss (R : K1) (hr : HR pH R Q) (h : Ca R (g 0) w) : bH pg kN jV Q g w :=
 fP 1 (Tr _ g w (Dm R) (fun g w h => aK (scD (fP 2 (Ts _ g w (DX R) (fun g w h => aK (fP 1 (T9 _ g w (wY R) R (fun g w h => aK (Tj _ g w R hr h)) hr h))) h)))) h)
def UF (a0 : aJ3) (w : aJ2) (R : K1) : Prop :=
 Ca R a0 w
theorem Vr {a0 : aJ3} {w : aJ2} {R : K1} (h : UF a0 w R) : aR pg zR #[a0] w R := by
 refine rQ (ann := kN) Tryd.f96 jV [a0] pH 22 TrydM.mixed Tryd.func96 ?_
 exact (Ss _ _ _ R (fun _ _ h => h) h)
def Em : FA := ⟨tI, fun i => .leaf ([], []) []⟩
def GB : List ResultVar := [.tmp 2]
noncomputable def DQ : Code := cU Tryd.f97
def zB (R : K1) (Iy : aJ3) (w : aJ2) : Prop :=
 aC pg (aG .eql 184 (.tmp 3) (.const (.pointer none)) Iy (.pointer none)) w fun t4 w =>
 eM t4
  (R (.int .i64 0) w)
  (aC pg (qJ Iy) w fun t6 w =>
  aC pg (aL 195 t6 1) w fun t7 w =>
  aC pg (aH 3 t7) w fun t8 w =>
  aC pg (aG .add 3 aM aM t8 (.int .i64 7)) w fun t9 w =>
  aC pg (aG .quo 3 aM aM t9 (.int .i64 8)) w fun t10 w =>
  R t10 w)
theorem OY (R : K1) (hr : HR GB R Q) (h : zB R (g 0) w) : bH pg Em DQ Q g w :=
 dS (kn := no) (l := []) h eP hr trivial
def Ml (a0 : aJ3) (w : aJ2) (R : K1) : Prop :=
 zB R a0 w
theorem QE {a0 : aJ3} {w : aJ2} {R : K1} (h : Ml a0 w R) : aR pg tI #[a0] w R := by
 refine rQ (ann := Em) Tryd.f97 DQ [a0] GB 11 TrydM.mixed Tryd.func97 ?_
 exact (OY _ _ _ R (fun _ _ h => h) h)
def pO : FA := ⟨AU, fun i => .leaf ([], []) []⟩
def JT : List ResultVar := [.tmp 2]
noncomputable def nP : Code := cU Tryd.f98
def CW (R : K1) (jN : aJ3) (w : aJ2) : Prop :=
 R jN w
theorem Zq (R : K1) (hr : HR JT R Q) (h : CW R (g 3) w) : bH pg pO (aB 1 (aB 2 nP)) Q g w :=
 dS (kn := no) (l := []) h eP hr trivial
def DU (kn : K2) (k0 : K1) (uJ jN : aJ3) (w : aJ2) : Prop :=
 aC pg (aG .gtr 3 aM aM uJ (.int .i64 0)) w fun t5 w =>
 eM t5
  (aC pg (aG .quo 3 aM aM uJ (.int .i64 2)) w fun t7 w =>
  aC pg (aG .add 3 aM aM jN (.int .i64 1)) w fun t9 w =>
  kn t7 t9 w)
  (k0 jN w)
theorem YO (kn : K2) (k0 : K1) (hn : N2 Q kn 0 3) (h0 : E1 Q k0 0 3) (h : DU kn k0 (g 0) (g 3) w) : bH pg pO (bI (bI (aD 1 (aB 2 nP)))) Q g w :=
 dS (kr := no) (l := [(0, fun g w => k0 (g 3) w)]) h hn eP ⟨h0, trivial⟩
def KP (k0 : K1) (uJ jN : aJ3) (w : aJ2) : Prop :=
 cG (fun (X : (aJ3 × aJ3) -> K0) (t : aJ3 × aJ3) (w : aJ2) => DU (fun uJ jN w => X (uJ, jN) w) k0 t.1 t.2 w) (uJ, jN) w
theorem Yu (k0 : K1) (h0 : E1 Q k0 0 3) (h : KP k0 (g 0) (g 3) w) : bH pg pO (bI (aD 1 (aB 2 nP))) Q g w := by
 refine Db (fun g : Env => (g 0, g 3)) (fun X t w => DU (fun uJ jN w => X (uJ, jN) w) k0 t.1 t.2 w) h (fun X g1 w1 ha hL => ?_)
 exact (YO _ g1 w1 (fun uJ jN w => X (uJ, jN) w) k0 (fun _ _ h => h) h0 hL)
def Ls (kn : K1) (uJ jN : aJ3) (w : aJ2) : Prop :=
 KP kn uJ jN w
def Kl (R : K1) (uJ jN : aJ3) (w : aJ2) : Prop :=
 Ls (fun jN w => CW R jN w) uJ jN w
theorem Z5 (kn : K1) (hn : N1 Q kn 3) (h : Ls kn (g 0) (g 3) w) : bH pg pO (aD 1 (aB 2 nP)) Q g w :=
 uH 0 (Yu _ g w kn hn h)
def Lj (kn : K2) (uJ : aJ3) (w : aJ2) : Prop :=
 kn uJ (.int .i64 0) w
theorem aaI (kn : K2) (hn : N2 Q kn 0 3) (h : Lj kn (g 0) w) : bH pg pO (aD 2 nP) Q g w :=
 dS (kr := no) (l := []) h hn eP trivial
def Kj (R : K1) (uJ : aJ3) (w : aJ2) : Prop :=
 Lj (fun uJ jN w => Kl R uJ jN w) uJ w
theorem ZX (R : K1) (hr : HR JT R Q) (h : Kj R (g 0) w) : bH pg pO nP Q g w :=
 fP 2 (aaI _ g w (Kl R) (fun g w h => aK (fP 1 (Z5 _ g w (CW R) (fun g w h => aK (Zq _ g w R hr h)) h))) h)
def aiR (a0 : aJ3) (w : aJ2) (R : K1) : Prop :=
 Kj R a0 w
theorem abV {a0 : aJ3} {w : aJ2} {R : K1} (h : aiR a0 w R) : aR pg AU #[a0] w R := by
 refine rQ (ann := pO) Tryd.f98 nP [a0] JT 11 TrydM.mixed Tryd.func98 ?_
 exact (ZX _ _ _ R (fun _ _ h => h) h)
def jR : FA := ⟨Mj, fun i => .leaf ([], []) []⟩
def pV : List ResultVar := [.tmp 2]
noncomputable def iV : Code := cU Tryd.f99
def IT (R : K1) (bJ iC : aJ3) (w : aJ2) : Prop :=
 aC pg (aL 130 bJ 0) w fun t61 w =>
 aC pg (aH 3 t61) w fun t62 w =>
 aR pg mO #[t62] w fun t63 w =>
 aC pg (aG .eql 3 (.tmp 60) (.tmp 63) iC t63) w fun t64 w =>
 R t64 w
theorem alI (R : K1) (hr : HR pV R Q) (h : IT R (g 1) (g 3) w) : bH pg jR (aB 1 (aB 3 iV)) Q g w :=
 dS (kn := no) (l := []) h eP hr trivial
def C7 (kn : K3) (bJ iC iG : aJ3) (w : aJ2) : Prop :=
 aC pg (aG .add 3 aM aM iG (.int .i64 1)) w fun t43 w =>
 kn bJ iC t43 w
theorem akW (kn : K3) (hn : N3 Q kn 1 3 4) (h : C7 kn (g 1) (g 3) (g 4) w) : bH pg jR (aB 1 (aB 1 (bI (bI (aB 1 (aD 1 (aB 3 iV))))))) Q g w :=
 dS (kr := no) (l := []) h hn eP trivial
def Dp (kn : K3) (bJ iC iG p_5 : aJ3) (w : aJ2) : Prop :=
 aC pg (aG .add 3 aM aM iC p_5) w fun t59 w =>
 kn bJ t59 iG w
theorem akM (kn : K3) (hn : N3 Q kn 1 3 4) (h : Dp kn (g 1) (g 3) (g 4) (g 5) w) : bH pg jR (aB 3 (bI (aD 1 (aB 1 (bI (bI (aB 1 (aD 1 (aB 3 iV))))))))) Q g w :=
 dS (kr := no) (l := []) h hn eP trivial
def DW (kn : K4) (R : K1) (bJ iC iG : aJ3) (w : aJ2) : Prop :=
 aC pg (aL 130 bJ 1) w fun t44 w =>
 aC pg (aH 77 t44) w fun t45 w =>
 aC pg (bA 77 t45 iG) w fun t47 w =>
 aC pg (aH 3 t47) w fun t48 w =>
 aC pg (aG .lss 3 aM aM t48 (.int .i64 (-1))) w fun t50 w =>
 Gd (eX t50 false) (fun K => K t48 w) w fun t52 w =>
 Gd (eX t50 false) (fun K => aC pg (aG .gtr 3 aM aM t52 (.int .i64 32768)) w K) w fun t53 w =>
 aC pg (fI t50 (.bool true) t53) w fun t54 w =>
 eM t54
  (R (.bool false) w)
  (aC pg (aG .lss 3 aM aM t48 (.int .i64 0)) w fun t56 w =>
  eM t56
   (kn bJ iC iG (.int .i64 1) w)
   (kn bJ iC iG t48 w))
theorem ajS (kn : K4) (R : K1) (hn : N4 Q kn 1 3 4 5) (hr : HR pV R Q) (h : DW kn R (g 1) (g 3) (g 4) w) : bH pg jR (aD 3 (bI (aD 1 (aB 1 (bI (bI (aB 1 (aD 1 (aB 3 iV))))))))) Q g w :=
 dS (l := []) h hn hr trivial
def Jc (kn : K3) (R : K1) (bJ iC iG : aJ3) (w : aJ2) : Prop :=
 DW (fun bJ iC iG p_5 w => Dp kn bJ iC iG p_5 w) R bJ iC iG w
def CZ (kn : K3) (R : K1) (bJ iC iG : aJ3) (w : aJ2) : Prop :=
 Jc kn R bJ iC iG w
def CU (kn : K3) (R : K1) (bJ iC iG : aJ3) (w : aJ2) : Prop :=
 CZ (fun bJ iC iG w => C7 kn bJ iC iG w) R bJ iC iG w
theorem aiT (kn : K3) (R : K1) (hn : N3 Q kn 1 3 4) (hr : HR pV R Q) (h : CZ kn R (g 1) (g 3) (g 4) w) : bH pg jR (aD 1 (aB 1 (bI (bI (aB 1 (aD 1 (aB 3 iV))))))) Q g w :=
 uH 1 (fP 3 (ajS _ g w (Dp kn) R (fun g w h => aK (akM _ g w kn hn h)) hr h))
def zO (kn : K3) (k0 : K2) (bJ iC iG : aJ3) (w : aJ2) : Prop :=
 aC pg (aL 130 bJ 1) w fun t38 w =>
 aC pg (aH 77 t38) w fun t39 w =>
 aC pg (jM .len #[77] 3 [t39]) w fun t40 w =>
 aC pg (aG .lss 3 aM aM iG t40) w fun t41 w =>
 eM t41
  (kn bJ iC iG w)
  (k0 bJ iC w)
theorem alL (kn : K3) (k0 : K2) (hn : N3 Q kn 1 3 4) (h0 : E2 Q k0 0 1 3) (h : zO kn k0 (g 1) (g 3) (g 4) w) : bH pg jR (aD 1 (bI (bI (aB 1 (aD 1 (aB 3 iV)))))) Q g w :=
 dS (kr := no) (l := [(0, fun g w => k0 (g 1) (g 3) w)]) h hn eP ⟨h0, trivial⟩
def vV (kn : K3) (k0 : K2) (R : K1) (bJ iC iG : aJ3) (w : aJ2) : Prop :=
 zO (fun bJ iC iG w => CU kn R bJ iC iG w) k0 bJ iC iG w
def Nz (k0 : K2) (R : K1) (bJ iC iG : aJ3) (w : aJ2) : Prop :=
 cG (fun (X : (aJ3 × aJ3) -> K0) (t : aJ3 × aJ3) (w : aJ2) => vV (fun _ iC iG w => X (iC, iG) w) k0 R bJ t.1 t.2 w) (iC, iG) w
theorem ajY (kn : K3) (k0 : K2) (R : K1) (hn : N3 Q kn 1 3 4) (h0 : E2 Q k0 0 1 3) (hr : HR pV R Q) (h : vV kn k0 R (g 1) (g 3) (g 4) w) : bH pg jR (bI (bI (aB 1 (aD 1 (aB 3 iV))))) Q g w :=
 fP 1 (alL _ g w (CU kn R) k0 (fun g w h => aK (fP 1 (aiT _ g w (C7 kn) R (fun g w h => aK (akW _ g w kn hn h)) hr h))) h0 h)
theorem abY (k0 : K2) (R : K1) (h0 : E2 Q k0 0 1 3) (hr : HR pV R Q) (h : Nz k0 R (g 1) (g 3) (g 4) w) : bH pg jR (bI (aB 1 (aD 1 (aB 3 iV)))) Q g w := by
 refine Db (fun g : Env => (g 3, g 4)) (fun X t w => vV (fun _ iC iG w => X (iC, iG) w) k0 R (g 1) t.1 t.2 w) h (fun X g1 w1 ha hL => ?_)
 rw [<- fF 1 ha] at hL
 exact (ajY _ g1 w1 (fun _ iC iG w => X (iC, iG) w) k0 R (fun _ _ h => h) h0 hr hL)
def NJ (kn : K2) (R : K1) (bJ iC iG : aJ3) (w : aJ2) : Prop :=
 Nz kn R bJ iC iG w
def Ov (kn : K3) (bJ iC : aJ3) (w : aJ2) : Prop :=
 kn bJ iC (.int .i64 0) w
theorem agC (kn : K3) (hn : N3 Q kn 1 3 4) (h : Ov kn (g 1) (g 3) w) : bH pg jR (aD 1 (aD 1 (aB 3 iV))) Q g w :=
 dS (kr := no) (l := []) h hn eP trivial
def M8 (kn : K2) (R : K1) (bJ iC : aJ3) (w : aJ2) : Prop :=
 Ov (fun bJ iC iG w => NJ kn R bJ iC iG w) bJ iC w
def OM (R : K1) (bJ iC : aJ3) (w : aJ2) : Prop :=
 M8 (fun bJ iC w => IT R bJ iC w) R bJ iC w
theorem afA (kn : K2) (R : K1) (hn : N2 Q kn 1 3) (hr : HR pV R Q) (h : M8 kn R (g 1) (g 3) w) : bH pg jR (aD 1 (aB 3 iV)) Q g w :=
 fP 1 (agC _ g w (NJ kn R) (fun g w h => aK (uH 0 (abY _ g w kn R hn hr h))) h)
def MU (kn : K2) (R : K1) (c_0 : aJ3) (w : aJ2) : Prop :=
 aC pg (rL 130 c_0) w fun bJ w =>
 aC pg (aL 130 bJ 0) w fun t6 w =>
 aC pg (aH 3 t6) w fun t7 w =>
 aC pg (aG .lss 3 aM aM t7 (.int .i64 5)) w fun t8 w =>
 Gd (eX t8 false) (fun K => aC pg (aL 130 bJ 0) w K) w fun t10 w =>
 Gd (eX t8 false) (fun K => aC pg (aH 3 t10) w K) w fun t11 w =>
 Gd (eX t8 false) (fun K => aC pg (aG .gtr 3 aM aM t11 (.int .i64 15)) w K) w fun t12 w =>
 aC pg (fI t8 (.bool true) t12) w fun t13 w =>
 Gd (eX t13 false) (fun K => aC pg (aL 130 bJ 1) w K) w fun t15 w =>
 Gd (eX t13 false) (fun K => aC pg (aH 77 t15) w K) w fun t16 w =>
 Gd (eX t13 false) (fun K => aC pg (jM .len #[77] 3 [t16]) w K) w fun t17 w =>
 Gd (eX t13 false) (fun K => aC pg (aG .eql 3 (.tmp 17) (.const (.int .i64 0)) t17 (.int .i64 0)) w K) w fun t18 w =>
 aC pg (fI t13 (.bool true) t18) w fun t19 w =>
 Gd (eX t19 false) (fun K => aC pg (aL 130 bJ 1) w K) w fun t21 w =>
 Gd (eX t19 false) (fun K => aC pg (aH 77 t21) w K) w fun t22 w =>
 Gd (eX t19 false) (fun K => aC pg (jM .len #[77] 3 [t22]) w K) w fun t23 w =>
 Gd (eX t19 false) (fun K => aC pg (aG .gtr 3 aM aM t23 (.int .i64 256)) w K) w fun t24 w =>
 aC pg (fI t19 (.bool true) t24) w fun t25 w =>
 Gd (eX t25 false) (fun K => aC pg (aL 130 bJ 1) w K) w fun t27 w =>
 Gd (eX t25 false) (fun K => aC pg (aH 77 t27) w K) w fun t28 w =>
 Gd (eX t25 false) (fun K => aC pg (aL 130 bJ 1) w K) w fun t29 w =>
 Gd (eX t25 false) (fun K => aC pg (aH 77 t29) w K) w fun t30 w =>
 Gd (eX t25 false) (fun K => aC pg (jM .len #[77] 3 [t30]) w K) w fun t31 w =>
 Gd (eX t25 false) (fun K => aC pg (aG .sub 3 aM aM t31 (.int .i64 1)) w K) w fun t32 w =>
 Gd (eX t25 false) (fun K => aC pg (bA 77 t28 t32) w K) w fun t33 w =>
 Gd (eX t25 false) (fun K => aC pg (aH 3 t33) w K) w fun t34 w =>
 Gd (eX t25 false) (fun K => aC pg (aG .eql 3 (.tmp 34) (.const (.int .i64 0)) t34 (.int .i64 0)) w K) w fun t35 w =>
 aC pg (fI t25 (.bool true) t35) w fun t36 w =>
 eM t36
  (R (.bool false) w)
  (kn bJ (.int .i64 0) w)
theorem adR (kn : K2) (R : K1) (hn : N2 Q kn 1 3) (hr : HR pV R Q) (h : MU kn R (g 0) w) : bH pg jR (aD 3 iV) Q g w :=
 dS (l := []) h hn hr trivial
def MK (R : K1) (c_0 : aJ3) (w : aJ2) : Prop :=
 MU (fun bJ iC w => OM R bJ iC w) R c_0 w
theorem afC (R : K1) (hr : HR pV R Q) (h : MK R (g 0) w) : bH pg jR iV Q g w :=
 fP 3 (adR _ g w (OM R) R (fun g w h => aK (fP 1 (afA _ g w (IT R) R (fun g w h => aK (alI _ g w R hr h)) hr h))) hr h)
def asL (a0 : aJ3) (w : aJ2) (R : K1) : Prop :=
 MK R a0 w
theorem amL {a0 : aJ3} {w : aJ2} {R : K1} (h : asL a0 w R) : aR pg Mj #[a0] w R := by
 refine rQ (ann := jR) Tryd.f99 iV [a0] pV 65 TrydM.mixed Tryd.func99 ?_
 exact (afC _ _ _ R (fun _ _ h => h) h)
def mV : FA := ⟨xB, fun i => .leaf ([], []) []⟩
def BP : List ResultVar := [.tmp 2]
noncomputable def lZ : Code := cU Tryd.f100
def rA (R : K1) (uJ AX : aJ3) (w : aJ2) : Prop :=
 aC pg (fL 73 5 uJ) w fun t21 w =>
 aC pg (HM 9 (.string ⟨#[0, 1, 2, 2, 3, 3, 3, 3, 4, 4, 4, 4, 4, 4, 4, 4, 5, 5, 5, 5, 5, 5, 5, 5, 5, 5, 5, 5, 5, 5, 5, 5, 6, 6, 6, 6, 6, 6, 6, 6, 6, 6, 6, 6, 6, 6, 6, 6, 6, 6, 6, 6, 6, 6, 6, 6, 6, 6, 6, 6, 6, 6, 6, 6, 7, 7, 7, 7, 7, 7, 7, 7, 7, 7, 7, 7, 7, 7, 7, 7, 7, 7, 7, 7, 7, 7, 7, 7, 7, 7, 7, 7, 7, 7, 7, 7, 7, 7, 7, 7, 7, 7, 7, 7, 7, 7, 7, 7, 7, 7, 7, 7, 7, 7, 7, 7, 7, 7, 7, 7, 7, 7, 7, 7, 7, 7, 7, 7, 8, 8, 8, 8, 8, 8, 8, 8, 8, 8, 8, 8, 8, 8, 8, 8, 8, 8, 8, 8, 8, 8, 8, 8, 8, 8, 8, 8, 8, 8, 8, 8, 8, 8, 8, 8, 8, 8, 8, 8, 8, 8, 8, 8, 8, 8, 8, 8, 8, 8, 8, 8, 8, 8, 8, 8, 8, 8, 8, 8, 8, 8, 8, 8, 8, 8, 8, 8, 8, 8, 8, 8, 8, 8, 8, 8, 8, 8, 8, 8, 8, 8, 8, 8, 8, 8, 8, 8, 8, 8, 8, 8, 8, 8, 8, 8, 8, 8, 8, 8, 8, 8, 8, 8, 8, 8, 8, 8, 8, 8, 8, 8, 8, 8, 8, 8, 8, 8, 8, 8, 8, 8, 8, 8, 8, 8, 8, 8]⟩) t21) w fun t22 w =>
 aC pg (fL 5 3 t22) w fun t23 w =>
 aC pg (aG .add 3 aM aM AX t23) w fun t24 w =>
 R t24 w
theorem Sj (R : K1) (hr : HR BP R Q) (h : rA R (g 0) (g 2) w) : bH pg mV (aB 1 (aB 1 (aB 2 lZ))) Q g w :=
 dS (kn := no) (l := []) h eP hr trivial
def BS (kn : K2) (uJ AX : aJ3) (w : aJ2) : Prop :=
 aC pg (aG .geq 73 aM aM uJ (.int .u64 256)) w fun t14 w =>
 eM t14
  (aC pg (aG .shr 73 aM aM uJ (.int .u64 8)) w fun t16 w =>
  aC pg (aG .add 3 aM aM AX (.int .i64 8)) w fun t18 w =>
  kn t16 t18 w)
  (kn uJ AX w)
theorem Sw (kn : K2) (hn : N2 Q kn 0 2) (h : BS kn (g 0) (g 2) w) : bH pg mV (aD 1 (aB 1 (aB 2 lZ))) Q g w :=
 dS (kr := no) (l := []) h hn eP trivial
def vI (R : K1) (uJ AX : aJ3) (w : aJ2) : Prop :=
 BS (fun uJ AX w => rA R uJ AX w) uJ AX w
def BD (kn : K2) (uJ AX : aJ3) (w : aJ2) : Prop :=
 aC pg (aG .geq 73 aM aM uJ (.int .u64 65536)) w fun t8 w =>
 eM t8
  (aC pg (aG .shr 73 aM aM uJ (.int .u64 16)) w fun t10 w =>
  aC pg (aG .add 3 aM aM AX (.int .i64 16)) w fun t12 w =>
  kn t10 t12 w)
  (kn uJ AX w)
theorem SK (kn : K2) (hn : N2 Q kn 0 2) (h : BD kn (g 0) (g 2) w) : bH pg mV (aD 1 (aB 2 lZ)) Q g w :=
 dS (kr := no) (l := []) h hn eP trivial
def vE (R : K1) (uJ AX : aJ3) (w : aJ2) : Prop :=
 BD (fun uJ AX w => vI R uJ AX w) uJ AX w
def BW (kn : K2) (uJ : aJ3) (w : aJ2) : Prop :=
 aC pg (aG .geq 73 aM aM uJ (.int .u64 4294967296)) w fun t4 w =>
 eM t4
  (aC pg (aG .shr 73 aM aM uJ (.int .u64 32)) w fun t6 w =>
  kn t6 (.int .i64 32) w)
  (kn uJ (.int .i64 0) w)
theorem SW (kn : K2) (hn : N2 Q kn 0 2) (h : BW kn (g 0) w) : bH pg mV (aD 2 lZ) Q g w :=
 dS (kr := no) (l := []) h hn eP trivial
def BJ (R : K1) (uJ : aJ3) (w : aJ2) : Prop :=
 BW (fun uJ AX w => vE R uJ AX w) uJ w
theorem SC (R : K1) (hr : HR BP R Q) (h : BJ R (g 0) w) : bH pg mV lZ Q g w :=
 fP 2 (SW _ g w (vE R) (fun g w h => aK (fP 1 (SK _ g w (vI R) (fun g w h => aK (fP 1 (Sw _ g w (rA R) (fun g w h => aK (Sj _ g w R hr h)) h))) h))) h)
def R8 (a0 : aJ3) (w : aJ2) (R : K1) : Prop :=
 BJ R a0 w
theorem TE {a0 : aJ3} {w : aJ2} {R : K1} (h : R8 a0 w R) : aR pg xB #[a0] w R := by
 refine rQ (ann := mV) Tryd.f100 lZ [a0] BP 25 TrydM.mixed Tryd.func100 ?_
 exact (SC _ _ _ R (fun _ _ h => h) h)
end Go.Proofs.YtaggdjhhmbnhoaaDoor

/- Parts of the proof of LiteralsPacked: merged and given short names by a program of ours. -/
import Derived.Test.YtgpimhlgaokobaaGreatZcA
set_option linter.unusedVariables false
set_option linter.unusedSimpArgs false
namespace Go.Proofs.YtgpimhlgaokobaaGreat
open Go Go.En
set_option maxRecDepth 20000
attribute [local irreducible] Go.En.bD
variable (Q : Exit -> Env -> aNE -> Prop) (g : Env) (w : aNE)
def jO : FA := ⟨BW, fun i => match Nat.beq i 22 with | true => .leaf ([8, 9], [(0, 8), (1, 8), (3, 8), (4, 8), (5, 8), (6, 8), (7, 8)]) [(false, []), (false, []), (false, []), (false, []), (false, []), (false, []), (false, []), (false, []), (true, [0, 1, 2, 3, 4, 6, 7]), (true, [])] | false => match Nat.beq i 24 with | true => .leaf ([1], [(1, 2), (1, 3)]) [(false, []), (true, []), (false, [0]), (false, [1]), (false, [])] | false => match Nat.beq i 25 with | true => .leaf ([11, 12], []) [(false, []), (false, []), (false, []), (false, []), (false, []), (false, []), (false, []), (false, []), (false, []), (false, []), (false, []), (true, []), (true, []), (false, [])] | false => match Nat.beq i 26 with | true => .leaf ([8, 10], [(1, 8)]) [(false, []), (false, []), (false, []), (false, []), (false, []), (false, []), (false, []), (false, []), (true, [6]), (false, []), (true, [])] | false => .leaf ([], []) []⟩
def wR : List ResultVar := [.tmp 2, .tmp 3]
noncomputable def iX : Code := dG Tryz.f39
def wP (R : K1) (kO : aNF) (w : aNE) : Prop :=
 aD pg (lG .len #[22] 3 [kO]) w fun o0 w =>
 aD pg (aI .geq 3 aM aM o0 (aNG 256)) w fun o1 w =>
 gZ o1
  (R (.tuple #[(.slice none 0 0), (aNG 11)]) w)
  (R (.tuple #[kO, (aNG 0)]) w)
theorem Xg (R : K1) (hr : HR wR R Q) (h : wP R (g 11) w) : bD pg jO (aB 1 (aB 3 (aB 1 (aB 7 (bI (aB 1 iX)))))) Q g w :=
 eL (kn := no) (l := []) h gT hr trivial
def Be (kn : K5) (k2 : K1) (JC b8 b9 kO i4 : aNF) (w : aNE) : Prop :=
 aD pg (aI .lss 3 aM aM i4 (aNG 256)) w fun i5 w =>
 gZ i5
  (aD pg (aK 108 b8 1) (dr w) fun i7 w_ => w_ = (dr w) /\
  aD pg (aL 106 i7) (dr w) fun i8 w_ => w_ = (dr w) /\
  (dr w) = (dr w) /\
  aD pg (aI .rem 3 aM aM i4 (aNG 2)) (dr w) fun j0 w_ => w_ = (dr w) /\
  aD pg (cI 111 b9 j0) (dr w) fun j1 w_ => w_ = (dr w) /\
  aD pg (aL 3 j1) (dr w) fun j2 w_ => w_ = (dr w) /\
  aD pg (cI 106 i8 j2) (dr w) fun j3 w_ => w_ = (dr w) /\
  aD pg (aL 115 j3) (dr w) fun j4 w_ => w_ = (dr w) /\
  aD pg (fU 115) (dr w) fun aIA arR =>
  (jJ pg (aL 115 j3) j4 arR /\ jJ pg (cI 106 i8 j2) j3 arR /\ jJ pg (aL 3 j1) j2 arR /\ jJ pg (cI 111 b9 j0) j1 arR /\ jJ pg (aI .rem 3 aM aM i4 (aNG 2)) j0 arR /\ jJ pg (aL 106 i7) i8 arR /\ jJ pg (aK 108 b8 1) i7 arR /\ True) /\
  aD pg (aR 115 aIA j4) arR fun _u9 aKh =>
  aD pg (aK 115 aIA 0) aKh fun j6 w =>
  aD pg (aL 5 j6) w fun j7 w =>
  aD pg (cV 22 1 [(0, j7)]) w fun j8 w =>
  aD pg (lG .append #[22, 22] 22 [kO, j8]) w fun j9 w =>
  (dr w) = (dr w) /\
  aT pg qX #[JC] (dr w) fun l1 pJ =>
  aD pg (aK 115 aIA 1) pJ fun l2 w_ => w_ = pJ /\
  (jJ pg (aK 115 aIA 1) l2 (dr w) /\ True) /\
  aD pg (aL 3 l2) pJ fun l3 w_ => w_ = pJ /\
  (jJ pg (aL 3 l2) l3 (dr w) /\ True) /\
  aD pg (aI .lss 3 aM aM l1 l3) pJ fun l4 w_ => w_ = pJ /\
  gZ l4
   ((dr pJ) = (dr pJ) /\
   aD pg (aK 108 b8 1) (dr pJ) fun l6 w_ => w_ = (dr pJ) /\
   aD pg (aL 106 l6) (dr pJ) fun l7 w_ => w_ = (dr pJ) /\
   (dr pJ) = (dr pJ) /\
   aD pg (aI .add 3 aM aM i4 (aNG 1)) (dr pJ) fun l9 w_ => w_ = (dr pJ) /\
   aD pg (aI .rem 3 aM aM l9 (aNG 2)) (dr pJ) fun m0 w_ => w_ = (dr pJ) /\
   aD pg (cI 111 b9 m0) (dr pJ) fun m1 w_ => w_ = (dr pJ) /\
   aD pg (aL 3 m1) (dr pJ) fun m2 w_ => w_ = (dr pJ) /\
   aD pg (cI 106 l7 m2) (dr pJ) fun m3 w_ => w_ = (dr pJ) /\
   aD pg (aK 115 m3 0) (dr pJ) fun m4 w_ => w_ = (dr pJ) /\
   aD pg (aL 5 m4) (dr pJ) fun m5 w_ => w_ = (dr pJ) /\
   aD pg (cV 22 1 [(0, m5)]) (dr pJ) fun m6 aJF =>
   aD pg (lG .append #[22, 22] 22 [j9, m6]) aJF fun m7 aEe =>
   aEe = aEe /\
   k2 m7 aEe)
   ((dr pJ) = (dr pJ) /\
   aD pg (aI .rem 3 aM aM i4 (aNG 2)) (dr pJ) fun m9 w_ => w_ = (dr pJ) /\
   aD pg (aL 108 b8) (dr pJ) fun n0 w_ => w_ = (dr pJ) /\
   (dr pJ) = (dr pJ) /\
   aD pg (aI .rem 3 aM aM i4 (aNG 2)) (dr pJ) fun n2 w_ => w_ = (dr pJ) /\
   aD pg (cI 111 b9 n2) (dr pJ) fun n3 w_ => w_ = (dr pJ) /\
   aD pg (aL 3 n3) (dr pJ) fun n4 w_ => w_ = (dr pJ) /\
   (dr pJ) = (dr pJ) /\
   aT pg T4 #[n0, n4, JC] (dr pJ) fun n6 aEV =>
   (jJ pg (aI .rem 3 aM aM i4 (aNG 2)) m9 aEV /\ True) /\
   aD pg (cI 111 b9 m9) aEV fun n7 w_ => w_ = aEV /\
   aD pg (aR 3 n7 n6) aEV fun _u10 aJu =>
   aD pg (aI .add 3 aM aM i4 (aNG 1)) aJu fun n8 w =>
   kn JC b8 b9 j9 n8 w))
  (k2 kO w)
theorem XA (kn : K5) (k2 : K1) (hn : N5 Q kn 7 8 9 11 54) (h2 : E1 Q k2 2 11) (h : Be kn k2 (g 7) (g 8) (g 9) (g 11) (g 54) w) : bD pg jO (bI (bI (aB 1 (aF 1 (aB 3 (aB 1 (aB 7 (bI (aB 1 iX))))))))) Q g w :=
 eL (kr := no) (l := [(2, fun g w => k2 (g 11) w)]) h hn gT ⟨h2, trivial⟩
def F9 (k2 : K1) (JC b8 b9 kO i4 : aNF) (w : aNE) : Prop :=
 cS (fun (X : (aNF × aNF) -> K0) (t : aNF × aNF) (w : aNE) => Be (fun _ _ _ kO i4 w => X (kO, i4) w) k2 JC b8 b9 t.1 t.2 w) (kO, i4) w
theorem V4 (k2 : K1) (h2 : E1 Q k2 2 11) (h : F9 k2 (g 7) (g 8) (g 9) (g 11) (g 54) w) : bD pg jO (bI (aB 1 (aF 1 (aB 3 (aB 1 (aB 7 (bI (aB 1 iX)))))))) Q g w := by
 refine CS (fun g : Env => (g 11, g 54)) (fun X t w => Be (fun _ _ _ kO i4 w => X (kO, i4) w) k2 (g 7) (g 8) (g 9) t.1 t.2 w) h (fun X g1 w1 ha hL => ?_)
 rw [<- jX 7 ha, <- jX 8 ha, <- jX 9 ha] at hL
 exact (XA _ g1 w1 (fun _ _ _ kO i4 w => X (kO, i4) w) k2 (fun _ _ h => h) h2 hL)
def FK (kn : K1) (JC b8 b9 kO i4 : aNF) (w : aNE) : Prop :=
 F9 kn JC b8 b9 kO i4 w
def Gn (kn : K5) (JC b8 b9 kO : aNF) (w : aNE) : Prop :=
 kn JC b8 b9 kO (aNG 0) w
theorem Wg (kn : K5) (hn : N5 Q kn 7 8 9 11 54) (h : Gn kn (g 7) (g 8) (g 9) (g 11) w) : bD pg jO (aF 1 (aF 1 (aB 3 (aB 1 (aB 7 (bI (aB 1 iX))))))) Q g w :=
 eL (kr := no) (l := []) h hn gT trivial
def EL (kn : K1) (JC b8 b9 kO : aNF) (w : aNE) : Prop :=
 Gn (fun JC b8 b9 kO i4 w => FK kn JC b8 b9 kO i4 w) JC b8 b9 kO w
def A1 (R : K1) (JC b8 b9 kO : aNF) (w : aNE) : Prop :=
 EL (fun kO w => wP R kO w) JC b8 b9 kO w
theorem WY (kn : K1) (hn : N1 Q kn 11) (h : EL kn (g 7) (g 8) (g 9) (g 11) w) : bD pg jO (aF 1 (aB 3 (aB 1 (aB 7 (bI (aB 1 iX)))))) Q g w :=
 jA 1 (Wg _ g w (FK kn) (fun g w h => aJ (wX 2 (V4 _ g w kn hn h))) h)
def Gx (kn : K4) (R : K1) (JC b8 b9 : aNF) (w : aNE) : Prop :=
 aT pg qX #[JC] w fun i2 w =>
 aD pg (aI .lss 3 aM aM i2 (aNG 0)) w fun i3 w =>
 gZ i3
  (R (.tuple #[(.slice none 0 0), (aNG 11)]) w)
  (kn JC b8 b9 (.slice none 0 0) w)
theorem V7 (kn : K4) (R : K1) (hn : N4 Q kn 7 8 9 11) (hr : HR wR R Q) (h : Gx kn R (g 7) (g 8) (g 9) w) : bD pg jO (aF 3 (aB 1 (aB 7 (bI (aB 1 iX))))) Q g w :=
 eL (l := []) h hn hr trivial
def AV (R : K1) (JC b8 b9 : aNF) (w : aNE) : Prop :=
 Gx (fun JC b8 b9 kO w => A1 R JC b8 b9 kO w) R JC b8 b9 w
def zZ (kn : K4) (k0 : K3) (JC b8 b9 f2 : aNF) (w : aNE) : Prop :=
 aD pg (aI .lss 3 aM aM f2 (aNG 2)) w fun f3 w =>
 gZ f3
  (aD pg (aL 108 b8) w fun f6 w =>
  aT pg Qc #[f6, JC] w fun f8 w =>
  aD pg (cI 111 b9 f2) w fun f9 w =>
  aD pg (aR 3 f9 f8) w fun _u w =>
  aD pg (aI .add 3 aM aM f2 (aNG 1)) w fun i0 w =>
  kn JC b8 b9 i0 w)
  (k0 JC b8 b9 w)
theorem Vw (kn : K4) (k0 : K3) (hn : N4 Q kn 7 8 9 42) (h0 : E3 Q k0 0 7 8 9) (h : zZ kn k0 (g 7) (g 8) (g 9) (g 42) w) : bD pg jO (bI (bI (aB 1 (aF 1 (aB 7 (bI (aB 1 iX))))))) Q g w :=
 eL (kr := no) (l := [(0, fun g w => k0 (g 7) (g 8) (g 9) w)]) h hn gT ⟨h0, trivial⟩
def D2 (k0 : K3) (JC b8 b9 f2 : aNF) (w : aNE) : Prop :=
 cS (fun (X : aNF -> K0) (t : aNF) (w : aNE) => zZ (fun _ _ _ f2 w => X f2 w) k0 JC b8 b9 t w) f2 w
theorem VG (k0 : K3) (h0 : E3 Q k0 0 7 8 9) (h : D2 k0 (g 7) (g 8) (g 9) (g 42) w) : bD pg jO (bI (aB 1 (aF 1 (aB 7 (bI (aB 1 iX)))))) Q g w := by
 refine CS (fun g : Env => g 42) (fun X t w => zZ (fun _ _ _ f2 w => X f2 w) k0 (g 7) (g 8) (g 9) t w) h (fun X g1 w1 ha hL => ?_)
 rw [<- jX 7 ha, <- jX 8 ha, <- jX 9 ha] at hL
 exact (Vw _ g1 w1 (fun _ _ _ f2 w => X f2 w) k0 (fun _ _ h => h) h0 hL)
def D6 (kn : K3) (JC b8 b9 f2 : aNF) (w : aNE) : Prop :=
 D2 kn JC b8 b9 f2 w
def D3 (kn : K4) (JC b8 b9 : aNF) (w : aNE) : Prop :=
 kn JC b8 b9 (aNG 0) w
theorem U5 (kn : K4) (hn : N4 Q kn 7 8 9 42) (h : D3 kn (g 7) (g 8) (g 9) w) : bD pg jO (aF 1 (aF 1 (aB 7 (bI (aB 1 iX))))) Q g w :=
 eL (kr := no) (l := []) h hn gT trivial
def Eb (kn : K3) (JC b8 b9 : aNF) (w : aNE) : Prop :=
 D3 (fun JC b8 b9 f2 w => D6 kn JC b8 b9 f2 w) JC b8 b9 w
def zO (R : K1) (JC b8 b9 : aNF) (w : aNE) : Prop :=
 Eb (fun JC b8 b9 w => AV R JC b8 b9 w) JC b8 b9 w
theorem U9 (kn : K3) (hn : N3 Q kn 7 8 9) (h : Eb kn (g 7) (g 8) (g 9) w) : bD pg jO (aF 1 (aB 7 (bI (aB 1 iX)))) Q g w :=
 jA 1 (U5 _ g w (D6 kn) (fun g w h => aJ (wX 0 (VG _ g w kn hn h))) h)
def Ee (kn : K3) (R : K1) (dY : aNF) (w : aNE) : Prop :=
 aT pg ID #[dY, (aNG 6), (aNG 12)] w fun c6 w =>
 aD pg (bQ c6 0) w fun c7 w =>
 aD pg (bQ c6 1) w fun c8 w =>
 aD pg (bQ c6 2) w fun c9 w =>
 aD pg (fU 100) w fun c_4 w =>
 aD pg (aR 100 c_4 c7) w fun _u w =>
 aD pg (aI .neq 27 (.tmp 20) (.const (aNG 0)) c9 (aNG 0)) w fun d1 w =>
 gZ d1
  (R (.tuple #[(.slice none 0 0), c9]) w)
  (aD pg (lZ 22 dY (some c8) none none) w fun d6 w =>
  aT pg sI #[d6] w fun d7 w =>
  aD pg (bQ d7 0) w fun d8 w =>
  aD pg (bQ d7 1) w fun d9 w =>
  aD pg (aI .neq 27 (.tmp 30) (.const (aNG 0)) d9 (aNG 0)) w fun e1 w =>
  gZ e1
   (R (.tuple #[(.slice none 0 0), d9]) w)
   (aD pg (aL 100 c_4) w fun e4 w =>
   aT pg Jf #[e4] w fun e5 w =>
   aD pg (bQ e5 0) w fun e6 w =>
   aD pg (bQ e5 1) w fun e7 w =>
   aD pg (fU 108) w fun b8 w =>
   aD pg (aR 108 b8 e6) w fun _u w =>
   aD pg (aI .neq 27 (.tmp 38) (.const (aNG 0)) e7 (aNG 0)) w fun e9 w =>
   gZ e9
    (R (.tuple #[(.slice none 0 0), e7]) w)
    (aD pg (fT 111 []) w fun f1 w =>
    aD pg (fU 111) w fun b9 w =>
    aD pg (aR 111 b9 f1) w fun _u w =>
    kn d8 b8 b9 w)))
theorem Vp (kn : K3) (R : K1) (hn : N3 Q kn 7 8 9) (hr : HR wR R Q) (h : Ee kn R (g 0) w) : bD pg jO (aF 7 (bI (aB 1 iX))) Q g w :=
 eL (l := []) h hn hr trivial
def O4 (R : K1) (dY : aNF) (w : aNE) : Prop :=
 Ee (fun JC b8 b9 w => zO R JC b8 b9 w) R dY w
def Eu (R : K1) (dY : aNF) (w : aNE) : Prop :=
 O4 R dY w
def Em (kn : K1) (dY : aNF) (w : aNE) : Prop :=
 kn dY w
theorem Ve (kn : K1) (hn : N1 Q kn 0) (h : Em kn (g 0) w) : bD pg jO (aF 1 iX) Q g w :=
 eL (kr := no) (l := []) h hn gT trivial
def D9 (R : K1) (dY : aNF) (w : aNE) : Prop :=
 Em (fun dY w => Eu R dY w) dY w
theorem Vf (R : K1) (hr : HR wR R Q) (h : D9 R (g 0) w) : bD pg jO iX Q g w :=
 jA 1 (Ve _ g w (Eu R) (fun g w h => aJ (scD (jA 7 (Vp _ g w (zO R) R (fun g w h => aJ (jA 1 (U9 _ g w (AV R) (fun g w h => aJ (jA 3 (V7 _ g w (A1 R) R (fun g w h => aJ (jA 1 (WY _ g w (wP R) (fun g w h => aJ (Xg _ g w R hr h)) h))) hr h))) h))) hr h)))) h)
def Xi (a0 : aNF) (w : aNE) (R : K1) : Prop :=
 D9 R a0 w
theorem YE {a0 : aNF} {w : aNE} {R : K1} (h : Xi a0 w R) : aT pg BW #[a0] w R := by
 refine uO (ann := jO) Tryz.f39 iX [a0] wR 103 TryzM.mixed Tryz.func39 ?_
 exact (Vf _ _ _ R (fun _ _ h => h) h)
def Ql : FA := ⟨Dt, fun i => .leaf ([], []) []⟩
def S2 : List ResultVar := [.tmp 2, .tmp 3]
noncomputable def Nj : Code := dG Tryz.f40
def H6 (R : K1) (cT : aNF) (w : aNE) : Prop :=
 aT pg Ao #[cT] w fun c0 w =>
 aD pg (bQ c0 0) w fun c1 w =>
 aD pg (bQ c0 1) w fun c2 w =>
 aD pg (sUn .not c2) w fun c4 w =>
 Gd (gJ c4 false) (fun K => K cT w) w fun c6 w =>
 Gd (gJ c4 false) (fun K => aD pg (lG .len #[22] 3 [c6]) w K) w fun c7 w =>
 Gd (gJ c4 false) (fun K => aD pg (aI .eql 3 (.tmp 17) (.const (aNG 0)) c7 (aNG 0)) w K) w fun c8 w =>
 aD pg (iN c4 (.bool true) c8) w fun c9 w =>
 Gd (gJ c9 false) (fun K => K cT w) w fun d1 w =>
 Gd (gJ c9 false) (fun K => aD pg (lG .len #[22] 3 [d1]) w K) w fun d2 w =>
 Gd (gJ c9 false) (fun K => aD pg (aI .geq 3 aM aM d2 (aNG 256)) w K) w fun d3 w =>
 aD pg (iN c9 (.bool true) d3) w fun d4 w =>
 Gd (gJ d4 false) (fun K => K c1 w) w fun d6 w =>
 Gd (gJ d4 false) (fun K => aD pg (aI .eql 3 (.tmp 26) (.const (aNG 0)) d6 (aNG 0)) w K) w fun d7 w =>
 aD pg (iN d4 (.bool true) d7) w fun d8 w =>
 gZ d8
  (R (.tuple #[(.slice none 0 0), (aNG 11)]) w)
  (aD pg (jG 3 67 c1) w fun e0 w =>
  aT pg rZ #[e0] w fun e1 w =>
  aD pg (aI .shl 3 aM aM (aNG 1) e1) w fun e3 w =>
  aD pg (aI .sub 3 aM aM e3 c1) w fun e5 w =>
  aD pg (aI .gtr 3 aM aM e1 (aNG 11)) w fun e7 w =>
  Gd (gJ e7 false) (fun K => K e5 w) w fun e9 w =>
  Gd (gJ e7 false) (fun K => K e5 w) w fun f0 w =>
  Gd (gJ e7 false) (fun K => aD pg (aI .sub 3 aM aM f0 (aNG 1)) w K) w fun f1 w =>
  Gd (gJ e7 false) (fun K => aD pg (aI .and 3 aM aM e9 f1) w K) w fun f2 w =>
  Gd (gJ e7 false) (fun K => aD pg (aI .neq 3 (.tmp 42) (.const (aNG 0)) f2 (aNG 0)) w K) w fun f3 w =>
  aD pg (iN e7 (.bool true) f3) w fun f4 w =>
  gZ f4
   (R (.tuple #[(.slice none 0 0), (aNG 11)]) w)
   (aT pg jS #[cT] w fun f6 w =>
   aD pg (jG 3 67 e5) w fun f8 w =>
   aT pg rZ #[f8] w fun f9 w =>
   aD pg (jG 3 5 f9) w fun i0 w =>
   aD pg (cV 22 1 [(0, i0)]) w fun i1 w =>
   aD pg (lG .append #[22, 22] 22 [f6, i1]) w fun i2 w =>
   R (.tuple #[i2, (aNG 0)]) w))
theorem X9 (R : K1) (hr : HR S2 R Q) (h : H6 R (g 0) w) : bD pg Ql Nj Q g w :=
 eL (kn := no) (l := []) h gT hr trivial
def Zg (a0 : aNF) (w : aNE) (R : K1) : Prop :=
 H6 R a0 w
theorem acD {a0 : aNF} {w : aNE} {R : K1} (h : Zg a0 w R) : aT pg Dt #[a0] w R := by
 refine uO (ann := Ql) Tryz.f40 Nj [a0] S2 53 TryzM.mixed Tryz.func40 ?_
 exact (X9 _ _ _ R (fun _ _ h => h) h)
def Uz : FA := ⟨IC, fun i => .leaf ([], []) []⟩
def Xs : List ResultVar := [.tmp 6, .tmp 7]
noncomputable def Ta : Code := dG Tryz.f41
def NQ (R : K1) (cT b_1 nM : aNF) (w : aNE) : Prop :=
 aT pg Ar #[cT] w fun c2 w =>
 aD pg (bQ c2 0) w fun c3 w =>
 aD pg (bQ c2 1) w fun c4 w =>
 aD pg (fU 122) w fun b8 w =>
 aD pg (aR 122 b8 c3) w fun _u w =>
 aD pg (aI .neq 27 (.tmp 16) (.const (aNG 0)) c4 (aNG 0)) w fun c7 w =>
 gZ c7
  (R (.tuple #[(.slice none 0 0), c4]) w)
  (aD pg (aI .lss 3 aM aM nM (aNG 0)) w fun d1 w =>
  Gd (gJ d1 false) (fun K => K nM w) w fun d3 w =>
  Gd (gJ d1 false) (fun K => aD pg (aI .gtr 3 aM aM d3 (aNG 131072)) w K) w fun d4 w =>
  aD pg (iN d1 (.bool true) d4) w fun d5 w =>
  gZ d5
   (R (.tuple #[(.slice none 0 0), (aNG 1)]) w)
   (aD pg (aL 122 b8) w fun d6 w =>
   aT pg uA #[d6, b_1, nM] w fun d9 w =>
   aD pg (bQ d9 0) w fun e0 w =>
   aD pg (bQ d9 1) w fun e1 w =>
   R (.tuple #[e0, e1]) w))
theorem agT (R : K1) (hr : HR Xs R Q) (h : NQ R (g 0) (g 1) (g 2) w) : bD pg Uz Ta Q g w :=
 eL (kn := no) (l := []) h gT hr trivial
def asJ (a0 a1 a2 : aNF) (w : aNE) (R : K1) : Prop :=
 NQ R a0 a1 a2 w
theorem arA {a0 a1 a2 : aNF} {w : aNE} {R : K1} (h : asJ a0 a1 a2 w R) : aT pg IC #[a0, a1, a2] w R := by
 refine uO (ann := Uz) Tryz.f41 Ta [a0, a1, a2] Xs 32 TryzM.mixed Tryz.func41 ?_
 exact (agT _ _ _ R (fun _ _ h => h) h)
def lQ : FA := ⟨Fc, fun i => match Nat.beq i 16 with | true => .leaf ([1, 12], [(1, 2), (1, 3), (1, 5), (1, 6), (1, 8), (1, 9)]) [(false, []), (true, []), (false, [0]), (false, [1]), (false, []), (false, [3]), (false, [4]), (false, []), (false, [6]), (false, [7]), (false, []), (false, []), (true, [])] | false => match Nat.beq i 23 with | true => .leaf ([5, 9], [(0, 5), (5, 7), (5, 8)]) [(false, []), (false, []), (false, []), (false, []), (false, []), (true, [4]), (false, []), (false, [1]), (false, [2]), (true, []), (false, []), (false, []), (false, []), (false, []), (false, [])] | false => .leaf ([], []) []⟩
def rW : List ResultVar := [.tmp 6, .tmp 7]
noncomputable def kX : Code := dG Tryz.f42
def DH (R : K1) (dS : aNF) (w : aNE) : Prop :=
 R (.tuple #[dS, (aNG 0)]) w
theorem abO (R : K1) (hr : HR rW R Q) (h : DH R (g 15) w) : bD pg lQ (aB 1 (aB 3 (aB 1 (aB 8 kX)))) Q g w :=
 eL (kn := no) (l := []) h gT hr trivial
def DE (kn : K6) (k2 : K1) (R : K1) (b8 iK tJ gK dS l1 : aNF) (w : aNE) : Prop :=
 aD pg (aI .lss 3 aM aM l1 (aNG 4)) w fun l2 w =>
 gZ l2
  (aD pg (aL 122 b8) (dr w) fun l5 w_ => w_ = (dr w) /\
  (dr w) = (dr w) /\
  (dr w) = (dr w) /\
  aD pg (cI 73 gK l1) (dr w) fun l8 w_ => w_ = (dr w) /\
  aD pg (aL 3 l8) (dr w) fun l9 w_ => w_ = (dr w) /\
  aT pg vP #[tJ, l9] (dr w) fun m0 asI =>
  (jJ pg (aL 122 b8) l5 asI /\ True) /\
  asI = asI /\
  aD pg (cI 73 iK l1) asI fun m2 w_ => w_ = asI /\
  (jJ pg (cI 73 iK l1) m2 (dr w) /\ True) /\
  aD pg (aL 3 m2) asI fun m3 w_ => w_ = asI /\
  (jJ pg (aL 3 m2) m3 (dr w) /\ True) /\
  aT pg uA #[l5, m0, m3] asI fun m4 WC =>
  WC = WC /\
  aD pg (bQ m4 0) WC fun m5 w_ => w_ = WC /\
  aD pg (bQ m4 1) WC fun m6 w_ => w_ = WC /\
  WC = WC /\
  WC = WC /\
  aD pg (aI .neq 27 (.tmp 87) (.const (aNG 0)) m6 (aNG 0)) WC fun m8 w =>
  gZ m8
   (R (.tuple #[(.slice none 0 0), m6]) w)
   (aD pg (lG .append #[22, 22] 22 [dS, m5]) w fun n2 w =>
   aD pg (aI .add 3 aM aM l1 (aNG 1)) w fun n3 w =>
   kn b8 iK tJ gK n2 n3 w))
  (k2 dS w)
theorem acL (kn : K6) (k2 : K1) (R : K1) (hn : N6 Q kn 8 10 12 13 15 71) (h2 : E1 Q k2 2 15) (hr : HR rW R Q) (h : DE kn k2 R (g 8) (g 10) (g 12) (g 13) (g 15) (g 71) w) : bD pg lQ (bI (bI (aB 1 (aF 1 (aB 3 (aB 1 (aB 8 kX))))))) Q g w :=
 eL (l := [(2, fun g w => k2 (g 15) w)]) h hn hr ⟨h2, trivial⟩
def Kj (k2 : K1) (R : K1) (b8 iK tJ gK dS l1 : aNF) (w : aNE) : Prop :=
 cS (fun (X : (aNF × aNF) -> K0) (t : aNF × aNF) (w : aNE) => DE (fun _ _ _ _ dS l1 w => X (dS, l1) w) k2 R b8 iK tJ gK t.1 t.2 w) (dS, l1) w
theorem aeM (k2 : K1) (R : K1) (h2 : E1 Q k2 2 15) (hr : HR rW R Q) (h : Kj k2 R (g 8) (g 10) (g 12) (g 13) (g 15) (g 71) w) : bD pg lQ (bI (aB 1 (aF 1 (aB 3 (aB 1 (aB 8 kX)))))) Q g w := by
 refine CS (fun g : Env => (g 15, g 71)) (fun X t w => DE (fun _ _ _ _ dS l1 w => X (dS, l1) w) k2 R (g 8) (g 10) (g 12) (g 13) t.1 t.2 w) h (fun X g1 w1 ha hL => ?_)
 rw [<- jX 8 ha, <- jX 10 ha, <- jX 12 ha, <- jX 13 ha] at hL
 exact (acL _ g1 w1 (fun _ _ _ _ dS l1 w => X (dS, l1) w) k2 R (fun _ _ h => h) h2 hr hL)
def KI (kn : K1) (R : K1) (b8 iK tJ gK dS l1 : aNF) (w : aNE) : Prop :=
 Kj kn R b8 iK tJ gK dS l1 w
def KN (kn : K6) (b8 iK tJ gK dS : aNF) (w : aNE) : Prop :=
 kn b8 iK tJ gK dS (aNG 0) w
theorem aaW (kn : K6) (hn : N6 Q kn 8 10 12 13 15 71) (h : KN kn (g 8) (g 10) (g 12) (g 13) (g 15) w) : bD pg lQ (aF 1 (aF 1 (aB 3 (aB 1 (aB 8 kX))))) Q g w :=
 eL (kr := no) (l := []) h hn gT trivial
def Ky (kn : K1) (R : K1) (b8 iK tJ gK dS : aNF) (w : aNE) : Prop :=
 KN (fun b8 iK tJ gK dS l1 w => KI kn R b8 iK tJ gK dS l1 w) b8 iK tJ gK dS w
def Ls (R : K1) (b8 iK tJ gK dS : aNF) (w : aNE) : Prop :=
 Ky (fun dS w => DH R dS w) R b8 iK tJ gK dS w
theorem aaE (kn : K1) (R : K1) (hn : N1 Q kn 15) (hr : HR rW R Q) (h : Ky kn R (g 8) (g 10) (g 12) (g 13) (g 15) w) : bD pg lQ (aF 1 (aB 3 (aB 1 (aB 8 kX)))) Q g w :=
 jA 1 (aaW _ g w (KI kn R) (fun g w h => aJ (wX 2 (aeM _ g w kn R hn hr h))) h)
def Ln (kn : K5) (R : K1) (b8 iK tJ gK : aNF) (w : aNE) : Prop :=
 (dr w) = (dr w) /\
 aT pg wT #[tJ] (dr w) fun i2 CO =>
 aD pg (cI 73 gK (aNG 0)) CO fun i3 w_ => w_ = CO /\
 (jJ pg (cI 73 gK (aNG 0)) i3 (dr w) /\ True) /\
 aD pg (aL 3 i3) CO fun i4 w_ => w_ = CO /\
 (jJ pg (aL 3 i3) i4 (dr w) /\ True) /\
 aD pg (aI .sub 3 aM aM i2 i4) CO fun i5 w_ => w_ = CO /\
 aD pg (cI 73 gK (aNG 1)) CO fun i6 w_ => w_ = CO /\
 (jJ pg (cI 73 gK (aNG 1)) i6 (dr w) /\ True) /\
 aD pg (aL 3 i6) CO fun i7 w_ => w_ = CO /\
 (jJ pg (aL 3 i6) i7 (dr w) /\ True) /\
 aD pg (aI .sub 3 aM aM i5 i7) CO fun i8 w_ => w_ = CO /\
 aD pg (cI 73 gK (aNG 2)) CO fun i9 w_ => w_ = CO /\
 (jJ pg (cI 73 gK (aNG 2)) i9 (dr w) /\ True) /\
 aD pg (aL 3 i9) CO fun j0 w_ => w_ = CO /\
 (jJ pg (aL 3 i9) j0 (dr w) /\ True) /\
 aD pg (aI .sub 3 aM aM i8 j0) CO fun j1 w_ => w_ = CO /\
 aD pg (cI 73 gK (aNG 3)) CO fun j2 w_ => w_ = CO /\
 aD pg (aR 3 j2 j1) CO fun _u12 aJx =>
 aT pg rN #[tJ] aJx fun j4 w =>
 aD pg (aI .neq 27 (.tmp 64) (.const (aNG 0)) j4 (aNG 0)) w fun j5 w =>
 Gd (gJ j5 false) (fun K => aD pg (cI 73 gK (aNG 3)) w K) w fun j7 w =>
 Gd (gJ j5 false) (fun K => aD pg (aL 3 j7) w K) w fun j8 w =>
 Gd (gJ j5 false) (fun K => aD pg (aI .lss 3 aM aM j8 (aNG 0)) w K) w fun j9 w =>
 aD pg (iN j5 (.bool true) j9) w fun l0 w =>
 gZ l0
  (R (.tuple #[(.slice none 0 0), (aNG 10)]) w)
  (kn b8 iK tJ gK (.slice none 0 0) w)
theorem ZN (kn : K5) (R : K1) (hn : N5 Q kn 8 10 12 13 15) (hr : HR rW R Q) (h : Ln kn R (g 8) (g 10) (g 12) (g 13) w) : bD pg lQ (aF 3 (aB 1 (aB 8 kX))) Q g w :=
 eL (l := []) h hn hr trivial
def Kt (R : K1) (b8 iK tJ gK : aNF) (w : aNE) : Prop :=
 Ln (fun b8 iK tJ gK dS w => Ls R b8 iK tJ gK dS w) R b8 iK tJ gK w
def Cm (kn : K5) (k0 : K4) (b8 iK tJ gK f2 : aNF) (w : aNE) : Prop :=
 aD pg (aI .lss 3 aM aM f2 (aNG 3)) w fun f3 w =>
 gZ f3
  (aT pg rI #[tJ, (aNG 2)] w fun f7 w =>
  aD pg (jG 24 3 f7) w fun f8 w =>
  aD pg (cI 73 gK f2) w fun f9 w =>
  aD pg (aR 3 f9 f8) w fun _u w =>
  aD pg (aI .add 3 aM aM f2 (aNG 1)) w fun i0 w =>
  kn b8 iK tJ gK i0 w)
  (k0 b8 iK tJ gK w)
theorem YZ (kn : K5) (k0 : K4) (hn : N5 Q kn 8 10 12 13 42) (h0 : E4 Q k0 0 8 10 12 13) (h : Cm kn k0 (g 8) (g 10) (g 12) (g 13) (g 42) w) : bD pg lQ (bI (bI (aB 1 (aF 1 (aB 8 kX))))) Q g w :=
 eL (kr := no) (l := [(0, fun g w => k0 (g 8) (g 10) (g 12) (g 13) w)]) h hn gT ⟨h0, trivial⟩
def Ik (k0 : K4) (b8 iK tJ gK f2 : aNF) (w : aNE) : Prop :=
 cS (fun (X : aNF -> K0) (t : aNF) (w : aNE) => Cm (fun _ _ _ _ f2 w => X f2 w) k0 b8 iK tJ gK t w) f2 w
theorem YI (k0 : K4) (h0 : E4 Q k0 0 8 10 12 13) (h : Ik k0 (g 8) (g 10) (g 12) (g 13) (g 42) w) : bD pg lQ (bI (aB 1 (aF 1 (aB 8 kX)))) Q g w := by
 refine CS (fun g : Env => g 42) (fun X t w => Cm (fun _ _ _ _ f2 w => X f2 w) k0 (g 8) (g 10) (g 12) (g 13) t w) h (fun X g1 w1 ha hL => ?_)
 rw [<- jX 8 ha, <- jX 10 ha, <- jX 12 ha, <- jX 13 ha] at hL
 exact (YZ _ g1 w1 (fun _ _ _ _ f2 w => X f2 w) k0 (fun _ _ h => h) h0 hL)
def Ir (kn : K4) (b8 iK tJ gK f2 : aNF) (w : aNE) : Prop :=
 Ik kn b8 iK tJ gK f2 w
def Hz (kn : K5) (b8 iK tJ gK : aNF) (w : aNE) : Prop :=
 kn b8 iK tJ gK (aNG 0) w
theorem Yk (kn : K5) (hn : N5 Q kn 8 10 12 13 42) (h : Hz kn (g 8) (g 10) (g 12) (g 13) w) : bD pg lQ (aF 1 (aF 1 (aB 8 kX))) Q g w :=
 eL (kr := no) (l := []) h hn gT trivial
def Hx (kn : K4) (b8 iK tJ gK : aNF) (w : aNE) : Prop :=
 Hz (fun b8 iK tJ gK f2 w => Ir kn b8 iK tJ gK f2 w) b8 iK tJ gK w
def HX (R : K1) (b8 iK tJ gK : aNF) (w : aNE) : Prop :=
 Hx (fun b8 iK tJ gK w => Kt R b8 iK tJ gK w) b8 iK tJ gK w
theorem Yz (kn : K4) (hn : N4 Q kn 8 10 12 13) (h : Hx kn (g 8) (g 10) (g 12) (g 13) w) : bD pg lQ (aF 1 (aB 8 kX)) Q g w :=
 jA 1 (Yk _ g w (Ir kn) (fun g w h => aJ (wX 0 (YI _ g w kn hn h))) h)
def It (kn : K4) (R : K1) (cT b_1 nM : aNF) (w : aNE) : Prop :=
 aT pg Ar #[cT] w fun d1 w =>
 aD pg (bQ d1 0) w fun d2 w =>
 aD pg (bQ d1 1) w fun d3 w =>
 aD pg (fU 122) w fun b8 w =>
 aD pg (aR 122 b8 d2) w fun _u w =>
 aD pg (aI .neq 27 (.tmp 24) (.const (aNG 0)) d3 (aNG 0)) w fun d5 w =>
 gZ d5
  (R (.tuple #[(.slice none 0 0), d3]) w)
  (aD pg (aI .lss 3 aM aM nM (aNG 0)) w fun d8 w =>
  Gd (gJ d8 false) (fun K => K nM w) w fun e0 w =>
  Gd (gJ d8 false) (fun K => aD pg (aI .gtr 3 aM aM e0 (aNG 131072)) w K) w fun e1 w =>
  aD pg (iN d8 (.bool true) e1) w fun e2 w =>
  gZ e2
   (R (.tuple #[(.slice none 0 0), (aNG 1)]) w)
   (aT pg FJ #[nM] w fun e5 w =>
   aD pg (bQ e5 0) w fun e6 w =>
   aD pg (bQ e5 1) w fun e7 w =>
   aD pg (fU 73) w fun iK w =>
   aD pg (aR 73 iK e6) w fun _u w =>
   aD pg (sUn .not e7) w fun e9 w =>
   gZ e9
    (R (.tuple #[(.slice none 0 0), (aNG 11)]) w)
    (aT pg vC #[b_1] w fun f1 w =>
    aD pg (fU 73) w fun gK w =>
    kn b8 iK f1 gK w)))
theorem Yi (kn : K4) (R : K1) (hn : N4 Q kn 8 10 12 13) (hr : HR rW R Q) (h : It kn R (g 0) (g 1) (g 2) w) : bD pg lQ (aF 8 kX) Q g w :=
 eL (l := []) h hn hr trivial
def Iv (R : K1) (cT b_1 nM : aNF) (w : aNE) : Prop :=
 It (fun b8 iK tJ gK w => HX R b8 iK tJ gK w) R cT b_1 nM w
theorem YT (R : K1) (hr : HR rW R Q) (h : Iv R (g 0) (g 1) (g 2) w) : bD pg lQ kX Q g w :=
 jA 8 (Yi _ g w (HX R) R (fun g w h => aJ (jA 1 (Yz _ g w (Kt R) (fun g w h => aJ (jA 3 (ZN _ g w (Ls R) R (fun g w h => aJ (jA 1 (aaE _ g w (DH R) R (fun g w h => aJ (abO _ g w R hr h)) hr h))) hr h))) h))) hr h)
def alE (a0 a1 a2 : aNF) (w : aNE) (R : K1) : Prop :=
 Iv R a0 a1 a2 w
theorem afY {a0 a1 a2 : aNF} {w : aNE} {R : K1} (h : alE a0 a1 a2 w R) : aT pg Fc #[a0, a1, a2] w R := by
 refine uO (ann := lQ) Tryz.f42 kX [a0, a1, a2] rW 95 TryzM.mixed Tryz.func42 ?_
 exact (YT _ _ _ R (fun _ _ h => h) h)
def nW : FA := ⟨Fh, fun i => .leaf ([], []) []⟩
def Dk : List ResultVar := [.tmp 4, .tmp 5]
noncomputable def nD : Code := dG Tryz.f43
def C2 (R : K1) (gH : aNF) (w : aNE) : Prop :=
 aD pg (jG 22 9 gH) w fun e8 w =>
 R (.tuple #[e8, (aNG 0)]) w
theorem abR (R : K1) (hr : HR Dk R Q) (h : C2 R (g 6) w) : bD pg nW (aB 1 (aB 3 nD)) Q g w :=
 eL (kn := no) (l := []) h gT hr trivial
def Ae (kn : K4) (dY lW gH P0 : aNF) (w : aNE) : Prop :=
 aD pg (aI .add 3 aM aM P0 (aNG 1)) w fun c7 w =>
 kn dY lW gH c7 w
theorem aaL (kn : K4) (hn : N4 Q kn 0 1 6 7) (h : Ae kn (g 0) (g 1) (g 6) (g 7) w) : bD pg nW (aB 2 (bI (bI (aB 1 (aF 1 (aB 3 nD)))))) Q g w :=
 eL (kr := no) (l := []) h hn gT trivial
def J5 (kn : K4) (k0 : K1) (dY lW gH P0 : aNF) (w : aNE) : Prop :=
 aD pg (aI .lss 3 aM aM P0 lW) w fun c5 w =>
 gZ c5
  (aD pg (aI .rem 3 aM aM P0 (aNG 2)) w fun c9 w =>
  aD pg (aI .eql 3 (.tmp 19) (.const (aNG 0)) c9 (aNG 0)) w fun d0 w =>
  gZ d0
   (aD pg (aI .quo 3 aM aM P0 (aNG 2)) w fun d4 w =>
   aD pg (DX 9 dY d4) w fun d5 w =>
   aD pg (aI .quo 5 aM aM d5 (.int .u8 16)) w fun d6 w =>
   aD pg (cV 22 1 [(0, d6)]) w fun d7 w =>
   aD pg (lG .append #[22, 22] 22 [gH, d7]) w fun d8 w =>
   kn dY lW d8 P0 w)
   (aD pg (aI .quo 3 aM aM P0 (aNG 2)) w fun e2 w =>
   aD pg (DX 9 dY e2) w fun e3 w =>
   aD pg (aI .rem 5 aM aM e3 (.int .u8 16)) w fun e4 w =>
   aD pg (cV 22 1 [(0, e4)]) w fun e5 w =>
   aD pg (lG .append #[22, 22] 22 [gH, e5]) w fun e6 w =>
   kn dY lW e6 P0 w))
  (k0 gH w)
theorem ZI (kn : K4) (k0 : K1) (hn : N4 Q kn 0 1 6 7) (h0 : E1 Q k0 0 6) (h : J5 kn k0 (g 0) (g 1) (g 6) (g 7) w) : bD pg nW (aF 2 (bI (bI (aB 1 (aF 1 (aB 3 nD)))))) Q g w :=
 eL (kr := no) (l := [(0, fun g w => k0 (g 6) w)]) h hn gT ⟨h0, trivial⟩
def Da (kn : K4) (k0 : K1) (dY lW gH P0 : aNF) (w : aNE) : Prop :=
 J5 (fun dY lW gH P0 w => Ae kn dY lW gH P0 w) k0 dY lW gH P0 w
def JU (k0 : K1) (dY lW gH P0 : aNF) (w : aNE) : Prop :=
 cS (fun (X : (aNF × aNF) -> K0) (t : aNF × aNF) (w : aNE) => Da (fun _ _ gH P0 w => X (gH, P0) w) k0 dY lW t.1 t.2 w) (gH, P0) w
theorem ZO (kn : K4) (k0 : K1) (hn : N4 Q kn 0 1 6 7) (h0 : E1 Q k0 0 6) (h : Da kn k0 (g 0) (g 1) (g 6) (g 7) w) : bD pg nW (bI (bI (aB 1 (aF 1 (aB 3 nD))))) Q g w :=
 jA 2 (ZI _ g w (Ae kn) k0 (fun g w h => aJ (aaL _ g w kn hn h)) h0 h)
theorem abP (k0 : K1) (h0 : E1 Q k0 0 6) (h : JU k0 (g 0) (g 1) (g 6) (g 7) w) : bD pg nW (bI (aB 1 (aF 1 (aB 3 nD)))) Q g w := by
 refine CS (fun g : Env => (g 6, g 7)) (fun X t w => Da (fun _ _ gH P0 w => X (gH, P0) w) k0 (g 0) (g 1) t.1 t.2 w) h (fun X g1 w1 ha hL => ?_)
 rw [<- jX 0 ha, <- jX 1 ha] at hL
 exact (ZO _ g1 w1 (fun _ _ gH P0 w => X (gH, P0) w) k0 (fun _ _ h => h) h0 hL)
def JN (kn : K1) (dY lW gH P0 : aNF) (w : aNE) : Prop :=
 JU kn dY lW gH P0 w
def LG (kn : K4) (dY lW gH : aNF) (w : aNE) : Prop :=
 kn dY lW gH (aNG 0) w
theorem abK (kn : K4) (hn : N4 Q kn 0 1 6 7) (h : LG kn (g 0) (g 1) (g 6) w) : bD pg nW (aF 1 (aF 1 (aB 3 nD))) Q g w :=
 eL (kr := no) (l := []) h hn gT trivial
def KU (kn : K1) (dY lW gH : aNF) (w : aNE) : Prop :=
 LG (fun dY lW gH P0 w => JN kn dY lW gH P0 w) dY lW gH w
def Lk (R : K1) (dY lW gH : aNF) (w : aNE) : Prop :=
 KU (fun gH w => C2 R gH w) dY lW gH w
theorem adN (kn : K1) (hn : N1 Q kn 6) (h : KU kn (g 0) (g 1) (g 6) w) : bD pg nW (aF 1 (aB 3 nD)) Q g w :=
 jA 1 (abK _ g w (JN kn) (fun g w h => aJ (wX 0 (abP _ g w kn hn h))) h)
def Ib (kn : K3) (R : K1) (dY lW : aNF) (w : aNE) : Prop :=
 aD pg (lG .len #[9] 3 [dY]) w fun b9 w =>
 aD pg (aI .mul 3 aM aM (aNG 2) b9) w fun c0 w =>
 aD pg (aI .lss 3 aM aM c0 lW) w fun c2 w =>
 gZ c2
  (R (.tuple #[(.string ⟨#[]⟩), (aNG 10)]) w)
  (kn dY lW (.slice none 0 0) w)
theorem Y4 (kn : K3) (R : K1) (hn : N3 Q kn 0 1 6) (hr : HR Dk R Q) (h : Ib kn R (g 0) (g 1) w) : bD pg nW (aF 3 nD) Q g w :=
 eL (l := []) h hn hr trivial
def HC (R : K1) (dY lW : aNF) (w : aNE) : Prop :=
 Ib (fun dY lW gH w => Lk R dY lW gH w) R dY lW w
theorem Ye (R : K1) (hr : HR Dk R Q) (h : HC R (g 0) (g 1) w) : bD pg nW nD Q g w :=
 jA 3 (Y4 _ g w (Lk R) R (fun g w h => aJ (jA 1 (adN _ g w (C2 R) (fun g w h => aJ (abR _ g w R hr h)) h))) hr h)
def afK (a0 a1 : aNF) (w : aNE) (R : K1) : Prop :=
 HC R a0 a1 w
theorem aiK {a0 a1 : aNF} {w : aNE} {R : K1} (h : afK a0 a1 w R) : aT pg Fh #[a0, a1] w R := by
 refine uO (ann := nW) Tryz.f43 nD [a0, a1] Dk 39 TryzM.mixed Tryz.func43 ?_
 exact (Ye _ _ _ R (fun _ _ h => h) h)
def sP : FA := ⟨FC, fun i => match Nat.beq i 18 with | true => .leaf ([1], [(1, 2), (1, 3)]) [(false, []), (true, []), (false, [0]), (false, [1]), (false, [])] | false => .leaf ([], []) []⟩
def tY : List ResultVar := [.tmp 2, .tmp 3]
noncomputable def rF : Code := dG Tryz.f44
def DC (R : K1)  (w : aNE) : Prop :=
 R (.tuple #[(.string ⟨#[]⟩), (aNG 11)]) w
theorem aeL (R : K1) (hr : HR tY R Q) (h : DC R w) : bD pg sP (aB 1 (aB 11 rF)) Q g w :=
 eL (kn := no) (l := []) h gT hr trivial
def Dm (kn : K5) (k0 : K0) (R : K1) (v_7 b8 G9 c0 kO : aNF) (w : aNE) : Prop :=
 aD pg (lG .len #[22] 3 [kO]) w fun i7 w =>
 aD pg (aI .lss 3 aM aM i7 (aNG 256)) w fun i8 w =>
 gZ i8
  (aD pg (aK 138 b8 1) w fun i9 w =>
  aD pg (aL 136 i9) w fun j0 w =>
  aD pg (cI 136 j0 G9) w fun j2 w =>
  aD pg (aL 145 j2) w fun j3 w =>
  aD pg (fU 145) w fun aIL w =>
  aD pg (aR 145 aIL j3) w fun _u w =>
  aD pg (aK 145 aIL 0) w fun j5 w =>
  aD pg (aL 3 j5) w fun j6 w =>
  aD pg (jG 3 5 j6) w fun j7 w =>
  aD pg (cV 22 1 [(0, j7)]) w fun j8 w =>
  aD pg (lG .append #[22, 22] 22 [kO, j8]) w fun j9 w =>
  aD pg (aL 133 v_7) (dr w) fun l0 w_ => w_ = (dr w) /\
  aT pg B4 #[l0] (dr w) fun l1 asT =>
  aD pg (aK 145 aIL 1) asT fun l2 w_ => w_ = asT /\
  (jJ pg (aK 145 aIL 1) l2 (dr w) /\ True) /\
  aD pg (aL 3 l2) asT fun l3 w_ => w_ = asT /\
  (jJ pg (aL 3 l2) l3 (dr w) /\ True) /\
  aD pg (aI .lss 3 aM aM l1 l3) asT fun l4 w_ => w_ = asT /\
  gZ l4
   (aD pg (aK 138 b8 1) asT fun l6 w =>
   aD pg (aL 136 l6) w fun l7 w =>
   aD pg (cI 136 l7 c0) w fun l9 w =>
   aD pg (aK 145 l9 0) w fun m0 w =>
   aD pg (aL 3 m0) w fun m1 w =>
   aD pg (jG 3 5 m1) w fun m2 w =>
   aD pg (cV 22 1 [(0, m2)]) w fun m3 w =>
   aD pg (lG .append #[22, 22] 22 [j9, m3]) w fun m4 w =>
   aD pg (lG .len #[22] 3 [m4]) w fun m6 w =>
   aD pg (aI .gtr 3 aM aM m6 (aNG 255)) w fun m7 w =>
   gZ m7
    (R (.tuple #[(.string ⟨#[]⟩), (aNG 11)]) w)
    (aD pg (jG 22 9 m4) w fun m9 w =>
    R (.tuple #[m9, (aNG 0)]) w))
   (aD pg (aL 138 b8) asT fun n1 w =>
   aD pg (aL 133 v_7) w fun n3 w =>
   aT pg Me #[n1, G9, n3] w fun n4 w =>
   aD pg (bQ n4 0) w fun n5 w =>
   aD pg (bQ n4 1) w fun n6 w =>
   aD pg (aR 133 v_7 n5) w fun _u w =>
   kn v_7 b8 c0 n6 j9 w))
  (k0 w)
theorem aaR (kn : K5) (k0 : K0) (R : K1) (hn : N5 Q kn 7 8 9 10 11) (h0 : E0 Q k0 0) (hr : HR tY R Q) (h : Dm kn k0 R (g 7) (g 8) (g 9) (g 10) (g 11) w) : bD pg sP (bI (bI (aF 1 (aB 11 rF)))) Q g w :=
 eL (l := [(0, fun g w => k0 w)]) h hn hr ⟨h0, trivial⟩
def Kl (k0 : K0) (R : K1) (v_7 b8 G9 c0 kO : aNF) (w : aNE) : Prop :=
 cS (fun (X : (aNF × aNF × aNF) -> K0) (t : aNF × aNF × aNF) (w : aNE) => Dm (fun _ _ G9 c0 kO w => X (G9, c0, kO) w) k0 R v_7 b8 t.1 t.2.1 t.2.2 w) (G9, c0, kO) w
theorem acV (k0 : K0) (R : K1) (h0 : E0 Q k0 0) (hr : HR tY R Q) (h : Kl k0 R (g 7) (g 8) (g 9) (g 10) (g 11) w) : bD pg sP (bI (aF 1 (aB 11 rF))) Q g w := by
 refine CS (fun g : Env => (g 9, g 10, g 11)) (fun X t w => Dm (fun _ _ G9 c0 kO w => X (G9, c0, kO) w) k0 R (g 7) (g 8) t.1 t.2.1 t.2.2 w) h (fun X g1 w1 ha hL => ?_)
 rw [<- jX 7 ha, <- jX 8 ha] at hL
 exact (aaR _ g1 w1 (fun _ _ G9 c0 kO w => X (G9, c0, kO) w) k0 R (fun _ _ h => h) h0 hr hL)
def Kz (kn : K0) (R : K1) (v_7 b8 G9 c0 kO : aNF) (w : aNE) : Prop :=
 Kl kn R v_7 b8 G9 c0 kO w
def Dw (R : K1) (v_7 b8 G9 c0 kO : aNF) (w : aNE) : Prop :=
 Kz (fun  w => DC R w) R v_7 b8 G9 c0 kO w
theorem aeQ (kn : K0) (R : K1) (hn : N0 Q kn) (hr : HR tY R Q) (h : Kz kn R (g 7) (g 8) (g 9) (g 10) (g 11) w) : bD pg sP (aF 1 (aB 11 rF)) Q g w :=
 wX 0 (acV _ g w kn R hn hr h)
def KB (kn : K5) (R : K1) (dY : aNF) (w : aNE) : Prop :=
 aT pg Mf #[dY, (aNG 6), (aNG 12)] w fun c6 w =>
 aD pg (bQ c6 0) w fun c7 w =>
 aD pg (bQ c6 1) w fun c8 w =>
 aD pg (bQ c6 2) w fun c9 w =>
 aD pg (fU 128) w fun c_4 w =>
 aD pg (aR 128 c_4 c7) w fun _u w =>
 aD pg (aI .neq 27 (.tmp 20) (.const (aNG 0)) c9 (aNG 0)) w fun d1 w =>
 gZ d1
  (R (.tuple #[(.string ⟨#[]⟩), c9]) w)
  (aD pg (lZ 9 dY (some c8) none none) w fun d6 w =>
  aT pg EE #[d6] w fun d7 w =>
  aD pg (bQ d7 0) w fun d8 w =>
  aD pg (bQ d7 1) w fun d9 w =>
  aD pg (fU 133) w fun v_7 w =>
  aD pg (aR 133 v_7 d8) w fun _u w =>
  aD pg (aI .neq 27 (.tmp 30) (.const (aNG 0)) d9 (aNG 0)) w fun e1 w =>
  gZ e1
   (R (.tuple #[(.string ⟨#[]⟩), d9]) w)
   (aD pg (aL 128 c_4) w fun e4 w =>
   aT pg I7 #[e4] w fun e5 w =>
   aD pg (bQ e5 0) w fun e6 w =>
   aD pg (bQ e5 1) w fun e7 w =>
   aD pg (fU 138) w fun b8 w =>
   aD pg (aR 138 b8 e6) w fun _u w =>
   aD pg (aI .neq 27 (.tmp 38) (.const (aNG 0)) e7 (aNG 0)) w fun e9 w =>
   gZ e9
    (R (.tuple #[(.string ⟨#[]⟩), e7]) w)
    (aD pg (aL 138 b8) w fun f2 w =>
    aD pg (aL 133 v_7) w fun f3 w =>
    aT pg CK #[f2, f3] w fun f4 w =>
    aD pg (bQ f4 0) w fun f5 w =>
    aD pg (bQ f4 1) w fun f6 w =>
    aD pg (aR 133 v_7 f5) w fun _u w =>
    aD pg (aL 138 b8) w fun f8 w =>
    aD pg (aL 133 v_7) w fun f9 w =>
    aT pg CK #[f8, f9] w fun i0 w =>
    aD pg (bQ i0 0) w fun i1 w =>
    aD pg (bQ i0 1) w fun i2 w =>
    aD pg (aR 133 v_7 i1) w fun _u w =>
    aD pg (aL 133 v_7) w fun i3 w =>
    aT pg B4 #[i3] w fun i4 w =>
    aD pg (aI .lss 3 aM aM i4 (aNG 0)) w fun i5 w =>
    gZ i5
     (R (.tuple #[(.string ⟨#[]⟩), (aNG 11)]) w)
     (kn v_7 b8 f6 i2 (.slice none 0 0) w))))
theorem adV (kn : K5) (R : K1) (hn : N5 Q kn 7 8 9 10 11) (hr : HR tY R Q) (h : KB kn R (g 0) w) : bD pg sP (aF 11 rF) Q g w :=
 eL (l := []) h hn hr trivial
def Kv (R : K1) (dY : aNF) (w : aNE) : Prop :=
 KB (fun v_7 b8 G9 c0 kO w => Dw R v_7 b8 G9 c0 kO w) R dY w
theorem adR (R : K1) (hr : HR tY R Q) (h : Kv R (g 0) w) : bD pg sP rF Q g w :=
 jA 11 (adV _ g w (Dw R) R (fun g w h => aJ (jA 1 (aeQ _ g w (fun  w => DC R w) R (fun g w h => aJ (aeL _ g w R hr h)) hr h))) hr h)
def alC (a0 : aNF) (w : aNE) (R : K1) : Prop :=
 Kv R a0 w
theorem agN {a0 : aNF} {w : aNE} {R : K1} (h : alC a0 w R) : aT pg FC #[a0] w R := by
 refine uO (ann := sP) Tryz.f44 rF [a0] tY 99 TryzM.mixed Tryz.func44 ?_
 exact (adR _ _ _ R (fun _ _ h => h) h)
def tT : FA := ⟨I3, fun i => .leaf ([], []) []⟩
def FM : List ResultVar := [.tmp 2, .tmp 3]
noncomputable def sK : Code := dG Tryz.f45
def GD (R : K1) (cT w_4 d_5 : aNF) (w : aNE) : Prop :=
 aT pg nZ #[d_5] w fun d7 w =>
 aD pg (aI .sub 3 aM aM d7 w_4) w fun d9 w =>
 aT pg Jr #[d9] w fun e0 w =>
 aD pg (aI .gtr 3 aM aM d_5 (aNG 11)) w fun e2 w =>
 Gd (gJ e2 false) (fun K => K e0 w) w fun e4 w =>
 Gd (gJ e2 false) (fun K => aD pg (aI .lss 3 aM aM e4 (aNG 0)) w K) w fun e5 w =>
 aD pg (iN e2 (.bool true) e5) w fun e6 w =>
 gZ e6
  (R (.tuple #[(.string ⟨#[]⟩), (aNG 11)]) w)
  (aD pg (aI .add 3 aM aM e0 (aNG 1)) w fun e9 w =>
  aD pg (jG 3 5 e9) w fun f0 w =>
  aD pg (cV 22 1 [(0, f0)]) w fun f1 w =>
  aD pg (jG 22 9 f1) w fun f2 w =>
  aD pg (aI .add 9 aM aM cT f2) w fun f3 w =>
  R (.tuple #[f3, (aNG 0)]) w)
theorem ahZ (R : K1) (hr : HR FM R Q) (h : GD R (g 0) (g 4) (g 5) w) : bD pg tT (aB 1 (aB 4 sK)) Q g w :=
 eL (kn := no) (l := []) h gT hr trivial
def EN (kn : K3) (k0 : K3) (cT w_4 d_5 : aNF) (w : aNE) : Prop :=
 aT pg nZ #[d_5] w fun d1 w =>
 aD pg (aI .leq 3 aM aM d1 w_4) w fun d3 w =>
 gZ d3
  (aD pg (aI .add 3 aM aM d_5 (aNG 1)) w fun d5 w =>
  kn cT w_4 d5 w)
  (k0 cT w_4 d_5 w)
theorem agI (kn : K3) (k0 : K3) (hn : N3 Q kn 0 4 5) (h0 : E3 Q k0 0 0 4 5) (h : EN kn k0 (g 0) (g 4) (g 5) w) : bD pg tT (bI (bI (aF 1 (aB 4 sK)))) Q g w :=
 eL (kr := no) (l := [(0, fun g w => k0 (g 0) (g 4) (g 5) w)]) h hn gT ⟨h0, trivial⟩
def OW (k0 : K3) (cT w_4 d_5 : aNF) (w : aNE) : Prop :=
 cS (fun (X : aNF -> K0) (t : aNF) (w : aNE) => EN (fun _ _ d_5 w => X d_5 w) k0 cT w_4 t w) d_5 w
theorem afW (k0 : K3) (h0 : E3 Q k0 0 0 4 5) (h : OW k0 (g 0) (g 4) (g 5) w) : bD pg tT (bI (aF 1 (aB 4 sK))) Q g w := by
 refine CS (fun g : Env => g 5) (fun X t w => EN (fun _ _ d_5 w => X d_5 w) k0 (g 0) (g 4) t w) h (fun X g1 w1 ha hL => ?_)
 rw [<- jX 0 ha, <- jX 4 ha] at hL
 exact (agI _ g1 w1 (fun _ _ d_5 w => X d_5 w) k0 (fun _ _ h => h) h0 hL)
def M9 (kn : K3) (cT w_4 d_5 : aNF) (w : aNE) : Prop :=
 OW kn cT w_4 d_5 w
def PA (R : K1) (cT w_4 d_5 : aNF) (w : aNE) : Prop :=
 M9 (fun cT w_4 d_5 w => GD R cT w_4 d_5 w) cT w_4 d_5 w
theorem ahG (kn : K3) (hn : N3 Q kn 0 4 5) (h : M9 kn (g 0) (g 4) (g 5) w) : bD pg tT (aF 1 (aB 4 sK)) Q g w :=
 wX 0 (afW _ g w kn hn h)
def Oj (kn : K3) (R : K1) (cT : aNF) (w : aNE) : Prop :=
 aT pg CR #[cT] w fun b8 w =>
 aD pg (aI .eql 9 (.tmp 9) (.const (.string ⟨#[]⟩)) cT (.string ⟨#[]⟩)) w fun c0 w =>
 Gd (gJ c0 false) (fun K => K cT w) w fun c2 w =>
 Gd (gJ c0 false) (fun K => aD pg (lG .len #[9] 3 [c2]) w K) w fun c3 w =>
 Gd (gJ c0 false) (fun K => aD pg (aI .gtr 3 aM aM c3 (aNG 255)) w K) w fun c4 w =>
 aD pg (iN c0 (.bool true) c4) w fun c5 w =>
 Gd (gJ c5 false) (fun K => K b8 w) w fun c7 w =>
 Gd (gJ c5 false) (fun K => aD pg (aI .lss 3 aM aM c7 (aNG 1)) w K) w fun c8 w =>
 aD pg (iN c5 (.bool true) c8) w fun c9 w =>
 gZ c9
  (R (.tuple #[(.string ⟨#[]⟩), (aNG 11)]) w)
  (kn cT b8 (aNG 1) w)
theorem akO (kn : K3) (R : K1) (hn : N3 Q kn 0 4 5) (hr : HR FM R Q) (h : Oj kn R (g 0) w) : bD pg tT (aF 4 sK) Q g w :=
 eL (l := []) h hn hr trivial
def Oi (R : K1) (cT : aNF) (w : aNE) : Prop :=
 Oj (fun cT w_4 d_5 w => PA R cT w_4 d_5 w) R cT w
theorem aeW (R : K1) (hr : HR FM R Q) (h : Oi R (g 0) w) : bD pg tT sK Q g w :=
 jA 4 (akO _ g w (PA R) R (fun g w h => aJ (jA 1 (ahG _ g w (GD R) (fun g w h => aJ (ahZ _ g w R hr h)) h))) hr h)
def arW (a0 : aNF) (w : aNE) (R : K1) : Prop :=
 Oi R a0 w
theorem apH {a0 : aNF} {w : aNE} {R : K1} (h : arW a0 w R) : aT pg I3 #[a0] w R := by
 refine uO (ann := tT) Tryz.f45 sK [a0] FM 44 TryzM.mixed Tryz.func45 ?_
 exact (aeW _ _ _ R (fun _ _ h => h) h)
def dX : FA := ⟨Av, fun i => .leaf ([], []) []⟩
def EM : List ResultVar := [.tmp 2, .tmp 3]
noncomputable def dN : Code := dG Tryz.f46
def F7 (R : K1) (aU : aNF) (w : aNE) : Prop :=
 R (.tuple #[aU, (aNG 0)]) w
theorem alP (R : K1) (hr : HR EM R Q) (h : F7 R (g 5) w) : bD pg dX (aB 1 (aB 2 (aB 1 (aB 4 dN)))) Q g w :=
 eL (kn := no) (l := []) h gT hr trivial
def EW (kn : K6) (cT mB aU cH cQ vV : aNF) (w : aNE) : Prop :=
 aD pg (aI .add 3 aM aM vV (aNG 1)) w fun e0 w =>
 kn cT mB aU cH cQ e0 w
theorem agW (kn : K6) (hn : N6 Q kn 0 4 5 7 8 9) (h : EW kn (g 0) (g 4) (g 5) (g 7) (g 8) (g 9) w) : bD pg dX (aB 1 (aB 1 (bI (bI (aB 1 (aF 1 (aB 2 (aB 1 (aB 4 dN))))))))) Q g w :=
 eL (kr := no) (l := []) h hn gT trivial
def yB (kn : K7) (cT mB aU cH cQ vV mU : aNF) (w : aNE) : Prop :=
 aD pg (aI .add 3 aM aM mU (aNG 1)) w fun e6 w =>
 kn cT mB aU cH cQ vV e6 w
theorem aiS (kn : K7) (hn : N7 Q kn 0 4 5 7 8 9 10) (h : yB kn (g 0) (g 4) (g 5) (g 7) (g 8) (g 9) (g 10) w) : bD pg dX (aB 1 (aB 1 (bI (bI (aB 1 (bI (aF 1 (aB 1 (bI (bI (aB 1 (aF 1 (aB 2 (aB 1 (aB 4 dN))))))))))))))) Q g w :=
 eL (kr := no) (l := []) h hn gT trivial
def yX (kn : K7) (cT mB aU cH vV mU xU : aNF) (w : aNE) : Prop :=
 aD pg (fT 148 [(0, xU), (1, cH)]) w fun j3 w =>
 aD pg (cI 84 aU mU) w fun j4 w =>
 aD pg (aR 148 j4 j3) w fun _u w =>
 kn cT mB aU cH xU vV mU w
theorem ajA (kn : K7) (hn : N7 Q kn 0 4 5 7 8 9 10) (h : yX kn (g 0) (g 4) (g 5) (g 7) (g 9) (g 10) (g 11) w) : bD pg dX (aB 1 (aB 3 (bI (aF 1 (aB 1 (bI (bI (aB 1 (bI (aF 1 (aB 1 (bI (bI (aB 1 (aF 1 (aB 2 (aB 1 (aB 4 dN)))))))))))))))))) Q g w :=
 eL (kr := no) (l := []) h hn gT trivial
def FI (kn : K8) (k6 : K7) (cT mB aU cH cQ vV mU xU : aNF) (w : aNE) : Prop :=
 aD pg (aI .gtr 3 aM aM cQ xU) w fun i3 w =>
 gZ i3
  (aD pg (aI .quo 3 aM aM cH (aNG 2)) w fun i5 w =>
  aD pg (aI .sub 3 aM aM cQ (aNG 1)) w fun i7 w =>
  kn cT mB aU i5 i7 vV mU xU w)
  (k6 cT mB aU cH vV mU xU w)
theorem ahD (kn : K8) (k6 : K7) (hn : N8 Q kn 0 4 5 7 8 9 10 11) (h6 : E7 Q k6 6 0 4 5 7 9 10 11) (h : FI kn k6 (g 0) (g 4) (g 5) (g 7) (g 8) (g 9) (g 10) (g 11) w) : bD pg dX (bI (bI (aF 1 (aB 3 (bI (aF 1 (aB 1 (bI (bI (aB 1 (bI (aF 1 (aB 1 (bI (bI (aB 1 (aF 1 (aB 2 (aB 1 (aB 4 dN)))))))))))))))))))) Q g w :=
 eL (kr := no) (l := [(6, fun g w => k6 (g 0) (g 4) (g 5) (g 7) (g 9) (g 10) (g 11) w)]) h hn gT ⟨h6, trivial⟩
def OR (k6 : K7) (cT mB aU cH cQ vV mU xU : aNF) (w : aNE) : Prop :=
 cS (fun (X : (aNF × aNF) -> K0) (t : aNF × aNF) (w : aNE) => FI (fun _ _ _ cH cQ _ _ _ w => X (cH, cQ) w) k6 cT mB aU t.1 t.2 vV mU xU w) (cH, cQ) w
theorem ahM (k6 : K7) (h6 : E7 Q k6 6 0 4 5 7 9 10 11) (h : OR k6 (g 0) (g 4) (g 5) (g 7) (g 8) (g 9) (g 10) (g 11) w) : bD pg dX (bI (aF 1 (aB 3 (bI (aF 1 (aB 1 (bI (bI (aB 1 (bI (aF 1 (aB 1 (bI (bI (aB 1 (aF 1 (aB 2 (aB 1 (aB 4 dN))))))))))))))))))) Q g w := by
 refine CS (fun g : Env => (g 7, g 8)) (fun X t w => FI (fun _ _ _ cH cQ _ _ _ w => X (cH, cQ) w) k6 (g 0) (g 4) (g 5) t.1 t.2 (g 9) (g 10) (g 11) w) h (fun X g1 w1 ha hL => ?_)
 rw [<- jX 0 ha, <- jX 4 ha, <- jX 5 ha, <- jX 9 ha, <- jX 10 ha, <- jX 11 ha] at hL
 exact (ahD _ g1 w1 (fun _ _ _ cH cQ _ _ _ w => X (cH, cQ) w) k6 (fun _ _ h => h) h6 hL)
def MY (kn : K7) (cT mB aU cH cQ vV mU xU : aNF) (w : aNE) : Prop :=
 OR kn cT mB aU cH cQ vV mU xU w
def Ge (kn : K7) (cT mB aU cH cQ vV mU xU : aNF) (w : aNE) : Prop :=
 MY (fun cT mB aU cH vV mU xU w => yX kn cT mB aU cH vV mU xU w) cT mB aU cH cQ vV mU xU w
theorem alD (kn : K7) (hn : N7 Q kn 0 4 5 7 9 10 11) (h : MY kn (g 0) (g 4) (g 5) (g 7) (g 8) (g 9) (g 10) (g 11) w) : bD pg dX (aF 1 (aB 3 (bI (aF 1 (aB 1 (bI (bI (aB 1 (bI (aF 1 (aB 1 (bI (bI (aB 1 (aF 1 (aB 2 (aB 1 (aB 4 dN)))))))))))))))))) Q g w :=
 wX 6 (ahM _ g w kn hn h)
def Pl (kn : K8) (k5 : K7) (cT mB aU cH cQ vV mU : aNF) (w : aNE) : Prop :=
 aD pg (DX 9 cT mU) w fun e9 w =>
 aD pg (jG 5 3 e9) w fun f0 w =>
 aD pg (aI .neq 3 (.tmp 40) (.tmp 41) f0 vV) w fun f2 w =>
 gZ f2
  (k5 cT mB aU cH cQ vV mU w)
  (aD pg (aI .add 3 aM aM mB (aNG 1)) w fun f4 w =>
  aD pg (aI .sub 3 aM aM f4 vV) w fun f6 w =>
  aD pg (aI .gtr 3 aM aM cQ (aNG 0)) w fun f8 w =>
  gZ f8
   (aD pg (aI .add 3 aM aM cH (aNG 1)) w fun i0 w =>
   kn cT mB aU i0 cQ vV mU f6 w)
   (kn cT mB aU cH cQ vV mU f6 w))
theorem aeZ (kn : K8) (k5 : K7) (hn : N8 Q kn 0 4 5 7 8 9 10 11) (h5 : E7 Q k5 5 0 4 5 7 8 9 10) (h : Pl kn k5 (g 0) (g 4) (g 5) (g 7) (g 8) (g 9) (g 10) w) : bD pg dX (aF 3 (bI (aF 1 (aB 1 (bI (bI (aB 1 (bI (aF 1 (aB 1 (bI (bI (aB 1 (aF 1 (aB 2 (aB 1 (aB 4 dN))))))))))))))))) Q g w :=
 eL (kr := no) (l := [(5, fun g w => k5 (g 0) (g 4) (g 5) (g 7) (g 8) (g 9) (g 10) w)]) h hn gT ⟨h5, trivial⟩
def UP (kn : K7) (k5 : K7) (cT mB aU cH cQ vV mU : aNF) (w : aNE) : Prop :=
 Pl (fun cT mB aU cH cQ vV mU xU w => Ge kn cT mB aU cH cQ vV mU xU w) k5 cT mB aU cH cQ vV mU w
def KY (kn : K7) (cT mB aU cH cQ vV mU : aNF) (w : aNE) : Prop :=
 UP kn kn cT mB aU cH cQ vV mU w
def Kc (kn : K7) (cT mB aU cH cQ vV mU : aNF) (w : aNE) : Prop :=
 KY (fun cT mB aU cH cQ vV mU w => yB kn cT mB aU cH cQ vV mU w) cT mB aU cH cQ vV mU w
theorem ZV (kn : K7) (hn : N7 Q kn 0 4 5 7 8 9 10) (h : KY kn (g 0) (g 4) (g 5) (g 7) (g 8) (g 9) (g 10) w) : bD pg dX (aF 1 (aB 1 (bI (bI (aB 1 (bI (aF 1 (aB 1 (bI (bI (aB 1 (aF 1 (aB 2 (aB 1 (aB 4 dN))))))))))))))) Q g w :=
 wX 5 (jA 3 (aeZ _ g w (Ge kn) kn (fun g w h => aJ (jA 1 (alD _ g w (yX kn) (fun g w h => aJ (ajA _ g w kn hn h)) h))) hn h))
def JS (kn : K7) (k4 : K6) (cT mB aU cH cQ vV mU : aNF) (w : aNE) : Prop :=
 aD pg (lG .len #[9] 3 [cT]) w fun e3 w =>
 aD pg (aI .lss 3 aM aM mU e3) w fun e4 w =>
 gZ e4
  (kn cT mB aU cH cQ vV mU w)
  (k4 cT mB aU cH cQ vV w)
theorem adW (kn : K7) (k4 : K6) (hn : N7 Q kn 0 4 5 7 8 9 10) (h4 : E6 Q k4 4 0 4 5 7 8 9) (h : JS kn k4 (g 0) (g 4) (g 5) (g 7) (g 8) (g 9) (g 10) w) : bD pg dX (aF 1 (bI (bI (aB 1 (bI (aF 1 (aB 1 (bI (bI (aB 1 (aF 1 (aB 2 (aB 1 (aB 4 dN)))))))))))))) Q g w :=
 eL (kr := no) (l := [(4, fun g w => k4 (g 0) (g 4) (g 5) (g 7) (g 8) (g 9) w)]) h hn gT ⟨h4, trivial⟩
def DD (kn : K7) (k4 : K6) (cT mB aU cH cQ vV mU : aNF) (w : aNE) : Prop :=
 JS (fun cT mB aU cH cQ vV mU w => Kc kn cT mB aU cH cQ vV mU w) k4 cT mB aU cH cQ vV mU w
def KK (k4 : K6) (cT mB aU cH cQ vV mU : aNF) (w : aNE) : Prop :=
 cS (fun (X : (aNF × aNF × aNF) -> K0) (t : aNF × aNF × aNF) (w : aNE) => DD (fun _ _ _ cH cQ _ mU w => X (cH, cQ, mU) w) k4 cT mB aU t.1 t.2.1 vV t.2.2 w) (cH, cQ, mU) w
theorem adD (kn : K7) (k4 : K6) (hn : N7 Q kn 0 4 5 7 8 9 10) (h4 : E6 Q k4 4 0 4 5 7 8 9) (h : DD kn k4 (g 0) (g 4) (g 5) (g 7) (g 8) (g 9) (g 10) w) : bD pg dX (bI (bI (aB 1 (bI (aF 1 (aB 1 (bI (bI (aB 1 (aF 1 (aB 2 (aB 1 (aB 4 dN))))))))))))) Q g w :=
 jA 1 (adW _ g w (Kc kn) k4 (fun g w h => aJ (jA 1 (ZV _ g w (yB kn) (fun g w h => aJ (aiS _ g w kn hn h)) h))) h4 h)
theorem aaB (k4 : K6) (h4 : E6 Q k4 4 0 4 5 7 8 9) (h : KK k4 (g 0) (g 4) (g 5) (g 7) (g 8) (g 9) (g 10) w) : bD pg dX (bI (aB 1 (bI (aF 1 (aB 1 (bI (bI (aB 1 (aF 1 (aB 2 (aB 1 (aB 4 dN)))))))))))) Q g w := by
 refine CS (fun g : Env => (g 7, g 8, g 10)) (fun X t w => DD (fun _ _ _ cH cQ _ mU w => X (cH, cQ, mU) w) k4 (g 0) (g 4) (g 5) t.1 t.2.1 (g 9) t.2.2 w) h (fun X g1 w1 ha hL => ?_)
 rw [<- jX 0 ha, <- jX 4 ha, <- jX 5 ha, <- jX 9 ha] at hL
 exact (adD _ g1 w1 (fun _ _ _ cH cQ _ mU w => X (cH, cQ, mU) w) k4 (fun _ _ h => h) h4 hL)
def Kf (kn : K6) (cT mB aU cH cQ vV mU : aNF) (w : aNE) : Prop :=
 KK kn cT mB aU cH cQ vV mU w
def Lh (kn : K7) (cT mB aU cH cQ vV : aNF) (w : aNE) : Prop :=
 kn cT mB aU cH cQ vV (aNG 0) w
theorem Z9 (kn : K7) (hn : N7 Q kn 0 4 5 7 8 9 10) (h : Lh kn (g 0) (g 4) (g 5) (g 7) (g 8) (g 9) w) : bD pg dX (aF 1 (bI (aF 1 (aB 1 (bI (bI (aB 1 (aF 1 (aB 2 (aB 1 (aB 4 dN))))))))))) Q g w :=
 eL (kr := no) (l := []) h hn gT trivial
def UE (kn : K6) (cT mB aU cH cQ vV : aNF) (w : aNE) : Prop :=
 Lh (fun cT mB aU cH cQ vV mU w => Kf kn cT mB aU cH cQ vV mU w) cT mB aU cH cQ vV w
def LJ (kn : K6) (cT mB aU cH cQ vV : aNF) (w : aNE) : Prop :=
 UE kn cT mB aU cH cQ vV w
def LP (kn : K6) (cT mB aU cH cQ vV : aNF) (w : aNE) : Prop :=
 LJ (fun cT mB aU cH cQ vV w => EW kn cT mB aU cH cQ vV w) cT mB aU cH cQ vV w
theorem aaP (kn : K6) (hn : N6 Q kn 0 4 5 7 8 9) (h : LJ kn (g 0) (g 4) (g 5) (g 7) (g 8) (g 9) w) : bD pg dX (aF 1 (aB 1 (bI (bI (aB 1 (aF 1 (aB 2 (aB 1 (aB 4 dN))))))))) Q g w :=
 wX 3 (jA 1 (Z9 _ g w (Kf kn) (fun g w h => aJ (wX 4 (aaB _ g w kn hn h))) h))
def KQ (kn : K6) (k2 : K1) (cT mB aU cH cQ vV : aNF) (w : aNE) : Prop :=
 aD pg (aI .leq 3 aM aM vV mB) w fun d8 w =>
 gZ d8
  (kn cT mB aU cH cQ vV w)
  (k2 aU w)
theorem acE (kn : K6) (k2 : K1) (hn : N6 Q kn 0 4 5 7 8 9) (h2 : E1 Q k2 2 5) (h : KQ kn k2 (g 0) (g 4) (g 5) (g 7) (g 8) (g 9) w) : bD pg dX (aF 1 (bI (bI (aB 1 (aF 1 (aB 2 (aB 1 (aB 4 dN)))))))) Q g w :=
 eL (kr := no) (l := [(2, fun g w => k2 (g 5) w)]) h hn gT ⟨h2, trivial⟩
def Dv (kn : K6) (k2 : K1) (cT mB aU cH cQ vV : aNF) (w : aNE) : Prop :=
 KQ (fun cT mB aU cH cQ vV w => LP kn cT mB aU cH cQ vV w) k2 cT mB aU cH cQ vV w
def Lx (k2 : K1) (cT mB aU cH cQ vV : aNF) (w : aNE) : Prop :=
 cS (fun (X : (aNF × aNF × aNF) -> K0) (t : aNF × aNF × aNF) (w : aNE) => Dv (fun _ _ _ cH cQ vV w => X (cH, cQ, vV) w) k2 cT mB aU t.1 t.2.1 t.2.2 w) (cH, cQ, vV) w
theorem adU (kn : K6) (k2 : K1) (hn : N6 Q kn 0 4 5 7 8 9) (h2 : E1 Q k2 2 5) (h : Dv kn k2 (g 0) (g 4) (g 5) (g 7) (g 8) (g 9) w) : bD pg dX (bI (bI (aB 1 (aF 1 (aB 2 (aB 1 (aB 4 dN))))))) Q g w :=
 jA 1 (acE _ g w (LP kn) k2 (fun g w h => aJ (jA 1 (aaP _ g w (EW kn) (fun g w h => aJ (agW _ g w kn hn h)) h))) h2 h)
theorem aaX (k2 : K1) (h2 : E1 Q k2 2 5) (h : Lx k2 (g 0) (g 4) (g 5) (g 7) (g 8) (g 9) w) : bD pg dX (bI (aB 1 (aF 1 (aB 2 (aB 1 (aB 4 dN)))))) Q g w := by
 refine CS (fun g : Env => (g 7, g 8, g 9)) (fun X t w => Dv (fun _ _ _ cH cQ vV w => X (cH, cQ, vV) w) k2 (g 0) (g 4) (g 5) t.1 t.2.1 t.2.2 w) h (fun X g1 w1 ha hL => ?_)
 rw [<- jX 0 ha, <- jX 4 ha, <- jX 5 ha] at hL
 exact (adU _ g1 w1 (fun _ _ _ cH cQ vV w => X (cH, cQ, vV) w) k2 (fun _ _ h => h) h2 hL)
def LM (kn : K1) (cT mB aU cH cQ vV : aNF) (w : aNE) : Prop :=
 Lx kn cT mB aU cH cQ vV w
def Kd (kn : K6) (cT mB aU cH cQ : aNF) (w : aNE) : Prop :=
 kn cT mB aU cH cQ (aNG 1) w
theorem abA (kn : K6) (hn : N6 Q kn 0 4 5 7 8 9) (h : Kd kn (g 0) (g 4) (g 5) (g 7) (g 8) w) : bD pg dX (aF 1 (aF 1 (aB 2 (aB 1 (aB 4 dN))))) Q g w :=
 eL (kr := no) (l := []) h hn gT trivial
def Kn (kn : K1) (cT mB aU cH cQ : aNF) (w : aNE) : Prop :=
 Kd (fun cT mB aU cH cQ vV w => LM kn cT mB aU cH cQ vV w) cT mB aU cH cQ w
def Lf (R : K1) (cT mB aU cH cQ : aNF) (w : aNE) : Prop :=
 Kn (fun aU w => F7 R aU w) cT mB aU cH cQ w
theorem abJ (kn : K1) (hn : N1 Q kn 5) (h : Kn kn (g 0) (g 4) (g 5) (g 7) (g 8) w) : bD pg dX (aF 1 (aB 2 (aB 1 (aB 4 dN)))) Q g w :=
 jA 1 (abA _ g w (LM kn) (fun g w h => aJ (wX 2 (aaX _ g w kn hn h))) h)
def JG (kn : K5) (cT mB aU : aNF) (w : aNE) : Prop :=
 kn cT mB aU (aNG 0) (aNG 0) w
theorem Z0 (kn : K5) (hn : N5 Q kn 0 4 5 7 8) (h : JG kn (g 0) (g 4) (g 5) w) : bD pg dX (aF 2 (aB 1 (aB 4 dN))) Q g w :=
 eL (kr := no) (l := []) h hn gT trivial
def KC (R : K1) (cT mB aU : aNF) (w : aNE) : Prop :=
 JG (fun cT mB aU cH cQ w => Lf R cT mB aU cH cQ w) cT mB aU w
def C9 (kn : K4) (k0 : K3) (cT mB aU xD : aNF) (w : aNE) : Prop :=
 aD pg (lG .len #[9] 3 [cT]) w fun c8 w =>
 aD pg (aI .lss 3 aM aM xD c8) w fun c9 w =>
 gZ c9
  (aD pg (fT 148 []) w fun d3 w =>
  aD pg (cV 84 1 [(0, d3)]) w fun d4 w =>
  aD pg (lG .append #[84, 84] 84 [aU, d4]) w fun d5 w =>
  aD pg (aI .add 3 aM aM xD (aNG 1)) w fun d1 w =>
  kn cT mB d5 d1 w)
  (k0 cT mB aU w)
theorem acM (kn : K4) (k0 : K3) (hn : N4 Q kn 0 4 5 6) (h0 : E3 Q k0 0 0 4 5) (h : C9 kn k0 (g 0) (g 4) (g 5) (g 6) w) : bD pg dX (bI (bI (aB 1 (aF 1 (aB 4 dN))))) Q g w :=
 eL (kr := no) (l := [(0, fun g w => k0 (g 0) (g 4) (g 5) w)]) h hn gT ⟨h0, trivial⟩
def JJ (k0 : K3) (cT mB aU xD : aNF) (w : aNE) : Prop :=
 cS (fun (X : (aNF × aNF) -> K0) (t : aNF × aNF) (w : aNE) => C9 (fun _ _ aU xD w => X (aU, xD) w) k0 cT mB t.1 t.2 w) (aU, xD) w
theorem Z3 (k0 : K3) (h0 : E3 Q k0 0 0 4 5) (h : JJ k0 (g 0) (g 4) (g 5) (g 6) w) : bD pg dX (bI (aB 1 (aF 1 (aB 4 dN)))) Q g w := by
 refine CS (fun g : Env => (g 5, g 6)) (fun X t w => C9 (fun _ _ aU xD w => X (aU, xD) w) k0 (g 0) (g 4) t.1 t.2 w) h (fun X g1 w1 ha hL => ?_)
 rw [<- jX 0 ha, <- jX 4 ha] at hL
 exact (acM _ g1 w1 (fun _ _ aU xD w => X (aU, xD) w) k0 (fun _ _ h => h) h0 hL)
def KE (kn : K3) (cT mB aU xD : aNF) (w : aNE) : Prop :=
 JJ kn cT mB aU xD w
def J6 (kn : K4) (cT mB aU : aNF) (w : aNE) : Prop :=
 kn cT mB aU (aNG 0) w
theorem adH (kn : K4) (hn : N4 Q kn 0 4 5 6) (h : J6 kn (g 0) (g 4) (g 5) w) : bD pg dX (aF 1 (aF 1 (aB 4 dN))) Q g w :=
 eL (kr := no) (l := []) h hn gT trivial
def Km (kn : K3) (cT mB aU : aNF) (w : aNE) : Prop :=
 J6 (fun cT mB aU xD w => KE kn cT mB aU xD w) cT mB aU w
def LO (R : K1) (cT mB aU : aNF) (w : aNE) : Prop :=
 Km (fun cT mB aU w => KC R cT mB aU w) cT mB aU w
theorem abC (kn : K3) (hn : N3 Q kn 0 4 5) (h : Km kn (g 0) (g 4) (g 5) w) : bD pg dX (aF 1 (aB 4 dN)) Q g w :=
 jA 1 (adH _ g w (KE kn) (fun g w h => aJ (wX 0 (Z3 _ g w kn hn h))) h)
def C3 (kn : K3) (R : K1) (cT : aNF) (w : aNE) : Prop :=
 aT pg CV #[cT] w fun c3 w =>
 aD pg (aI .eql 3 (.tmp 14) (.const (aNG 0)) c3 (aNG 0)) w fun c5 w =>
 gZ c5
  (R (.tuple #[(.slice none 0 0), (aNG 1)]) w)
  (kn cT c3 (.slice none 0 0) w)
theorem aaD (kn : K3) (R : K1) (hn : N3 Q kn 0 4 5) (hr : HR EM R Q) (h : C3 kn R (g 0) w) : bD pg dX (aF 4 dN) Q g w :=
 eL (l := []) h hn hr trivial
def Dj (R : K1) (cT : aNF) (w : aNE) : Prop :=
 C3 (fun cT mB aU w => LO R cT mB aU w) R cT w
theorem aeC (R : K1) (hr : HR EM R Q) (h : Dj R (g 0) w) : bD pg dX dN Q g w :=
 jA 4 (aaD _ g w (LO R) R (fun g w h => aJ (jA 1 (abC _ g w (KC R) (fun g w h => aJ (jA 2 (Z0 _ g w (Lf R) (fun g w h => aJ (jA 1 (abJ _ g w (F7 R) (fun g w h => aJ (alP _ g w R hr h)) h))) h))) h))) hr h)
def Wn (a0 : aNF) (w : aNE) (R : K1) : Prop :=
 Dj R a0 w
theorem SG {a0 : aNF} {w : aNE} {R : K1} (h : Wn a0 w R) : aT pg Av #[a0] w R := by
 refine uO (ann := dX) Tryz.f46 dN [a0] EM 66 TryzM.mixed Tryz.func46 ?_
 exact (aeC _ _ _ R (fun _ _ h => h) h)
def qN : FA := ⟨BM, fun i => .leaf ([], []) []⟩
def Ds : List ResultVar := [.tmp 6, .tmp 7]
noncomputable def pU : Code := dG Tryz.f47
def CX (R : K1) (b_8 iO : aNF) (w : aNE) : Prop :=
 aD pg (aL 133 b_8) w fun e9 w =>
 aT pg B4 #[e9] w fun f0 w =>
 aD pg (aI .lss 3 aM aM f0 (aNG 0)) w fun f2 w =>
 gZ f2
  (R (.tuple #[(.string ⟨#[]⟩), (aNG 11)]) w)
  (aD pg (aI .gtr 3 aM aM f0 (aNG 0)) w fun f4 w =>
  gZ f4
   (R (.tuple #[(.string ⟨#[]⟩), (aNG 15)]) w)
   (aD pg (jG 22 9 iO) w fun f6 w =>
   R (.tuple #[f6, (aNG 0)]) w))
theorem abU (R : K1) (hr : HR Ds R Q) (h : CX R (g 8) (g 10) w) : bD pg qN (aB 1 (aB 4 pU)) Q g w :=
 eL (kn := no) (l := []) h gT hr trivial
def Dp (kn : K5) (k0 : K2) (cR nM b_8 iO Bv : aNF) (w : aNE) : Prop :=
 aD pg (aI .lss 3 aM aM Bv nM) w fun d5 w =>
 gZ d5
  (aD pg (aL 133 b_8) w fun e0 w =>
  aT pg Qx #[cR, e0] w fun e1 w =>
  aD pg (bQ e1 0) w fun e2 w =>
  aD pg (bQ e1 1) w fun e3 w =>
  aD pg (fU 133) w fun aKe w =>
  aD pg (aR 133 aKe e2) w fun _u w =>
  aD pg (aL 133 aKe) w fun e4 w =>
  aD pg (aR 133 b_8 e4) w fun _u w =>
  aD pg (cV 22 1 [(0, e3)]) w fun e7 w =>
  aD pg (lG .append #[22, 22] 22 [iO, e7]) w fun e8 w =>
  aD pg (aI .add 3 aM aM Bv (aNG 1)) w fun d7 w =>
  kn cR nM b_8 e8 d7 w)
  (k0 b_8 iO w)
theorem aaZ (kn : K5) (k0 : K2) (hn : N5 Q kn 0 2 8 10 11) (h0 : E2 Q k0 0 8 10) (h : Dp kn k0 (g 0) (g 2) (g 8) (g 10) (g 11) w) : bD pg qN (bI (bI (aB 1 (aF 1 (aB 4 pU))))) Q g w :=
 eL (kr := no) (l := [(0, fun g w => k0 (g 8) (g 10) w)]) h hn gT ⟨h0, trivial⟩
def Ly (k0 : K2) (cR nM b_8 iO Bv : aNF) (w : aNE) : Prop :=
 cS (fun (X : (aNF × aNF) -> K0) (t : aNF × aNF) (w : aNE) => Dp (fun _ _ _ iO Bv w => X (iO, Bv) w) k0 cR nM b_8 t.1 t.2 w) (iO, Bv) w
theorem ZH (k0 : K2) (h0 : E2 Q k0 0 8 10) (h : Ly k0 (g 0) (g 2) (g 8) (g 10) (g 11) w) : bD pg qN (bI (aB 1 (aF 1 (aB 4 pU)))) Q g w := by
 refine CS (fun g : Env => (g 10, g 11)) (fun X t w => Dp (fun _ _ _ iO Bv w => X (iO, Bv) w) k0 (g 0) (g 2) (g 8) t.1 t.2 w) h (fun X g1 w1 ha hL => ?_)
 rw [<- jX 0 ha, <- jX 2 ha, <- jX 8 ha] at hL
 exact (aaZ _ g1 w1 (fun _ _ _ iO Bv w => X (iO, Bv) w) k0 (fun _ _ h => h) h0 hL)
def Ll (kn : K2) (cR nM b_8 iO Bv : aNF) (w : aNE) : Prop :=
 Ly kn cR nM b_8 iO Bv w
def J2 (kn : K5) (cR nM b_8 iO : aNF) (w : aNE) : Prop :=
 kn cR nM b_8 iO (aNG 0) w
theorem acY (kn : K5) (hn : N5 Q kn 0 2 8 10 11) (h : J2 kn (g 0) (g 2) (g 8) (g 10) w) : bD pg qN (aF 1 (aF 1 (aB 4 pU))) Q g w :=
 eL (kr := no) (l := []) h hn gT trivial
def Ku (kn : K2) (cR nM b_8 iO : aNF) (w : aNE) : Prop :=
 J2 (fun cR nM b_8 iO Bv w => Ll kn cR nM b_8 iO Bv w) cR nM b_8 iO w
def Kb (R : K1) (cR nM b_8 iO : aNF) (w : aNE) : Prop :=
 Ku (fun b_8 iO w => CX R b_8 iO w) cR nM b_8 iO w
theorem ZP (kn : K2) (hn : N2 Q kn 8 10) (h : Ku kn (g 0) (g 2) (g 8) (g 10) w) : bD pg qN (aF 1 (aB 4 pU)) Q g w :=
 jA 1 (acY _ g w (Ll kn) (fun g w h => aJ (wX 0 (ZH _ g w kn hn h))) h)
def LD (kn : K4) (R : K1) (cR s_1 nM : aNF) (w : aNE) : Prop :=
 aT pg EE #[s_1] w fun c7 w =>
 aD pg (bQ c7 0) w fun c8 w =>
 aD pg (bQ c7 1) w fun c9 w =>
 aD pg (fU 133) w fun b_8 w =>
 aD pg (aR 133 b_8 c8) w fun _u w =>
 aD pg (aI .neq 27 (.tmp 20) (.const (aNG 0)) c9 (aNG 0)) w fun d1 w =>
 gZ d1
  (R (.tuple #[(.string ⟨#[]⟩), c9]) w)
  (kn cR nM b_8 (.slice none 0 0) w)
theorem acP (kn : K4) (R : K1) (hn : N4 Q kn 0 2 8 10) (hr : HR Ds R Q) (h : LD kn R (g 0) (g 1) (g 2) w) : bD pg qN (aF 4 pU) Q g w :=
 eL (l := []) h hn hr trivial
def Lt (R : K1) (cR s_1 nM : aNF) (w : aNE) : Prop :=
 LD (fun cR nM b_8 iO w => Kb R cR nM b_8 iO w) R cR s_1 nM w
theorem adG (R : K1) (hr : HR Ds R Q) (h : Lt R (g 0) (g 1) (g 2) w) : bD pg qN pU Q g w :=
 jA 4 (acP _ g w (Kb R) R (fun g w h => aJ (jA 1 (ZP _ g w (CX R) (fun g w h => aJ (abU _ g w R hr h)) h))) hr h)
def aeY (a0 a1 a2 : aNF) (w : aNE) (R : K1) : Prop :=
 Lt R a0 a1 a2 w
theorem ajF {a0 a1 a2 : aNF} {w : aNE} {R : K1} (h : aeY a0 a1 a2 w R) : aT pg BM #[a0, a1, a2] w R := by
 refine uO (ann := qN) Tryz.f47 pU [a0, a1, a2] Ds 47 TryzM.mixed Tryz.func47 ?_
 exact (adG _ _ _ R (fun _ _ h => h) h)
def Qg : FA := ⟨Ah, fun i => .leaf ([], []) []⟩
def SB : List ResultVar := [.tmp 2]
noncomputable def PS : Code := dG Tryz.f48
def HB (R : K1) (cT : aNF) (w : aNE) : Prop :=
 aT pg Ao #[cT] w fun b8 w =>
 aD pg (bQ b8 0) w fun b9 w =>
 aD pg (bQ b8 1) w fun c0 w =>
 aD pg (sUn .not c0) w fun c2 w =>
 Gd (gJ c2 false) (fun K => K cT w) w fun c4 w =>
 Gd (gJ c2 false) (fun K => aD pg (lG .len #[22] 3 [c4]) w K) w fun c5 w =>
 Gd (gJ c2 false) (fun K => aD pg (aI .lss 3 aM aM c5 (aNG 2)) w K) w fun c6 w =>
 aD pg (iN c2 (.bool true) c6) w fun c7 w =>
 Gd (gJ c7 false) (fun K => K cT w) w fun c9 w =>
 Gd (gJ c7 false) (fun K => aD pg (lG .len #[22] 3 [c9]) w K) w fun d0 w =>
 Gd (gJ c7 false) (fun K => aD pg (aI .gtr 3 aM aM d0 (aNG 256)) w K) w fun d1 w =>
 aD pg (iN c7 (.bool true) d1) w fun d2 w =>
 Gd (gJ d2 false) (fun K => K cT w) w fun d4 w =>
 Gd (gJ d2 false) (fun K => K cT w) w fun d5 w =>
 Gd (gJ d2 false) (fun K => aD pg (lG .len #[22] 3 [d5]) w K) w fun d6 w =>
 Gd (gJ d2 false) (fun K => aD pg (aI .sub 3 aM aM d6 (aNG 1)) w K) w fun d7 w =>
 Gd (gJ d2 false) (fun K => aD pg (cI 22 d4 d7) w K) w fun d8 w =>
 Gd (gJ d2 false) (fun K => aD pg (aL 5 d8) w K) w fun d9 w =>
 Gd (gJ d2 false) (fun K => aD pg (aI .eql 5 (.tmp 29) (.const (.int .u8 0)) d9 (.int .u8 0)) w K) w fun e0 w =>
 aD pg (iN d2 (.bool true) e0) w fun e1 w =>
 Gd (gJ e1 false) (fun K => K b9 w) w fun e3 w =>
 Gd (gJ e1 false) (fun K => K b9 w) w fun e4 w =>
 Gd (gJ e1 false) (fun K => aD pg (aI .sub 3 aM aM e4 (aNG 1)) w K) w fun e5 w =>
 Gd (gJ e1 false) (fun K => aD pg (aI .and 3 aM aM e3 e5) w K) w fun e6 w =>
 Gd (gJ e1 false) (fun K => aD pg (aI .neq 3 (.tmp 36) (.const (aNG 0)) e6 (aNG 0)) w K) w fun e7 w =>
 aD pg (iN e1 (.bool true) e7) w fun e8 w =>
 gZ e8
  (R (aNG 0) w)
  (aD pg (jG 3 67 b9) w fun f0 w =>
  aT pg rZ #[f0] w fun f1 w =>
  aD pg (aI .sub 3 aM aM f1 (aNG 1)) w fun f2 w =>
  aD pg (aI .gtr 3 aM aM f2 (aNG 11)) w fun f4 w =>
  Gd (gJ f4 false) (fun K => K cT w) w fun f6 w =>
  Gd (gJ f4 false) (fun K => aT pg AO #[f6] w K) w fun f7 w =>
  Gd (gJ f4 false) (fun K => aD pg (jG 5 3 f7) w K) w fun f8 w =>
  Gd (gJ f4 false) (fun K => K f2 w) w fun f9 w =>
  Gd (gJ f4 false) (fun K => aD pg (aI .gtr 3 aM aM f8 f9) w K) w fun i0 w =>
  aD pg (iN f4 (.bool true) i0) w fun i1 w =>
  gZ i1
   (R (aNG 0) w)
   (R f2 w))
theorem Ya (R : K1) (hr : HR SB R Q) (h : HB R (g 0) w) : bD pg Qg PS Q g w :=
 eL (kn := no) (l := []) h gT hr trivial
def Zp (a0 : aNF) (w : aNE) (R : K1) : Prop :=
 HB R a0 w
theorem acX {a0 : aNF} {w : aNE} {R : K1} (h : Zp a0 w R) : aT pg Ah #[a0] w R := by
 refine uO (ann := Qg) Tryz.f48 PS [a0] SB 53 TryzM.mixed Tryz.func48 ?_
 exact (Ya _ _ _ R (fun _ _ h => h) h)
def US : FA := ⟨IX, fun i => .leaf ([], []) []⟩
def V6 : List ResultVar := [.tmp 4, .tmp 5]
noncomputable def Si : Code := dG Tryz.f49
def PF (R : K1) (cT cG : aNF) (w : aNE) : Prop :=
 aT pg tU #[cT] w fun c0 w =>
 aD pg (bQ c0 0) w fun c1 w =>
 aD pg (bQ c0 1) w fun c2 w =>
 aD pg (aI .neq 27 (.tmp 14) (.const (aNG 0)) c2 (aNG 0)) w fun c5 w =>
 gZ c5
  (R (.tuple #[(.slice none 0 0), c2]) w)
  (aD pg (lG .len #[22] 3 [cG]) w fun c9 w =>
  aD pg (aI .gtr 3 aM aM c9 (aNG 131072)) w fun d0 w =>
  gZ d0
   (R (.tuple #[(.slice none 0 0), (aNG 1)]) w)
   (aT pg mX #[c1, cG] w fun d3 w =>
   aD pg (bQ d3 0) w fun d4 w =>
   aD pg (bQ d3 1) w fun d5 w =>
   R (.tuple #[d4, d5]) w))
theorem afX (R : K1) (hr : HR V6 R Q) (h : PF R (g 0) (g 1) w) : bD pg US Si Q g w :=
 eL (kn := no) (l := []) h gT hr trivial
def arM (a0 a1 : aNF) (w : aNE) (R : K1) : Prop :=
 PF R a0 a1 w
theorem amU {a0 a1 : aNF} {w : aNE} {R : K1} (h : arM a0 a1 w R) : aT pg IX #[a0, a1] w R := by
 refine uO (ann := US) Tryz.f49 Si [a0, a1] V6 26 TryzM.mixed Tryz.func49 ?_
 exact (afX _ _ _ R (fun _ _ h => h) h)
def lP : FA := ⟨G3, fun i => .leaf ([], []) []⟩
def qG : List ResultVar := [.tmp 4, .tmp 5]
noncomputable def kR : Code := dG Tryz.f50
def Aj (R : K1) (sD jK : aNF) (w : aNE) : Prop :=
 aT pg sF #[sD, jK] w fun l3 w =>
 aT pg rP #[sD] w fun l5 w =>
 R (.tuple #[l5, (aNG 0)]) w
theorem Z1 (R : K1) (hr : HR qG R Q) (h : Aj R (g 10) (g 11) w) : bD pg lP (aB 1 (aB 7 kR)) Q g w :=
 eL (kn := no) (l := []) h gT hr trivial
def Al (kn : K6) (cG jN sD jK e8 e9 : aNF) (w : aNE) : Prop :=
 aD pg (aI .add 3 aM aM e9 (aNG 1)) w fun l0 w =>
 kn cG jN sD jK e8 l0 w
theorem acN (kn : K6) (hn : N6 Q kn 1 6 10 11 38 39) (h : Al kn (g 1) (g 6) (g 10) (g 11) (g 38) (g 39) w) : bD pg lP (aB 1 (aB 2 (bI (bI (aB 1 (aF 1 (aB 7 kR))))))) Q g w :=
 eL (kr := no) (l := []) h hn gT trivial
def Ad (kn : K6) (cG jN sD jK aHQ e8 e9 : aNF) (w : aNE) : Prop :=
 aD pg (lG .append #[22, 22] 22 [jK, aHQ]) w fun j9 w =>
 kn cG jN sD j9 e8 e9 w
theorem ZQ (kn : K6) (hn : N6 Q kn 1 6 10 11 38 39) (h : Ad kn (g 1) (g 6) (g 10) (g 11) (g 14) (g 38) (g 39) w) : bD pg lP (aB 5 (bI (aF 1 (aB 2 (bI (bI (aB 1 (aF 1 (aB 7 kR))))))))) Q g w :=
 eL (kr := no) (l := []) h hn gT trivial
def Lc (kn : K7) (R : K1) (cG jN sD jK e8 e9 : aNF) (w : aNE) : Prop :=
 aD pg (DX 73 e8 e9) w fun f2 w =>
 aD pg (lZ 22 cG none (some f2) none) w fun f7 w =>
 aT pg mX #[jN, f7] w fun f8 w =>
 aD pg (bQ f8 0) w fun f9 w =>
 aD pg (bQ f8 1) w fun i0 w =>
 aD pg (aI .neq 27 (.tmp 51) (.const (aNG 0)) i0 (aNG 0)) w fun i2 w =>
 gZ i2
  (R (.tuple #[(.slice none 0 0), i0]) w)
  (aD pg (lZ 22 cG (some f2) none none) w fun i6 w =>
  aD pg (aI .lss 3 aM aM e9 (aNG 3)) w fun i8 w =>
  gZ i8
   (aD pg (lG .len #[22] 3 [f9]) w fun j0 w =>
   aD pg (aI .geq 3 aM aM j0 (aNG 65536)) w fun j1 w =>
   gZ j1
    (R (.tuple #[(.slice none 0 0), (aNG 1)]) w)
    (aD pg (lG .len #[22] 3 [f9]) w fun j4 w =>
    aD pg (jG 3 24 j4) w fun j5 w =>
    aT pg lJ #[sD, j5, (aNG 2)] w fun j6 w =>
    kn i6 jN sD jK f9 e8 e9 w))
   (kn i6 jN sD jK f9 e8 e9 w))
theorem ZW (kn : K7) (R : K1) (hn : N7 Q kn 1 6 10 11 14 38 39) (hr : HR qG R Q) (h : Lc kn R (g 1) (g 6) (g 10) (g 11) (g 38) (g 39) w) : bD pg lP (aF 5 (bI (aF 1 (aB 2 (bI (bI (aB 1 (aF 1 (aB 7 kR))))))))) Q g w :=
 eL (l := []) h hn hr trivial
def Ux (kn : K6) (R : K1) (cG jN sD jK e8 e9 : aNF) (w : aNE) : Prop :=
 Lc (fun cG jN sD jK aHQ e8 e9 w => Ad kn cG jN sD jK aHQ e8 e9 w) R cG jN sD jK e8 e9 w
def KM (kn : K6) (R : K1) (cG jN sD jK e8 e9 : aNF) (w : aNE) : Prop :=
 Ux kn R cG jN sD jK e8 e9 w
def JH (kn : K6) (R : K1) (cG jN sD jK e8 e9 : aNF) (w : aNE) : Prop :=
 KM (fun cG jN sD jK e8 e9 w => Al kn cG jN sD jK e8 e9 w) R cG jN sD jK e8 e9 w
theorem abN (kn : K6) (R : K1) (hn : N6 Q kn 1 6 10 11 38 39) (hr : HR qG R Q) (h : KM kn R (g 1) (g 6) (g 10) (g 11) (g 38) (g 39) w) : bD pg lP (aF 1 (aB 2 (bI (bI (aB 1 (aF 1 (aB 7 kR))))))) Q g w :=
 wX 1 (jA 5 (ZW _ g w (Ad kn) R (fun g w h => aJ (ZQ _ g w kn hn h)) hr h))
def KA (kn : K6) (k0 : K2) (cG jN sD jK e8 e9 : aNF) (w : aNE) : Prop :=
 aD pg (aI .lss 3 aM aM e9 (aNG 4)) w fun f0 w =>
 gZ f0
  (kn cG jN sD jK e8 e9 w)
  (k0 sD jK w)
theorem acO (kn : K6) (k0 : K2) (hn : N6 Q kn 1 6 10 11 38 39) (h0 : E2 Q k0 0 10 11) (h : KA kn k0 (g 1) (g 6) (g 10) (g 11) (g 38) (g 39) w) : bD pg lP (aF 2 (bI (bI (aB 1 (aF 1 (aB 7 kR)))))) Q g w :=
 eL (kr := no) (l := [(0, fun g w => k0 (g 10) (g 11) w)]) h hn gT ⟨h0, trivial⟩
def DJ (kn : K6) (k0 : K2) (R : K1) (cG jN sD jK e8 e9 : aNF) (w : aNE) : Prop :=
 KA (fun cG jN sD jK e8 e9 w => JH kn R cG jN sD jK e8 e9 w) k0 cG jN sD jK e8 e9 w
def HP (k0 : K2) (R : K1) (cG jN sD jK e8 e9 : aNF) (w : aNE) : Prop :=
 cS (fun (X : (aNF × aNF × aNF) -> K0) (t : aNF × aNF × aNF) (w : aNE) => DJ (fun cG _ _ jK _ e9 w => X (cG, jK, e9) w) k0 R t.1 jN sD t.2.1 e8 t.2.2 w) (cG, jK, e9) w
theorem acR (kn : K6) (k0 : K2) (R : K1) (hn : N6 Q kn 1 6 10 11 38 39) (h0 : E2 Q k0 0 10 11) (hr : HR qG R Q) (h : DJ kn k0 R (g 1) (g 6) (g 10) (g 11) (g 38) (g 39) w) : bD pg lP (bI (bI (aB 1 (aF 1 (aB 7 kR))))) Q g w :=
 jA 2 (acO _ g w (JH kn R) k0 (fun g w h => aJ (jA 1 (abN _ g w (Al kn) R (fun g w h => aJ (acN _ g w kn hn h)) hr h))) h0 h)
theorem YO (k0 : K2) (R : K1) (h0 : E2 Q k0 0 10 11) (hr : HR qG R Q) (h : HP k0 R (g 1) (g 6) (g 10) (g 11) (g 38) (g 39) w) : bD pg lP (bI (aB 1 (aF 1 (aB 7 kR)))) Q g w := by
 refine CS (fun g : Env => (g 1, g 11, g 39)) (fun X t w => DJ (fun cG _ _ jK _ e9 w => X (cG, jK, e9) w) k0 R t.1 (g 6) (g 10) t.2.1 (g 38) t.2.2 w) h (fun X g1 w1 ha hL => ?_)
 rw [<- jX 6 ha, <- jX 10 ha, <- jX 38 ha] at hL
 exact (acR _ g1 w1 (fun cG _ _ jK _ e9 w => X (cG, jK, e9) w) k0 R (fun _ _ h => h) h0 hr hL)
def B0 (kn : K2) (R : K1) (cG jN sD jK e8 e9 : aNF) (w : aNE) : Prop :=
 HP kn R cG jN sD jK e8 e9 w
def H0 (kn : K6) (cG jN JZ sD jK : aNF) (w : aNE) : Prop :=
 aD pg (aL 73 JZ) w fun e8 w =>
 kn cG jN sD jK e8 (aNG 0) w
theorem YP (kn : K6) (hn : N6 Q kn 1 6 10 11 38 39) (h : H0 kn (g 1) (g 6) (g 8) (g 10) (g 11) w) : bD pg lP (aF 1 (aF 1 (aB 7 kR))) Q g w :=
 eL (kr := no) (l := []) h hn gT trivial
def HU (kn : K2) (R : K1) (cG jN JZ sD jK : aNF) (w : aNE) : Prop :=
 H0 (fun cG jN sD jK e8 e9 w => B0 kn R cG jN sD jK e8 e9 w) cG jN JZ sD jK w
def HO (R : K1) (cG jN JZ sD jK : aNF) (w : aNE) : Prop :=
 HU (fun sD jK w => Aj R sD jK w) R cG jN JZ sD jK w
theorem YF (kn : K2) (R : K1) (hn : N2 Q kn 10 11) (hr : HR qG R Q) (h : HU kn R (g 1) (g 6) (g 8) (g 10) (g 11) w) : bD pg lP (aF 1 (aB 7 kR)) Q g w :=
 jA 1 (YP _ g w (B0 kn R) (fun g w h => aJ (wX 0 (YO _ g w kn R hn hr h))) h)
def Is (kn : K5) (R : K1) (cT cG : aNF) (w : aNE) : Prop :=
 aT pg tU #[cT] w fun c8 w =>
 aD pg (bQ c8 0) w fun c9 w =>
 aD pg (bQ c8 1) w fun d0 w =>
 aD pg (aI .neq 27 (.tmp 21) (.const (aNG 0)) d0 (aNG 0)) w fun d2 w =>
 gZ d2
  (R (.tuple #[(.slice none 0 0), d0]) w)
  (aD pg (lG .len #[22] 3 [cG]) w fun d6 w =>
  aT pg FJ #[d6] w fun d7 w =>
  aD pg (bQ d7 0) w fun d8 w =>
  aD pg (bQ d7 1) w fun d9 w =>
  aD pg (fU 73) w fun JZ w =>
  aD pg (aR 73 JZ d8) w fun _u w =>
  aD pg (sUn .not d9) w fun e1 w =>
  Gd (gJ e1 false) (fun K => K cG w) w fun e3 w =>
  Gd (gJ e1 false) (fun K => aD pg (lG .len #[22] 3 [e3]) w K) w fun e4 w =>
  Gd (gJ e1 false) (fun K => aD pg (aI .gtr 3 aM aM e4 (aNG 131072)) w K) w fun e5 w =>
  aD pg (iN e1 (.bool true) e5) w fun e6 w =>
  gZ e6
   (R (.tuple #[(.slice none 0 0), (aNG 1)]) w)
   (aT pg sQ #[] w fun e7 w =>
   kn cG c9 JZ e7 (.slice none 0 0) w))
theorem YC (kn : K5) (R : K1) (hn : N5 Q kn 1 6 8 10 11) (hr : HR qG R Q) (h : Is kn R (g 0) (g 1) w) : bD pg lP (aF 7 kR) Q g w :=
 eL (l := []) h hn hr trivial
def HA (R : K1) (cT cG : aNF) (w : aNE) : Prop :=
 Is (fun cG jN JZ sD jK w => HO R cG jN JZ sD jK w) R cT cG w
theorem X0 (R : K1) (hr : HR qG R Q) (h : HA R (g 0) (g 1) w) : bD pg lP kR Q g w :=
 jA 7 (YC _ g w (HO R) R (fun g w h => aJ (jA 1 (YF _ g w (Aj R) R (fun g w h => aJ (Z1 _ g w R hr h)) hr h))) hr h)
def alZ (a0 a1 : aNF) (w : aNE) (R : K1) : Prop :=
 HA R a0 a1 w
theorem aiN {a0 a1 : aNF} {w : aNE} {R : K1} (h : alZ a0 a1 w R) : aT pg G3 #[a0, a1] w R := by
 refine uO (ann := lP) Tryz.f50 kR [a0, a1] qG 76 TryzM.mixed Tryz.func50 ?_
 exact (X0 _ _ _ R (fun _ _ h => h) h)
def rX : FA := ⟨nZ, fun i => .leaf ([], []) []⟩
def OU : List ResultVar := [.tmp 2]
noncomputable def qV : Code := dG Tryz.f51
def Fw (R : K1) (Bf : aNF) (w : aNE) : Prop :=
 R Bf w
theorem akN (R : K1) (hr : HR OU R Q) (h : Fw R (g 3) w) : bD pg rX (aB 1 (aB 2 qV)) Q g w :=
 eL (kn := no) (l := []) h gT hr trivial
def BN (kn : K3) (k0 : K1) (n_0 Bf lF : aNF) (w : aNE) : Prop :=
 aD pg (aI .lss 3 aM aM lF n_0) w fun b7 w =>
 Gd (gJ b7 true) (fun K => K lF w) w fun b9 w =>
 Gd (gJ b7 true) (fun K => aD pg (aI .lss 3 aM aM b9 (aNG 40)) w K) w fun c0 w =>
 aD pg (iN b7 c0 (.bool false)) w fun c1 w =>
 gZ c1
  (aD pg (aI .mul 3 aM aM Bf (aNG 2)) w fun c5 w =>
  aD pg (aI .add 3 aM aM lF (aNG 1)) w fun c3 w =>
  kn n_0 c5 c3 w)
  (k0 Bf w)
theorem afZ (kn : K3) (k0 : K1) (hn : N3 Q kn 0 3 4) (h0 : E1 Q k0 0 3) (h : BN kn k0 (g 0) (g 3) (g 4) w) : bD pg rX (bI (bI (aB 1 (aF 1 (aB 2 qV))))) Q g w :=
 eL (kr := no) (l := [(0, fun g w => k0 (g 3) w)]) h hn gT ⟨h0, trivial⟩
def PI (k0 : K1) (n_0 Bf lF : aNF) (w : aNE) : Prop :=
 cS (fun (X : (aNF × aNF) -> K0) (t : aNF × aNF) (w : aNE) => BN (fun _ Bf lF w => X (Bf, lF) w) k0 n_0 t.1 t.2 w) (Bf, lF) w
theorem aiP (k0 : K1) (h0 : E1 Q k0 0 3) (h : PI k0 (g 0) (g 3) (g 4) w) : bD pg rX (bI (aB 1 (aF 1 (aB 2 qV)))) Q g w := by
 refine CS (fun g : Env => (g 3, g 4)) (fun X t w => BN (fun _ Bf lF w => X (Bf, lF) w) k0 (g 0) t.1 t.2 w) h (fun X g1 w1 ha hL => ?_)
 rw [<- jX 0 ha] at hL
 exact (afZ _ g1 w1 (fun _ Bf lF w => X (Bf, lF) w) k0 (fun _ _ h => h) h0 hL)
def Na (kn : K1) (n_0 Bf lF : aNF) (w : aNE) : Prop :=
 PI kn n_0 Bf lF w
def MS (kn : K3) (n_0 Bf : aNF) (w : aNE) : Prop :=
 kn n_0 Bf (aNG 0) w
theorem alU (kn : K3) (hn : N3 Q kn 0 3 4) (h : MS kn (g 0) (g 3) w) : bD pg rX (aF 1 (aF 1 (aB 2 qV))) Q g w :=
 eL (kr := no) (l := []) h hn gT trivial
def MR (kn : K1) (n_0 Bf : aNF) (w : aNE) : Prop :=
 MS (fun n_0 Bf lF w => Na kn n_0 Bf lF w) n_0 Bf w
def OA (R : K1) (n_0 Bf : aNF) (w : aNE) : Prop :=
 MR (fun Bf w => Fw R Bf w) n_0 Bf w
theorem afT (kn : K1) (hn : N1 Q kn 3) (h : MR kn (g 0) (g 3) w) : bD pg rX (aF 1 (aB 2 qV)) Q g w :=
 jA 1 (alU _ g w (Na kn) (fun g w h => aJ (wX 0 (aiP _ g w kn hn h))) h)
def Nd (kn : K2) (n_0 : aNF) (w : aNE) : Prop :=
 kn n_0 (aNG 1) w
theorem agS (kn : K2) (hn : N2 Q kn 0 3) (h : Nd kn (g 0) w) : bD pg rX (aF 2 qV) Q g w :=
 eL (kr := no) (l := []) h hn gT trivial
def Oe (R : K1) (n_0 : aNF) (w : aNE) : Prop :=
 Nd (fun n_0 Bf w => OA R n_0 Bf w) n_0 w
theorem ahS (R : K1) (hr : HR OU R Q) (h : Oe R (g 0) w) : bD pg rX qV Q g w :=
 jA 2 (agS _ g w (OA R) (fun g w h => aJ (jA 1 (afT _ g w (Fw R) (fun g w h => aJ (akN _ g w R hr h)) h))) h)
def arO (a0 : aNF) (w : aNE) (R : K1) : Prop :=
 Oe R a0 w
theorem aoY {a0 : aNF} {w : aNE} {R : K1} (h : arO a0 w R) : aT pg nZ #[a0] w R := by
 refine uO (ann := rX) Tryz.f51 qV [a0] OU 17 TryzM.mixed Tryz.func51 ?_
 exact (ahS _ _ _ R (fun _ _ h => h) h)
def GK : FA := ⟨sX, fun i => .leaf ([], []) []⟩
def Hi : List ResultVar := [.tmp 6]
noncomputable def EA : Code := dG Tryz.f52
def AA (R : K1) (Ns lW aKk : aNF) (w : aNE) : Prop :=
 aD pg (vW Ns) w fun c0 w =>
 aD pg (aK 92 c0 1) w fun c1 w =>
 aD pg (aL 27 c1) w fun c2 w =>
 aD pg (aI .neq 27 (.tmp 12) (.const (aNG 0)) c2 (aNG 0)) w fun c3 w =>
 gZ c3
  (R (.slice none 0 0) w)
  (aD pg (sUn .not aKk) w fun c6 w =>
  gZ c6
   (aD pg (vW Ns) w fun c8 w =>
   aD pg (aK 92 c8 1) w fun c9 w =>
   aD pg (aR 27 c9 (aNG 1)) w fun _u w =>
   R (.slice none 0 0) w)
   (aD pg (vW Ns) w fun d3 w =>
   aD pg (aK 92 d3 0) w fun d4 w =>
   aD pg (aL 22 d4) w fun d5 w =>
   aD pg (lG .len #[22] 3 [d5]) w fun d6 w =>
   aD pg (aI .gtr 3 aM aM lW d6) w fun d7 w =>
   gZ d7
    (aD pg (vW Ns) w fun d9 w =>
    aD pg (aK 92 d9 1) w fun e0 w =>
    aD pg (aR 27 e0 (aNG 10)) w fun _u w =>
    R (.slice none 0 0) w)
    (aD pg (vW Ns) w fun e2 w =>
    aD pg (aK 92 e2 0) w fun e3 w =>
    aD pg (aL 22 e3) w fun e4 w =>
    aD pg (lZ 22 e4 none (some lW) (some lW)) w fun e7 w =>
    aD pg (vW Ns) w fun f0 w =>
    aD pg (aK 92 f0 0) w fun f1 w =>
    aD pg (aL 22 f1) w fun f2 w =>
    aD pg (lZ 22 f2 (some lW) none none) w fun f4 w =>
    aD pg (vW Ns) w fun f5 w =>
    aD pg (aK 92 f5 0) w fun f6 w =>
    aD pg (aR 22 f6 f4) w fun _u w =>
    R e7 w)))
theorem RN (R : K1) (hr : HR Hi R Q) (h : AA R (g 0) (g 1) (g 2) w) : bD pg GK EA Q g w :=
 eL (kn := no) (l := []) h gT hr trivial
def Pd (a0 a1 a2 : aNF) (w : aNE) (R : K1) : Prop :=
 AA R a0 a1 a2 w
theorem S0 {a0 a1 a2 : aNF} {w : aNE} {R : K1} (h : Pd a0 a1 a2 w R) : aT pg sX #[a0, a1, a2] w R := by
 refine uO (ann := GK) Tryz.f52 EA [a0, a1, a2] Hi 48 TryzM.mixed Tryz.func52 ?_
 exact (RN _ _ _ R (fun _ _ h => h) h)
def LZ : FA := ⟨Ba, fun i => .leaf ([], []) []⟩
def M0 : List ResultVar := [.tmp 4, .tmp 5]
noncomputable def Jm : Code := dG Tryz.f54
def DO (R : K1) (oJ y_1 : aNF) (w : aNE) : Prop :=
 aD pg (aI .and 24 aM aM oJ (.int .u64 4294967295)) w fun c5 w =>
 aD pg (aI .shr 24 aM aM oJ (.int .u64 32)) w fun c7 w =>
 aD pg (aI .and 24 aM aM y_1 (.int .u64 4294967295)) w fun c9 w =>
 aD pg (aI .shr 24 aM aM y_1 (.int .u64 32)) w fun d1 w =>
 aD pg (aI .mul 24 aM aM c5 c9) w fun d4 w =>
 aD pg (aI .mul 24 aM aM c7 c9) w fun d7 w =>
 aD pg (aI .shr 24 aM aM d4 (.int .u64 32)) w fun d9 w =>
 aD pg (aI .add 24 aM aM d7 d9) w fun e0 w =>
 aD pg (aI .and 24 aM aM e0 (.int .u64 4294967295)) w fun e2 w =>
 aD pg (aI .shr 24 aM aM e0 (.int .u64 32)) w fun e4 w =>
 aD pg (aI .mul 24 aM aM c5 d1) w fun e8 w =>
 aD pg (aI .add 24 aM aM e2 e8) w fun e9 w =>
 aD pg (aI .mul 24 aM aM c7 d1) w fun f2 w =>
 aD pg (aI .add 24 aM aM f2 e4) w fun f4 w =>
 aD pg (aI .shr 24 aM aM e9 (.int .u64 32)) w fun f6 w =>
 aD pg (aI .add 24 aM aM f4 f6) w fun f7 w =>
 aD pg (aI .mul 24 aM aM oJ y_1) w fun i0 w =>
 R (.tuple #[f7, i0]) w
theorem U4 (R : K1) (hr : HR M0 R Q) (h : DO R (g 0) (g 1) w) : bD pg LZ Jm Q g w :=
 eL (kn := no) (l := []) h gT hr trivial
def UR (a0 a1 : aNF) (w : aNE) (R : K1) : Prop :=
 DO R a0 a1 w
theorem XI {a0 a1 : aNF} {w : aNE} {R : K1} (h : UR a0 a1 w R) : aT pg Ba #[a0, a1] w R := by
 refine uO (ann := LZ) Tryz.f54 Jm [a0, a1] M0 51 TryzM.mixed Tryz.func54 ?_
 exact (U4 _ _ _ R (fun _ _ h => h) h)
def pH : FA := ⟨ID, fun i => match Nat.beq i 25 with | true => .leaf ([2, 3], [(0, 2)]) [(false, []), (false, []), (true, [1]), (true, []), (false, []), (false, [])] | false => .leaf ([], []) []⟩
def rL : List ResultVar := [.cell 6 100, .tmp 7, .tmp 8]
noncomputable def nY : Code := dG Tryz.f55
def Fs (R : K1) (b6 oQ fQ : aNF) (w : aNE) : Prop :=
 aD pg (aL 100 fQ) (dr w) fun o1 w_ => w_ = (dr w) /\
 (dr w) = (dr w) /\
 aT pg xP #[oQ] (dr w) fun o3 aJc =>
 (jJ pg (aL 100 fQ) o1 aJc /\ True) /\
 aD pg (aR 100 b6 o1) aJc fun _u3 aA5 =>
 aA5 = aA5 /\
 aA5 = aA5 /\
 An pg 100 b6 aA5 fun r0 => R (.tuple #[r0, o3, (aNG 0)]) aA5
theorem amB (R : K1) (hr : HR rL R Q) (h : Fs R (g 6) (g 9) (g 12) w) : bD pg pH (aB 1 (aB 7 nY)) Q g w :=
 eL (kn := no) (l := []) h gT hr trivial
def Bo (kn : K5) (R : K1) (aO b6 oQ fQ aX : aNF) (w : aNE) : Prop :=
 aD pg (aK 100 fQ 1) w fun n1 w =>
 aD pg (aL 42 n1) w fun n2 w =>
 aD pg (lG .len #[42] 3 [n2]) w fun n3 w =>
 aD pg (aI .gtr 3 aM aM n3 aO) w fun n5 w =>
 Gd (gJ n5 false) (fun K => K aX w) w fun n7 w =>
 Gd (gJ n5 false) (fun K => aD pg (aI .lss 3 aM aM n7 (aNG 0)) w K) w fun n8 w =>
 aD pg (iN n5 (.bool true) n8) w fun n9 w =>
 gZ n9
  (aD pg (fT 100 []) w fun o0 w =>
  aD pg (aR 100 b6 o0) w fun _u w =>
  An pg 100 b6 w fun r0 => R (.tuple #[r0, (aNG 0), (aNG 11)]) w)
  (kn aO b6 oQ fQ aX w)
theorem ahT (kn : K5) (R : K1) (hn : N5 Q kn 2 6 9 12 13) (hr : HR rL R Q) (h : Bo kn R (g 2) (g 6) (g 9) (g 12) (g 13) w) : bD pg pH (aB 6 (bI (aB 1 (bI (bI (aF 1 (aB 7 nY))))))) Q g w :=
 eL (l := []) h hn hr trivial
def Ni (kn : K5) (R : K1) (aO b6 oQ fQ aX : aNF) (w : aNE) : Prop :=
 aT pg F6 #[oQ, aX] w fun i2 w =>
 aD pg (bQ i2 0) w fun i3 w =>
 aD pg (bQ i2 1) w fun i4 w =>
 aD pg (aI .neq 27 (.tmp 55) (.const (aNG 0)) i4 (aNG 0)) w fun i6 w =>
 gZ i6
  (aD pg (fT 100 []) w fun i7 w =>
  aD pg (aR 100 b6 i7) w fun _u w =>
  An pg 100 b6 w fun r0 => R (.tuple #[r0, (aNG 0), i4]) w)
  (aD pg (aI .sub 3 aM aM i3 (aNG 1)) w fun j0 w =>
  aT pg yD #[j0] w fun j3 w =>
  aD pg (aI .sub 3 aM aM aX j3) w fun j4 w =>
  aD pg (aK 100 fQ 1) w fun j5 w =>
  aD pg (aL 42 j5) w fun j6 w =>
  aD pg (cV 42 1 [(0, j0)]) w fun j8 w =>
  aD pg (lG .append #[42, 42] 42 [j6, j8]) w fun j9 w =>
  aD pg (aK 100 fQ 1) w fun l0 w =>
  aD pg (aR 42 l0 j9) w fun _u w =>
  aD pg (aI .eql 3 (.tmp 71) (.const (aNG 0)) j0 (aNG 0)) w fun l2 w =>
  gZ l2
   (aT pg Cd #[oQ] w fun l5 w =>
   aD pg (bQ l5 0) w fun l6 w =>
   aD pg (bQ l5 1) w fun l7 w =>
   aD pg (aI .neq 27 (.tmp 78) (.const (aNG 0)) l7 (aNG 0)) w fun l9 w =>
   gZ l9
    (aD pg (fT 100 []) w fun m0 w =>
    aD pg (aR 100 b6 m0) w fun _u w =>
    An pg 100 b6 w fun r0 => R (.tuple #[r0, (aNG 0), l7]) w)
    (aD pg (aI .gtr 3 aM aM l6 aO) w fun m4 w =>
    gZ m4
     (aD pg (fT 100 []) w fun m5 w =>
     aD pg (aR 100 b6 m5) w fun _u w =>
     An pg 100 b6 w fun r0 => R (.tuple #[r0, (aNG 0), (aNG 11)]) w)
     (aD pg (aK 100 fQ 1) w fun m6 w =>
     aD pg (aL 42 m6) w fun m7 w =>
     aD pg (lG .append #[42, 3] 42 [m7, l6]) w fun m9 w =>
     aD pg (aK 100 fQ 1) w fun n0 w =>
     aD pg (aR 42 n0 m9) w fun _u w =>
     kn aO b6 oQ fQ j4 w)))
   (kn aO b6 oQ fQ j4 w))
theorem afI (kn : K5) (R : K1) (hn : N5 Q kn 2 6 9 12 13) (hr : HR rL R Q) (h : Ni kn R (g 2) (g 6) (g 9) (g 12) (g 13) w) : bD pg pH (aF 6 (bI (aB 1 (bI (bI (aF 1 (aB 7 nY))))))) Q g w :=
 eL (l := []) h hn hr trivial
def XF (kn : K5) (R : K1) (aO b6 oQ fQ aX : aNF) (w : aNE) : Prop :=
 Ni (fun aO b6 oQ fQ aX w => Bo kn R aO b6 oQ fQ aX w) R aO b6 oQ fQ aX w
def NN (kn : K5) (R : K1) (aO b6 oQ fQ aX : aNF) (w : aNE) : Prop :=
 XF kn R aO b6 oQ fQ aX w
def No (kn : K5) (k0 : K3) (aO b6 oQ fQ aX : aNF) (w : aNE) : Prop :=
 aD pg (aI .gtr 3 aM aM aX (aNG 0)) w fun f8 w =>
 gZ f8
  (kn aO b6 oQ fQ aX w)
  (k0 b6 oQ fQ w)
theorem ajP (kn : K5) (k0 : K3) (hn : N5 Q kn 2 6 9 12 13) (h0 : E3 Q k0 0 6 9 12) (h : No kn k0 (g 2) (g 6) (g 9) (g 12) (g 13) w) : bD pg pH (aF 1 (bI (bI (aF 1 (aB 7 nY))))) Q g w :=
 eL (kr := no) (l := [(0, fun g w => k0 (g 6) (g 9) (g 12) w)]) h hn gT ⟨h0, trivial⟩
def F3 (kn : K5) (k0 : K3) (R : K1) (aO b6 oQ fQ aX : aNF) (w : aNE) : Prop :=
 No (fun aO b6 oQ fQ aX w => NN kn R aO b6 oQ fQ aX w) k0 aO b6 oQ fQ aX w
def O3 (k0 : K3) (R : K1) (aO b6 oQ fQ aX : aNF) (w : aNE) : Prop :=
 cS (fun (X : aNF -> K0) (t : aNF) (w : aNE) => F3 (fun _ _ _ _ aX w => X aX w) k0 R aO b6 oQ fQ t w) aX w
theorem akB (kn : K5) (k0 : K3) (R : K1) (hn : N5 Q kn 2 6 9 12 13) (h0 : E3 Q k0 0 6 9 12) (hr : HR rL R Q) (h : F3 kn k0 R (g 2) (g 6) (g 9) (g 12) (g 13) w) : bD pg pH (bI (bI (aF 1 (aB 7 nY)))) Q g w :=
 jA 1 (ajP _ g w (NN kn R) k0 (fun g w h => aJ (wX 1 (jA 6 (afI _ g w (Bo kn R) R (fun g w h => aJ (ahT _ g w kn R hn hr h)) hr h)))) h0 h)
theorem aiI (k0 : K3) (R : K1) (h0 : E3 Q k0 0 6 9 12) (hr : HR rL R Q) (h : O3 k0 R (g 2) (g 6) (g 9) (g 12) (g 13) w) : bD pg pH (bI (aF 1 (aB 7 nY))) Q g w := by
 refine CS (fun g : Env => g 13) (fun X t w => F3 (fun _ _ _ _ aX w => X aX w) k0 R (g 2) (g 6) (g 9) (g 12) t w) h (fun X g1 w1 ha hL => ?_)
 rw [<- jX 2 ha, <- jX 6 ha, <- jX 9 ha, <- jX 12 ha] at hL
 exact (akB _ g1 w1 (fun _ _ _ _ aX w => X aX w) k0 R (fun _ _ h => h) h0 hr hL)
def OH (kn : K3) (R : K1) (aO b6 oQ fQ aX : aNF) (w : aNE) : Prop :=
 O3 kn R aO b6 oQ fQ aX w
def DB (R : K1) (aO b6 oQ fQ aX : aNF) (w : aNE) : Prop :=
 OH (fun b6 oQ fQ w => Fs R b6 oQ fQ w) R aO b6 oQ fQ aX w
theorem ahF (kn : K3) (R : K1) (hn : N3 Q kn 6 9 12) (hr : HR rL R Q) (h : OH kn R (g 2) (g 6) (g 9) (g 12) (g 13) w) : bD pg pH (aF 1 (aB 7 nY)) Q g w :=
 wX 0 (aiI _ g w kn R hn hr h)
def Kk (kn : K5) (R : K1) (dY MQ aO : aNF) (w : aNE) : Prop :=
 aD pg (fU 100) w fun b6 w =>
 aT pg Bd #[dY] w fun d0 w =>
 aT pg pQ #[d0, (aNG 4)] w fun d3 w =>
 aD pg (bQ d3 0) w fun d4 w =>
 aD pg (bQ d3 1) w fun d5 w =>
 aD pg (aI .neq 27 (.tmp 26) (.const (aNG 0)) d5 (aNG 0)) w fun d7 w =>
 gZ d7
  (aD pg (fT 100 []) w fun d8 w =>
  aD pg (aR 100 b6 d8) w fun _u w =>
  An pg 100 b6 w fun r0 => R (.tuple #[r0, (aNG 0), d5]) w)
  (aD pg (jG 24 3 d4) w fun e1 w =>
  aD pg (aI .add 3 aM aM e1 (aNG 5)) w fun e2 w =>
  aD pg (fT 100 [(0, e2)]) w fun e3 w =>
  aD pg (fU 100) w fun fQ w =>
  aD pg (aR 100 fQ e3) w fun _u w =>
  aD pg (aK 100 fQ 0) w fun e4 w =>
  aD pg (aL 3 e4) w fun e5 w =>
  aD pg (aI .gtr 3 aM aM e5 MQ) w fun e7 w =>
  Gd (gJ e7 false) (fun K => aD pg (aK 100 fQ 0) w K) w fun e9 w =>
  Gd (gJ e7 false) (fun K => aD pg (aL 3 e9) w K) w fun f0 w =>
  Gd (gJ e7 false) (fun K => aD pg (aI .gtr 3 aM aM f0 (aNG 15)) w K) w fun f1 w =>
  aD pg (iN e7 (.bool true) f1) w fun f2 w =>
  gZ f2
   (aD pg (fT 100 []) w fun f3 w =>
   aD pg (aR 100 b6 f3) w fun _u w =>
   An pg 100 b6 w fun r0 => R (.tuple #[r0, (aNG 0), (aNG 12)]) w)
   (aD pg (aK 100 fQ 0) w fun f4 w =>
   aD pg (aL 3 f4) w fun f5 w =>
   aD pg (aI .shl 3 aM aM (aNG 1) f5) w fun f6 w =>
   kn aO b6 d0 fQ f6 w))
theorem abY (kn : K5) (R : K1) (hn : N5 Q kn 2 6 9 12 13) (hr : HR rL R Q) (h : Kk kn R (g 0) (g 1) (g 2) w) : bD pg pH (aF 7 nY) Q g w :=
 eL (l := []) h hn hr trivial
def Ld (R : K1) (dY MQ aO : aNF) (w : aNE) : Prop :=
 Kk (fun aO b6 oQ fQ aX w => DB R aO b6 oQ fQ aX w) R dY MQ aO w
theorem acF (R : K1) (hr : HR rL R Q) (h : Ld R (g 0) (g 1) (g 2) w) : bD pg pH nY Q g w :=
 jA 7 (abY _ g w (DB R) R (fun g w h => aJ (jA 1 (ahF _ g w (Fs R) R (fun g w h => aJ (amB _ g w R hr h)) hr h))) hr h)
def asG (a0 a1 a2 : aNF) (w : aNE) (R : K1) : Prop :=
 Ld R a0 a1 a2 w
theorem aoH {a0 a1 a2 : aNF} {w : aNE} {R : K1} (h : asG a0 a1 a2 w R) : aT pg ID #[a0, a1, a2] w R := by
 refine uO (ann := pH) Tryz.f55 nY [a0, a1, a2] rL 104 TryzM.mixed Tryz.func55 ?_
 exact (acF _ _ _ R (fun _ _ h => h) h)
def Jg : FA := ⟨sI, fun i => match Nat.beq i 3 with | true => .leaf ([1, 12, 16], [(1, 3), (1, 4), (1, 5), (1, 8), (1, 9), (1, 10), (1, 11), (3, 12), (4, 12), (5, 12)]) [(false, []), (true, []), (false, []), (false, [1]), (false, [2]), (false, [3]), (false, []), (false, []), (false, [6]), (false, [7]), (false, [8]), (false, [9]), (true, [6, 7, 8]), (false, []), (false, []), (false, []), (true, []), (false, []), (false, [])] | false => .leaf ([], []) []⟩
def Mb : List ResultVar := [.tmp 2, .tmp 3]
noncomputable def Hb : Code := dG Tryz.f56
def xN (R : K1) (dY : aNF) (w : aNE) : Prop :=
 aD pg (lG .len #[22] 3 [dY]) w fun b5 w =>
 aD pg (aI .eql 3 (.tmp 5) (.const (aNG 0)) b5 (aNG 0)) w fun b6 w =>
 Gd (gJ b6 false) (fun K => K dY w) w fun b8 w =>
 Gd (gJ b6 false) (fun K => K dY w) w fun b9 w =>
 Gd (gJ b6 false) (fun K => aD pg (lG .len #[22] 3 [b9]) w K) w fun c0 w =>
 Gd (gJ b6 false) (fun K => aD pg (aI .sub 3 aM aM c0 (aNG 1)) w K) w fun c1 w =>
 Gd (gJ b6 false) (fun K => aD pg (cI 22 b8 c1) w K) w fun c2 w =>
 Gd (gJ b6 false) (fun K => aD pg (aL 5 c2) w K) w fun c3 w =>
 Gd (gJ b6 false) (fun K => aD pg (aI .eql 5 (.tmp 13) (.const (.int .u8 0)) c3 (.int .u8 0)) w K) w fun c4 w =>
 aD pg (iN b6 (.bool true) c4) w fun c5 w =>
 gZ c5
  (R (.tuple #[(.pointer none), (aNG 11)]) w)
  ((dr w) = (dr w) /\
  aT pg jS #[dY] (dr w) fun c7 Sc =>
  Sc = Sc /\
  aD pg (lG .len #[22] 3 [dY]) Sc fun c9 w_ => w_ = Sc /\
  (jJ pg (lG .len #[22] 3 [dY]) c9 (dr w) /\ True) /\
  aD pg (aI .sub 3 aM aM c9 (aNG 1)) Sc fun d0 w_ => w_ = Sc /\
  (jJ pg (aI .sub 3 aM aM c9 (aNG 1)) d0 (dr w) /\ True) /\
  aD pg (aI .mul 3 aM aM (aNG 8) d0) Sc fun d1 w_ => w_ = Sc /\
  (jJ pg (aI .mul 3 aM aM (aNG 8) d0) d1 (dr w) /\ True) /\
  Sc = Sc /\
  Sc = Sc /\
  aD pg (lG .len #[22] 3 [dY]) Sc fun d4 w_ => w_ = Sc /\
  (jJ pg (lG .len #[22] 3 [dY]) d4 (dr w) /\ True) /\
  aD pg (aI .sub 3 aM aM d4 (aNG 1)) Sc fun d5 w_ => w_ = Sc /\
  (jJ pg (aI .sub 3 aM aM d4 (aNG 1)) d5 (dr w) /\ True) /\
  aD pg (cI 22 dY d5) Sc fun d6 w_ => w_ = Sc /\
  (jJ pg (cI 22 dY d5) d6 (dr w) /\ True) /\
  aD pg (aL 5 d6) Sc fun d7 w_ => w_ = Sc /\
  (jJ pg (aL 5 d6) d7 (dr w) /\ True) /\
  aT pg Cb #[d7] Sc fun d8 Cr =>
  (jJ pg (aI .mul 3 aM aM (aNG 8) d0) d1 Cr /\ jJ pg (aI .sub 3 aM aM c9 (aNG 1)) d0 Cr /\ jJ pg (lG .len #[22] 3 [dY]) c9 Cr /\ True) /\
  aD pg (aI .add 3 aM aM d1 d8) Cr fun d9 w_ => w_ = Cr /\
  aD pg (aI .sub 3 aM aM d9 (aNG 1)) Cr fun e0 w_ => w_ = Cr /\
  aD pg (fT 165 [(0, c7), (1, e0)]) Cr fun e1 w_ => w_ = Cr /\
  aD pg (B5 165 e1) Cr fun e2 aCC =>
  aCC = aCC /\
  aCC = aCC /\
  R (.tuple #[e2, (aNG 0)]) aCC)
theorem Ua (R : K1) (hr : HR Mb R Q) (h : xN R (g 0) w) : bD pg Jg Hb Q g w :=
 eL (kn := no) (l := []) h gT hr trivial
def Ih (a0 : aNF) (w : aNE) (R : K1) : Prop :=
 xN R a0 w
theorem Hg {a0 : aNF} {w : aNE} {R : K1} (h : Ih a0 w R) : aT pg sI #[a0] w R := by
 refine uO (ann := Jg) Tryz.f56 Hb [a0] Mb 33 TryzM.mixed Tryz.func56 ?_
 exact (Ua _ _ _ R (fun _ _ h => h) h)
def kJ : FA := ⟨Jf, fun i => match Nat.beq i 3 with | true => .split 3 5 (.perm [0, 1, 2, 3, 4, 5, 6] [(3, 5)] ([3, 5, 6], [(0, 3), (0, 5), (1, 3), (1, 5), (4, 5)]) [(false, []), (false, []), (false, []), (true, [1, 2]), (false, []), (true, [0, 3, 4]), (true, [])]) (.perm [0, 1, 2, 5, 3, 4, 6] [(5, 3)] ([3, 4, 6], [(0, 3), (0, 4), (1, 3), (1, 4), (2, 3)]) [(false, []), (false, []), (false, []), (true, [0, 1, 2]), (true, [2, 3]), (false, []), (true, [])]) | false => match Nat.beq i 16 with | true => .leaf ([5, 10], [(1, 5), (2, 5)]) [(false, []), (false, []), (false, []), (false, []), (false, []), (true, [2, 3]), (false, []), (false, []), (false, []), (false, []), (true, [])] | false => match Nat.beq i 17 with | true => .leaf ([13], []) [(false, []), (false, []), (false, []), (false, []), (false, []), (false, []), (false, []), (false, []), (false, []), (false, []), (false, []), (false, []), (false, []), (true, [])] | false => .leaf ([], []) []⟩
def Mr : List ResultVar := [.cell 2 108, .tmp 3]
noncomputable def jF : Code := dG Tryz.f57
def Mt (R : K1) (b2 b4 : aNF) (w : aNE) : Prop :=
 aD pg (aL 108 b4) w fun n0 w =>
 aD pg (aR 108 b2 n0) w fun _u w =>
 An pg 108 b2 w fun r0 => R (.tuple #[r0, (aNG 0)]) w
theorem atU (R : K1) (hr : HR Mr R Q) (h : Mt R (g 2) (g 4) w) : bD pg kJ (aB 1 (aB 1 (aB 1 (aB 3 jF)))) Q g w :=
 eL (kn := no) (l := []) h gT hr trivial
def Mg (kn : K6) (cC b2 b4 fV f2 f3 : aNF) (w : aNE) : Prop :=
 aD pg (aI .add 3 aM aM f3 (aNG 1)) w fun m9 w =>
 kn cC b2 b4 fV f2 m9 w
theorem atN (kn : K6) (hn : N6 Q kn 1 2 4 5 42 43) (h : Mg kn (g 1) (g 2) (g 4) (g 5) (g 42) (g 43) w) : bD pg kJ (aB 1 (aB 2 (bI (bI (aB 1 (aF 1 (aB 1 (aB 1 (aB 3 jF))))))))) Q g w :=
 eL (kr := no) (l := []) h hn gT trivial
def Mz (kn : K6) (cC b2 b4 fV x_9 qJ f2 f3 : aNF) (w : aNE) : Prop :=
 (dr w) = (dr w) /\
 (dr w) = (dr w) /\
 (dr w) = (dr w) /\
 aD pg (vW x_9) (dr w) fun l9 w_ => w_ = (dr w) /\
 aD pg (aK 115 l9 1) (dr w) fun m0 w_ => w_ = (dr w) /\
 aD pg (aL 3 m0) (dr w) fun m1 w_ => w_ = (dr w) /\
 aD pg (aI .shl 3 aM aM qJ m1) (dr w) fun m2 w_ => w_ = (dr w) /\
 aD pg (aK 108 b4 1) (dr w) fun m3 w_ => w_ = (dr w) /\
 aD pg (aL 106 m3) (dr w) fun m4 w_ => w_ = (dr w) /\
 aD pg (lG .len #[106] 3 [m4]) (dr w) fun m5 w_ => w_ = (dr w) /\
 aD pg (aI .sub 3 aM aM m2 m5) (dr w) fun m6 w_ => w_ = (dr w) /\
 aD pg (vW x_9) (dr w) fun m7 w_ => w_ = (dr w) /\
 aD pg (aK 115 m7 2) (dr w) fun m8 w_ => w_ = (dr w) /\
 aD pg (aR 3 m8 m6) (dr w) fun _u13 aJt =>
 kn cC b2 b4 fV f2 f3 aJt
theorem auH (kn : K6) (hn : N6 Q kn 1 2 4 5 42 43) (h : Mz kn (g 1) (g 2) (g 4) (g 5) (g 9) (g 10) (g 42) (g 43) w) : bD pg kJ (aB 1 (aB 4 (bI (aF 1 (aB 2 (bI (bI (aB 1 (aF 1 (aB 1 (aB 1 (aB 3 jF)))))))))))) Q g w :=
 eL (kr := no) (l := []) h hn gT trivial
def TS (kn : K8) (cC b2 b4 fV x_9 qJ f2 f3 : aNF) (w : aNE) : Prop :=
 (dr w) = (dr w) /\
 aD pg (aK 100 cC 0) (dr w) fun j7 w_ => w_ = (dr w) /\
 aD pg (aL 3 j7) (dr w) fun j8 w_ => w_ = (dr w) /\
 (dr w) = (dr w) /\
 aD pg (jG 3 67 qJ) (dr w) fun l0 w_ => w_ = (dr w) /\
 aT pg rZ #[l0] (dr w) fun l1 Ab =>
 (jJ pg (aL 3 j7) j8 Ab /\ jJ pg (aK 100 cC 0) j7 Ab /\ True) /\
 aD pg (aI .sub 3 aM aM j8 l1) Ab fun l2 w_ => w_ = Ab /\
 aD pg (aI .add 3 aM aM l2 (aNG 1)) Ab fun l3 w_ => w_ = Ab /\
 aD pg (vW x_9) Ab fun l4 w_ => w_ = Ab /\
 aD pg (aK 115 l4 1) Ab fun l5 w_ => w_ = Ab /\
 aD pg (aR 3 l5 l3) Ab fun _u10 aJK =>
 kn cC b2 b4 fV x_9 qJ f2 f3 aJK
theorem atL (kn : K8) (hn : N8 Q kn 1 2 4 5 9 10 42 43) (h : TS kn (g 1) (g 2) (g 4) (g 5) (g 9) (g 10) (g 42) (g 43) w) : bD pg kJ (aF 1 (aB 4 (bI (aF 1 (aB 2 (bI (bI (aB 1 (aF 1 (aB 1 (aB 1 (aB 3 jF)))))))))))) Q g w :=
 eL (kr := no) (l := []) h hn gT trivial
def TK (kn : K6) (cC b2 b4 fV x_9 qJ f2 f3 : aNF) (w : aNE) : Prop :=
 TS (fun cC b2 b4 fV x_9 qJ f2 f3 w => Mz kn cC b2 b4 fV x_9 qJ f2 f3 w) cC b2 b4 fV x_9 qJ f2 f3 w
def T2 (kn : K8) (cC b2 b4 fV f2 f3 : aNF) (w : aNE) : Prop :=
 aD pg (aK 108 b4 1) w fun f6 w =>
 aD pg (aL 106 f6) w fun f7 w =>
 aD pg (cI 106 f7 f3) w fun f9 w =>
 aD pg (vW f9) w fun i2 w =>
 aD pg (aK 115 i2 0) w fun i3 w =>
 aD pg (aL 5 i3) w fun i4 w =>
 aD pg (cI 42 fV i4) w fun i5 w =>
 aD pg (aL 3 i5) w fun i6 w =>
 aD pg (vW f9) w fun i9 w =>
 aD pg (aK 115 i9 0) w fun j0 w =>
 aD pg (aL 5 j0) w fun j1 w =>
 aD pg (cI 42 fV j1) w fun j2 w =>
 aD pg (aL 3 j2) w fun j3 w =>
 aD pg (aI .add 3 aM aM j3 (aNG 1)) w fun j4 w =>
 aD pg (cI 42 fV j1) w fun j5 w =>
 aD pg (aR 3 j5 j4) w fun _u w =>
 kn cC b2 b4 fV f9 i6 f2 f3 w
theorem auA (kn : K8) (hn : N8 Q kn 1 2 4 5 9 10 42 43) (h : T2 kn (g 1) (g 2) (g 4) (g 5) (g 42) (g 43) w) : bD pg kJ (aF 4 (bI (aF 1 (aB 2 (bI (bI (aB 1 (aF 1 (aB 1 (aB 1 (aB 3 jF))))))))))) Q g w :=
 eL (kr := no) (l := []) h hn gT trivial
def alG (kn : K6) (cC b2 b4 fV f2 f3 : aNF) (w : aNE) : Prop :=
 T2 (fun cC b2 b4 fV x_9 qJ f2 f3 w => TK kn cC b2 b4 fV x_9 qJ f2 f3 w) cC b2 b4 fV f2 f3 w
def T5 (kn : K6) (cC b2 b4 fV f2 f3 : aNF) (w : aNE) : Prop :=
 alG kn cC b2 b4 fV f2 f3 w
def MG (kn : K6) (cC b2 b4 fV f2 f3 : aNF) (w : aNE) : Prop :=
 T5 (fun cC b2 b4 fV f2 f3 w => Mg kn cC b2 b4 fV f2 f3 w) cC b2 b4 fV f2 f3 w
theorem atH (kn : K6) (hn : N6 Q kn 1 2 4 5 42 43) (h : T5 kn (g 1) (g 2) (g 4) (g 5) (g 42) (g 43) w) : bD pg kJ (aF 1 (aB 2 (bI (bI (aB 1 (aF 1 (aB 1 (aB 1 (aB 3 jF))))))))) Q g w :=
 wX 3 (jA 4 (auA _ g w (TK kn) (fun g w h => aJ (jA 1 (atL _ g w (Mz kn) (fun g w h => aJ (auH _ g w kn hn h)) h))) h))
def RL (kn : K6) (k2 : K2) (cC b2 b4 fV f2 f3 : aNF) (w : aNE) : Prop :=
 aD pg (aI .lss 3 aM aM f3 f2) w fun f4 w =>
 gZ f4
  (kn cC b2 b4 fV f2 f3 w)
  (k2 b2 b4 w)
theorem anS (kn : K6) (k2 : K2) (hn : N6 Q kn 1 2 4 5 42 43) (h2 : E2 Q k2 2 2 4) (h : RL kn k2 (g 1) (g 2) (g 4) (g 5) (g 42) (g 43) w) : bD pg kJ (aF 2 (bI (bI (aB 1 (aF 1 (aB 1 (aB 1 (aB 3 jF)))))))) Q g w :=
 eL (kr := no) (l := [(2, fun g w => k2 (g 2) (g 4) w)]) h hn gT ⟨h2, trivial⟩
def I0 (kn : K6) (k2 : K2) (cC b2 b4 fV f2 f3 : aNF) (w : aNE) : Prop :=
 RL (fun cC b2 b4 fV f2 f3 w => MG kn cC b2 b4 fV f2 f3 w) k2 cC b2 b4 fV f2 f3 w
def Ra (k2 : K2) (cC b2 b4 fV f2 f3 : aNF) (w : aNE) : Prop :=
 cS (fun (X : aNF -> K0) (t : aNF) (w : aNE) => I0 (fun _ _ _ _ _ f3 w => X f3 w) k2 cC b2 b4 fV f2 t w) f3 w
theorem anP (kn : K6) (k2 : K2) (hn : N6 Q kn 1 2 4 5 42 43) (h2 : E2 Q k2 2 2 4) (h : I0 kn k2 (g 1) (g 2) (g 4) (g 5) (g 42) (g 43) w) : bD pg kJ (bI (bI (aB 1 (aF 1 (aB 1 (aB 1 (aB 3 jF))))))) Q g w :=
 jA 2 (anS _ g w (MG kn) k2 (fun g w h => aJ (jA 1 (atH _ g w (Mg kn) (fun g w h => aJ (atN _ g w kn hn h)) h))) h2 h)
theorem apY (k2 : K2) (h2 : E2 Q k2 2 2 4) (h : Ra k2 (g 1) (g 2) (g 4) (g 5) (g 42) (g 43) w) : bD pg kJ (bI (aB 1 (aF 1 (aB 1 (aB 1 (aB 3 jF)))))) Q g w := by
 refine CS (fun g : Env => g 43) (fun X t w => I0 (fun _ _ _ _ _ f3 w => X f3 w) k2 (g 1) (g 2) (g 4) (g 5) (g 42) t w) h (fun X g1 w1 ha hL => ?_)
 rw [<- jX 1 ha, <- jX 2 ha, <- jX 4 ha, <- jX 5 ha, <- jX 42 ha] at hL
 exact (anP _ g1 w1 (fun _ _ _ _ _ f3 w => X f3 w) k2 (fun _ _ h => h) h2 hL)
def Rh (kn : K2) (cC b2 b4 fV f2 f3 : aNF) (w : aNE) : Prop :=
 Ra kn cC b2 b4 fV f2 f3 w
def QY (kn : K6) (cC b2 b4 fV : aNF) (w : aNE) : Prop :=
 aD pg (aK 108 b4 1) w fun f0 w =>
 aD pg (aL 106 f0) w fun f1 w =>
 aD pg (lG .len #[106] 3 [f1]) w fun f2 w =>
 kn cC b2 b4 fV f2 (aNG 0) w
theorem aqG (kn : K6) (hn : N6 Q kn 1 2 4 5 42 43) (h : QY kn (g 1) (g 2) (g 4) (g 5) w) : bD pg kJ (aF 1 (aF 1 (aB 1 (aB 1 (aB 3 jF))))) Q g w :=
 eL (kr := no) (l := []) h hn gT trivial
def Rp (kn : K2) (cC b2 b4 fV : aNF) (w : aNE) : Prop :=
 QY (fun cC b2 b4 fV f2 f3 w => Rh kn cC b2 b4 fV f2 f3 w) cC b2 b4 fV w
def I4 (R : K1) (cC b2 b4 fV : aNF) (w : aNE) : Prop :=
 Rp (fun b2 b4 w => Mt R b2 b4 w) cC b2 b4 fV w
theorem aqN (kn : K2) (hn : N2 Q kn 2 4) (h : Rp kn (g 1) (g 2) (g 4) (g 5) w) : bD pg kJ (aF 1 (aB 1 (aB 1 (aB 3 jF)))) Q g w :=
 jA 1 (aqG _ g w (Rh kn) (fun g w h => aJ (wX 2 (apY _ g w kn hn h))) h)
def CW (kn : K7) (k0 : K4) (cC b2 b4 fV d5 d6 d7 : aNF) (w : aNE) : Prop :=
 aD pg (aI .lss 3 aM aM d7 d6) w fun d8 w =>
 gZ d8
  (aD pg (cI 42 d5 d7) w fun e0 w =>
  aD pg (aL 3 e0) w fun e1 w =>
  aD pg (sUn .neg e1) w fun e6 w =>
  aD pg (lG .max #[3, 3] 3 [e1, e6]) w fun e7 w =>
  aD pg (cI 42 fV d7) w fun e8 w =>
  aD pg (aR 3 e8 e7) w fun _u w =>
  aD pg (aI .add 3 aM aM d7 (aNG 1)) w fun e9 w =>
  kn cC b2 b4 fV d5 d6 e9 w)
  (k0 cC b2 b4 fV w)
theorem amZ (kn : K7) (k0 : K4) (hn : N7 Q kn 1 2 4 5 25 26 27) (h0 : E4 Q k0 0 1 2 4 5) (h : CW kn k0 (g 1) (g 2) (g 4) (g 5) (g 25) (g 26) (g 27) w) : bD pg kJ (bI (bI (aB 1 (aF 1 (aB 1 (aB 3 jF)))))) Q g w :=
 eL (kr := no) (l := [(0, fun g w => k0 (g 1) (g 2) (g 4) (g 5) w)]) h hn gT ⟨h0, trivial⟩
def RV (k0 : K4) (cC b2 b4 fV d5 d6 d7 : aNF) (w : aNE) : Prop :=
 cS (fun (X : aNF -> K0) (t : aNF) (w : aNE) => CW (fun _ _ _ _ _ _ d7 w => X d7 w) k0 cC b2 b4 fV d5 d6 t w) d7 w
theorem aqP (k0 : K4) (h0 : E4 Q k0 0 1 2 4 5) (h : RV k0 (g 1) (g 2) (g 4) (g 5) (g 25) (g 26) (g 27) w) : bD pg kJ (bI (aB 1 (aF 1 (aB 1 (aB 3 jF))))) Q g w := by
 refine CS (fun g : Env => g 27) (fun X t w => CW (fun _ _ _ _ _ _ d7 w => X d7 w) k0 (g 1) (g 2) (g 4) (g 5) (g 25) (g 26) t w) h (fun X g1 w1 ha hL => ?_)
 rw [<- jX 1 ha, <- jX 2 ha, <- jX 4 ha, <- jX 5 ha, <- jX 25 ha, <- jX 26 ha] at hL
 exact (amZ _ g1 w1 (fun _ _ _ _ _ _ d7 w => X d7 w) k0 (fun _ _ h => h) h0 hL)
def Re (kn : K4) (cC b2 b4 fV d5 d6 d7 : aNF) (w : aNE) : Prop :=
 RV kn cC b2 b4 fV d5 d6 d7 w
def QO (kn : K7) (cC b2 b4 fV : aNF) (w : aNE) : Prop :=
 aD pg (aK 100 cC 1) w fun d4 w =>
 aD pg (aL 42 d4) w fun d5 w =>
 aD pg (lG .len #[42] 3 [d5]) w fun d6 w =>
 kn cC b2 b4 fV d5 d6 (aNG 0) w
theorem apT (kn : K7) (hn : N7 Q kn 1 2 4 5 25 26 27) (h : QO kn (g 1) (g 2) (g 4) (g 5) w) : bD pg kJ (aF 1 (aF 1 (aB 1 (aB 3 jF)))) Q g w :=
 eL (kr := no) (l := []) h hn gT trivial
def Sa (kn : K4) (cC b2 b4 fV : aNF) (w : aNE) : Prop :=
 QO (fun cC b2 b4 fV d5 d6 d7 w => Re kn cC b2 b4 fV d5 d6 d7 w) cC b2 b4 fV w
def R6 (R : K1) (cC b2 b4 fV : aNF) (w : aNE) : Prop :=
 Sa (fun cC b2 b4 fV w => I4 R cC b2 b4 fV w) cC b2 b4 fV w
theorem aoT (kn : K4) (hn : N4 Q kn 1 2 4 5) (h : Sa kn (g 1) (g 2) (g 4) (g 5) w) : bD pg kJ (aF 1 (aB 1 (aB 3 jF))) Q g w :=
 jA 1 (apT _ g w (Re kn) (fun g w h => aJ (wX 0 (aqP _ g w kn hn h))) h)
def RG (kn : K4) (cC b2 b4 : aNF) (w : aNE) : Prop :=
 aD pg (aK 100 cC 1) w fun d0 w =>
 aD pg (aL 42 d0) w fun d1 w =>
 aD pg (lG .len #[42] 3 [d1]) w fun d2 w =>
 aD pg (qC 42 d2 d2) w fun d3 w =>
 kn cC b2 b4 d3 w
theorem aoC (kn : K4) (hn : N4 Q kn 1 2 4 5) (h : RG kn (g 1) (g 2) (g 4) w) : bD pg kJ (aF 1 (aB 3 jF)) Q g w :=
 eL (kr := no) (l := []) h hn gT trivial
def CU (R : K1) (cC b2 b4 : aNF) (w : aNE) : Prop :=
 RG (fun cC b2 b4 fV w => R6 R cC b2 b4 fV w) cC b2 b4 w
def QW (kn : K3) (R : K1) (L1 : aNF) (w : aNE) : Prop :=
 aD pg (B5 100 L1) w fun cC w =>
 aD pg (fU 108) w fun b2 w =>
 aD pg (aL 100 cC) w fun c1 w =>
 aT pg FG #[c1, (aNG 15)] w fun c2 w =>
 aD pg (aI .neq 27 (.tmp 12) (.const (aNG 0)) c2 (aNG 0)) w fun c3 w =>
 gZ c3
  (aD pg (fT 108 []) w fun c4 w =>
  aD pg (aR 108 b2 c4) w fun _u w =>
  An pg 108 b2 w fun r0 => R (.tuple #[r0, (aNG 1)]) w)
  (Ord (aId Jf 3 (Zi 3 jF) 3 5 w)
   (aD pg (aK 100 cC 0) (dr w) fun c5 w_ => w_ = (dr w) /\
   aD pg (aL 3 c5) (dr w) fun c6 w_ => w_ = (dr w) /\
   aD pg (aL 100 cC) (dr w) fun c7 w_ => w_ = (dr w) /\
   aT pg Gh #[c7] (dr w) fun c8 aAi =>
   (jJ pg (aL 3 c5) c6 aAi /\ jJ pg (aK 100 cC 0) c5 aAi /\ True) /\
   aD pg (fT 108 [(0, c6), (1, c8)]) aAi fun c9 w_ => w_ = aAi /\
   aD pg (fU 108) aAi fun b4 aIT =>
   (jJ pg (fT 108 [(0, c6), (1, c8)]) c9 aIT /\ jJ pg (aL 3 c5) c6 aIT /\ jJ pg (aK 100 cC 0) c5 aIT /\ True) /\
   aD pg (aR 108 b4 c9) aIT fun _u6 aJA =>
   kn cC b2 b4 aJA)
   (aD pg (aK 100 cC 0) (dr w) fun c5 w_ => w_ = (dr w) /\
   aD pg (aL 3 c5) (dr w) fun c6 w_ => w_ = (dr w) /\
   aD pg (aL 100 cC) (dr w) fun c7 w_ => w_ = (dr w) /\
   aD pg (fU 108) (dr w) fun b4 aAi =>
   (jJ pg (aL 100 cC) c7 aAi /\ jJ pg (aL 3 c5) c6 aAi /\ jJ pg (aK 100 cC 0) c5 aAi /\ True) /\
   aT pg Gh #[c7] aAi fun c8 WN =>
   (jJ pg (aL 3 c5) c6 WN /\ jJ pg (aK 100 cC 0) c5 WN /\ True) /\
   aD pg (fT 108 [(0, c6), (1, c8)]) WN fun c9 w_ => w_ = WN /\
   aD pg (aR 108 b4 c9) WN fun _u6 aJA =>
   kn cC b2 b4 aJA))
theorem aoV (kn : K3) (R : K1) (hn : N3 Q kn 1 2 4) (hr : HR Mr R Q) (h : QW kn R (g 0) w) : bD pg kJ (aF 3 jF) Q g w :=
 eL (l := []) h hn hr trivial
def RC (R : K1) (L1 : aNF) (w : aNE) : Prop :=
 QW (fun cC b2 b4 w => CU R cC b2 b4 w) R L1 w
theorem aqM (R : K1) (hr : HR Mr R Q) (h : RC R (g 0) w) : bD pg kJ jF Q g w :=
 jA 3 (aoV _ g w (CU R) R (fun g w h => aJ (jA 1 (aoC _ g w (R6 R) (fun g w h => aJ (jA 1 (aoT _ g w (I4 R) (fun g w h => aJ (jA 1 (aqN _ g w (Mt R) (fun g w h => aJ (atU _ g w R hr h)) h))) h))) h))) hr h)
def aAJ (a0 : aNF) (w : aNE) (R : K1) : Prop :=
 RC R a0 w
theorem azC {a0 : aNF} {w : aNE} {R : K1} (h : aAJ a0 w R) : aT pg Jf #[a0] w R := by
 refine uO (ann := kJ) Tryz.f57 jF [a0] Mr 91 TryzM.mixed Tryz.func57 ?_
 exact (aqM _ _ _ R (fun _ _ h => h) h)
def Zv : FA := ⟨Qc, fun i => .leaf ([], []) []⟩
def ajG : List ResultVar := [.tmp 4]
noncomputable def XG : Code := dG Tryz.f58
def Tw (R : K1) (b0 r_1 : aNF) (w : aNE) : Prop :=
 aD pg (B5 108 b0) w fun b2 w =>
 aD pg (aK 108 b2 0) w fun b6 w =>
 aD pg (aL 3 b6) w fun b7 w =>
 aT pg qQ #[r_1, b7] w fun b8 w =>
 aD pg (jG 24 3 b8) w fun b9 w =>
 R b9 w
theorem avA (R : K1) (hr : HR ajG R Q) (h : Tw R (g 0) (g 1) w) : bD pg Zv XG Q g w :=
 eL (kn := no) (l := []) h gT hr trivial
def aAQ (a0 a1 : aNF) (w : aNE) (R : K1) : Prop :=
 Tw R a0 a1 w
theorem avW {a0 a1 : aNF} {w : aNE} {R : K1} (h : aAQ a0 a1 w R) : aT pg Qc #[a0, a1] w R := by
 refine uO (ann := Zv) Tryz.f58 XG [a0, a1] ajG 10 TryzM.mixed Tryz.func58 ?_
 exact (avA _ _ _ R (fun _ _ h => h) h)
def GF : FA := ⟨qX, fun i => .leaf ([], []) []⟩
def Ha : List ResultVar := [.tmp 2]
noncomputable def EH : Code := dG Tryz.f59
def AE (R : K1) (Ns : aNF) (w : aNE) : Prop :=
 aD pg (aI .eql 103 (.tmp 3) (.const (.pointer none)) Ns (.pointer none)) w fun b4 w =>
 gZ b4
  (R (aNG 0) w)
  (aD pg (vW Ns) w fun b6 w =>
  aD pg (aK 165 b6 1) w fun b7 w =>
  aD pg (aL 3 b7) w fun b8 w =>
  R b8 w)
theorem Se (R : K1) (hr : HR Ha R Q) (h : AE R (g 0) w) : bD pg GF EH Q g w :=
 eL (kn := no) (l := []) h gT hr trivial
def OX (a0 : aNF) (w : aNE) (R : K1) : Prop :=
 AE R a0 w
theorem SU {a0 : aNF} {w : aNE} {R : K1} (h : OX a0 w R) : aT pg qX #[a0] w R := by
 refine uO (ann := GF) Tryz.f59 EH [a0] Ha 9 TryzM.mixed Tryz.func59 ?_
 exact (Se _ _ _ R (fun _ _ h => h) h)
def agG : FA := ⟨T4, fun i => match Nat.beq i 4 with | true => .leaf ([5], [(0, 5), (1, 5)]) [(false, []), (false, []), (false, []), (false, []), (false, []), (true, [3, 4]), (false, []), (false, []), (false, [])] | false => .leaf ([], []) []⟩
def arX : List ResultVar := [.tmp 6]
noncomputable def Zr : Code := dG Tryz.f60
def VR (R : K1) (b0 My HF : aNF) (w : aNE) : Prop :=
 aD pg (B5 108 b0) w fun b3 w =>
 aD pg (aI .lss 3 aM aM My (aNG 0)) w fun b9 w =>
 Gd (gJ b9 false) (fun K => K My w) w fun c1 w =>
 Gd (gJ b9 false) (fun K => aD pg (aK 108 b3 1) w K) w fun c2 w =>
 Gd (gJ b9 false) (fun K => aD pg (aL 106 c2) w K) w fun c3 w =>
 Gd (gJ b9 false) (fun K => aD pg (lG .len #[106] 3 [c3]) w K) w fun c4 w =>
 Gd (gJ b9 false) (fun K => aD pg (aI .geq 3 aM aM c1 c4) w K) w fun c5 w =>
 aD pg (iN b9 (.bool true) c5) w fun c6 w =>
 gZ c6
  (R (aNG 0) w)
  (aD pg (aK 108 b3 1) w fun c7 w =>
  aD pg (aL 106 c7) w fun c8 w =>
  aD pg (cI 106 c8 My) w fun d0 w =>
  aD pg (aL 115 d0) w fun d1 w =>
  aD pg (fU 115) w fun tV w =>
  aD pg (aR 115 tV d1) w fun _u w =>
  aD pg (aK 115 tV 2) (dr w) fun d2 w_ => w_ = (dr w) /\
  aD pg (aL 3 d2) (dr w) fun d3 w_ => w_ = (dr w) /\
  (dr w) = (dr w) /\
  aD pg (aK 115 tV 1) (dr w) fun d5 w_ => w_ = (dr w) /\
  aD pg (aL 3 d5) (dr w) fun d6 w_ => w_ = (dr w) /\
  aT pg qQ #[HF, d6] (dr w) fun d7 aBA =>
  (jJ pg (aL 3 d2) d3 aBA /\ jJ pg (aK 115 tV 2) d2 aBA /\ True) /\
  aD pg (jG 24 3 d7) aBA fun d8 w_ => w_ = aBA /\
  aD pg (aI .add 3 aM aM d3 d8) aBA fun d9 w_ => w_ = aBA /\
  aBA = aBA /\
  R d9 aBA)
theorem ayY (R : K1) (hr : HR arX R Q) (h : VR R (g 0) (g 1) (g 2) w) : bD pg agG Zr Q g w :=
 eL (kn := no) (l := []) h gT hr trivial
def aC5 (a0 a1 a2 : aNF) (w : aNE) (R : K1) : Prop :=
 VR R a0 a1 a2 w
theorem aAl {a0 a1 a2 : aNF} {w : aNE} {R : K1} (h : aC5 a0 a1 a2 w R) : aT pg T4 #[a0, a1, a2] w R := by
 refine uO (ann := agG) Tryz.f60 Zr [a0, a1, a2] arX 30 TryzM.mixed Tryz.func60 ?_
 exact (ayY _ _ _ R (fun _ _ h => h) h)
def nG : FA := ⟨Ao, fun i => .leaf ([], []) []⟩
def sJ : List ResultVar := [.tmp 2, .tmp 3]
noncomputable def mL : Code := dG Tryz.f61
def B8 (R : K1) (qW : aNF) (w : aNE) : Prop :=
 R (.tuple #[qW, (.bool true)]) w
theorem X5 (R : K1) (hr : HR sJ R Q) (h : B8 R (g 4) w) : bD pg nG (aB 1 (aB 2 mL)) Q g w :=
 eL (kn := no) (l := []) h gT hr trivial
def Ch (kn : K4) (qW b7 b8 b9 : aNF) (w : aNE) : Prop :=
 aD pg (aI .add 3 aM aM b9 (aNG 1)) w fun d2 w =>
 kn qW b7 b8 d2 w
theorem YG (kn : K4) (hn : N4 Q kn 4 7 8 9) (h : Ch kn (g 4) (g 7) (g 8) (g 9) w) : bD pg nG (aB 3 (bI (bI (aB 1 (aF 1 (aB 2 mL)))))) Q g w :=
 eL (kr := no) (l := []) h hn gT trivial
def Im (kn : K4) (k0 : K1) (R : K1) (qW b7 b8 b9 : aNF) (w : aNE) : Prop :=
 aD pg (aI .lss 3 aM aM b9 b8) w fun c0 w =>
 gZ c0
  (aD pg (cI 22 b7 b9) w fun c1 w =>
  aD pg (aL 5 c1) w fun c2 w =>
  aD pg (aI .gtr 5 aM aM c2 (.int .u8 11)) w fun c4 w =>
  gZ c4
   (R (.tuple #[(aNG 0), (.bool false)]) w)
   (aD pg (aI .gtr 5 aM aM c2 (.int .u8 0)) w fun c6 w =>
   gZ c6
    (aD pg (aI .sub 5 aM aM c2 (.int .u8 1)) w fun c9 w =>
    aD pg (aI .shl 3 aM aM (aNG 1) c9) w fun d0 w =>
    aD pg (aI .add 3 aM aM qW d0) w fun d1 w =>
    kn d1 b7 b8 b9 w)
    (kn qW b7 b8 b9 w)))
  (k0 qW w)
theorem X4 (kn : K4) (k0 : K1) (R : K1) (hn : N4 Q kn 4 7 8 9) (h0 : E1 Q k0 0 4) (hr : HR sJ R Q) (h : Im kn k0 R (g 4) (g 7) (g 8) (g 9) w) : bD pg nG (aF 3 (bI (bI (aB 1 (aF 1 (aB 2 mL)))))) Q g w :=
 eL (l := [(0, fun g w => k0 (g 4) w)]) h hn hr ⟨h0, trivial⟩
def Cf (kn : K4) (k0 : K1) (R : K1) (qW b7 b8 b9 : aNF) (w : aNE) : Prop :=
 Im (fun qW b7 b8 b9 w => Ch kn qW b7 b8 b9 w) k0 R qW b7 b8 b9 w
def Ie (k0 : K1) (R : K1) (qW b7 b8 b9 : aNF) (w : aNE) : Prop :=
 cS (fun (X : (aNF × aNF) -> K0) (t : aNF × aNF) (w : aNE) => Cf (fun qW _ _ b9 w => X (qW, b9) w) k0 R t.1 b7 b8 t.2 w) (qW, b9) w
theorem Yl (kn : K4) (k0 : K1) (R : K1) (hn : N4 Q kn 4 7 8 9) (h0 : E1 Q k0 0 4) (hr : HR sJ R Q) (h : Cf kn k0 R (g 4) (g 7) (g 8) (g 9) w) : bD pg nG (bI (bI (aB 1 (aF 1 (aB 2 mL))))) Q g w :=
 jA 3 (X4 _ g w (Ch kn) k0 R (fun g w h => aJ (YG _ g w kn hn h)) h0 hr h)
theorem YH (k0 : K1) (R : K1) (h0 : E1 Q k0 0 4) (hr : HR sJ R Q) (h : Ie k0 R (g 4) (g 7) (g 8) (g 9) w) : bD pg nG (bI (aB 1 (aF 1 (aB 2 mL)))) Q g w := by
 refine CS (fun g : Env => (g 4, g 9)) (fun X t w => Cf (fun qW _ _ b9 w => X (qW, b9) w) k0 R t.1 (g 7) (g 8) t.2 w) h (fun X g1 w1 ha hL => ?_)
 rw [<- jX 7 ha, <- jX 8 ha] at hL
 exact (Yl _ g1 w1 (fun qW _ _ b9 w => X (qW, b9) w) k0 R (fun _ _ h => h) h0 hr hL)
def HK (kn : K1) (R : K1) (qW b7 b8 b9 : aNF) (w : aNE) : Prop :=
 Ie kn R qW b7 b8 b9 w
def Iy (kn : K4) (cT qW : aNF) (w : aNE) : Prop :=
 aD pg (lG .len #[22] 3 [cT]) w fun b8 w =>
 kn qW cT b8 (aNG 0) w
theorem X7 (kn : K4) (hn : N4 Q kn 4 7 8 9) (h : Iy kn (g 0) (g 4) w) : bD pg nG (aF 1 (aF 1 (aB 2 mL))) Q g w :=
 eL (kr := no) (l := []) h hn gT trivial
def Ig (kn : K1) (R : K1) (cT qW : aNF) (w : aNE) : Prop :=
 Iy (fun qW b7 b8 b9 w => HK kn R qW b7 b8 b9 w) cT qW w
def Ii (R : K1) (cT qW : aNF) (w : aNE) : Prop :=
 Ig (fun qW w => B8 R qW w) R cT qW w
theorem Yg (kn : K1) (R : K1) (hn : N1 Q kn 4) (hr : HR sJ R Q) (h : Ig kn R (g 0) (g 4) w) : bD pg nG (aF 1 (aB 2 mL)) Q g w :=
 jA 1 (X7 _ g w (HK kn R) (fun g w h => aJ (wX 0 (YH _ g w kn R hn hr h))) h)
def Fk (kn : K2) (cT : aNF) (w : aNE) : Prop :=
 kn cT (aNG 0) w
theorem Xe (kn : K2) (hn : N2 Q kn 0 4) (h : Fk kn (g 0) w) : bD pg nG (aF 2 mL) Q g w :=
 eL (kr := no) (l := []) h hn gT trivial
def GJ (R : K1) (cT : aNF) (w : aNE) : Prop :=
 Fk (fun cT qW w => Ii R cT qW w) cT w
theorem Xa (R : K1) (hr : HR sJ R Q) (h : GJ R (g 0) w) : bD pg nG mL Q g w :=
 jA 2 (Xe _ g w (Ii R) (fun g w h => aJ (jA 1 (Yg _ g w (B8 R) R (fun g w h => aJ (X5 _ g w R hr h)) hr h))) h)
def Zb (a0 : aNF) (w : aNE) (R : K1) : Prop :=
 GJ R a0 w
theorem aaO {a0 : aNF} {w : aNE} {R : K1} (h : Zb a0 w R) : aT pg Ao #[a0] w R := by
 refine uO (ann := nG) Tryz.f61 mL [a0] sJ 24 TryzM.mixed Tryz.func61 ?_
 exact (Xa _ _ _ R (fun _ _ h => h) h)
def P7 : FA := ⟨rZ, fun i => .leaf ([], []) []⟩
def SN : List ResultVar := [.tmp 2]
noncomputable def NZ : Code := dG Tryz.f62
def Hw (R : K1) (oJ : aNF) (w : aNE) : Prop :=
 gZ (.bool false)
  (aD pg (jG 67 94 oJ) w fun b4 w =>
  aT pg ajH #[b4] w fun b5 w =>
  R b5 w)
  (aT pg A8 #[oJ] w fun b7 w =>
  R b7 w)
theorem Yb (R : K1) (hr : HR SN R Q) (h : Hw R (g 0) w) : bD pg P7 NZ Q g w :=
 eL (kn := no) (l := []) h gT hr trivial
def Zh (a0 : aNF) (w : aNE) (R : K1) : Prop :=
 Hw R a0 w
theorem Z7 {a0 : aNF} {w : aNE} {R : K1} (h : Zh a0 w R) : aT pg rZ #[a0] w R := by
 refine uO (ann := P7) Tryz.f62 NZ [a0] SN 8 TryzM.mixed Tryz.func62 ?_
 exact (Yb _ _ _ R (fun _ _ h => h) h)
def iS : FA := ⟨Ar, fun i => .leaf ([], []) []⟩
def Fe : List ResultVar := [.cell 2 122, .tmp 3]
noncomputable def iA : Code := dG Tryz.f63
def Gw (R : K1) (b2 b6 : aNF) (w : aNE) : Prop :=
 aD pg (aL 122 b6) w fun m1 w =>
 aD pg (aR 122 b2 m1) w fun _u w =>
 An pg 122 b2 w fun r0 => R (.tuple #[r0, (aNG 0)]) w
theorem agX (R : K1) (hr : HR Fe R Q) (h : Gw R (g 2) (g 6) w) : bD pg iS (aB 1 (aB 1 (aB 1 (aB 4 iA)))) Q g w :=
 eL (kn := no) (l := []) h gT hr trivial
def BI (kn : K5) (b2 b6 f1 f2 f3 : aNF) (w : aNE) : Prop :=
 aD pg (aI .add 3 aM aM f3 (aNG 1)) w fun m0 w =>
 kn b2 b6 f1 f2 m0 w
theorem alN (kn : K5) (hn : N5 Q kn 2 6 41 42 43) (h : BI kn (g 2) (g 6) (g 41) (g 42) (g 43) w) : bD pg iS (aB 1 (aB 2 (bI (bI (aB 1 (aF 1 (aB 1 (aB 1 (aB 4 iA))))))))) Q g w :=
 eL (kr := no) (l := []) h hn gT trivial
def GM (kn : K10) (k4 : K5) (b2 b6 vY V1 Rj f1 f2 f3 j4 j5 : aNF) (w : aNE) : Prop :=
 aD pg (aI .lss 3 aM aM j5 j4) w fun j6 w =>
 gZ j6
  (aD pg (aK 122 b6 1) w fun j8 w =>
  aD pg (aL 120 j8) w fun j9 w =>
  aD pg (aI .add 3 aM aM Rj j5) w fun l2 w =>
  aD pg (jG 3 5 vY) w fun l4 w =>
  aD pg (aK 171 V1 0) w fun l5 w =>
  aD pg (aL 3 l5) w fun l6 w =>
  aD pg (fT 173 [(0, l4), (1, l6)]) w fun l7 w =>
  aD pg (cI 120 j9 l2) w fun l8 w =>
  aD pg (aR 173 l8 l7) w fun _u w =>
  aD pg (aI .add 3 aM aM j5 (aNG 1)) w fun l9 w =>
  kn b2 b6 vY V1 Rj f1 f2 f3 j4 l9 w)
  (k4 b2 b6 f1 f2 f3 w)
theorem aiA (kn : K10) (k4 : K5) (hn : N10 Q kn 2 6 9 10 11 41 42 43 64 65) (h4 : E5 Q k4 4 2 6 41 42 43) (h : GM kn k4 (g 2) (g 6) (g 9) (g 10) (g 11) (g 41) (g 42) (g 43) (g 64) (g 65) w) : bD pg iS (bI (bI (aB 4 (bI (aF 1 (aB 2 (bI (bI (aB 1 (aF 1 (aB 1 (aB 1 (aB 4 iA))))))))))))) Q g w :=
 eL (kr := no) (l := [(4, fun g w => k4 (g 2) (g 6) (g 41) (g 42) (g 43) w)]) h hn gT ⟨h4, trivial⟩
def Od (k4 : K5) (b2 b6 vY V1 Rj f1 f2 f3 j4 j5 : aNF) (w : aNE) : Prop :=
 cS (fun (X : aNF -> K0) (t : aNF) (w : aNE) => GM (fun _ _ _ _ _ _ _ _ _ j5 w => X j5 w) k4 b2 b6 vY V1 Rj f1 f2 f3 j4 t w) j5 w
theorem aiB (k4 : K5) (h4 : E5 Q k4 4 2 6 41 42 43) (h : Od k4 (g 2) (g 6) (g 9) (g 10) (g 11) (g 41) (g 42) (g 43) (g 64) (g 65) w) : bD pg iS (bI (aB 4 (bI (aF 1 (aB 2 (bI (bI (aB 1 (aF 1 (aB 1 (aB 1 (aB 4 iA)))))))))))) Q g w := by
 refine CS (fun g : Env => g 65) (fun X t w => GM (fun _ _ _ _ _ _ _ _ _ j5 w => X j5 w) k4 (g 2) (g 6) (g 9) (g 10) (g 11) (g 41) (g 42) (g 43) (g 64) t w) h (fun X g1 w1 ha hL => ?_)
 rw [<- jX 2 ha, <- jX 6 ha, <- jX 9 ha, <- jX 10 ha, <- jX 11 ha, <- jX 41 ha, <- jX 42 ha, <- jX 43 ha, <- jX 64 ha] at hL
 exact (aiA _ g1 w1 (fun _ _ _ _ _ _ _ _ _ j5 w => X j5 w) k4 (fun _ _ h => h) h4 hL)
def Pf (kn : K5) (b2 b6 vY V1 Rj f1 f2 f3 j4 j5 : aNF) (w : aNE) : Prop :=
 Od kn b2 b6 vY V1 Rj f1 f2 f3 j4 j5 w
def OS (kn : K10) (k3 : K5) (b2 b6 f1 f2 f3 : aNF) (w : aNE) : Prop :=
 aD pg (cI 152 f1 f3) w fun f6 w =>
 aD pg (aL 171 f6) w fun f7 w =>
 aD pg (fU 171) w fun V1 w =>
 aD pg (aR 171 V1 f7) w fun _u w =>
 aD pg (aK 171 V1 0) w fun f8 w =>
 aD pg (aL 3 f8) w fun f9 w =>
 aD pg (aI .eql 3 (.tmp 49) (.const (aNG 0)) f9 (aNG 0)) w fun i0 w =>
 gZ i0
  (k3 b2 b6 f1 f2 f3 w)
  (aD pg (aK 171 V1 1) w fun i1 w =>
  aD pg (aL 3 i1) w fun i2 w =>
  aD pg (aK 122 b6 0) w fun i3 w =>
  aD pg (aL 3 i3) w fun i4 w =>
  aD pg (aK 171 V1 0) w fun i5 w =>
  aD pg (aL 3 i5) w fun i6 w =>
  aD pg (aI .sub 3 aM aM i4 i6) w fun i7 w =>
  aD pg (aI .shl 3 aM aM i2 i7) w fun i8 w =>
  aD pg (aK 122 b6 0) w fun i9 w =>
  aD pg (aL 3 i9) w fun j0 w =>
  aD pg (aK 171 V1 0) w fun j1 w =>
  aD pg (aL 3 j1) w fun j2 w =>
  aD pg (aI .sub 3 aM aM j0 j2) w fun j3 w =>
  aD pg (aI .shl 3 aM aM (aNG 1) j3) w fun j4 w =>
  kn b2 b6 f3 V1 i8 f1 f2 f3 j4 (aNG 0) w)
theorem aeU (kn : K10) (k3 : K5) (hn : N10 Q kn 2 6 9 10 11 41 42 43 64 65) (h3 : E5 Q k3 3 2 6 41 42 43) (h : OS kn k3 (g 2) (g 6) (g 41) (g 42) (g 43) w) : bD pg iS (aF 4 (bI (aF 1 (aB 2 (bI (bI (aB 1 (aF 1 (aB 1 (aB 1 (aB 4 iA))))))))))) Q g w :=
 eL (kr := no) (l := [(3, fun g w => k3 (g 2) (g 6) (g 41) (g 42) (g 43) w)]) h hn gT ⟨h3, trivial⟩
def Xq (kn : K5) (k3 : K5) (b2 b6 f1 f2 f3 : aNF) (w : aNE) : Prop :=
 OS (fun b2 b6 vY V1 Rj f1 f2 f3 j4 j5 w => Pf kn b2 b6 vY V1 Rj f1 f2 f3 j4 j5 w) k3 b2 b6 f1 f2 f3 w
def Nm (kn : K5) (b2 b6 f1 f2 f3 : aNF) (w : aNE) : Prop :=
 Xq kn kn b2 b6 f1 f2 f3 w
def Pc (kn : K5) (b2 b6 f1 f2 f3 : aNF) (w : aNE) : Prop :=
 Nm (fun b2 b6 f1 f2 f3 w => BI kn b2 b6 f1 f2 f3 w) b2 b6 f1 f2 f3 w
theorem ahI (kn : K5) (hn : N5 Q kn 2 6 41 42 43) (h : Nm kn (g 2) (g 6) (g 41) (g 42) (g 43) w) : bD pg iS (aF 1 (aB 2 (bI (bI (aB 1 (aF 1 (aB 1 (aB 1 (aB 4 iA))))))))) Q g w :=
 wX 3 (jA 4 (aeU _ g w (Pf kn) kn (fun g w h => aJ (wX 4 (aiB _ g w kn hn h))) hn h))
def Kg (kn : K5) (k2 : K2) (b2 b6 f1 f2 f3 : aNF) (w : aNE) : Prop :=
 aD pg (aI .lss 3 aM aM f3 f2) w fun f4 w =>
 gZ f4
  (kn b2 b6 f1 f2 f3 w)
  (k2 b2 b6 w)
theorem adQ (kn : K5) (k2 : K2) (hn : N5 Q kn 2 6 41 42 43) (h2 : E2 Q k2 2 2 6) (h : Kg kn k2 (g 2) (g 6) (g 41) (g 42) (g 43) w) : bD pg iS (aF 2 (bI (bI (aB 1 (aF 1 (aB 1 (aB 1 (aB 4 iA)))))))) Q g w :=
 eL (kr := no) (l := [(2, fun g w => k2 (g 2) (g 6) w)]) h hn gT ⟨h2, trivial⟩
def Df (kn : K5) (k2 : K2) (b2 b6 f1 f2 f3 : aNF) (w : aNE) : Prop :=
 Kg (fun b2 b6 f1 f2 f3 w => Pc kn b2 b6 f1 f2 f3 w) k2 b2 b6 f1 f2 f3 w
def JK (k2 : K2) (b2 b6 f1 f2 f3 : aNF) (w : aNE) : Prop :=
 cS (fun (X : aNF -> K0) (t : aNF) (w : aNE) => Df (fun _ _ _ _ f3 w => X f3 w) k2 b2 b6 f1 f2 t w) f3 w
theorem adP (kn : K5) (k2 : K2) (hn : N5 Q kn 2 6 41 42 43) (h2 : E2 Q k2 2 2 6) (h : Df kn k2 (g 2) (g 6) (g 41) (g 42) (g 43) w) : bD pg iS (bI (bI (aB 1 (aF 1 (aB 1 (aB 1 (aB 4 iA))))))) Q g w :=
 jA 2 (adQ _ g w (Pc kn) k2 (fun g w h => aJ (jA 1 (ahI _ g w (BI kn) (fun g w h => aJ (alN _ g w kn hn h)) h))) h2 h)
theorem adL (k2 : K2) (h2 : E2 Q k2 2 2 6) (h : JK k2 (g 2) (g 6) (g 41) (g 42) (g 43) w) : bD pg iS (bI (aB 1 (aF 1 (aB 1 (aB 1 (aB 4 iA)))))) Q g w := by
 refine CS (fun g : Env => g 43) (fun X t w => Df (fun _ _ _ _ f3 w => X f3 w) k2 (g 2) (g 6) (g 41) (g 42) t w) h (fun X g1 w1 ha hL => ?_)
 rw [<- jX 2 ha, <- jX 6 ha, <- jX 41 ha, <- jX 42 ha] at hL
 exact (adP _ g1 w1 (fun _ _ _ _ f3 w => X f3 w) k2 (fun _ _ h => h) h2 hL)
def JP (kn : K2) (b2 b6 f1 f2 f3 : aNF) (w : aNE) : Prop :=
 JK kn b2 b6 f1 f2 f3 w
def Kr (kn : K5) (b2 kW b6 : aNF) (w : aNE) : Prop :=
 aD pg (lG .len #[152] 3 [kW]) w fun f2 w =>
 kn b2 b6 kW f2 (aNG 0) w
theorem acK (kn : K5) (hn : N5 Q kn 2 6 41 42 43) (h : Kr kn (g 2) (g 4) (g 6) w) : bD pg iS (aF 1 (aF 1 (aB 1 (aB 1 (aB 4 iA))))) Q g w :=
 eL (kr := no) (l := []) h hn gT trivial
def LK (kn : K2) (b2 kW b6 : aNF) (w : aNE) : Prop :=
 Kr (fun b2 b6 f1 f2 f3 w => JP kn b2 b6 f1 f2 f3 w) b2 kW b6 w
def KR (R : K1) (b2 kW b6 : aNF) (w : aNE) : Prop :=
 LK (fun b2 b6 w => Gw R b2 b6 w) b2 kW b6 w
theorem abM (kn : K2) (hn : N2 Q kn 2 6) (h : LK kn (g 2) (g 4) (g 6) w) : bD pg iS (aF 1 (aB 1 (aB 1 (aB 4 iA)))) Q g w :=
 jA 1 (acK _ g w (JP kn) (fun g w h => aJ (wX 2 (adL _ g w kn hn h))) h)
def JO (kn : K3) (b2 kW b6 : aNF) (w : aNE) : Prop :=
 aD pg (aK 122 b6 0) w fun e6 w =>
 aD pg (aL 3 e6) w fun e7 w =>
 aD pg (aI .shl 3 aM aM (aNG 1) e7) w fun e8 w =>
 aD pg (qC 120 e8 e8) w fun e9 w =>
 aD pg (aK 122 b6 1) w fun f0 w =>
 aD pg (aR 120 f0 e9) w fun _u w =>
 kn b2 kW b6 w
theorem aaY (kn : K3) (hn : N3 Q kn 2 4 6) (h : JO kn (g 2) (g 4) (g 6) w) : bD pg iS (aF 1 (aB 1 (aB 4 iA))) Q g w :=
 eL (kr := no) (l := []) h hn gT trivial
def Lo (R : K1) (b2 kW b6 : aNF) (w : aNE) : Prop :=
 JO (fun b2 kW b6 w => KR R b2 kW b6 w) b2 kW b6 w
def Dl (kn : K6) (k0 : K3) (b2 kW b6 d3 d4 d5 : aNF) (w : aNE) : Prop :=
 aD pg (aI .lss 3 aM aM d5 d4) w fun d6 w =>
 gZ d6
  (aD pg (cI 152 d3 d5) w fun d7 w =>
  aD pg (aL 171 d7) w fun d8 w =>
  aD pg (fU 171) w fun c_8 w =>
  aD pg (aR 171 c_8 d8) w fun _u w =>
  aD pg (aK 122 b6 0) w fun d9 w =>
  aD pg (aL 3 d9) w fun e0 w =>
  aD pg (aK 171 c_8 0) w fun e1 w =>
  aD pg (aL 3 e1) w fun e2 w =>
  aD pg (lG .max #[3, 3] 3 [e0, e2]) w fun e3 w =>
  aD pg (aK 122 b6 0) w fun e4 w =>
  aD pg (aR 3 e4 e3) w fun _u w =>
  aD pg (aI .add 3 aM aM d5 (aNG 1)) w fun e5 w =>
  kn b2 kW b6 d3 d4 e5 w)
  (k0 b2 kW b6 w)
theorem aaN (kn : K6) (k0 : K3) (hn : N6 Q kn 2 4 6 23 24 25) (h0 : E3 Q k0 0 2 4 6) (h : Dl kn k0 (g 2) (g 4) (g 6) (g 23) (g 24) (g 25) w) : bD pg iS (bI (bI (aB 1 (aF 1 (aB 4 iA))))) Q g w :=
 eL (kr := no) (l := [(0, fun g w => k0 (g 2) (g 4) (g 6) w)]) h hn gT ⟨h0, trivial⟩
def JX (k0 : K3) (b2 kW b6 d3 d4 d5 : aNF) (w : aNE) : Prop :=
 cS (fun (X : aNF -> K0) (t : aNF) (w : aNE) => Dl (fun _ _ _ _ _ d5 w => X d5 w) k0 b2 kW b6 d3 d4 t w) d5 w
theorem acB (k0 : K3) (h0 : E3 Q k0 0 2 4 6) (h : JX k0 (g 2) (g 4) (g 6) (g 23) (g 24) (g 25) w) : bD pg iS (bI (aB 1 (aF 1 (aB 4 iA)))) Q g w := by
 refine CS (fun g : Env => g 25) (fun X t w => Dl (fun _ _ _ _ _ d5 w => X d5 w) k0 (g 2) (g 4) (g 6) (g 23) (g 24) t w) h (fun X g1 w1 ha hL => ?_)
 rw [<- jX 2 ha, <- jX 4 ha, <- jX 6 ha, <- jX 23 ha, <- jX 24 ha] at hL
 exact (aaN _ g1 w1 (fun _ _ _ _ _ d5 w => X d5 w) k0 (fun _ _ h => h) h0 hL)
def Kq (kn : K3) (b2 kW b6 d3 d4 d5 : aNF) (w : aNE) : Prop :=
 JX kn b2 kW b6 d3 d4 d5 w
def Lu (kn : K6) (b2 kW b6 : aNF) (w : aNE) : Prop :=
 aD pg (lG .len #[152] 3 [kW]) w fun d4 w =>
 kn b2 kW b6 kW d4 (aNG 0) w
theorem ZX (kn : K6) (hn : N6 Q kn 2 4 6 23 24 25) (h : Lu kn (g 2) (g 4) (g 6) w) : bD pg iS (aF 1 (aF 1 (aB 4 iA))) Q g w :=
 eL (kr := no) (l := []) h hn gT trivial
def Lj (kn : K3) (b2 kW b6 : aNF) (w : aNE) : Prop :=
 Lu (fun b2 kW b6 d3 d4 d5 w => Kq kn b2 kW b6 d3 d4 d5 w) b2 kW b6 w
def JW (R : K1) (b2 kW b6 : aNF) (w : aNE) : Prop :=
 Lj (fun b2 kW b6 w => Lo R b2 kW b6 w) b2 kW b6 w
theorem abV (kn : K3) (hn : N3 Q kn 2 4 6) (h : Lj kn (g 2) (g 4) (g 6) w) : bD pg iS (aF 1 (aB 4 iA)) Q g w :=
 jA 1 (ZX _ g w (Kq kn) (fun g w h => aJ (wX 0 (acB _ g w kn hn h))) h)
def CZ (kn : K3) (R : K1) (cT : aNF) (w : aNE) : Prop :=
 aD pg (fU 122) w fun b2 w =>
 aT pg tU #[cT] w fun c5 w =>
 aD pg (bQ c5 0) w fun c6 w =>
 aD pg (bQ c5 1) w fun c7 w =>
 aD pg (aI .neq 27 (.tmp 18) (.const (aNG 0)) c7 (aNG 0)) w fun c9 w =>
 gZ c9
  (aD pg (fT 122 []) w fun d0 w =>
  aD pg (aR 122 b2 d0) w fun _u w =>
  An pg 122 b2 w fun r0 => R (.tuple #[r0, c7]) w)
  (aD pg (fT 122 []) w fun d2 w =>
  aD pg (fU 122) w fun b6 w =>
  aD pg (aR 122 b6 d2) w fun _u w =>
  kn b2 c6 b6 w)
theorem ZT (kn : K3) (R : K1) (hn : N3 Q kn 2 4 6) (hr : HR Fe R Q) (h : CZ kn R (g 0) w) : bD pg iS (aF 4 iA) Q g w :=
 eL (l := []) h hn hr trivial
def Dn (R : K1) (cT : aNF) (w : aNE) : Prop :=
 CZ (fun b2 kW b6 w => JW R b2 kW b6 w) R cT w
theorem aeI (R : K1) (hr : HR Fe R Q) (h : Dn R (g 0) w) : bD pg iS iA Q g w :=
 jA 4 (ZT _ g w (JW R) R (fun g w h => aJ (jA 1 (abV _ g w (Lo R) (fun g w h => aJ (jA 1 (aaY _ g w (KR R) (fun g w h => aJ (jA 1 (abM _ g w (Gw R) (fun g w h => aJ (agX _ g w R hr h)) h))) h))) h))) hr h)
def VY (a0 : aNF) (w : aNE) (R : K1) : Prop :=
 Dn R a0 w
theorem SF {a0 : aNF} {w : aNE} {R : K1} (h : VY a0 w R) : aT pg Ar #[a0] w R := by
 refine uO (ann := iS) Tryz.f63 iA [a0] Fe 82 TryzM.mixed Tryz.func63 ?_
 exact (aeI _ _ _ R (fun _ _ h => h) h)
def mO : FA := ⟨uA, fun i => match Nat.beq i 9 with | true => .leaf ([5], [(2, 5)]) [(false, []), (false, []), (false, []), (false, []), (false, []), (true, [2]), (false, []), (false, []), (false, [])] | false => .leaf ([], []) []⟩
def wV : List ResultVar := [.tmp 6, .tmp 7]
noncomputable def mG : Code := dG Tryz.f64
def wY (R : K1) (r_8 iO c2 : aNF) (w : aNE) : Prop :=
 aT pg qX #[r_8] w fun j3 w =>
 aD pg (aI .add 3 aM aM j3 c2) w fun j5 w =>
 aD pg (aI .lss 3 aM aM j5 (aNG 0)) w fun j8 w =>
 gZ j8
  (R (.tuple #[(.slice none 0 0), (aNG 11)]) w)
  (aD pg (aI .gtr 3 aM aM j5 (aNG 0)) w fun l1 w =>
  gZ l1
   (R (.tuple #[(.slice none 0 0), (aNG 15)]) w)
   (R (.tuple #[iO, (aNG 0)]) w))
theorem Sq (R : K1) (hr : HR wV R Q) (h : wY R (g 8) (g 10) (g 12) w) : bD pg mO (aB 1 (aB 5 mG)) Q g w :=
 eL (kn := no) (l := []) h gT hr trivial
def xA (kn : K7) (k0 : K3) (b3 r_8 iO nK c2 d6 d7 : aNF) (w : aNE) : Prop :=
 aD pg (aI .lss 3 aM aM d7 d6) w fun d8 w =>
 gZ d8
  (aD pg (aK 122 b3 0) w fun d9 w =>
  aD pg (aL 3 d9) w fun e0 w =>
  aD pg (aI .sub 3 aM aM e0 c2) w fun e2 w =>
  (dr w) = (dr w) /\
  (dr w) = (dr w) /\
  aD pg (aI .shl 3 aM aM nK e2) (dr w) fun e5 w_ => w_ = (dr w) /\
  (dr w) = (dr w) /\
  (dr w) = (dr w) /\
  aT pg qQ #[r_8, e2] (dr w) fun e8 aDi =>
  (jJ pg (aI .shl 3 aM aM nK e2) e5 aDi /\ True) /\
  aD pg (jG 24 3 e8) aDi fun e9 w_ => w_ = aDi /\
  aD pg (aI .or 3 aM aM e5 e9) aDi fun f0 w_ => w_ = aDi /\
  aDi = aDi /\
  aD pg (aK 122 b3 1) aDi fun f1 w =>
  aD pg (aL 120 f1) w fun f2 w =>
  aD pg (cI 120 f2 f0) w fun f4 w =>
  aD pg (aL 173 f4) w fun f5 w =>
  aD pg (fU 173) w fun aJP w =>
  aD pg (aR 173 aJP f5) w fun _u w =>
  aD pg (aK 173 aJP 0) w fun f7 w =>
  aD pg (aL 5 f7) w fun f8 w =>
  aD pg (cV 22 1 [(0, f8)]) w fun f9 w =>
  aD pg (lG .append #[22, 22] 22 [iO, f9]) w fun i0 w =>
  aD pg (aK 122 b3 0) w fun i1 w =>
  aD pg (aL 3 i1) w fun i2 w =>
  aD pg (aK 173 aJP 1) w fun i3 w =>
  aD pg (aL 3 i3) w fun i4 w =>
  aD pg (aI .sub 3 aM aM i2 i4) w fun i5 w =>
  aD pg (aI .shl 3 aM aM (aNG 1) i5) w fun i8 w =>
  aD pg (aI .sub 3 aM aM i8 (aNG 1)) w fun i9 w =>
  aD pg (aI .and 3 aM aM f0 i9) w fun j0 w =>
  aD pg (aI .add 3 aM aM d7 (aNG 1)) w fun j1 w =>
  kn b3 r_8 i0 j0 i5 d6 j1 w)
  (k0 r_8 iO c2 w)
theorem Sz (kn : K7) (k0 : K3) (hn : N7 Q kn 3 8 10 11 12 26 27) (h0 : E3 Q k0 0 8 10 12) (h : xA kn k0 (g 3) (g 8) (g 10) (g 11) (g 12) (g 26) (g 27) w) : bD pg mO (bI (bI (aB 1 (aF 1 (aB 5 mG))))) Q g w :=
 eL (kr := no) (l := [(0, fun g w => k0 (g 8) (g 10) (g 12) w)]) h hn gT ⟨h0, trivial⟩
def Bw (k0 : K3) (b3 r_8 iO nK c2 d6 d7 : aNF) (w : aNE) : Prop :=
 cS (fun (X : (aNF × aNF × aNF × aNF) -> K0) (t : aNF × aNF × aNF × aNF) (w : aNE) => xA (fun _ _ iO nK c2 _ d7 w => X (iO, nK, c2, d7) w) k0 b3 r_8 t.1 t.2.1 t.2.2.1 d6 t.2.2.2 w) (iO, nK, c2, d7) w
theorem Sn (k0 : K3) (h0 : E3 Q k0 0 8 10 12) (h : Bw k0 (g 3) (g 8) (g 10) (g 11) (g 12) (g 26) (g 27) w) : bD pg mO (bI (aB 1 (aF 1 (aB 5 mG)))) Q g w := by
 refine CS (fun g : Env => (g 10, g 11, g 12, g 27)) (fun X t w => xA (fun _ _ iO nK c2 _ d7 w => X (iO, nK, c2, d7) w) k0 (g 3) (g 8) t.1 t.2.1 t.2.2.1 (g 26) t.2.2.2 w) h (fun X g1 w1 ha hL => ?_)
 rw [<- jX 3 ha, <- jX 8 ha, <- jX 26 ha] at hL
 exact (Sz _ g1 w1 (fun _ _ iO nK c2 _ d7 w => X (iO, nK, c2, d7) w) k0 (fun _ _ h => h) h0 hL)
def Bq (kn : K3) (b3 r_8 iO nK c2 d6 d7 : aNF) (w : aNE) : Prop :=
 Bw kn b3 r_8 iO nK c2 d6 d7 w
def BP (kn : K7) (nM b3 r_8 iO nK c2 : aNF) (w : aNE) : Prop :=
 kn b3 r_8 iO nK c2 nM (aNG 0) w
theorem SL (kn : K7) (hn : N7 Q kn 3 8 10 11 12 26 27) (h : BP kn (g 2) (g 3) (g 8) (g 10) (g 11) (g 12) w) : bD pg mO (aF 1 (aF 1 (aB 5 mG))) Q g w :=
 eL (kr := no) (l := []) h hn gT trivial
def BE (kn : K3) (nM b3 r_8 iO nK c2 : aNF) (w : aNE) : Prop :=
 BP (fun b3 r_8 iO nK c2 d6 d7 w => Bq kn b3 r_8 iO nK c2 d6 d7 w) nM b3 r_8 iO nK c2 w
def BO (R : K1) (nM b3 r_8 iO nK c2 : aNF) (w : aNE) : Prop :=
 BE (fun r_8 iO c2 w => wY R r_8 iO c2 w) nM b3 r_8 iO nK c2 w
theorem Sy (kn : K3) (hn : N3 Q kn 8 10 12) (h : BE kn (g 2) (g 3) (g 8) (g 10) (g 11) (g 12) w) : bD pg mO (aF 1 (aB 5 mG)) Q g w :=
 jA 1 (SL _ g w (Bq kn) (fun g w h => aJ (wX 0 (Sn _ g w kn hn h))) h)
def BD (kn : K6) (R : K1) (b0 b_1 nM : aNF) (w : aNE) : Prop :=
 aD pg (B5 122 b0) w fun b3 w =>
 aT pg sI #[b_1] w fun c8 w =>
 aD pg (bQ c8 0) w fun c9 w =>
 aD pg (bQ c8 1) w fun d0 w =>
 aD pg (aI .neq 27 (.tmp 21) (.const (aNG 0)) d0 (aNG 0)) w fun d2 w =>
 gZ d2
  (R (.tuple #[(.slice none 0 0), d0]) w)
  (aD pg (qC 22 (aNG 0) nM) w fun d5 w =>
  kn nM b3 c9 d5 (aNG 0) (aNG 0) w)
theorem Sg (kn : K6) (R : K1) (hn : N6 Q kn 2 3 8 10 11 12) (hr : HR wV R Q) (h : BD kn R (g 0) (g 1) (g 2) w) : bD pg mO (aF 5 mG) Q g w :=
 eL (l := []) h hn hr trivial
def BK (R : K1) (b0 b_1 nM : aNF) (w : aNE) : Prop :=
 BD (fun nM b3 r_8 iO nK c2 w => BO R nM b3 r_8 iO nK c2 w) R b0 b_1 nM w
theorem Td (R : K1) (hr : HR wV R Q) (h : BK R (g 0) (g 1) (g 2) w) : bD pg mO mG Q g w :=
 jA 5 (Sg _ g w (BO R) R (fun g w h => aJ (jA 1 (Sy _ g w (wY R) (fun g w h => aJ (Sq _ g w R hr h)) h))) hr h)
def Qa (a0 a1 a2 : aNF) (w : aNE) (R : K1) : Prop :=
 BK R a0 a1 a2 w
theorem TG {a0 a1 a2 : aNF} {w : aNE} {R : K1} (h : Qa a0 a1 a2 w R) : aT pg uA #[a0, a1, a2] w R := by
 refine uO (ann := mO) Tryz.f64 mG [a0, a1, a2] wV 73 TryzM.mixed Tryz.func64 ?_
 exact (Td _ _ _ R (fun _ _ h => h) h)
def Wc : FA := ⟨FJ, fun i => .leaf ([], []) []⟩
def Zo : List ResultVar := [.cell 2 73, .tmp 3]
noncomputable def UB : Code := dG Tryz.f65
def Rn (R : K1) (n_0 : aNF) (w : aNE) : Prop :=
 aD pg (fU 73) w fun b2 w =>
 aD pg (aI .add 3 aM aM n_0 (aNG 4)) w fun b6 w =>
 aD pg (aI .sub 3 aM aM b6 (aNG 1)) w fun b7 w =>
 aD pg (aI .quo 3 aM aM b7 (aNG 4)) w fun b8 w =>
 aD pg (aI .mul 3 aM aM (aNG 3) b8) w fun c4 w =>
 aD pg (aI .sub 3 aM aM n_0 c4) w fun c5 w =>
 aD pg (fT 73 [(0, b8), (1, b8), (2, b8), (3, c5)]) w fun c6 w =>
 aD pg (aI .mul 3 aM aM (aNG 3) b8) w fun c9 w =>
 aD pg (aI .geq 3 aM aM n_0 c9) w fun d0 w =>
 aD pg (aR 73 b2 c6) w fun _u w =>
 An pg 73 b2 w fun r0 => R (.tuple #[r0, d0]) w
theorem amY (R : K1) (hr : HR Zo R Q) (h : Rn R (g 0) w) : bD pg Wc UB Q g w :=
 eL (kn := no) (l := []) h gT hr trivial
def ayB (a0 : aNF) (w : aNE) (R : K1) : Prop :=
 Rn R a0 w
theorem atZ {a0 : aNF} {w : aNE} {R : K1} (h : ayB a0 w R) : aT pg FJ #[a0] w R := by
 refine uO (ann := Wc) Tryz.f65 UB [a0] Zo 21 TryzM.mixed Tryz.func65 ?_
 exact (amY _ _ _ R (fun _ _ h => h) h)
def GL : FA := ⟨wT, fun i => .leaf ([], []) []⟩
def Hk : List ResultVar := [.tmp 2]
noncomputable def ED : Code := dG Tryz.f66
def AD (R : K1) (Ns : aNF) (w : aNE) : Prop :=
 aD pg (aI .eql 74 (.tmp 3) (.const (.pointer none)) Ns (.pointer none)) w fun b4 w =>
 gZ b4
  (R (aNG 0) w)
  (aD pg (vW Ns) w fun b6 w =>
  aD pg (aK 92 b6 0) w fun b7 w =>
  aD pg (aL 22 b7) w fun b8 w =>
  aD pg (lG .len #[22] 3 [b8]) w fun b9 w =>
  R b9 w)
theorem Rw (R : K1) (hr : HR Hk R Q) (h : AD R (g 0) w) : bD pg GL ED Q g w :=
 eL (kn := no) (l := []) h gT hr trivial
def NM (a0 : aNF) (w : aNE) (R : K1) : Prop :=
 AD R a0 w
theorem SH {a0 : aNF} {w : aNE} {R : K1} (h : NM a0 w R) : aT pg wT #[a0] w R := by
 refine uO (ann := GL) Tryz.f66 ED [a0] Hk 10 TryzM.mixed Tryz.func66 ?_
 exact (Rw _ _ _ R (fun _ _ h => h) h)
def EC : FA := ⟨vP, fun i => .leaf ([], []) []⟩
def GW : List ResultVar := [.tmp 4]
noncomputable def CI : Code := dG Tryz.f67
def zR (R : K1) (Ns lW : aNF) (w : aNE) : Prop :=
 aD pg (aI .eql 74 (.tmp 5) (.const (.pointer none)) Ns (.pointer none)) w fun b6 w =>
 gZ b6
  (R (.slice none 0 0) w)
  (aD pg (aI .geq 3 aM aM lW (aNG 0)) w fun c0 w =>
  aT pg sX #[Ns, lW, c0] w fun c1 w =>
  R c1 w)
theorem PX (R : K1) (hr : HR GW R Q) (h : zR R (g 0) (g 1) w) : bD pg EC CI Q g w :=
 eL (kn := no) (l := []) h gT hr trivial
def L6 (a0 a1 : aNF) (w : aNE) (R : K1) : Prop :=
 zR R a0 a1 w
theorem RH {a0 a1 : aNF} {w : aNE} {R : K1} (h : L6 a0 a1 w R) : aT pg vP #[a0, a1] w R := by
 refine uO (ann := EC) Tryz.f67 CI [a0, a1] GW 12 TryzM.mixed Tryz.func67 ?_
 exact (PX _ _ _ R (fun _ _ h => h) h)
def iP : FA := ⟨Mf, fun i => match Nat.beq i 30 with | true => .leaf ([2, 3], [(0, 2)]) [(false, []), (false, []), (true, [1]), (true, []), (false, []), (false, [])] | false => .leaf ([], []) []⟩
def oA : List ResultVar := [.cell 6 128, .tmp 7, .tmp 8]
noncomputable def gX : Code := dG Tryz.f68
def IW (R : K1) (b6 oQ fQ : aNF) (w : aNE) : Prop :=
 aD pg (aL 128 fQ) (dr w) fun p1 w_ => w_ = (dr w) /\
 aD pg (aL 176 oQ) (dr w) fun p2 w_ => w_ = (dr w) /\
 aT pg Ml #[p2] (dr w) fun p3 aI5 =>
 (jJ pg (aL 128 fQ) p1 aI5 /\ True) /\
 aD pg (aR 128 b6 p1) aI5 fun _u3 aAF =>
 aAF = aAF /\
 aAF = aAF /\
 An pg 128 b6 aAF fun r0 => R (.tuple #[r0, p3, (aNG 0)]) aAF
theorem apZ (R : K1) (hr : HR oA R Q) (h : IW R (g 6) (g 9) (g 12) w) : bD pg iP (aB 1 (aB 7 gX)) Q g w :=
 eL (kn := no) (l := []) h gT hr trivial
def IH (kn : K5) (R : K1) (aO b6 oQ fQ aX : aNF) (w : aNE) : Prop :=
 aD pg (aK 128 fQ 1) w fun o1 w =>
 aD pg (aL 42 o1) w fun o2 w =>
 aD pg (lG .len #[42] 3 [o2]) w fun o3 w =>
 aD pg (aI .gtr 3 aM aM o3 aO) w fun o5 w =>
 Gd (gJ o5 false) (fun K => K aX w) w fun o7 w =>
 Gd (gJ o5 false) (fun K => aD pg (aI .lss 3 aM aM o7 (aNG 0)) w K) w fun o8 w =>
 aD pg (iN o5 (.bool true) o8) w fun o9 w =>
 gZ o9
  (aD pg (fT 128 []) w fun p0 w =>
  aD pg (aR 128 b6 p0) w fun _u w =>
  An pg 128 b6 w fun r0 => R (.tuple #[r0, (aNG 0), (aNG 11)]) w)
  (kn aO b6 oQ fQ aX w)
theorem anR (kn : K5) (R : K1) (hn : N5 Q kn 2 6 9 12 13) (hr : HR oA R Q) (h : IH kn R (g 2) (g 6) (g 9) (g 12) (g 13) w) : bD pg iP (aB 1 (aB 1 (aB 5 (bI (aB 1 (bI (bI (aF 1 (aB 7 gX))))))))) Q g w :=
 eL (l := []) h hn hr trivial
def IZ (kn : K6) (aO b6 oQ H7 fQ aX : aNF) (w : aNE) : Prop :=
 aD pg (aI .eql 24 (.tmp 99) (.const (.int .u64 3)) H7 (.int .u64 3)) w fun o0 w =>
 kn aO b6 oQ fQ aX o0 w
theorem anA (kn : K6) (hn : N6 Q kn 2 6 9 12 13 15) (h : IZ kn (g 2) (g 6) (g 9) (g 10) (g 12) (g 13) w) : bD pg iP (aB 1 (aB 2 (bI (aB 1 (bI (bI (aF 1 (aB 1 (aB 5 (bI (aB 1 (bI (bI (aF 1 (aB 7 gX))))))))))))))) Q g w :=
 eL (kr := no) (l := []) h hn gT trivial
def IF (kn : K7) (k4 : K6) (aO b6 oQ H7 fQ aX qZ : aNF) (w : aNE) : Prop :=
 aD pg (jG 24 3 H7) w fun n0 w =>
 aD pg (aI .lss 3 aM aM qZ n0) w fun n1 w =>
 gZ n1
  (aD pg (aK 128 fQ 1) w fun n4 w =>
  aD pg (aL 42 n4) w fun n5 w =>
  aD pg (cV 42 1 [(0, (aNG 0))]) w fun n6 w =>
  aD pg (lG .append #[42, 42] 42 [n5, n6]) w fun n7 w =>
  aD pg (aK 128 fQ 1) w fun n8 w =>
  aD pg (aR 42 n8 n7) w fun _u w =>
  aD pg (aI .add 3 aM aM qZ (aNG 1)) w fun n3 w =>
  kn aO b6 oQ H7 fQ aX n3 w)
  (k4 aO b6 oQ H7 fQ aX w)
theorem anV (kn : K7) (k4 : K6) (hn : N7 Q kn 2 6 9 10 12 13 16) (h4 : E6 Q k4 4 2 6 9 10 12 13) (h : IF kn k4 (g 2) (g 6) (g 9) (g 10) (g 12) (g 13) (g 16) w) : bD pg iP (bI (bI (aB 1 (aF 1 (aB 2 (bI (aB 1 (bI (bI (aF 1 (aB 1 (aB 5 (bI (aB 1 (bI (bI (aF 1 (aB 7 gX)))))))))))))))))) Q g w :=
 eL (kr := no) (l := [(4, fun g w => k4 (g 2) (g 6) (g 9) (g 10) (g 12) (g 13) w)]) h hn gT ⟨h4, trivial⟩
def Q2 (k4 : K6) (aO b6 oQ H7 fQ aX qZ : aNF) (w : aNE) : Prop :=
 cS (fun (X : aNF -> K0) (t : aNF) (w : aNE) => IF (fun _ _ _ _ _ _ qZ w => X qZ w) k4 aO b6 oQ H7 fQ aX t w) qZ w
theorem aqE (k4 : K6) (h4 : E6 Q k4 4 2 6 9 10 12 13) (h : Q2 k4 (g 2) (g 6) (g 9) (g 10) (g 12) (g 13) (g 16) w) : bD pg iP (bI (aB 1 (aF 1 (aB 2 (bI (aB 1 (bI (bI (aF 1 (aB 1 (aB 5 (bI (aB 1 (bI (bI (aF 1 (aB 7 gX))))))))))))))))) Q g w := by
 refine CS (fun g : Env => g 16) (fun X t w => IF (fun _ _ _ _ _ _ qZ w => X qZ w) k4 (g 2) (g 6) (g 9) (g 10) (g 12) (g 13) t w) h (fun X g1 w1 ha hL => ?_)
 rw [<- jX 2 ha, <- jX 6 ha, <- jX 9 ha, <- jX 10 ha, <- jX 12 ha, <- jX 13 ha] at hL
 exact (anV _ g1 w1 (fun _ _ _ _ _ _ qZ w => X qZ w) k4 (fun _ _ h => h) h4 hL)
def QG (kn : K6) (aO b6 oQ H7 fQ aX qZ : aNF) (w : aNE) : Prop :=
 Q2 kn aO b6 oQ H7 fQ aX qZ w
def QR (kn : K7) (aO b6 oQ H7 fQ aX : aNF) (w : aNE) : Prop :=
 kn aO b6 oQ H7 fQ aX (aNG 0) w
theorem apU (kn : K7) (hn : N7 Q kn 2 6 9 10 12 13 16) (h : QR kn (g 2) (g 6) (g 9) (g 10) (g 12) (g 13) w) : bD pg iP (aF 1 (aF 1 (aB 2 (bI (aB 1 (bI (bI (aF 1 (aB 1 (aB 5 (bI (aB 1 (bI (bI (aF 1 (aB 7 gX)))))))))))))))) Q g w :=
 eL (kr := no) (l := []) h hn gT trivial
def Ry (kn : K6) (aO b6 oQ H7 fQ aX : aNF) (w : aNE) : Prop :=
 QR (fun aO b6 oQ H7 fQ aX qZ w => QG kn aO b6 oQ H7 fQ aX qZ w) aO b6 oQ H7 fQ aX w
def IY (kn : K6) (aO b6 oQ H7 fQ aX : aNF) (w : aNE) : Prop :=
 Ry (fun aO b6 oQ H7 fQ aX w => IZ kn aO b6 oQ H7 fQ aX w) aO b6 oQ H7 fQ aX w
theorem aoN (kn : K6) (hn : N6 Q kn 2 6 9 10 12 13) (h : Ry kn (g 2) (g 6) (g 9) (g 10) (g 12) (g 13) w) : bD pg iP (aF 1 (aB 2 (bI (aB 1 (bI (bI (aF 1 (aB 1 (aB 5 (bI (aB 1 (bI (bI (aF 1 (aB 7 gX))))))))))))))) Q g w :=
 jA 1 (apU _ g w (QG kn) (fun g w h => aJ (wX 4 (aqE _ g w kn hn h))) h)
def Nh (kn : K6) (R : K1) (aO b6 oQ fQ aX : aNF) (w : aNE) : Prop :=
 aD pg (aL 176 oQ) w fun l9 w =>
 aT pg zQ #[l9, (aNG 2)] w fun m0 w =>
 aD pg (bQ m0 0) w fun m1 w =>
 aD pg (bQ m0 1) w fun m2 w =>
 aD pg (bQ m0 2) w fun m3 w =>
 aD pg (aR 176 oQ m1) w fun _u w =>
 aD pg (aI .neq 27 (.tmp 84) (.const (aNG 0)) m3 (aNG 0)) w fun m5 w =>
 gZ m5
  (aD pg (fT 128 []) w fun m6 w =>
  aD pg (aR 128 b6 m6) w fun _u w =>
  An pg 128 b6 w fun r0 => R (.tuple #[r0, (aNG 0), m3]) w)
  (kn aO b6 oQ m2 fQ aX w)
theorem aiG (kn : K6) (R : K1) (hn : N6 Q kn 2 6 9 10 12 13) (hr : HR oA R Q) (h : Nh kn R (g 2) (g 6) (g 9) (g 12) (g 13) w) : bD pg iP (aF 2 (bI (aB 1 (bI (bI (aF 1 (aB 1 (aB 5 (bI (aB 1 (bI (bI (aF 1 (aB 7 gX)))))))))))))) Q g w :=
 eL (l := []) h hn hr trivial
def Xc (kn : K6) (R : K1) (aO b6 oQ fQ aX : aNF) (w : aNE) : Prop :=
 Nh (fun aO b6 oQ H7 fQ aX w => IY kn aO b6 oQ H7 fQ aX w) R aO b6 oQ fQ aX w
def PN (kn : K6) (R : K1) (aO b6 oQ fQ aX : aNF) (w : aNE) : Prop :=
 Xc kn R aO b6 oQ fQ aX w
def OK (kn : K5) (k2 : K5) (aO b6 oQ fQ aX c5 : aNF) (w : aNE) : Prop :=
 gZ c5
  (kn aO b6 oQ fQ aX w)
  (k2 aO b6 oQ fQ aX w)
theorem ahR (kn : K5) (k2 : K5) (hn : N5 Q kn 2 6 9 12 13) (h2 : E5 Q k2 2 2 6 9 12 13) (h : OK kn k2 (g 2) (g 6) (g 9) (g 12) (g 13) (g 15) w) : bD pg iP (aF 1 (bI (bI (aF 1 (aB 1 (aB 5 (bI (aB 1 (bI (bI (aF 1 (aB 7 gX)))))))))))) Q g w :=
 eL (kr := no) (l := [(2, fun g w => k2 (g 2) (g 6) (g 9) (g 12) (g 13) w)]) h hn gT ⟨h2, trivial⟩
def FZ (kn : K6) (k2 : K5) (R : K1) (aO b6 oQ fQ aX c5 : aNF) (w : aNE) : Prop :=
 OK (fun aO b6 oQ fQ aX w => PN kn R aO b6 oQ fQ aX w) k2 aO b6 oQ fQ aX c5 w
def Nq (k2 : K5) (R : K1) (aO b6 oQ fQ aX c5 : aNF) (w : aNE) : Prop :=
 cS (fun (X : aNF -> K0) (t : aNF) (w : aNE) => FZ (fun _ _ _ _ _ c5 w => X c5 w) k2 R aO b6 oQ fQ aX t w) c5 w
theorem ahV (kn : K6) (k2 : K5) (R : K1) (hn : N6 Q kn 2 6 9 12 13 15) (h2 : E5 Q k2 2 2 6 9 12 13) (hr : HR oA R Q) (h : FZ kn k2 R (g 2) (g 6) (g 9) (g 12) (g 13) (g 15) w) : bD pg iP (bI (bI (aF 1 (aB 1 (aB 5 (bI (aB 1 (bI (bI (aF 1 (aB 7 gX))))))))))) Q g w :=
 jA 1 (ahR _ g w (PN kn R) k2 (fun g w h => aJ (wX 3 (jA 2 (aiG _ g w (IY kn) R (fun g w h => aJ (jA 1 (aoN _ g w (IZ kn) (fun g w h => aJ (anA _ g w kn hn h)) h))) hr h)))) h2 h)
theorem alO (k2 : K5) (R : K1) (h2 : E5 Q k2 2 2 6 9 12 13) (hr : HR oA R Q) (h : Nq k2 R (g 2) (g 6) (g 9) (g 12) (g 13) (g 15) w) : bD pg iP (bI (aF 1 (aB 1 (aB 5 (bI (aB 1 (bI (bI (aF 1 (aB 7 gX)))))))))) Q g w := by
 refine CS (fun g : Env => g 15) (fun X t w => FZ (fun _ _ _ _ _ c5 w => X c5 w) k2 R (g 2) (g 6) (g 9) (g 12) (g 13) t w) h (fun X g1 w1 ha hL => ?_)
 rw [<- jX 2 ha, <- jX 6 ha, <- jX 9 ha, <- jX 12 ha, <- jX 13 ha] at hL
 exact (ahV _ g1 w1 (fun _ _ _ _ _ c5 w => X c5 w) k2 R (fun _ _ h => h) h2 hr hL)
def Pq (kn : K5) (R : K1) (aO b6 oQ fQ aX c5 : aNF) (w : aNE) : Prop :=
 Nq kn R aO b6 oQ fQ aX c5 w
def Ps (kn : K5) (R : K1) (aO b6 oQ fQ aX c5 : aNF) (w : aNE) : Prop :=
 Pq (fun aO b6 oQ fQ aX w => IH kn R aO b6 oQ fQ aX w) R aO b6 oQ fQ aX c5 w
theorem aeT (kn : K5) (R : K1) (hn : N5 Q kn 2 6 9 12 13) (hr : HR oA R Q) (h : Pq kn R (g 2) (g 6) (g 9) (g 12) (g 13) (g 15) w) : bD pg iP (aF 1 (aB 1 (aB 5 (bI (aB 1 (bI (bI (aF 1 (aB 7 gX))))))))) Q g w :=
 wX 2 (alO _ g w kn R hn hr h)
def MP (kn : K6) (aO b6 oQ fQ aX aEr : aNF) (w : aNE) : Prop :=
 aD pg (aI .eql 3 (.tmp 75) (.const (aNG 1)) aEr (aNG 1)) w fun l6 w =>
 kn aO b6 oQ fQ aX l6 w
theorem ajM (kn : K6) (hn : N6 Q kn 2 6 9 12 13 15) (h : MP kn (g 2) (g 6) (g 9) (g 12) (g 13) (g 14) w) : bD pg iP (aF 1 (aB 5 (bI (aB 1 (bI (bI (aF 1 (aB 7 gX)))))))) Q g w :=
 eL (kr := no) (l := []) h hn gT trivial
def BG (kn : K5) (R : K1) (aO b6 oQ fQ aX aEr : aNF) (w : aNE) : Prop :=
 MP (fun aO b6 oQ fQ aX c5 w => Ps kn R aO b6 oQ fQ aX c5 w) aO b6 oQ fQ aX aEr w
def O0 (kn : K6) (R : K1) (aO b6 oQ fQ aX : aNF) (w : aNE) : Prop :=
 aD pg (aL 176 oQ) w fun i0 w =>
 aT pg MC #[i0, aX] w fun i2 w =>
 aD pg (bQ i2 0) w fun i3 w =>
 aD pg (bQ i2 1) w fun i4 w =>
 aD pg (bQ i2 2) w fun i5 w =>
 aD pg (aR 176 oQ i3) w fun _u w =>
 aD pg (aI .neq 27 (.tmp 56) (.const (aNG 0)) i5 (aNG 0)) w fun i7 w =>
 gZ i7
  (aD pg (fT 128 []) w fun i8 w =>
  aD pg (aR 128 b6 i8) w fun _u w =>
  An pg 128 b6 w fun r0 => R (.tuple #[r0, (aNG 0), i5]) w)
  (aD pg (aK 128 fQ 1) w fun j0 w =>
  aD pg (aL 42 j0) w fun j1 w =>
  aD pg (aI .sub 3 aM aM i4 (aNG 1)) w fun j3 w =>
  aD pg (cV 42 1 [(0, j3)]) w fun j4 w =>
  aD pg (lG .append #[42, 42] 42 [j1, j4]) w fun j5 w =>
  aD pg (aK 128 fQ 1) w fun j6 w =>
  aD pg (aR 42 j6 j5) w fun _u w =>
  aD pg (aI .eql 3 (.tmp 67) (.const (aNG 0)) i4 (aNG 0)) w fun j8 w =>
  gZ j8
   (aD pg (aI .sub 3 aM aM aX (aNG 1)) w fun l0 w =>
   kn aO b6 oQ fQ l0 i4 w)
   (aD pg (aI .sub 3 aM aM i4 (aNG 1)) w fun l3 w =>
   aD pg (aI .sub 3 aM aM aX l3) w fun l4 w =>
   kn aO b6 oQ fQ l4 i4 w))
theorem akE (kn : K6) (R : K1) (hn : N6 Q kn 2 6 9 12 13 14) (hr : HR oA R Q) (h : O0 kn R (g 2) (g 6) (g 9) (g 12) (g 13) w) : bD pg iP (aF 5 (bI (aB 1 (bI (bI (aF 1 (aB 7 gX))))))) Q g w :=
 eL (l := []) h hn hr trivial
def WO (kn : K5) (R : K1) (aO b6 oQ fQ aX : aNF) (w : aNE) : Prop :=
 O0 (fun aO b6 oQ fQ aX aEr w => BG kn R aO b6 oQ fQ aX aEr w) R aO b6 oQ fQ aX w
def Nb (kn : K5) (R : K1) (aO b6 oQ fQ aX : aNF) (w : aNE) : Prop :=
 WO kn R aO b6 oQ fQ aX w
def M6 (kn : K5) (k0 : K3) (aO b6 oQ fQ aX : aNF) (w : aNE) : Prop :=
 aD pg (aI .gtr 3 aM aM aX (aNG 0)) w fun f8 w =>
 gZ f8
  (kn aO b6 oQ fQ aX w)
  (k0 b6 oQ fQ w)
theorem ahX (kn : K5) (k0 : K3) (hn : N5 Q kn 2 6 9 12 13) (h0 : E3 Q k0 0 6 9 12) (h : M6 kn k0 (g 2) (g 6) (g 9) (g 12) (g 13) w) : bD pg iP (aF 1 (bI (bI (aF 1 (aB 7 gX))))) Q g w :=
 eL (kr := no) (l := [(0, fun g w => k0 (g 6) (g 9) (g 12) w)]) h hn gT ⟨h0, trivial⟩
def Gc (kn : K5) (k0 : K3) (R : K1) (aO b6 oQ fQ aX : aNF) (w : aNE) : Prop :=
 M6 (fun aO b6 oQ fQ aX w => Nb kn R aO b6 oQ fQ aX w) k0 aO b6 oQ fQ aX w
def NU (k0 : K3) (R : K1) (aO b6 oQ fQ aX : aNF) (w : aNE) : Prop :=
 cS (fun (X : aNF -> K0) (t : aNF) (w : aNE) => Gc (fun _ _ _ _ aX w => X aX w) k0 R aO b6 oQ fQ t w) aX w
theorem alS (kn : K5) (k0 : K3) (R : K1) (hn : N5 Q kn 2 6 9 12 13) (h0 : E3 Q k0 0 6 9 12) (hr : HR oA R Q) (h : Gc kn k0 R (g 2) (g 6) (g 9) (g 12) (g 13) w) : bD pg iP (bI (bI (aF 1 (aB 7 gX)))) Q g w :=
 jA 1 (ahX _ g w (Nb kn R) k0 (fun g w h => aJ (wX 1 (jA 5 (akE _ g w (BG kn R) R (fun g w h => aJ (jA 1 (ajM _ g w (Ps kn R) (fun g w h => aJ (jA 1 (aeT _ g w (IH kn R) R (fun g w h => aJ (anR _ g w kn R hn hr h)) hr h))) h))) hr h)))) h0 h)
theorem ajW (k0 : K3) (R : K1) (h0 : E3 Q k0 0 6 9 12) (hr : HR oA R Q) (h : NU k0 R (g 2) (g 6) (g 9) (g 12) (g 13) w) : bD pg iP (bI (aF 1 (aB 7 gX))) Q g w := by
 refine CS (fun g : Env => g 13) (fun X t w => Gc (fun _ _ _ _ aX w => X aX w) k0 R (g 2) (g 6) (g 9) (g 12) t w) h (fun X g1 w1 ha hL => ?_)
 rw [<- jX 2 ha, <- jX 6 ha, <- jX 9 ha, <- jX 12 ha] at hL
 exact (alS _ g1 w1 (fun _ _ _ _ aX w => X aX w) k0 R (fun _ _ h => h) h0 hr hL)
def MT (kn : K3) (R : K1) (aO b6 oQ fQ aX : aNF) (w : aNE) : Prop :=
 NU kn R aO b6 oQ fQ aX w
def EU (R : K1) (aO b6 oQ fQ aX : aNF) (w : aNE) : Prop :=
 MT (fun b6 oQ fQ w => IW R b6 oQ fQ w) R aO b6 oQ fQ aX w
theorem akJ (kn : K3) (R : K1) (hn : N3 Q kn 6 9 12) (hr : HR oA R Q) (h : MT kn R (g 2) (g 6) (g 9) (g 12) (g 13) w) : bD pg iP (aF 1 (aB 7 gX)) Q g w :=
 wX 0 (ajW _ g w kn R hn hr h)
def MX (kn : K5) (R : K1) (dY MQ aO : aNF) (w : aNE) : Prop :=
 aD pg (fU 128) w fun b6 w =>
 aT pg ES #[dY] w fun c8 w =>
 aD pg (fT 176 [(0, c8)]) w fun c9 w =>
 aD pg (fU 176) w fun oQ w =>
 aD pg (aR 176 oQ c9) w fun _u w =>
 aD pg (aL 176 oQ) w fun d1 w =>
 aT pg zQ #[d1, (aNG 4)] w fun d2 w =>
 aD pg (bQ d2 0) w fun d3 w =>
 aD pg (bQ d2 1) w fun d4 w =>
 aD pg (bQ d2 2) w fun d5 w =>
 aD pg (aR 176 oQ d3) w fun _u w =>
 aD pg (aI .neq 27 (.tmp 26) (.const (aNG 0)) d5 (aNG 0)) w fun d7 w =>
 gZ d7
  (aD pg (fT 128 []) w fun d8 w =>
  aD pg (aR 128 b6 d8) w fun _u w =>
  An pg 128 b6 w fun r0 => R (.tuple #[r0, (aNG 0), d5]) w)
  (aD pg (jG 24 3 d4) w fun e1 w =>
  aD pg (aI .add 3 aM aM e1 (aNG 5)) w fun e2 w =>
  aD pg (fT 128 [(0, e2)]) w fun e3 w =>
  aD pg (fU 128) w fun fQ w =>
  aD pg (aR 128 fQ e3) w fun _u w =>
  aD pg (aK 128 fQ 0) w fun e4 w =>
  aD pg (aL 3 e4) w fun e5 w =>
  aD pg (aI .gtr 3 aM aM e5 MQ) w fun e7 w =>
  Gd (gJ e7 false) (fun K => aD pg (aK 128 fQ 0) w K) w fun e9 w =>
  Gd (gJ e7 false) (fun K => aD pg (aL 3 e9) w K) w fun f0 w =>
  Gd (gJ e7 false) (fun K => aD pg (aI .gtr 3 aM aM f0 (aNG 15)) w K) w fun f1 w =>
  aD pg (iN e7 (.bool true) f1) w fun f2 w =>
  gZ f2
   (aD pg (fT 128 []) w fun f3 w =>
   aD pg (aR 128 b6 f3) w fun _u w =>
   An pg 128 b6 w fun r0 => R (.tuple #[r0, (aNG 0), (aNG 12)]) w)
   (aD pg (aK 128 fQ 0) w fun f4 w =>
   aD pg (aL 3 f4) w fun f5 w =>
   aT pg nZ #[f5] w fun f6 w =>
   kn aO b6 oQ fQ f6 w))
theorem alX (kn : K5) (R : K1) (hn : N5 Q kn 2 6 9 12 13) (hr : HR oA R Q) (h : MX kn R (g 0) (g 1) (g 2) w) : bD pg iP (aF 7 gX) Q g w :=
 eL (l := []) h hn hr trivial
def Pp (R : K1) (dY MQ aO : aNF) (w : aNE) : Prop :=
 MX (fun aO b6 oQ fQ aX w => EU R aO b6 oQ fQ aX w) R dY MQ aO w
theorem aiT (R : K1) (hr : HR oA R Q) (h : Pp R (g 0) (g 1) (g 2) w) : bD pg iP gX Q g w :=
 jA 7 (alX _ g w (EU R) R (fun g w h => aJ (jA 1 (akJ _ g w (IW R) R (fun g w h => aJ (apZ _ g w R hr h)) hr h))) hr h)
def awH (a0 a1 a2 : aNF) (w : aNE) (R : K1) : Prop :=
 Pp R a0 a1 a2 w
theorem atP {a0 a1 a2 : aNF} {w : aNE} {R : K1} (h : awH a0 a1 a2 w R) : aT pg Mf #[a0, a1, a2] w R := by
 refine uO (ann := iP) Tryz.f68 gX [a0, a1, a2] oA 114 TryzM.mixed Tryz.func68 ?_
 exact (aiT _ _ _ R (fun _ _ h => h) h)
def xH : FA := ⟨EE, fun i => .leaf ([], []) []⟩
def MJ : List ResultVar := [.cell 2 133, .tmp 3]
noncomputable def vJ : Code := dG Tryz.f69
def Ms (R : K1) (b2 l_4 iC : aNF) (w : aNE) : Prop :=
 aD pg (lZ 131 l_4 none (some iC) none) w fun e1 w =>
 aD pg (fT 133 [(0, e1)]) w fun e2 w =>
 aD pg (aR 133 b2 e2) w fun _u w =>
 An pg 133 b2 w fun r0 => R (.tuple #[r0, (aNG 0)]) w
theorem avK (R : K1) (hr : HR MJ R Q) (h : Ms R (g 2) (g 4) (g 5) w) : bD pg xH (aB 1 (aB 4 vJ)) Q g w :=
 eL (kn := no) (l := []) h gT hr trivial
def Mj (kn : K3) (k0 : K3) (b2 l_4 iC : aNF) (w : aNE) : Prop :=
 aD pg (cI 131 l_4 iC) w fun d4 w =>
 aD pg (aL 4 d4) w fun d5 w =>
 aD pg (sUn .not d5) w fun d6 w =>
 gZ d6
  (aD pg (aI .sub 3 aM aM iC (aNG 1)) w fun d8 w =>
  kn b2 l_4 d8 w)
  (k0 b2 l_4 iC w)
theorem auK (kn : K3) (k0 : K3) (hn : N3 Q kn 2 4 5) (h0 : E3 Q k0 0 2 4 5) (h : Mj kn k0 (g 2) (g 4) (g 5) w) : bD pg xH (bI (bI (aF 1 (aB 4 vJ)))) Q g w :=
 eL (kr := no) (l := [(0, fun g w => k0 (g 2) (g 4) (g 5) w)]) h hn gT ⟨h0, trivial⟩
def TW (k0 : K3) (b2 l_4 iC : aNF) (w : aNE) : Prop :=
 cS (fun (X : aNF -> K0) (t : aNF) (w : aNE) => Mj (fun _ _ iC w => X iC w) k0 b2 l_4 t w) iC w
theorem atO (k0 : K3) (h0 : E3 Q k0 0 2 4 5) (h : TW k0 (g 2) (g 4) (g 5) w) : bD pg xH (bI (aF 1 (aB 4 vJ))) Q g w := by
 refine CS (fun g : Env => g 5) (fun X t w => Mj (fun _ _ iC w => X iC w) k0 (g 2) (g 4) t w) h (fun X g1 w1 ha hL => ?_)
 rw [<- jX 2 ha, <- jX 4 ha] at hL
 exact (auK _ g1 w1 (fun _ _ iC w => X iC w) k0 (fun _ _ h => h) h0 hL)
def Ug (kn : K3) (b2 l_4 iC : aNF) (w : aNE) : Prop :=
 TW kn b2 l_4 iC w
def Tq (R : K1) (b2 l_4 iC : aNF) (w : aNE) : Prop :=
 Ug (fun b2 l_4 iC w => Ms R b2 l_4 iC w) b2 l_4 iC w
theorem atD (kn : K3) (hn : N3 Q kn 2 4 5) (h : Ug kn (g 2) (g 4) (g 5) w) : bD pg xH (aF 1 (aB 4 vJ)) Q g w :=
 wX 0 (atO _ g w kn hn h)
def Mv (kn : K3) (R : K1) (Cs : aNF) (w : aNE) : Prop :=
 aD pg (fU 133) w fun b2 w =>
 aD pg (aI .eql 9 (.tmp 6) (.const (.string ⟨#[]⟩)) Cs (.string ⟨#[]⟩)) w fun b7 w =>
 Gd (gJ b7 false) (fun K => K Cs w) w fun b9 w =>
 Gd (gJ b7 false) (fun K => K Cs w) w fun c0 w =>
 Gd (gJ b7 false) (fun K => aD pg (lG .len #[9] 3 [c0]) w K) w fun c1 w =>
 Gd (gJ b7 false) (fun K => aD pg (aI .sub 3 aM aM c1 (aNG 1)) w K) w fun c2 w =>
 Gd (gJ b7 false) (fun K => aD pg (DX 9 b9 c2) w K) w fun c3 w =>
 Gd (gJ b7 false) (fun K => aD pg (aI .eql 5 (.tmp 13) (.const (.int .u8 0)) c3 (.int .u8 0)) w K) w fun c4 w =>
 aD pg (iN b7 (.bool true) c4) w fun c5 w =>
 gZ c5
  (aD pg (fT 133 []) w fun c6 w =>
  aD pg (aR 133 b2 c6) w fun _u w =>
  An pg 133 b2 w fun r0 => R (.tuple #[r0, (aNG 11)]) w)
  (aT pg ES #[Cs] w fun c8 w =>
  aD pg (lG .len #[131] 3 [c8]) w fun d0 w =>
  aD pg (aI .sub 3 aM aM d0 (aNG 1)) w fun d1 w =>
  kn b2 c8 d1 w)
theorem atQ (kn : K3) (R : K1) (hn : N3 Q kn 2 4 5) (hr : HR MJ R Q) (h : Mv kn R (g 0) w) : bD pg xH (aF 4 vJ) Q g w :=
 eL (l := []) h hn hr trivial
def MH (R : K1) (Cs : aNF) (w : aNE) : Prop :=
 Mv (fun b2 l_4 iC w => Tq R b2 l_4 iC w) R Cs w
theorem atE (R : K1) (hr : HR MJ R Q) (h : MH R (g 0) w) : bD pg xH vJ Q g w :=
 jA 4 (atQ _ g w (Tq R) R (fun g w h => aJ (jA 1 (atD _ g w (Ms R) (fun g w h => aJ (avK _ g w R hr h)) h))) hr h)
def apX (a0 : aNF) (w : aNE) (R : K1) : Prop :=
 MH R a0 w
theorem Xp {a0 : aNF} {w : aNE} {R : K1} (h : apX a0 w R) : aT pg EE #[a0] w R := by
 refine uO (ann := xH) Tryz.f69 vJ [a0] MJ 33 TryzM.mixed Tryz.func69 ?_
 exact (atE _ _ _ R (fun _ _ h => h) h)
def bF : FA := ⟨I7, fun i => match Nat.beq i 46 with | true => .leaf ([5, 11], [(0, 5), (1, 5)]) [(false, []), (false, []), (false, []), (false, []), (false, []), (true, [3, 4]), (false, []), (false, []), (false, []), (false, []), (false, []), (true, [])] | false => .leaf ([], []) []⟩
def rK : List ResultVar := [.cell 2 138, .tmp 3]
noncomputable def bA : Code := dG Tryz.f70
def F0 (R : K1) (b2 b6 : aNF) (w : aNE) : Prop :=
 aD pg (aL 138 b6) w fun z4 w =>
 aD pg (aR 138 b2 z4) w fun _u w =>
 An pg 138 b2 w fun r0 => R (.tuple #[r0, (aNG 0)]) w
theorem akM (R : K1) (hr : HR rK R Q) (h : F0 R (g 2) (g 6) w) : bD pg bF (aB 1 (aB 1 (aB 1 (aB 1 (aB 1 (aB 1 (aB 1 (aB 5 bA)))))))) Q g w :=
 eL (kn := no) (l := []) h gT hr trivial
def Bu (kn : K6) (cC b2 iC b6 cZ nS : aNF) (w : aNE) : Prop :=
 aD pg (aI .add 3 aM aM nS (aNG 1)) w fun q1 w =>
 kn cC b2 iC b6 cZ q1 w
theorem ahE (kn : K6) (hn : N6 Q kn 1 2 5 6 14 15) (h : Bu kn (g 1) (g 2) (g 5) (g 6) (g 14) (g 15) w) : bD pg bF (aB 1 (aB 1 (bI (bI (aB 1 (aF 1 (aB 1 (aB 1 (aB 1 (aB 1 (aB 1 (aB 1 (aB 5 bA))))))))))))) Q g w :=
 eL (kr := no) (l := []) h hn gT trivial
def FE (kn : K6) (cC b2 iC b6 cZ nS Tu pR : aNF) (w : aNE) : Prop :=
 aD pg (aK 138 b6 1) w fun x7 w =>
 aD pg (aL 136 x7) w fun x8 w =>
 aD pg (cI 136 x8 nS) w fun y1 w =>
 aD pg (aK 145 y1 1) w fun y2 w =>
 aD pg (aR 3 y2 pR) w fun _u w =>
 aD pg (aK 138 b6 1) (dr w) fun y3 w_ => w_ = (dr w) /\
 aD pg (aL 136 y3) (dr w) fun y4 w_ => w_ = (dr w) /\
 (dr w) = (dr w) /\
 (dr w) = (dr w) /\
 (dr w) = (dr w) /\
 aT pg nZ #[pR] (dr w) fun y8 S8 =>
 (jJ pg (aL 136 y3) y4 S8 /\ jJ pg (aK 138 b6 1) y3 S8 /\ True) /\
 aD pg (aI .mul 3 aM aM Tu y8) S8 fun y9 w_ => w_ = S8 /\
 S8 = S8 /\
 aD pg (aI .sub 3 aM aM y9 iC) S8 fun z1 w_ => w_ = S8 /\
 aD pg (cI 136 y4 nS) S8 fun z2 w_ => w_ = S8 /\
 aD pg (aK 145 z2 2) S8 fun z3 w_ => w_ = S8 /\
 aD pg (aR 3 z3 z1) S8 fun _u11 aJH =>
 kn cC b2 iC b6 cZ nS aJH
theorem afA (kn : K6) (hn : N6 Q kn 1 2 5 6 14 15) (h : FE kn (g 1) (g 2) (g 5) (g 6) (g 14) (g 15) (g 18) (g 19) w) : bD pg bF (aB 1 (aB 3 (aB 2 (aB 2 (bI (aF 1 (aB 1 (bI (bI (aB 1 (aF 1 (aB 1 (aB 1 (aB 1 (aB 1 (aB 1 (aB 1 (aB 5 bA)))))))))))))))))) Q g w :=
 eL (kr := no) (l := []) h hn gT trivial
def G1 (kn : K8) (k12 : K8) (cC b2 iC b6 cZ nS Tu pR : aNF) (w : aNE) : Prop :=
 aD pg (aK 128 cC 0) w fun v7 w =>
 aD pg (aL 3 v7) w fun v8 w =>
 aD pg (aI .sub 3 aM aM v8 pR) w fun x0 w =>
 aD pg (aI .add 3 aM aM x0 (aNG 1)) w fun x1 w =>
 aT pg nZ #[x1] w fun x2 w =>
 aD pg (aI .leq 3 aM aM x2 Tu) w fun x4 w =>
 gZ x4
  (aD pg (aI .sub 3 aM aM pR (aNG 1)) w fun x6 w =>
  kn cC b2 iC b6 cZ nS Tu x6 w)
  (k12 cC b2 iC b6 cZ nS Tu pR w)
theorem afD (kn : K8) (k12 : K8) (hn : N8 Q kn 1 2 5 6 14 15 18 19) (h12 : E8 Q k12 12 1 2 5 6 14 15 18 19) (h : G1 kn k12 (g 1) (g 2) (g 5) (g 6) (g 14) (g 15) (g 18) (g 19) w) : bD pg bF (bI (bI (aF 1 (aB 3 (aB 2 (aB 2 (bI (aF 1 (aB 1 (bI (bI (aB 1 (aF 1 (aB 1 (aB 1 (aB 1 (aB 1 (aB 1 (aB 1 (aB 5 bA)))))))))))))))))))) Q g w :=
 eL (kr := no) (l := [(12, fun g w => k12 (g 1) (g 2) (g 5) (g 6) (g 14) (g 15) (g 18) (g 19) w)]) h hn gT ⟨h12, trivial⟩
def FQ (k12 : K8) (cC b2 iC b6 cZ nS Tu pR : aNF) (w : aNE) : Prop :=
 cS (fun (X : aNF -> K0) (t : aNF) (w : aNE) => G1 (fun _ _ _ _ _ _ _ pR w => X pR w) k12 cC b2 iC b6 cZ nS Tu t w) pR w
theorem afU (k12 : K8) (h12 : E8 Q k12 12 1 2 5 6 14 15 18 19) (h : FQ k12 (g 1) (g 2) (g 5) (g 6) (g 14) (g 15) (g 18) (g 19) w) : bD pg bF (bI (aF 1 (aB 3 (aB 2 (aB 2 (bI (aF 1 (aB 1 (bI (bI (aB 1 (aF 1 (aB 1 (aB 1 (aB 1 (aB 1 (aB 1 (aB 1 (aB 5 bA))))))))))))))))))) Q g w := by
 refine CS (fun g : Env => g 19) (fun X t w => G1 (fun _ _ _ _ _ _ _ pR w => X pR w) k12 (g 1) (g 2) (g 5) (g 6) (g 14) (g 15) (g 18) t w) h (fun X g1 w1 ha hL => ?_)
 rw [<- jX 1 ha, <- jX 2 ha, <- jX 5 ha, <- jX 6 ha, <- jX 14 ha, <- jX 15 ha, <- jX 18 ha] at hL
 exact (afD _ g1 w1 (fun _ _ _ _ _ _ _ pR w => X pR w) k12 (fun _ _ h => h) h12 hL)
def Np (kn : K8) (cC b2 iC b6 cZ nS Tu pR : aNF) (w : aNE) : Prop :=
 FQ kn cC b2 iC b6 cZ nS Tu pR w
def M8 (kn : K6) (cC b2 iC b6 cZ nS Tu pR : aNF) (w : aNE) : Prop :=
 Np (fun cC b2 iC b6 cZ nS Tu pR w => FE kn cC b2 iC b6 cZ nS Tu pR w) cC b2 iC b6 cZ nS Tu pR w
theorem alI (kn : K8) (hn : N8 Q kn 1 2 5 6 14 15 18 19) (h : Np kn (g 1) (g 2) (g 5) (g 6) (g 14) (g 15) (g 18) (g 19) w) : bD pg bF (aF 1 (aB 3 (aB 2 (aB 2 (bI (aF 1 (aB 1 (bI (bI (aB 1 (aF 1 (aB 1 (aB 1 (aB 1 (aB 1 (aB 1 (aB 1 (aB 5 bA)))))))))))))))))) Q g w :=
 wX 12 (afU _ g w kn hn h)
def OI (kn : K8) (cC b2 iC b6 cZ nS TJ aEE : aNF) (w : aNE) : Prop :=
 aD pg (cI 183 cZ TJ) w fun u6 w =>
 aD pg (aL 3 u6) w fun u7 w =>
 aD pg (aI .add 3 aM aM u7 aEE) w fun u9 w =>
 aD pg (cI 183 cZ TJ) w fun v1 w =>
 aD pg (aL 3 v1) w fun v2 w =>
 aD pg (aI .add 3 aM aM v2 (aNG 1)) w fun v3 w =>
 aD pg (cI 183 cZ TJ) w fun v4 w =>
 aD pg (aR 3 v4 v3) w fun _u w =>
 aD pg (aK 128 cC 0) w fun v5 w =>
 aD pg (aL 3 v5) w fun v6 w =>
 kn cC b2 iC b6 cZ nS u9 v6 w
theorem ajI (kn : K8) (hn : N8 Q kn 1 2 5 6 14 15 18 19) (h : OI kn (g 1) (g 2) (g 5) (g 6) (g 14) (g 15) (g 16) (g 17) w) : bD pg bF (aF 3 (aB 2 (aB 2 (bI (aF 1 (aB 1 (bI (bI (aB 1 (aF 1 (aB 1 (aB 1 (aB 1 (aB 1 (aB 1 (aB 1 (aB 5 bA))))))))))))))))) Q g w :=
 eL (kr := no) (l := []) h hn gT trivial
def Gq (kn : K6) (cC b2 iC b6 cZ nS TJ aEE : aNF) (w : aNE) : Prop :=
 OI (fun cC b2 iC b6 cZ nS Tu pR w => M8 kn cC b2 iC b6 cZ nS Tu pR w) cC b2 iC b6 cZ nS TJ aEE w
def LS (kn : K8) (cC b2 iC b6 cZ nS TJ : aNF) (w : aNE) : Prop :=
 aD pg (aK 128 cC 1) w fun s8 w =>
 aD pg (aL 42 s8) w fun s9 w =>
 aD pg (cI 42 s9 TJ) w fun u1 w =>
 aD pg (aL 3 u1) w fun u2 w =>
 aD pg (aI .lss 3 aM aM u2 (aNG 0)) w fun u4 w =>
 gZ u4
  (kn cC b2 iC b6 cZ nS TJ (aNG 1) w)
  (kn cC b2 iC b6 cZ nS TJ u2 w)
theorem aeB (kn : K8) (hn : N8 Q kn 1 2 5 6 14 15 16 17) (h : LS kn (g 1) (g 2) (g 5) (g 6) (g 14) (g 15) (g 16) w) : bD pg bF (aF 2 (aB 2 (bI (aF 1 (aB 1 (bI (bI (aB 1 (aF 1 (aB 1 (aB 1 (aB 1 (aB 1 (aB 1 (aB 1 (aB 5 bA)))))))))))))))) Q g w :=
 eL (kr := no) (l := []) h hn gT trivial
def KP (kn : K6) (cC b2 iC b6 cZ nS TJ : aNF) (w : aNE) : Prop :=
 LS (fun cC b2 iC b6 cZ nS TJ aEE w => Gq kn cC b2 iC b6 cZ nS TJ aEE w) cC b2 iC b6 cZ nS TJ w
def KX (kn : K7) (R : K1) (cC b2 iC b6 cZ nS : aNF) (w : aNE) : Prop :=
 aD pg (aK 138 b6 1) w fun q2 w =>
 aD pg (aL 136 q2) w fun q3 w =>
 aD pg (cI 136 q3 nS) w fun q5 w =>
 aD pg (aK 145 q5 0) w fun q6 w =>
 aD pg (aL 3 q6) w fun q7 w =>
 aD pg (aI .lss 3 aM aM q7 (aNG 0)) w fun q9 w =>
 Gd (gJ q9 false) (fun K => K q7 w) w fun s1 w =>
 Gd (gJ q9 false) (fun K => aD pg (aK 128 cC 1) w K) w fun s2 w =>
 Gd (gJ q9 false) (fun K => aD pg (aL 42 s2) w K) w fun s3 w =>
 Gd (gJ q9 false) (fun K => aD pg (lG .len #[42] 3 [s3]) w K) w fun s4 w =>
 Gd (gJ q9 false) (fun K => aD pg (aI .geq 3 aM aM s1 s4) w K) w fun s5 w =>
 aD pg (iN q9 (.bool true) s5) w fun s6 w =>
 gZ s6
  (aD pg (fT 138 []) w fun s7 w =>
  aD pg (aR 138 b2 s7) w fun _u w =>
  An pg 138 b2 w fun r0 => R (.tuple #[r0, (aNG 1)]) w)
  (kn cC b2 iC b6 cZ nS q7 w)
theorem aaG (kn : K7) (R : K1) (hn : N7 Q kn 1 2 5 6 14 15 16) (hr : HR rK R Q) (h : KX kn R (g 1) (g 2) (g 5) (g 6) (g 14) (g 15) w) : bD pg bF (aF 2 (bI (aF 1 (aB 1 (bI (bI (aB 1 (aF 1 (aB 1 (aB 1 (aB 1 (aB 1 (aB 1 (aB 1 (aB 5 bA))))))))))))))) Q g w :=
 eL (l := []) h hn hr trivial
def UC (kn : K6) (R : K1) (cC b2 iC b6 cZ nS : aNF) (w : aNE) : Prop :=
 KX (fun cC b2 iC b6 cZ nS TJ w => KP kn cC b2 iC b6 cZ nS TJ w) R cC b2 iC b6 cZ nS w
def Lr (kn : K6) (R : K1) (cC b2 iC b6 cZ nS : aNF) (w : aNE) : Prop :=
 UC kn R cC b2 iC b6 cZ nS w
def C8 (kn : K6) (R : K1) (cC b2 iC b6 cZ nS : aNF) (w : aNE) : Prop :=
 Lr (fun cC b2 iC b6 cZ nS w => Bu kn cC b2 iC b6 cZ nS w) R cC b2 iC b6 cZ nS w
theorem aeH (kn : K6) (R : K1) (hn : N6 Q kn 1 2 5 6 14 15) (hr : HR rK R Q) (h : Lr kn R (g 1) (g 2) (g 5) (g 6) (g 14) (g 15) w) : bD pg bF (aF 1 (aB 1 (bI (bI (aB 1 (aF 1 (aB 1 (aB 1 (aB 1 (aB 1 (aB 1 (aB 1 (aB 5 bA))))))))))))) Q g w :=
 wX 11 (jA 2 (aaG _ g w (KP kn) R (fun g w h => aJ (jA 2 (aeB _ g w (Gq kn) (fun g w h => aJ (jA 3 (ajI _ g w (M8 kn) (fun g w h => aJ (jA 1 (alI _ g w (FE kn) (fun g w h => aJ (afA _ g w kn hn h)) h))) h))) h))) hr h))
def Lm (kn : K6) (k10 : K2) (cC b2 iC b6 cZ nS : aNF) (w : aNE) : Prop :=
 aD pg (aI .lss 3 aM aM nS iC) w fun p9 w =>
 gZ p9
  (kn cC b2 iC b6 cZ nS w)
  (k10 b2 b6 w)
theorem Z2 (kn : K6) (k10 : K2) (hn : N6 Q kn 1 2 5 6 14 15) (h10 : E2 Q k10 10 2 6) (h : Lm kn k10 (g 1) (g 2) (g 5) (g 6) (g 14) (g 15) w) : bD pg bF (aF 1 (bI (bI (aB 1 (aF 1 (aB 1 (aB 1 (aB 1 (aB 1 (aB 1 (aB 1 (aB 5 bA)))))))))))) Q g w :=
 eL (kr := no) (l := [(10, fun g w => k10 (g 2) (g 6) w)]) h hn gT ⟨h10, trivial⟩
def Dd (kn : K6) (k10 : K2) (R : K1) (cC b2 iC b6 cZ nS : aNF) (w : aNE) : Prop :=
 Lm (fun cC b2 iC b6 cZ nS w => C8 kn R cC b2 iC b6 cZ nS w) k10 cC b2 iC b6 cZ nS w
def KW (k10 : K2) (R : K1) (cC b2 iC b6 cZ nS : aNF) (w : aNE) : Prop :=
 cS (fun (X : aNF -> K0) (t : aNF) (w : aNE) => Dd (fun _ _ _ _ _ nS w => X nS w) k10 R cC b2 iC b6 cZ t w) nS w
theorem adS (kn : K6) (k10 : K2) (R : K1) (hn : N6 Q kn 1 2 5 6 14 15) (h10 : E2 Q k10 10 2 6) (hr : HR rK R Q) (h : Dd kn k10 R (g 1) (g 2) (g 5) (g 6) (g 14) (g 15) w) : bD pg bF (bI (bI (aB 1 (aF 1 (aB 1 (aB 1 (aB 1 (aB 1 (aB 1 (aB 1 (aB 5 bA))))))))))) Q g w :=
 jA 1 (Z2 _ g w (C8 kn R) k10 (fun g w h => aJ (jA 1 (aeH _ g w (Bu kn) R (fun g w h => aJ (ahE _ g w kn hn h)) hr h))) h10 h)
theorem adC (k10 : K2) (R : K1) (h10 : E2 Q k10 10 2 6) (hr : HR rK R Q) (h : KW k10 R (g 1) (g 2) (g 5) (g 6) (g 14) (g 15) w) : bD pg bF (bI (aB 1 (aF 1 (aB 1 (aB 1 (aB 1 (aB 1 (aB 1 (aB 1 (aB 5 bA)))))))))) Q g w := by
 refine CS (fun g : Env => g 15) (fun X t w => Dd (fun _ _ _ _ _ nS w => X nS w) k10 R (g 1) (g 2) (g 5) (g 6) (g 14) t w) h (fun X g1 w1 ha hL => ?_)
 rw [<- jX 1 ha, <- jX 2 ha, <- jX 5 ha, <- jX 6 ha, <- jX 14 ha] at hL
 exact (adS _ g1 w1 (fun _ _ _ _ _ nS w => X nS w) k10 R (fun _ _ h => h) h10 hr hL)
def J9 (kn : K2) (R : K1) (cC b2 iC b6 cZ nS : aNF) (w : aNE) : Prop :=
 KW kn R cC b2 iC b6 cZ nS w
def KF (kn : K6) (cC b2 iC b6 cZ : aNF) (w : aNE) : Prop :=
 kn cC b2 iC b6 cZ (aNG 0) w
theorem aaA (kn : K6) (hn : N6 Q kn 1 2 5 6 14 15) (h : KF kn (g 1) (g 2) (g 5) (g 6) (g 14) w) : bD pg bF (aF 1 (aF 1 (aB 1 (aB 1 (aB 1 (aB 1 (aB 1 (aB 1 (aB 5 bA))))))))) Q g w :=
 eL (kr := no) (l := []) h hn gT trivial
def Lw (kn : K2) (R : K1) (cC b2 iC b6 cZ : aNF) (w : aNE) : Prop :=
 KF (fun cC b2 iC b6 cZ nS w => J9 kn R cC b2 iC b6 cZ nS w) cC b2 iC b6 cZ w
def Lv (R : K1) (cC b2 iC b6 cZ : aNF) (w : aNE) : Prop :=
 Lw (fun b2 b6 w => F0 R b2 b6 w) R cC b2 iC b6 cZ w
theorem ZL (kn : K2) (R : K1) (hn : N2 Q kn 2 6) (hr : HR rK R Q) (h : Lw kn R (g 1) (g 2) (g 5) (g 6) (g 14) w) : bD pg bF (aF 1 (aB 1 (aB 1 (aB 1 (aB 1 (aB 1 (aB 1 (aB 5 bA)))))))) Q g w :=
 jA 1 (aaA _ g w (J9 kn R) (fun g w h => aJ (wX 10 (adC _ g w kn R hn hr h))) h)
def J7 (kn : K5) (cC b2 iC b6 : aNF) (w : aNE) : Prop :=
 aD pg (fU 183) w fun cZ w =>
 kn cC b2 iC b6 cZ w
theorem adT (kn : K5) (hn : N5 Q kn 1 2 5 6 14) (h : J7 kn (g 1) (g 2) (g 5) (g 6) w) : bD pg bF (aF 1 (aB 1 (aB 1 (aB 1 (aB 1 (aB 1 (aB 5 bA))))))) Q g w :=
 eL (kr := no) (l := []) h hn gT trivial
def CY (R : K1) (cC b2 iC b6 : aNF) (w : aNE) : Prop :=
 J7 (fun cC b2 iC b6 cZ w => Lv R cC b2 iC b6 cZ w) cC b2 iC b6 w
def DK (kn : K7) (cC b2 iC b6 b8 gC nI : aNF) (w : aNE) : Prop :=
 aD pg (aI .add 3 aM aM nI (aNG 1)) w fun l1 w =>
 kn cC b2 iC b6 b8 gC l1 w
theorem ZU (kn : K7) (hn : N7 Q kn 1 2 5 6 8 10 11) (h : DK kn (g 1) (g 2) (g 5) (g 6) (g 8) (g 10) (g 11) w) : bD pg bF (aB 1 (aB 1 (bI (bI (aB 1 (aF 1 (aB 1 (aB 1 (aB 1 (aB 1 (aB 5 bA))))))))))) Q g w :=
 eL (kr := no) (l := []) h hn gT trivial
def DG (kn : K8) (cC b2 iC b6 b8 gC nI vE : aNF) (w : aNE) : Prop :=
 aD pg (aI .add 3 aM aM vE (aNG 1)) w fun m0 w =>
 kn cC b2 iC b6 b8 gC nI m0 w
theorem adX (kn : K8) (hn : N8 Q kn 1 2 5 6 8 10 11 12) (h : DG kn (g 1) (g 2) (g 5) (g 6) (g 8) (g 10) (g 11) (g 12) w) : bD pg bF (aB 1 (aB 1 (bI (bI (aB 1 (bI (aF 1 (aB 1 (bI (bI (aB 1 (aF 1 (aB 1 (aB 1 (aB 1 (aB 1 (aB 5 bA))))))))))))))))) Q g w :=
 eL (kr := no) (l := []) h hn gT trivial
def C1 (kn : K9) (k8 : K8) (cC b2 iC b6 b8 gC nI vE YX : aNF) (w : aNE) : Prop :=
 aD pg (aI .lss 3 aM aM YX iC) w fun n9 w =>
 Gd (gJ n9 true) (fun K => K gC w) w fun o1 w =>
 Gd (gJ n9 true) (fun K => K b8 w) w fun o2 w =>
 Gd (gJ n9 true) (fun K => aD pg (aI .gtr 3 aM aM o1 o2) w K) w fun o3 w =>
 aD pg (iN n9 o3 (.bool false)) w fun o4 w =>
 gZ o4
  (aD pg (aI .quo 3 aM aM iC (aNG 2)) w fun o9 w =>
  aD pg (aI .add 3 aM aM gC o9) w fun p0 w =>
  aD pg (aI .quo 3 aM aM iC (aNG 8)) w fun p2 w =>
  aD pg (aI .add 3 aM aM p0 p2) w fun p3 w =>
  aD pg (aI .add 3 aM aM p3 (aNG 3)) w fun p4 w =>
  aD pg (aI .rem 3 aM aM p4 iC) w fun p6 w =>
  aD pg (aI .add 3 aM aM YX (aNG 1)) w fun o6 w =>
  kn cC b2 iC b6 b8 p6 nI vE o6 w)
  (k8 cC b2 iC b6 b8 gC nI vE w)
theorem aaC (kn : K9) (k8 : K8) (hn : N9 Q kn 1 2 5 6 8 10 11 12 13) (h8 : E8 Q k8 8 1 2 5 6 8 10 11 12) (h : C1 kn k8 (g 1) (g 2) (g 5) (g 6) (g 8) (g 10) (g 11) (g 12) (g 13) w) : bD pg bF (bI (bI (aB 3 (bI (aF 1 (aB 1 (bI (bI (aB 1 (bI (aF 1 (aB 1 (bI (bI (aB 1 (aF 1 (aB 1 (aB 1 (aB 1 (aB 1 (aB 5 bA))))))))))))))))))))) Q g w :=
 eL (kr := no) (l := [(8, fun g w => k8 (g 1) (g 2) (g 5) (g 6) (g 8) (g 10) (g 11) (g 12) w)]) h hn gT ⟨h8, trivial⟩
def DF (k8 : K8) (cC b2 iC b6 b8 gC nI vE YX : aNF) (w : aNE) : Prop :=
 cS (fun (X : (aNF × aNF) -> K0) (t : aNF × aNF) (w : aNE) => C1 (fun _ _ _ _ _ gC _ _ YX w => X (gC, YX) w) k8 cC b2 iC b6 b8 t.1 nI vE t.2 w) (gC, YX) w
theorem ZE (k8 : K8) (h8 : E8 Q k8 8 1 2 5 6 8 10 11 12) (h : DF k8 (g 1) (g 2) (g 5) (g 6) (g 8) (g 10) (g 11) (g 12) (g 13) w) : bD pg bF (bI (aB 3 (bI (aF 1 (aB 1 (bI (bI (aB 1 (bI (aF 1 (aB 1 (bI (bI (aB 1 (aF 1 (aB 1 (aB 1 (aB 1 (aB 1 (aB 5 bA)))))))))))))))))))) Q g w := by
 refine CS (fun g : Env => (g 10, g 13)) (fun X t w => C1 (fun _ _ _ _ _ gC _ _ YX w => X (gC, YX) w) k8 (g 1) (g 2) (g 5) (g 6) (g 8) t.1 (g 11) (g 12) t.2 w) h (fun X g1 w1 ha hL => ?_)
 rw [<- jX 1 ha, <- jX 2 ha, <- jX 5 ha, <- jX 6 ha, <- jX 8 ha, <- jX 11 ha, <- jX 12 ha] at hL
 exact (aaC _ g1 w1 (fun _ _ _ _ _ gC _ _ YX w => X (gC, YX) w) k8 (fun _ _ h => h) h8 hL)
def Ko (kn : K8) (cC b2 iC b6 b8 gC nI vE YX : aNF) (w : aNE) : Prop :=
 DF kn cC b2 iC b6 b8 gC nI vE YX w
def LF (kn : K9) (cC b2 iC b6 b8 gC nI vE : aNF) (w : aNE) : Prop :=
 aD pg (aK 138 b6 1) w fun m1 w =>
 aD pg (aL 136 m1) w fun m2 w =>
 aD pg (cI 136 m2 gC) w fun m5 w =>
 aD pg (aK 145 m5 0) w fun m6 w =>
 aD pg (aR 3 m6 nI) w fun _u w =>
 aD pg (aI .quo 3 aM aM iC (aNG 2)) w fun m9 w =>
 aD pg (aI .add 3 aM aM gC m9) w fun n0 w =>
 aD pg (aI .quo 3 aM aM iC (aNG 8)) w fun n2 w =>
 aD pg (aI .add 3 aM aM n0 n2) w fun n3 w =>
 aD pg (aI .add 3 aM aM n3 (aNG 3)) w fun n4 w =>
 aD pg (aI .rem 3 aM aM n4 iC) w fun n6 w =>
 kn cC b2 iC b6 b8 n6 nI vE (aNG 0) w
theorem ZS (kn : K9) (hn : N9 Q kn 1 2 5 6 8 10 11 12 13) (h : LF kn (g 1) (g 2) (g 5) (g 6) (g 8) (g 10) (g 11) (g 12) w) : bD pg bF (aF 3 (bI (aF 1 (aB 1 (bI (bI (aB 1 (bI (aF 1 (aB 1 (bI (bI (aB 1 (aF 1 (aB 1 (aB 1 (aB 1 (aB 1 (aB 5 bA))))))))))))))))))) Q g w :=
 eL (kr := no) (l := []) h hn gT trivial
def UG (kn : K8) (cC b2 iC b6 b8 gC nI vE : aNF) (w : aNE) : Prop :=
 LF (fun cC b2 iC b6 b8 gC nI vE YX w => Ko kn cC b2 iC b6 b8 gC nI vE YX w) cC b2 iC b6 b8 gC nI vE w
def LR (kn : K8) (cC b2 iC b6 b8 gC nI vE : aNF) (w : aNE) : Prop :=
 UG kn cC b2 iC b6 b8 gC nI vE w
def Kw (kn : K8) (cC b2 iC b6 b8 gC nI vE : aNF) (w : aNE) : Prop :=
 LR (fun cC b2 iC b6 b8 gC nI vE w => DG kn cC b2 iC b6 b8 gC nI vE w) cC b2 iC b6 b8 gC nI vE w
theorem abT (kn : K8) (hn : N8 Q kn 1 2 5 6 8 10 11 12) (h : LR kn (g 1) (g 2) (g 5) (g 6) (g 8) (g 10) (g 11) (g 12) w) : bD pg bF (aF 1 (aB 1 (bI (bI (aB 1 (bI (aF 1 (aB 1 (bI (bI (aB 1 (aF 1 (aB 1 (aB 1 (aB 1 (aB 1 (aB 5 bA))))))))))))))))) Q g w :=
 wX 7 (jA 3 (ZS _ g w (Ko kn) (fun g w h => aJ (wX 8 (ZE _ g w kn hn h))) h))
def LU (kn : K8) (k6 : K7) (cC b2 iC b6 b8 gC nI vE : aNF) (w : aNE) : Prop :=
 aD pg (aK 128 cC 1) w fun l3 w =>
 aD pg (aL 42 l3) w fun l4 w =>
 aD pg (cI 42 l4 nI) w fun l6 w =>
 aD pg (aL 3 l6) w fun l7 w =>
 aD pg (aI .lss 3 aM aM vE l7) w fun l8 w =>
 gZ l8
  (kn cC b2 iC b6 b8 gC nI vE w)
  (k6 cC b2 iC b6 b8 gC nI w)
theorem aaT (kn : K8) (k6 : K7) (hn : N8 Q kn 1 2 5 6 8 10 11 12) (h6 : E7 Q k6 6 1 2 5 6 8 10 11) (h : LU kn k6 (g 1) (g 2) (g 5) (g 6) (g 8) (g 10) (g 11) (g 12) w) : bD pg bF (aF 1 (bI (bI (aB 1 (bI (aF 1 (aB 1 (bI (bI (aB 1 (aF 1 (aB 1 (aB 1 (aB 1 (aB 1 (aB 5 bA)))))))))))))))) Q g w :=
 eL (kr := no) (l := [(6, fun g w => k6 (g 1) (g 2) (g 5) (g 6) (g 8) (g 10) (g 11) w)]) h hn gT ⟨h6, trivial⟩
def Dh (kn : K8) (k6 : K7) (cC b2 iC b6 b8 gC nI vE : aNF) (w : aNE) : Prop :=
 LU (fun cC b2 iC b6 b8 gC nI vE w => Kw kn cC b2 iC b6 b8 gC nI vE w) k6 cC b2 iC b6 b8 gC nI vE w
def KO (k6 : K7) (cC b2 iC b6 b8 gC nI vE : aNF) (w : aNE) : Prop :=
 cS (fun (X : (aNF × aNF) -> K0) (t : aNF × aNF) (w : aNE) => Dh (fun _ _ _ _ _ gC _ vE w => X (gC, vE) w) k6 cC b2 iC b6 b8 t.1 nI t.2 w) (gC, vE) w
theorem acH (kn : K8) (k6 : K7) (hn : N8 Q kn 1 2 5 6 8 10 11 12) (h6 : E7 Q k6 6 1 2 5 6 8 10 11) (h : Dh kn k6 (g 1) (g 2) (g 5) (g 6) (g 8) (g 10) (g 11) (g 12) w) : bD pg bF (bI (bI (aB 1 (bI (aF 1 (aB 1 (bI (bI (aB 1 (aF 1 (aB 1 (aB 1 (aB 1 (aB 1 (aB 5 bA))))))))))))))) Q g w :=
 jA 1 (aaT _ g w (Kw kn) k6 (fun g w h => aJ (jA 1 (abT _ g w (DG kn) (fun g w h => aJ (adX _ g w kn hn h)) h))) h6 h)
theorem aaU (k6 : K7) (h6 : E7 Q k6 6 1 2 5 6 8 10 11) (h : KO k6 (g 1) (g 2) (g 5) (g 6) (g 8) (g 10) (g 11) (g 12) w) : bD pg bF (bI (aB 1 (bI (aF 1 (aB 1 (bI (bI (aB 1 (aF 1 (aB 1 (aB 1 (aB 1 (aB 1 (aB 5 bA)))))))))))))) Q g w := by
 refine CS (fun g : Env => (g 10, g 12)) (fun X t w => Dh (fun _ _ _ _ _ gC _ vE w => X (gC, vE) w) k6 (g 1) (g 2) (g 5) (g 6) (g 8) t.1 (g 11) t.2 w) h (fun X g1 w1 ha hL => ?_)
 rw [<- jX 1 ha, <- jX 2 ha, <- jX 5 ha, <- jX 6 ha, <- jX 8 ha, <- jX 11 ha] at hL
 exact (acH _ g1 w1 (fun _ _ _ _ _ gC _ vE w => X (gC, vE) w) k6 (fun _ _ h => h) h6 hL)
def Ka (kn : K7) (cC b2 iC b6 b8 gC nI vE : aNF) (w : aNE) : Prop :=
 KO kn cC b2 iC b6 b8 gC nI vE w
def LL (kn : K8) (cC b2 iC b6 b8 gC nI : aNF) (w : aNE) : Prop :=
 kn cC b2 iC b6 b8 gC nI (aNG 0) w
theorem acI (kn : K8) (hn : N8 Q kn 1 2 5 6 8 10 11 12) (h : LL kn (g 1) (g 2) (g 5) (g 6) (g 8) (g 10) (g 11) w) : bD pg bF (aF 1 (bI (aF 1 (aB 1 (bI (bI (aB 1 (aF 1 (aB 1 (aB 1 (aB 1 (aB 1 (aB 5 bA))))))))))))) Q g w :=
 eL (kr := no) (l := []) h hn gT trivial
def UN (kn : K7) (cC b2 iC b6 b8 gC nI : aNF) (w : aNE) : Prop :=
 LL (fun cC b2 iC b6 b8 gC nI vE w => Ka kn cC b2 iC b6 b8 gC nI vE w) cC b2 iC b6 b8 gC nI w
def JM (kn : K7) (cC b2 iC b6 b8 gC nI : aNF) (w : aNE) : Prop :=
 UN kn cC b2 iC b6 b8 gC nI w
def Ks (kn : K7) (cC b2 iC b6 b8 gC nI : aNF) (w : aNE) : Prop :=
 JM (fun cC b2 iC b6 b8 gC nI w => DK kn cC b2 iC b6 b8 gC nI w) cC b2 iC b6 b8 gC nI w
theorem adM (kn : K7) (hn : N7 Q kn 1 2 5 6 8 10 11) (h : JM kn (g 1) (g 2) (g 5) (g 6) (g 8) (g 10) (g 11) w) : bD pg bF (aF 1 (aB 1 (bI (bI (aB 1 (aF 1 (aB 1 (aB 1 (aB 1 (aB 1 (aB 5 bA))))))))))) Q g w :=
 wX 5 (jA 1 (acI _ g w (Ka kn) (fun g w h => aJ (wX 6 (aaU _ g w kn hn h))) h))
def JE (kn : K7) (k4 : K4) (cC b2 iC b6 b8 gC nI : aNF) (w : aNE) : Prop :=
 aD pg (aK 128 cC 1) w fun j6 w =>
 aD pg (aL 42 j6) w fun j7 w =>
 aD pg (lG .len #[42] 3 [j7]) w fun j8 w =>
 aD pg (aI .lss 3 aM aM nI j8) w fun j9 w =>
 gZ j9
  (kn cC b2 iC b6 b8 gC nI w)
  (k4 cC b2 iC b6 w)
theorem aeR (kn : K7) (k4 : K4) (hn : N7 Q kn 1 2 5 6 8 10 11) (h4 : E4 Q k4 4 1 2 5 6) (h : JE kn k4 (g 1) (g 2) (g 5) (g 6) (g 8) (g 10) (g 11) w) : bD pg bF (aF 1 (bI (bI (aB 1 (aF 1 (aB 1 (aB 1 (aB 1 (aB 1 (aB 5 bA)))))))))) Q g w :=
 eL (kr := no) (l := [(4, fun g w => k4 (g 1) (g 2) (g 5) (g 6) w)]) h hn gT ⟨h4, trivial⟩
def C5 (kn : K7) (k4 : K4) (cC b2 iC b6 b8 gC nI : aNF) (w : aNE) : Prop :=
 JE (fun cC b2 iC b6 b8 gC nI w => Ks kn cC b2 iC b6 b8 gC nI w) k4 cC b2 iC b6 b8 gC nI w
def De (k4 : K4) (cC b2 iC b6 b8 gC nI : aNF) (w : aNE) : Prop :=
 cS (fun (X : (aNF × aNF) -> K0) (t : aNF × aNF) (w : aNE) => C5 (fun _ _ _ _ _ gC nI w => X (gC, nI) w) k4 cC b2 iC b6 b8 t.1 t.2 w) (gC, nI) w
theorem aaI (kn : K7) (k4 : K4) (hn : N7 Q kn 1 2 5 6 8 10 11) (h4 : E4 Q k4 4 1 2 5 6) (h : C5 kn k4 (g 1) (g 2) (g 5) (g 6) (g 8) (g 10) (g 11) w) : bD pg bF (bI (bI (aB 1 (aF 1 (aB 1 (aB 1 (aB 1 (aB 1 (aB 5 bA))))))))) Q g w :=
 jA 1 (aeR _ g w (Ks kn) k4 (fun g w h => aJ (jA 1 (adM _ g w (DK kn) (fun g w h => aJ (ZU _ g w kn hn h)) h))) h4 h)
theorem Z5 (k4 : K4) (h4 : E4 Q k4 4 1 2 5 6) (h : De k4 (g 1) (g 2) (g 5) (g 6) (g 8) (g 10) (g 11) w) : bD pg bF (bI (aB 1 (aF 1 (aB 1 (aB 1 (aB 1 (aB 1 (aB 5 bA)))))))) Q g w := by
 refine CS (fun g : Env => (g 10, g 11)) (fun X t w => C5 (fun _ _ _ _ _ gC nI w => X (gC, nI) w) k4 (g 1) (g 2) (g 5) (g 6) (g 8) t.1 t.2 w) h (fun X g1 w1 ha hL => ?_)
 rw [<- jX 1 ha, <- jX 2 ha, <- jX 5 ha, <- jX 6 ha, <- jX 8 ha] at hL
 exact (aaI _ g1 w1 (fun _ _ _ _ _ gC nI w => X (gC, nI) w) k4 (fun _ _ h => h) h4 hL)
def KJ (kn : K4) (cC b2 iC b6 b8 gC nI : aNF) (w : aNE) : Prop :=
 De kn cC b2 iC b6 b8 gC nI w
def Kh (kn : K7) (cC b2 iC b6 b8 gC : aNF) (w : aNE) : Prop :=
 kn cC b2 iC b6 b8 gC (aNG 0) w
theorem abE (kn : K7) (hn : N7 Q kn 1 2 5 6 8 10 11) (h : Kh kn (g 1) (g 2) (g 5) (g 6) (g 8) (g 10) w) : bD pg bF (aF 1 (aF 1 (aB 1 (aB 1 (aB 1 (aB 1 (aB 5 bA))))))) Q g w :=
 eL (kr := no) (l := []) h hn gT trivial
def KG (kn : K4) (cC b2 iC b6 b8 gC : aNF) (w : aNE) : Prop :=
 Kh (fun cC b2 iC b6 b8 gC nI w => KJ kn cC b2 iC b6 b8 gC nI w) cC b2 iC b6 b8 gC w
def KZ (R : K1) (cC b2 iC b6 b8 gC : aNF) (w : aNE) : Prop :=
 KG (fun cC b2 iC b6 w => CY R cC b2 iC b6 w) cC b2 iC b6 b8 gC w
theorem aaJ (kn : K4) (hn : N4 Q kn 1 2 5 6) (h : KG kn (g 1) (g 2) (g 5) (g 6) (g 8) (g 10) w) : bD pg bF (aF 1 (aB 1 (aB 1 (aB 1 (aB 1 (aB 5 bA)))))) Q g w :=
 jA 1 (abE _ g w (KJ kn) (fun g w h => aJ (wX 4 (Z5 _ g w kn hn h))) h)
def Lg (kn : K6) (cC b2 iC b6 b8 : aNF) (w : aNE) : Prop :=
 kn cC b2 iC b6 b8 (aNG 0) w
theorem acG (kn : K6) (hn : N6 Q kn 1 2 5 6 8 10) (h : Lg kn (g 1) (g 2) (g 5) (g 6) (g 8) w) : bD pg bF (aF 1 (aB 1 (aB 1 (aB 1 (aB 5 bA))))) Q g w :=
 eL (kr := no) (l := []) h hn gT trivial
def La (R : K1) (cC b2 iC b6 b8 : aNF) (w : aNE) : Prop :=
 Lg (fun cC b2 iC b6 b8 gC w => KZ R cC b2 iC b6 b8 gC w) cC b2 iC b6 b8 w
def Ag (kn : K6) (cC b2 iC b6 b8 vY : aNF) (w : aNE) : Prop :=
 aD pg (aI .add 3 aM aM vY (aNG 1)) w fun i0 w =>
 kn cC b2 iC b6 b8 i0 w
theorem adA (kn : K6) (hn : N6 Q kn 1 2 5 6 8 9) (h : Ag kn (g 1) (g 2) (g 5) (g 6) (g 8) (g 9) w) : bD pg bF (aB 2 (bI (bI (aB 1 (aF 1 (aB 1 (aB 1 (aB 5 bA)))))))) Q g w :=
 eL (kr := no) (l := []) h hn gT trivial
def Lz (kn : K6) (k2 : K5) (cC b2 iC b6 b8 vY : aNF) (w : aNE) : Prop :=
 aD pg (aK 128 cC 1) w fun f5 w =>
 aD pg (aL 42 f5) w fun f6 w =>
 aD pg (lG .len #[42] 3 [f6]) w fun f7 w =>
 aD pg (aI .lss 3 aM aM vY f7) w fun f8 w =>
 gZ f8
  (aD pg (aK 128 cC 1) w fun i1 w =>
  aD pg (aL 42 i1) w fun i2 w =>
  aD pg (cI 42 i2 vY) w fun i4 w =>
  aD pg (aL 3 i4) w fun i5 w =>
  aD pg (aI .lss 3 aM aM i5 (aNG 0)) w fun i6 w =>
  gZ i6
   (aD pg (aK 138 b6 1) w fun i7 w =>
   aD pg (aL 136 i7) w fun i8 w =>
   aD pg (cI 136 i8 b8) w fun j1 w =>
   aD pg (aK 145 j1 0) w fun j2 w =>
   aD pg (aR 3 j2 vY) w fun _u w =>
   aD pg (aI .sub 3 aM aM b8 (aNG 1)) w fun j4 w =>
   kn cC b2 iC b6 j4 vY w)
   (kn cC b2 iC b6 b8 vY w))
  (k2 cC b2 iC b6 b8 w)
theorem adE (kn : K6) (k2 : K5) (hn : N6 Q kn 1 2 5 6 8 9) (h2 : E5 Q k2 2 1 2 5 6 8) (h : Lz kn k2 (g 1) (g 2) (g 5) (g 6) (g 8) (g 9) w) : bD pg bF (aF 2 (bI (bI (aB 1 (aF 1 (aB 1 (aB 1 (aB 5 bA)))))))) Q g w :=
 eL (kr := no) (l := [(2, fun g w => k2 (g 1) (g 2) (g 5) (g 6) (g 8) w)]) h hn gT ⟨h2, trivial⟩
def Dr (kn : K6) (k2 : K5) (cC b2 iC b6 b8 vY : aNF) (w : aNE) : Prop :=
 Lz (fun cC b2 iC b6 b8 vY w => Ag kn cC b2 iC b6 b8 vY w) k2 cC b2 iC b6 b8 vY w
def Du (k2 : K5) (cC b2 iC b6 b8 vY : aNF) (w : aNE) : Prop :=
 cS (fun (X : (aNF × aNF) -> K0) (t : aNF × aNF) (w : aNE) => Dr (fun _ _ _ _ b8 vY w => X (b8, vY) w) k2 cC b2 iC b6 t.1 t.2 w) (b8, vY) w
theorem abB (kn : K6) (k2 : K5) (hn : N6 Q kn 1 2 5 6 8 9) (h2 : E5 Q k2 2 1 2 5 6 8) (h : Dr kn k2 (g 1) (g 2) (g 5) (g 6) (g 8) (g 9) w) : bD pg bF (bI (bI (aB 1 (aF 1 (aB 1 (aB 1 (aB 5 bA))))))) Q g w :=
 jA 2 (adE _ g w (Ag kn) k2 (fun g w h => aJ (adA _ g w kn hn h)) h2 h)
theorem acT (k2 : K5) (h2 : E5 Q k2 2 1 2 5 6 8) (h : Du k2 (g 1) (g 2) (g 5) (g 6) (g 8) (g 9) w) : bD pg bF (bI (aB 1 (aF 1 (aB 1 (aB 1 (aB 5 bA)))))) Q g w := by
 refine CS (fun g : Env => (g 8, g 9)) (fun X t w => Dr (fun _ _ _ _ b8 vY w => X (b8, vY) w) k2 (g 1) (g 2) (g 5) (g 6) t.1 t.2 w) h (fun X g1 w1 ha hL => ?_)
 rw [<- jX 1 ha, <- jX 2 ha, <- jX 5 ha, <- jX 6 ha] at hL
 exact (abB _ g1 w1 (fun _ _ _ _ b8 vY w => X (b8, vY) w) k2 (fun _ _ h => h) h2 hL)
def JY (kn : K5) (cC b2 iC b6 b8 vY : aNF) (w : aNE) : Prop :=
 Du kn cC b2 iC b6 b8 vY w
def JQ (kn : K6) (cC b2 iC b6 b8 : aNF) (w : aNE) : Prop :=
 kn cC b2 iC b6 b8 (aNG 0) w
theorem acA (kn : K6) (hn : N6 Q kn 1 2 5 6 8 9) (h : JQ kn (g 1) (g 2) (g 5) (g 6) (g 8) w) : bD pg bF (aF 1 (aF 1 (aB 1 (aB 1 (aB 5 bA))))) Q g w :=
 eL (kr := no) (l := []) h hn gT trivial
def Lb (kn : K5) (cC b2 iC b6 b8 : aNF) (w : aNE) : Prop :=
 JQ (fun cC b2 iC b6 b8 vY w => JY kn cC b2 iC b6 b8 vY w) cC b2 iC b6 b8 w
def KL (R : K1) (cC b2 iC b6 b8 : aNF) (w : aNE) : Prop :=
 Lb (fun cC b2 iC b6 b8 w => La R cC b2 iC b6 b8 w) cC b2 iC b6 b8 w
theorem abZ (kn : K5) (hn : N5 Q kn 1 2 5 6 8) (h : Lb kn (g 1) (g 2) (g 5) (g 6) (g 8) w) : bD pg bF (aF 1 (aB 1 (aB 1 (aB 5 bA)))) Q g w :=
 jA 1 (acA _ g w (JY kn) (fun g w h => aJ (wX 2 (acT _ g w kn hn h))) h)
def KS (kn : K5) (cC b2 iC b6 : aNF) (w : aNE) : Prop :=
 aD pg (aI .sub 3 aM aM iC (aNG 1)) w fun f3 w =>
 kn cC b2 iC b6 f3 w
theorem adJ (kn : K5) (hn : N5 Q kn 1 2 5 6 8) (h : KS kn (g 1) (g 2) (g 5) (g 6) w) : bD pg bF (aF 1 (aB 1 (aB 5 bA))) Q g w :=
 eL (kr := no) (l := []) h hn gT trivial
def LB (R : K1) (cC b2 iC b6 : aNF) (w : aNE) : Prop :=
 KS (fun cC b2 iC b6 b8 w => KL R cC b2 iC b6 b8 w) cC b2 iC b6 w
def Dg (kn : K5) (k0 : K4) (cC b2 iC b6 P0 : aNF) (w : aNE) : Prop :=
 aD pg (aI .lss 3 aM aM P0 iC) w fun e3 w =>
 gZ e3
  (aD pg (aK 138 b6 1) w fun e6 w =>
  aD pg (aL 136 e6) w fun e7 w =>
  aD pg (fT 145 [(0, (aNG (-1)))]) w fun e8 w =>
  aD pg (cV 136 1 [(0, e8)]) w fun e9 w =>
  aD pg (lG .append #[136, 136] 136 [e7, e9]) w fun f0 w =>
  aD pg (aK 138 b6 1) w fun f1 w =>
  aD pg (aR 136 f1 f0) w fun _u w =>
  aD pg (aI .add 3 aM aM P0 (aNG 1)) w fun e5 w =>
  kn cC b2 iC b6 e5 w)
  (k0 cC b2 iC b6 w)
theorem ZG (kn : K5) (k0 : K4) (hn : N5 Q kn 1 2 5 6 7) (h0 : E4 Q k0 0 1 2 5 6) (h : Dg kn k0 (g 1) (g 2) (g 5) (g 6) (g 7) w) : bD pg bF (bI (bI (aB 1 (aF 1 (aB 5 bA))))) Q g w :=
 eL (kr := no) (l := [(0, fun g w => k0 (g 1) (g 2) (g 5) (g 6) w)]) h hn gT ⟨h0, trivial⟩
def Db (k0 : K4) (cC b2 iC b6 P0 : aNF) (w : aNE) : Prop :=
 cS (fun (X : aNF -> K0) (t : aNF) (w : aNE) => Dg (fun _ _ _ _ P0 w => X P0 w) k0 cC b2 iC b6 t w) P0 w
theorem aeK (k0 : K4) (h0 : E4 Q k0 0 1 2 5 6) (h : Db k0 (g 1) (g 2) (g 5) (g 6) (g 7) w) : bD pg bF (bI (aB 1 (aF 1 (aB 5 bA)))) Q g w := by
 refine CS (fun g : Env => g 7) (fun X t w => Dg (fun _ _ _ _ P0 w => X P0 w) k0 (g 1) (g 2) (g 5) (g 6) t w) h (fun X g1 w1 ha hL => ?_)
 rw [<- jX 1 ha, <- jX 2 ha, <- jX 5 ha, <- jX 6 ha] at hL
 exact (ZG _ g1 w1 (fun _ _ _ _ P0 w => X P0 w) k0 (fun _ _ h => h) h0 hL)
def J8 (kn : K4) (cC b2 iC b6 P0 : aNF) (w : aNE) : Prop :=
 Db kn cC b2 iC b6 P0 w
def J1 (kn : K5) (cC b2 iC b6 : aNF) (w : aNE) : Prop :=
 kn cC b2 iC b6 (aNG 0) w
theorem acQ (kn : K5) (hn : N5 Q kn 1 2 5 6 7) (h : J1 kn (g 1) (g 2) (g 5) (g 6) w) : bD pg bF (aF 1 (aF 1 (aB 5 bA))) Q g w :=
 eL (kr := no) (l := []) h hn gT trivial
def Kx (kn : K4) (cC b2 iC b6 : aNF) (w : aNE) : Prop :=
 J1 (fun cC b2 iC b6 P0 w => J8 kn cC b2 iC b6 P0 w) cC b2 iC b6 w
def LQ (R : K1) (cC b2 iC b6 : aNF) (w : aNE) : Prop :=
 Kx (fun cC b2 iC b6 w => LB R cC b2 iC b6 w) cC b2 iC b6 w
theorem Z6 (kn : K4) (hn : N4 Q kn 1 2 5 6) (h : Kx kn (g 1) (g 2) (g 5) (g 6) w) : bD pg bF (aF 1 (aB 5 bA)) Q g w :=
 jA 1 (acQ _ g w (J8 kn) (fun g w h => aJ (wX 0 (aeK _ g w kn hn h))) h)
def Kp (kn : K4) (R : K1) (L1 : aNF) (w : aNE) : Prop :=
 aD pg (B5 128 L1) w fun cC w =>
 aD pg (fU 138) w fun b2 w =>
 aD pg (aL 128 cC) w fun d0 w =>
 aT pg IJ #[d0, (aNG 15)] w fun d1 w =>
 aD pg (aI .neq 27 (.tmp 22) (.const (aNG 0)) d1 (aNG 0)) w fun d3 w =>
 gZ d3
  (aD pg (fT 138 []) w fun d4 w =>
  aD pg (aR 138 b2 d4) w fun _u w =>
  An pg 138 b2 w fun r0 => R (.tuple #[r0, (aNG 1)]) w)
  (aD pg (aK 128 cC 0) w fun d5 w =>
  aD pg (aL 3 d5) w fun d6 w =>
  aT pg nZ #[d6] w fun d7 w =>
  aD pg (aK 128 cC 0) w fun d8 w =>
  aD pg (aL 3 d8) w fun d9 w =>
  aD pg (fT 138 [(0, d9)]) w fun e0 w =>
  aD pg (fU 138) w fun b6 w =>
  aD pg (aR 138 b6 e0) w fun _u w =>
  kn cC b2 d7 b6 w)
theorem adO (kn : K4) (R : K1) (hn : N4 Q kn 1 2 5 6) (hr : HR rK R Q) (h : Kp kn R (g 0) w) : bD pg bF (aF 5 bA) Q g w :=
 eL (l := []) h hn hr trivial
def JR (R : K1) (L1 : aNF) (w : aNE) : Prop :=
 Kp (fun cC b2 iC b6 w => LQ R cC b2 iC b6 w) R L1 w
theorem acW (R : K1) (hr : HR rK R Q) (h : JR R (g 0) w) : bD pg bF bA Q g w :=
 jA 5 (adO _ g w (LQ R) R (fun g w h => aJ (jA 1 (Z6 _ g w (LB R) (fun g w h => aJ (jA 1 (adJ _ g w (KL R) (fun g w h => aJ (jA 1 (abZ _ g w (La R) (fun g w h => aJ (jA 1 (acG _ g w (KZ R) (fun g w h => aJ (jA 1 (aaJ _ g w (CY R) (fun g w h => aJ (jA 1 (adT _ g w (Lv R) (fun g w h => aJ (jA 1 (ZL _ g w (F0 R) R (fun g w h => aJ (akM _ g w R hr h)) hr h))) h))) h))) h))) h))) h))) h))) hr h)
def arN (a0 : aNF) (w : aNE) (R : K1) : Prop :=
 JR R a0 w
theorem amI {a0 : aNF} {w : aNE} {R : K1} (h : arN a0 w R) : aT pg I7 #[a0] w R := by
 refine uO (ann := bF) Tryz.f70 bA [a0] rK 185 TryzM.mixed Tryz.func70 ?_
 exact (acW _ _ _ R (fun _ _ h => h) h)
def Us : FA := ⟨CK, fun i => .leaf ([], []) []⟩
def Xb : List ResultVar := [.cell 4 133, .tmp 5]
noncomputable def Sv : Code := dG Tryz.f71
def OC (R : K1) (b0 b_1 : aNF) (w : aNE) : Prop :=
 aD pg (B5 138 b0) w fun b2 w =>
 aD pg (B5 133 b_1) w fun CD w =>
 aD pg (fU 133) w fun b4 w =>
 aD pg (aL 133 CD) w fun b8 w =>
 aD pg (aK 138 b2 0) w fun b9 w =>
 aD pg (aL 3 b9) w fun c0 w =>
 aT pg zJ #[b8, c0] w fun c1 w =>
 aD pg (bQ c1 0) w fun c2 w =>
 aD pg (bQ c1 1) w fun c3 w =>
 aD pg (aR 133 CD c2) w fun _u w =>
 aD pg (aL 133 CD) w fun c4 w =>
 aD pg (jG 24 3 c3) w fun c6 w =>
 aD pg (aR 133 b4 c4) w fun _u w =>
 An pg 133 b4 w fun r0 => R (.tuple #[r0, c6]) w
theorem alT (R : K1) (hr : HR Xb R Q) (h : OC R (g 0) (g 1) w) : bD pg Us Sv Q g w :=
 eL (kn := no) (l := []) h gT hr trivial
def atA (a0 a1 : aNF) (w : aNE) (R : K1) : Prop :=
 OC R a0 a1 w
theorem aqB {a0 a1 : aNF} {w : aNE} {R : K1} (h : atA a0 a1 w R) : aT pg CK #[a0, a1] w R := by
 refine uO (ann := Us) Tryz.f71 Sv [a0, a1] Xb 17 TryzM.mixed Tryz.func71 ?_
 exact (alT _ _ _ R (fun _ _ h => h) h)
def VM : FA := ⟨B4, fun i => .leaf ([], []) []⟩
def Zu : List ResultVar := [.tmp 2]
noncomputable def UH : Code := dG Tryz.f72
def Ru (R : K1) (dY : aNF) (w : aNE) : Prop :=
 aD pg (B5 133 dY) w fun b_1 w =>
 aD pg (aK 133 b_1 0) w fun b3 w =>
 aD pg (aL 131 b3) w fun b4 w =>
 aD pg (lG .len #[131] 3 [b4]) w fun b5 w =>
 aD pg (aK 133 b_1 1) w fun b6 w =>
 aD pg (aL 3 b6) w fun b7 w =>
 aD pg (aI .sub 3 aM aM b5 b7) w fun b8 w =>
 R b8 w
theorem aqI (R : K1) (hr : HR Zu R Q) (h : Ru R (g 0) w) : bD pg VM UH Q g w :=
 eL (kn := no) (l := []) h gT hr trivial
def ayD (a0 : aNF) (w : aNE) (R : K1) : Prop :=
 Ru R a0 w
theorem avL {a0 : aNF} {w : aNE} {R : K1} (h : ayD a0 w R) : aT pg B4 #[a0] w R := by
 refine uO (ann := VM) Tryz.f72 UH [a0] Zu 9 TryzM.mixed Tryz.func72 ?_
 exact (aqI _ _ _ R (fun _ _ h => h) h)
def V3 : FA := ⟨Me, fun i => match Nat.beq i 3 with | true => .leaf ([7, 11], [(10, 11)]) [(false, []), (false, []), (false, []), (false, []), (false, []), (false, []), (false, []), (true, []), (false, []), (false, []), (false, []), (true, [0]), (false, [])] | false => match Nat.beq i 4 with | true => .leaf ([10], [(1, 10), (2, 10), (4, 10), (5, 10), (6, 10), (8, 10), (9, 10)]) [(false, []), (false, []), (false, []), (false, []), (false, []), (false, []), (false, []), (false, []), (false, []), (false, []), (true, [0, 1, 3, 4, 5, 7, 8]), (false, [])] | false => .leaf ([], []) []⟩
def Zm : List ResultVar := [.cell 6 133, .tmp 7]
noncomputable def Uq : Code := dG Tryz.f73
def RI (R : K1) (b0 My JB : aNF) (w : aNE) : Prop :=
 aD pg (B5 138 b0) w fun b3 w =>
 aD pg (B5 133 JB) w fun Zc w =>
 aD pg (fU 133) w fun b6 w =>
 aD pg (aI .lss 3 aM aM My (aNG 0)) w fun c0 w =>
 Gd (gJ c0 false) (fun K => K My w) w fun c2 w =>
 Gd (gJ c0 false) (fun K => aD pg (aK 138 b3 1) w K) w fun c3 w =>
 Gd (gJ c0 false) (fun K => aD pg (aL 136 c3) w K) w fun c4 w =>
 Gd (gJ c0 false) (fun K => aD pg (lG .len #[136] 3 [c4]) w K) w fun c5 w =>
 Gd (gJ c0 false) (fun K => aD pg (aI .geq 3 aM aM c2 c5) w K) w fun c6 w =>
 aD pg (iN c0 (.bool true) c6) w fun c7 w =>
 gZ c7
  (aD pg (aL 133 Zc) w fun c8 w =>
  aD pg (aR 133 b6 c8) w fun _u w =>
  An pg 133 b6 w fun r0 => R (.tuple #[r0, (aNG 0)]) w)
  (aD pg (aL 133 Zc) (dr w) fun d0 w_ => w_ = (dr w) /\
  aD pg (aK 138 b3 1) (dr w) fun d1 w_ => w_ = (dr w) /\
  aD pg (aL 136 d1) (dr w) fun d2 w_ => w_ = (dr w) /\
  (dr w) = (dr w) /\
  aD pg (cI 136 d2 My) (dr w) fun d4 w_ => w_ = (dr w) /\
  aD pg (aK 145 d4 1) (dr w) fun d5 w_ => w_ = (dr w) /\
  aD pg (aL 3 d5) (dr w) fun d6 w_ => w_ = (dr w) /\
  aT pg zJ #[d0, d6] (dr w) fun d7 aEq =>
  aEq = aEq /\
  aD pg (bQ d7 0) aEq fun d8 w_ => w_ = aEq /\
  aD pg (bQ d7 1) aEq fun d9 w_ => w_ = aEq /\
  aD pg (aR 133 Zc d8) aEq fun _u11 AR =>
  (jJ pg (bQ d7 1) d9 AR /\ True) /\
  AR = AR /\
  aD pg (aL 133 Zc) (dr AR) fun e0 w_ => w_ = (dr AR) /\
  aD pg (aK 138 b3 1) (dr AR) fun e1 w_ => w_ = (dr AR) /\
  aD pg (aL 136 e1) (dr AR) fun e2 w_ => w_ = (dr AR) /\
  (dr AR) = (dr AR) /\
  aD pg (cI 136 e2 My) (dr AR) fun e4 w_ => w_ = (dr AR) /\
  aD pg (aK 145 e4 2) (dr AR) fun e5 w_ => w_ = (dr AR) /\
  aD pg (aL 3 e5) (dr AR) fun e6 w_ => w_ = (dr AR) /\
  (dr AR) = (dr AR) /\
  aD pg (jG 24 3 d9) (dr AR) fun e8 w_ => w_ = (dr AR) /\
  aD pg (aI .add 3 aM aM e6 e8) (dr AR) fun e9 w_ => w_ = (dr AR) /\
  aD pg (aR 133 b6 e0) (dr AR) fun _u10 Xy =>
  (jJ pg (aI .add 3 aM aM e6 e8) e9 Xy /\ jJ pg (jG 24 3 d9) e8 Xy /\ jJ pg (aL 3 e5) e6 Xy /\ jJ pg (aK 145 e4 2) e5 Xy /\ jJ pg (cI 136 e2 My) e4 Xy /\ jJ pg (aL 136 e1) e2 Xy /\ jJ pg (aK 138 b3 1) e1 Xy /\ True) /\
  Xy = Xy /\
  An pg 133 b6 Xy fun r0 => R (.tuple #[r0, e9]) Xy)
theorem apB (R : K1) (hr : HR Zm R Q) (h : RI R (g 0) (g 1) (g 2) w) : bD pg V3 Uq Q g w :=
 eL (kn := no) (l := []) h gT hr trivial
def awQ (a0 a1 a2 : aNF) (w : aNE) (R : K1) : Prop :=
 RI R a0 a1 a2 w
theorem auP {a0 a1 a2 : aNF} {w : aNE} {R : K1} (h : awQ a0 a1 a2 w R) : aT pg Me #[a0, a1, a2] w R := by
 refine uO (ann := V3) Tryz.f73 Uq [a0, a1, a2] Zm 40 TryzM.mixed Tryz.func73 ?_
 exact (apB _ _ _ R (fun _ _ h => h) h)
def nE : FA := ⟨Qx, fun i => .leaf ([], []) []⟩
def uG : List ResultVar := [.cell 4 133, .tmp 5]
noncomputable def mK : Code := dG Tryz.f74
def T1 (R : K1) (CD b4 : aNF) (w : aNE) : Prop :=
 aD pg (aL 133 CD) w fun i1 w =>
 aD pg (aR 133 b4 i1) w fun _u w =>
 An pg 133 b4 w fun r0 => R (.tuple #[r0, (.int .u8 0)]) w
theorem auI (R : K1) (hr : HR uG R Q) (h : T1 R (g 3) (g 4) w) : bD pg nE (aB 1 (aB 2 mK)) Q g w :=
 eL (kn := no) (l := []) h gT hr trivial
def Mu (kn : K5) (cR CD b4 jW lN : aNF) (w : aNE) : Prop :=
 aD pg (aI .add 3 aM aM lN (aNG 1)) w fun c4 w =>
 kn cR CD b4 jW c4 w
theorem auG (kn : K5) (hn : N5 Q kn 0 3 4 6 7) (h : Mu kn (g 0) (g 3) (g 4) (g 6) (g 7) w) : bD pg nE (aB 1 (aB 1 (bI (bI (aB 1 (aF 1 (aB 2 mK))))))) Q g w :=
 eL (kr := no) (l := []) h hn gT trivial
def MA (kn : K6) (k2 : K5) (R : K1) (cR CD b4 jW lN mU : aNF) (w : aNE) : Prop :=
 aD pg (lG .len #[84] 3 [cR]) w fun d8 w =>
 aD pg (aI .lss 3 aM aM mU d8) w fun d9 w =>
 gZ d9
  (aD pg (cI 84 cR mU) w fun e4 w =>
  aD pg (aK 148 e4 0) w fun e5 w =>
  aD pg (aL 3 e5) w fun e6 w =>
  aD pg (aI .eql 3 (.tmp 36) (.tmp 37) e6 lN) w fun e8 w =>
  Gd (gJ e8 true) (fun K => K cR w) w fun f0 w =>
  Gd (gJ e8 true) (fun K => K mU w) w fun f1 w =>
  Gd (gJ e8 true) (fun K => aD pg (cI 84 f0 f1) w K) w fun f2 w =>
  Gd (gJ e8 true) (fun K => aD pg (aK 148 f2 1) w K) w fun f3 w =>
  Gd (gJ e8 true) (fun K => aD pg (aL 3 f3) w K) w fun f4 w =>
  Gd (gJ e8 true) (fun K => K jW w) w fun f5 w =>
  Gd (gJ e8 true) (fun K => aD pg (aI .eql 3 (.tmp 44) (.tmp 45) f4 f5) w K) w fun f6 w =>
  aD pg (iN e8 f6 (.bool false)) w fun f7 w =>
  gZ f7
   (aD pg (aL 133 CD) w fun f8 w =>
   aD pg (jG 3 5 mU) w fun i0 w =>
   aD pg (aR 133 b4 f8) w fun _u w =>
   An pg 133 b4 w fun r0 => R (.tuple #[r0, i0]) w)
   (aD pg (aI .add 3 aM aM mU (aNG 1)) w fun e1 w =>
   kn cR CD b4 jW lN e1 w))
  (k2 cR CD b4 jW lN w)
theorem auM (kn : K6) (k2 : K5) (R : K1) (hn : N6 Q kn 0 3 4 6 7 10) (h2 : E5 Q k2 2 0 3 4 6 7) (hr : HR uG R Q) (h : MA kn k2 R (g 0) (g 3) (g 4) (g 6) (g 7) (g 10) w) : bD pg nE (bI (bI (aB 4 (bI (aF 1 (aB 1 (bI (bI (aB 1 (aF 1 (aB 2 mK))))))))))) Q g w :=
 eL (l := [(2, fun g w => k2 (g 0) (g 3) (g 4) (g 6) (g 7) w)]) h hn hr ⟨h2, trivial⟩
def TY (k2 : K5) (R : K1) (cR CD b4 jW lN mU : aNF) (w : aNE) : Prop :=
 cS (fun (X : aNF -> K0) (t : aNF) (w : aNE) => MA (fun _ _ _ _ _ mU w => X mU w) k2 R cR CD b4 jW lN t w) mU w
theorem atJ (k2 : K5) (R : K1) (h2 : E5 Q k2 2 0 3 4 6 7) (hr : HR uG R Q) (h : TY k2 R (g 0) (g 3) (g 4) (g 6) (g 7) (g 10) w) : bD pg nE (bI (aB 4 (bI (aF 1 (aB 1 (bI (bI (aB 1 (aF 1 (aB 2 mK)))))))))) Q g w := by
 refine CS (fun g : Env => g 10) (fun X t w => MA (fun _ _ _ _ _ mU w => X mU w) k2 R (g 0) (g 3) (g 4) (g 6) (g 7) t w) h (fun X g1 w1 ha hL => ?_)
 rw [<- jX 0 ha, <- jX 3 ha, <- jX 4 ha, <- jX 6 ha, <- jX 7 ha] at hL
 exact (auM _ g1 w1 (fun _ _ _ _ _ mU w => X mU w) k2 R (fun _ _ h => h) h2 hr hL)
def Tt (kn : K5) (R : K1) (cR CD b4 jW lN mU : aNF) (w : aNE) : Prop :=
 TY kn R cR CD b4 jW lN mU w
def T7 (kn : K6) (cR CD b4 jW lN : aNF) (w : aNE) : Prop :=
 aD pg (aL 133 CD) w fun c6 w =>
 aT pg zJ #[c6, (aNG 1)] w fun c7 w =>
 aD pg (bQ c7 0) w fun c8 w =>
 aD pg (bQ c7 1) w fun c9 w =>
 aD pg (fU 133) w fun v_8 w =>
 aD pg (aR 133 v_8 c8) w fun _u w =>
 aD pg (aL 133 v_8) w fun d0 w =>
 aD pg (aR 133 CD d0) w fun _u w =>
 aD pg (aI .mul 3 aM aM jW (aNG 2)) w fun d2 w =>
 aD pg (jG 24 3 c9) w fun d4 w =>
 aD pg (aI .add 3 aM aM d2 d4) w fun d5 w =>
 kn cR CD b4 d5 lN (aNG 0) w
theorem auN (kn : K6) (hn : N6 Q kn 0 3 4 6 7 10) (h : T7 kn (g 0) (g 3) (g 4) (g 6) (g 7) w) : bD pg nE (aF 4 (bI (aF 1 (aB 1 (bI (bI (aB 1 (aF 1 (aB 2 mK))))))))) Q g w :=
 eL (kr := no) (l := []) h hn gT trivial
def agO (kn : K5) (R : K1) (cR CD b4 jW lN : aNF) (w : aNE) : Prop :=
 T7 (fun cR CD b4 jW lN mU w => Tt kn R cR CD b4 jW lN mU w) cR CD b4 jW lN w
def Ui (kn : K5) (R : K1) (cR CD b4 jW lN : aNF) (w : aNE) : Prop :=
 agO kn R cR CD b4 jW lN w
def Tx (kn : K5) (R : K1) (cR CD b4 jW lN : aNF) (w : aNE) : Prop :=
 Ui (fun cR CD b4 jW lN w => Mu kn cR CD b4 jW lN w) R cR CD b4 jW lN w
theorem auF (kn : K5) (R : K1) (hn : N5 Q kn 0 3 4 6 7) (hr : HR uG R Q) (h : Ui kn R (g 0) (g 3) (g 4) (g 6) (g 7) w) : bD pg nE (aF 1 (aB 1 (bI (bI (aB 1 (aF 1 (aB 2 mK))))))) Q g w :=
 wX 1 (jA 4 (auN _ g w (Tt kn R) (fun g w h => aJ (wX 2 (atJ _ g w kn R hn hr h))) h))
def RY (kn : K5) (k0 : K2) (cR CD b4 jW lN : aNF) (w : aNE) : Prop :=
 aD pg (aI .leq 3 aM aM lN (aNG 11)) w fun c2 w =>
 gZ c2
  (kn cR CD b4 jW lN w)
  (k0 CD b4 w)
theorem anW (kn : K5) (k0 : K2) (hn : N5 Q kn 0 3 4 6 7) (h0 : E2 Q k0 0 3 4) (h : RY kn k0 (g 0) (g 3) (g 4) (g 6) (g 7) w) : bD pg nE (aF 1 (bI (bI (aB 1 (aF 1 (aB 2 mK)))))) Q g w :=
 eL (kr := no) (l := [(0, fun g w => k0 (g 3) (g 4) w)]) h hn gT ⟨h0, trivial⟩
def I6 (kn : K5) (k0 : K2) (R : K1) (cR CD b4 jW lN : aNF) (w : aNE) : Prop :=
 RY (fun cR CD b4 jW lN w => Tx kn R cR CD b4 jW lN w) k0 cR CD b4 jW lN w
def Q1 (k0 : K2) (R : K1) (cR CD b4 jW lN : aNF) (w : aNE) : Prop :=
 cS (fun (X : (aNF × aNF) -> K0) (t : aNF × aNF) (w : aNE) => I6 (fun _ _ _ jW lN w => X (jW, lN) w) k0 R cR CD b4 t.1 t.2 w) (jW, lN) w
theorem aoS (kn : K5) (k0 : K2) (R : K1) (hn : N5 Q kn 0 3 4 6 7) (h0 : E2 Q k0 0 3 4) (hr : HR uG R Q) (h : I6 kn k0 R (g 0) (g 3) (g 4) (g 6) (g 7) w) : bD pg nE (bI (bI (aB 1 (aF 1 (aB 2 mK))))) Q g w :=
 jA 1 (anW _ g w (Tx kn R) k0 (fun g w h => aJ (jA 1 (auF _ g w (Mu kn) R (fun g w h => aJ (auG _ g w kn hn h)) hr h))) h0 h)
theorem apG (k0 : K2) (R : K1) (h0 : E2 Q k0 0 3 4) (hr : HR uG R Q) (h : Q1 k0 R (g 0) (g 3) (g 4) (g 6) (g 7) w) : bD pg nE (bI (aB 1 (aF 1 (aB 2 mK)))) Q g w := by
 refine CS (fun g : Env => (g 6, g 7)) (fun X t w => I6 (fun _ _ _ jW lN w => X (jW, lN) w) k0 R (g 0) (g 3) (g 4) t.1 t.2 w) h (fun X g1 w1 ha hL => ?_)
 rw [<- jX 0 ha, <- jX 3 ha, <- jX 4 ha] at hL
 exact (aoS _ g1 w1 (fun _ _ _ jW lN w => X (jW, lN) w) k0 R (fun _ _ h => h) h0 hr hL)
def QU (kn : K2) (R : K1) (cR CD b4 jW lN : aNF) (w : aNE) : Prop :=
 Q1 kn R cR CD b4 jW lN w
def Rk (kn : K5) (cR CD b4 jW : aNF) (w : aNE) : Prop :=
 kn cR CD b4 jW (aNG 1) w
theorem anJ (kn : K5) (hn : N5 Q kn 0 3 4 6 7) (h : Rk kn (g 0) (g 3) (g 4) (g 6) w) : bD pg nE (aF 1 (aF 1 (aB 2 mK))) Q g w :=
 eL (kr := no) (l := []) h hn gT trivial
def RP (kn : K2) (R : K1) (cR CD b4 jW : aNF) (w : aNE) : Prop :=
 Rk (fun cR CD b4 jW lN w => QU kn R cR CD b4 jW lN w) cR CD b4 jW w
def QT (R : K1) (cR CD b4 jW : aNF) (w : aNE) : Prop :=
 RP (fun CD b4 w => T1 R CD b4 w) R cR CD b4 jW w
theorem apK (kn : K2) (R : K1) (hn : N2 Q kn 3 4) (hr : HR uG R Q) (h : RP kn R (g 0) (g 3) (g 4) (g 6) w) : bD pg nE (aF 1 (aB 2 mK)) Q g w :=
 jA 1 (anJ _ g w (QU kn R) (fun g w h => aJ (wX 0 (apG _ g w kn R hn hr h))) h)
def Sb (kn : K4) (cR b_1 : aNF) (w : aNE) : Prop :=
 aD pg (B5 133 b_1) w fun CD w =>
 aD pg (fU 133) w fun b4 w =>
 kn cR CD b4 (aNG 0) w
theorem aoW (kn : K4) (hn : N4 Q kn 0 3 4 6) (h : Sb kn (g 0) (g 1) w) : bD pg nE (aF 2 mK) Q g w :=
 eL (kr := no) (l := []) h hn gT trivial
def Ro (R : K1) (cR b_1 : aNF) (w : aNE) : Prop :=
 Sb (fun cR CD b4 jW w => QT R cR CD b4 jW w) cR b_1 w
theorem aoZ (R : K1) (hr : HR uG R Q) (h : Ro R (g 0) (g 1) w) : bD pg nE mK Q g w :=
 jA 2 (aoW _ g w (QT R) (fun g w h => aJ (jA 1 (apK _ g w (T1 R) R (fun g w h => aJ (auI _ g w R hr h)) hr h))) h)
def aAX (a0 a1 : aNF) (w : aNE) (R : K1) : Prop :=
 Ro R a0 a1 w
theorem ayS {a0 a1 : aNF} {w : aNE} {R : K1} (h : aAX a0 a1 w R) : aT pg Qx #[a0, a1] w R := by
 refine uO (ann := nE) Tryz.f74 mK [a0, a1] uG 52 TryzM.mixed Tryz.func74 ?_
 exact (aoZ _ _ _ R (fun _ _ h => h) h)
def mS : FA := ⟨AO, fun i => .leaf ([], []) []⟩
def D8 : List ResultVar := [.tmp 2]
noncomputable def mE : Code := dG Tryz.f75
def zB (R : K1) (Zt : aNF) (w : aNE) : Prop :=
 R Zt w
theorem VC (R : K1) (hr : HR D8 R Q) (h : zB R (g 3) w) : bD pg mS (aB 1 (aB 1 (aB 2 mE))) Q g w :=
 eL (kn := no) (l := []) h gT hr trivial
def zY (kn : K3) (k0 : K1) (oJ Zt lF : aNF) (w : aNE) : Prop :=
 aD pg (lG .len #[22] 3 [oJ]) w fun c4 w =>
 aD pg (aI .lss 3 aM aM lF c4) w fun c5 w =>
 gZ c5
  (aD pg (cI 22 oJ lF) w fun d1 w =>
  aD pg (aL 5 d1) w fun d2 w =>
  aD pg (lG .max #[5, 5] 5 [Zt, d2]) w fun d3 w =>
  aD pg (aI .add 3 aM aM lF (aNG 1)) w fun c7 w =>
  kn oJ d3 c7 w)
  (k0 Zt w)
theorem Vv (kn : K3) (k0 : K1) (hn : N3 Q kn 0 3 4) (h0 : E1 Q k0 0 3) (h : zY kn k0 (g 0) (g 3) (g 4) w) : bD pg mS (bI (bI (aB 1 (aF 1 (aB 1 (aB 2 mE)))))) Q g w :=
 eL (kr := no) (l := [(0, fun g w => k0 (g 3) w)]) h hn gT ⟨h0, trivial⟩
def Er (k0 : K1) (oJ Zt lF : aNF) (w : aNE) : Prop :=
 cS (fun (X : (aNF × aNF) -> K0) (t : aNF × aNF) (w : aNE) => zY (fun _ Zt lF w => X (Zt, lF) w) k0 oJ t.1 t.2 w) (Zt, lF) w
theorem UZ (k0 : K1) (h0 : E1 Q k0 0 3) (h : Er k0 (g 0) (g 3) (g 4) w) : bD pg mS (bI (aB 1 (aF 1 (aB 1 (aB 2 mE))))) Q g w := by
 refine CS (fun g : Env => (g 3, g 4)) (fun X t w => zY (fun _ Zt lF w => X (Zt, lF) w) k0 (g 0) t.1 t.2 w) h (fun X g1 w1 ha hL => ?_)
 rw [<- jX 0 ha] at hL
 exact (Vv _ g1 w1 (fun _ Zt lF w => X (Zt, lF) w) k0 (fun _ _ h => h) h0 hL)
def Eh (kn : K1) (oJ Zt lF : aNF) (w : aNE) : Prop :=
 Er kn oJ Zt lF w
def DN (kn : K3) (oJ Zt : aNF) (w : aNE) : Prop :=
 kn oJ Zt (aNG 1) w
theorem U6 (kn : K3) (hn : N3 Q kn 0 3 4) (h : DN kn (g 0) (g 3) w) : bD pg mS (aF 1 (aF 1 (aB 1 (aB 2 mE)))) Q g w :=
 eL (kr := no) (l := []) h hn gT trivial
def Et (kn : K1) (oJ Zt : aNF) (w : aNE) : Prop :=
 DN (fun oJ Zt lF w => Eh kn oJ Zt lF w) oJ Zt w
def Ej (R : K1) (oJ Zt : aNF) (w : aNE) : Prop :=
 Et (fun Zt w => zB R Zt w) oJ Zt w
theorem VD (kn : K1) (hn : N1 Q kn 3) (h : Et kn (g 0) (g 3) w) : bD pg mS (aF 1 (aB 1 (aB 2 mE))) Q g w :=
 jA 1 (U6 _ g w (Eh kn) (fun g w h => aJ (wX 0 (UZ _ g w kn hn h))) h)
def DY (kn : K2) (oJ : aNF) (w : aNE) : Prop :=
 aD pg (cI 22 oJ (aNG 0)) w fun c0 w =>
 aD pg (aL 5 c0) w fun c1 w =>
 kn oJ c1 w
theorem Vs (kn : K2) (hn : N2 Q kn 0 3) (h : DY kn (g 0) w) : bD pg mS (aF 1 (aB 2 mE)) Q g w :=
 eL (kr := no) (l := []) h hn gT trivial
def DU (R : K1) (oJ : aNF) (w : aNE) : Prop :=
 DY (fun oJ Zt w => Ej R oJ Zt w) oJ w
def Cz (kn : K1) (oJ : aNF) (w : aNE) : Prop :=
 aD pg (lG .len #[22] 3 [oJ]) w fun b6 w =>
 aD pg (aI .lss 3 aM aM b6 (aNG 1)) w fun b7 w =>
 gZ b7
  (aD pg (aEC 9 (.string ⟨#[115, 108, 105, 99, 101, 115, 46, 77, 97, 120, 58, 32, 101, 109, 112, 116, 121, 32, 108, 105, 115, 116]⟩)) w fun b8 w =>
  aD pg (V (Instr.panic b8)) w fun _u w =>
  kn oJ w)
  (kn oJ w)
theorem TO (kn : K1) (hn : N1 Q kn 0) (h : Cz kn (g 0) w) : bD pg mS (aF 2 mE) Q g w :=
 eL (kr := no) (l := []) h hn gT trivial
def CA (R : K1) (oJ : aNF) (w : aNE) : Prop :=
 Cz (fun oJ w => DU R oJ w) oJ w
theorem TP (R : K1) (hr : HR D8 R Q) (h : CA R (g 0) w) : bD pg mS mE Q g w :=
 jA 2 (TO _ g w (DU R) (fun g w h => aJ (jA 1 (Vs _ g w (Ej R) (fun g w h => aJ (jA 1 (VD _ g w (zB R) (fun g w h => aJ (VC _ g w R hr h)) h))) h))) h)
def Up (a0 : aNF) (w : aNE) (R : K1) : Prop :=
 CA R a0 w
theorem V9 {a0 : aNF} {w : aNE} {R : K1} (h : Up a0 w R) : aT pg AO #[a0] w R := by
 refine uO (ann := mS) Tryz.f75 mE [a0] D8 25 TryzM.mixed Tryz.func75 ?_
 exact (TP _ _ _ R (fun _ _ h => h) h)
def iY : FA := ⟨tU, fun i => .leaf ([], []) []⟩
def Cc : List ResultVar := [.tmp 2, .tmp 3]
noncomputable def iF : Code := dG Tryz.f76
def B7 (R : K1) (aU : aNF) (w : aNE) : Prop :=
 R (.tuple #[aU, (aNG 0)]) w
theorem Yx (R : K1) (hr : HR Cc R Q) (h : B7 R (g 5) w) : bD pg iY (aB 1 (aB 5 iF)) Q g w :=
 eL (kn := no) (l := []) h gT hr trivial
def Cp (kn : K5) (cT mB aU oU EK : aNF) (w : aNE) : Prop :=
 aD pg (aI .add 3 aM aM EK (aNG 1)) w fun d0 w =>
 kn cT mB aU oU d0 w
theorem YK (kn : K5) (hn : N5 Q kn 0 4 5 6 7) (h : Cp kn (g 0) (g 4) (g 5) (g 6) (g 7) w) : bD pg iY (aB 1 (aB 1 (bI (bI (aB 1 (aF 1 (aB 5 iF))))))) Q g w :=
 eL (kr := no) (l := []) h hn gT trivial
def Cq (kn : K7) (cT mB aU oU EK d2 d3 : aNF) (w : aNE) : Prop :=
 aD pg (aI .add 3 aM aM d3 (aNG 1)) w fun i0 w =>
 kn cT mB aU oU EK d2 i0 w
theorem YR (kn : K7) (hn : N7 Q kn 0 4 5 6 7 22 23) (h : Cq kn (g 0) (g 4) (g 5) (g 6) (g 7) (g 22) (g 23) w) : bD pg iY (aB 3 (bI (bI (aB 1 (bI (aF 1 (aB 1 (bI (bI (aB 1 (aF 1 (aB 5 iF)))))))))))) Q g w :=
 eL (kr := no) (l := []) h hn gT trivial
def Ip (kn : K7) (k2 : K5) (cT mB aU oU EK d2 d3 : aNF) (w : aNE) : Prop :=
 aD pg (aI .lss 3 aM aM d3 d2) w fun d4 w =>
 gZ d4
  (aD pg (cI 22 cT d3) w fun d8 w =>
  aD pg (aL 5 d8) w fun d9 w =>
  aD pg (jG 5 3 d9) w fun e0 w =>
  aD pg (aI .neq 3 (.tmp 30) (.tmp 31) e0 EK) w fun e2 w =>
  gZ e2
   (kn cT mB aU oU EK d2 d3 w)
   (aD pg (aI .add 3 aM aM mB (aNG 1)) w fun e6 w =>
   aD pg (aI .sub 3 aM aM e6 EK) w fun e8 w =>
   aD pg (aI .sub 3 aM aM EK (aNG 1)) w fun f1 w =>
   aD pg (aI .shr 3 aM aM oU f1) w fun f2 w =>
   aD pg (fT 171 [(0, e8), (1, f2)]) w fun f3 w =>
   aD pg (cI 152 aU d3) w fun f4 w =>
   aD pg (aR 171 f4 f3) w fun _u w =>
   aD pg (aI .sub 3 aM aM EK (aNG 1)) w fun f7 w =>
   aD pg (aI .shl 3 aM aM (aNG 1) f7) w fun f8 w =>
   aD pg (aI .add 3 aM aM oU f8) w fun f9 w =>
   kn cT mB aU f9 EK d2 d3 w))
  (k2 cT mB aU oU EK w)
theorem Y3 (kn : K7) (k2 : K5) (hn : N7 Q kn 0 4 5 6 7 22 23) (h2 : E5 Q k2 2 0 4 5 6 7) (h : Ip kn k2 (g 0) (g 4) (g 5) (g 6) (g 7) (g 22) (g 23) w) : bD pg iY (aF 3 (bI (bI (aB 1 (bI (aF 1 (aB 1 (bI (bI (aB 1 (aF 1 (aB 5 iF)))))))))))) Q g w :=
 eL (kr := no) (l := [(2, fun g w => k2 (g 0) (g 4) (g 5) (g 6) (g 7) w)]) h hn gT ⟨h2, trivial⟩
def BV (kn : K7) (k2 : K5) (cT mB aU oU EK d2 d3 : aNF) (w : aNE) : Prop :=
 Ip (fun cT mB aU oU EK d2 d3 w => Cq kn cT mB aU oU EK d2 d3 w) k2 cT mB aU oU EK d2 d3 w
def Iz (k2 : K5) (cT mB aU oU EK d2 d3 : aNF) (w : aNE) : Prop :=
 cS (fun (X : (aNF × aNF) -> K0) (t : aNF × aNF) (w : aNE) => BV (fun _ _ _ oU _ _ d3 w => X (oU, d3) w) k2 cT mB aU t.1 EK d2 t.2 w) (oU, d3) w
theorem YU (kn : K7) (k2 : K5) (hn : N7 Q kn 0 4 5 6 7 22 23) (h2 : E5 Q k2 2 0 4 5 6 7) (h : BV kn k2 (g 0) (g 4) (g 5) (g 6) (g 7) (g 22) (g 23) w) : bD pg iY (bI (bI (aB 1 (bI (aF 1 (aB 1 (bI (bI (aB 1 (aF 1 (aB 5 iF))))))))))) Q g w :=
 jA 3 (Y3 _ g w (Cq kn) k2 (fun g w h => aJ (YR _ g w kn hn h)) h2 h)
theorem YM (k2 : K5) (h2 : E5 Q k2 2 0 4 5 6 7) (h : Iz k2 (g 0) (g 4) (g 5) (g 6) (g 7) (g 22) (g 23) w) : bD pg iY (bI (aB 1 (bI (aF 1 (aB 1 (bI (bI (aB 1 (aF 1 (aB 5 iF)))))))))) Q g w := by
 refine CS (fun g : Env => (g 6, g 23)) (fun X t w => BV (fun _ _ _ oU _ _ d3 w => X (oU, d3) w) k2 (g 0) (g 4) (g 5) t.1 (g 7) (g 22) t.2 w) h (fun X g1 w1 ha hL => ?_)
 rw [<- jX 0 ha, <- jX 4 ha, <- jX 5 ha, <- jX 7 ha, <- jX 22 ha] at hL
 exact (YU _ g1 w1 (fun _ _ _ oU _ _ d3 w => X (oU, d3) w) k2 (fun _ _ h => h) h2 hL)
def HW (kn : K5) (cT mB aU oU EK d2 d3 : aNF) (w : aNE) : Prop :=
 Iz kn cT mB aU oU EK d2 d3 w
def Hu (kn : K7) (cT mB aU oU EK : aNF) (w : aNE) : Prop :=
 aD pg (lG .len #[22] 3 [cT]) w fun d2 w =>
 kn cT mB aU oU EK d2 (aNG 0) w
theorem Yj (kn : K7) (hn : N7 Q kn 0 4 5 6 7 22 23) (h : Hu kn (g 0) (g 4) (g 5) (g 6) (g 7) w) : bD pg iY (aF 1 (bI (aF 1 (aB 1 (bI (bI (aB 1 (aF 1 (aB 5 iF))))))))) Q g w :=
 eL (kr := no) (l := []) h hn gT trivial
def Sh (kn : K5) (cT mB aU oU EK : aNF) (w : aNE) : Prop :=
 Hu (fun cT mB aU oU EK d2 d3 w => HW kn cT mB aU oU EK d2 d3 w) cT mB aU oU EK w
def Ga (kn : K5) (cT mB aU oU EK : aNF) (w : aNE) : Prop :=
 Sh kn cT mB aU oU EK w
def Fv (kn : K5) (cT mB aU oU EK : aNF) (w : aNE) : Prop :=
 Ga (fun cT mB aU oU EK w => Cp kn cT mB aU oU EK w) cT mB aU oU EK w
theorem Xo (kn : K5) (hn : N5 Q kn 0 4 5 6 7) (h : Ga kn (g 0) (g 4) (g 5) (g 6) (g 7) w) : bD pg iY (aF 1 (aB 1 (bI (bI (aB 1 (aF 1 (aB 5 iF))))))) Q g w :=
 wX 1 (jA 1 (Yj _ g w (HW kn) (fun g w h => aJ (wX 2 (YM _ g w kn hn h))) h))
def FF (kn : K5) (k0 : K1) (cT mB aU oU EK : aNF) (w : aNE) : Prop :=
 aD pg (aI .leq 3 aM aM EK mB) w fun c8 w =>
 gZ c8
  (kn cT mB aU oU EK w)
  (k0 aU w)
theorem VQ (kn : K5) (k0 : K1) (hn : N5 Q kn 0 4 5 6 7) (h0 : E1 Q k0 0 5) (h : FF kn k0 (g 0) (g 4) (g 5) (g 6) (g 7) w) : bD pg iY (aF 1 (bI (bI (aB 1 (aF 1 (aB 5 iF)))))) Q g w :=
 eL (kr := no) (l := [(0, fun g w => k0 (g 5) w)]) h hn gT ⟨h0, trivial⟩
def AT (kn : K5) (k0 : K1) (cT mB aU oU EK : aNF) (w : aNE) : Prop :=
 FF (fun cT mB aU oU EK w => Fv kn cT mB aU oU EK w) k0 cT mB aU oU EK w
def F5 (k0 : K1) (cT mB aU oU EK : aNF) (w : aNE) : Prop :=
 cS (fun (X : (aNF × aNF) -> K0) (t : aNF × aNF) (w : aNE) => AT (fun _ _ _ oU EK w => X (oU, EK) w) k0 cT mB aU t.1 t.2 w) (oU, EK) w
theorem XC (kn : K5) (k0 : K1) (hn : N5 Q kn 0 4 5 6 7) (h0 : E1 Q k0 0 5) (h : AT kn k0 (g 0) (g 4) (g 5) (g 6) (g 7) w) : bD pg iY (bI (bI (aB 1 (aF 1 (aB 5 iF))))) Q g w :=
 jA 1 (VQ _ g w (Fv kn) k0 (fun g w h => aJ (jA 1 (Xo _ g w (Cp kn) (fun g w h => aJ (YK _ g w kn hn h)) h))) h0 h)
theorem VJ (k0 : K1) (h0 : E1 Q k0 0 5) (h : F5 k0 (g 0) (g 4) (g 5) (g 6) (g 7) w) : bD pg iY (bI (aB 1 (aF 1 (aB 5 iF)))) Q g w := by
 refine CS (fun g : Env => (g 6, g 7)) (fun X t w => AT (fun _ _ _ oU EK w => X (oU, EK) w) k0 (g 0) (g 4) (g 5) t.1 t.2 w) h (fun X g1 w1 ha hL => ?_)
 rw [<- jX 0 ha, <- jX 4 ha, <- jX 5 ha] at hL
 exact (XC _ g1 w1 (fun _ _ _ oU EK w => X (oU, EK) w) k0 (fun _ _ h => h) h0 hL)
def FD (kn : K1) (cT mB aU oU EK : aNF) (w : aNE) : Prop :=
 F5 kn cT mB aU oU EK w
def FY (kn : K5) (cT mB aU oU : aNF) (w : aNE) : Prop :=
 kn cT mB aU oU (aNG 1) w
theorem Wd (kn : K5) (hn : N5 Q kn 0 4 5 6 7) (h : FY kn (g 0) (g 4) (g 5) (g 6) w) : bD pg iY (aF 1 (aF 1 (aB 5 iF))) Q g w :=
 eL (kr := no) (l := []) h hn gT trivial
def Fi (kn : K1) (cT mB aU oU : aNF) (w : aNE) : Prop :=
 FY (fun cT mB aU oU EK w => FD kn cT mB aU oU EK w) cT mB aU oU w
def FU (R : K1) (cT mB aU oU : aNF) (w : aNE) : Prop :=
 Fi (fun aU w => B7 R aU w) cT mB aU oU w
theorem V5 (kn : K1) (hn : N1 Q kn 5) (h : Fi kn (g 0) (g 4) (g 5) (g 6) w) : bD pg iY (aF 1 (aB 5 iF)) Q g w :=
 jA 1 (Wd _ g w (FD kn) (fun g w h => aJ (wX 0 (VJ _ g w kn hn h))) h)
def A5 (kn : K4) (R : K1) (cT : aNF) (w : aNE) : Prop :=
 aT pg Ah #[cT] w fun c0 w =>
 aD pg (aI .eql 3 (.tmp 11) (.const (aNG 0)) c0 (aNG 0)) w fun c2 w =>
 gZ c2
  (R (.tuple #[(.slice none 0 0), (aNG 1)]) w)
  (aD pg (lG .len #[22] 3 [cT]) w fun c4 w =>
  aD pg (qC 152 c4 c4) w fun c5 w =>
  kn cT c0 c5 (aNG 0) w)
theorem Wz (kn : K4) (R : K1) (hn : N4 Q kn 0 4 5 6) (hr : HR Cc R Q) (h : A5 kn R (g 0) w) : bD pg iY (aF 5 iF) Q g w :=
 eL (l := []) h hn hr trivial
def AU (R : K1) (cT : aNF) (w : aNE) : Prop :=
 A5 (fun cT mB aU oU w => FU R cT mB aU oU w) R cT w
theorem Wt (R : K1) (hr : HR Cc R Q) (h : AU R (g 0) w) : bD pg iY iF Q g w :=
 jA 5 (Wz _ g w (FU R) R (fun g w h => aJ (jA 1 (V5 _ g w (B7 R) (fun g w h => aJ (Yx _ g w R hr h)) h))) hr h)
def RD (a0 : aNF) (w : aNE) (R : K1) : Prop :=
 AU R a0 w
theorem OB {a0 : aNF} {w : aNE} {R : K1} (h : RD a0 w R) : aT pg tU #[a0] w R := by
 refine uO (ann := iY) Tryz.f76 iF [a0] Cc 52 TryzM.mixed Tryz.func76 ?_
 exact (Wt _ _ _ R (fun _ _ h => h) h)
def nT : FA := ⟨mX, fun i => match Nat.beq i 6 with | true => .leaf ([12], []) [(false, []), (false, []), (false, []), (false, []), (false, []), (false, []), (false, []), (false, []), (false, []), (false, []), (false, []), (false, []), (true, [])] | false => .leaf ([], []) []⟩
def Bj : List ResultVar := [.cell 4 22, .cell 5 27]
noncomputable def dW : Code := dG Tryz.f77
def A9 (kn : K0) (R : K1) (mZ b4 b5 VI s_8 : aNF) (w : aNE) : Prop :=
 aD pg (jG 5 3 s_8) w fun c5 w =>
 aD pg (aL 152 mZ) w fun c6 w =>
 aD pg (lG .len #[152] 3 [c6]) w fun c7 w =>
 aD pg (aI .geq 3 aM aM c5 c7) w fun c8 w =>
 Gd (gJ c8 false) (fun K => aD pg (aL 152 mZ) w K) w fun d0 w =>
 Gd (gJ c8 false) (fun K => K s_8 w) w fun d1 w =>
 Gd (gJ c8 false) (fun K => aD pg (cI 152 d0 d1) w K) w fun d2 w =>
 Gd (gJ c8 false) (fun K => aD pg (aK 171 d2 0) w K) w fun d3 w =>
 Gd (gJ c8 false) (fun K => aD pg (aL 3 d3) w K) w fun d4 w =>
 Gd (gJ c8 false) (fun K => aD pg (aI .eql 3 (.tmp 24) (.const (aNG 0)) d4 (aNG 0)) w K) w fun d5 w =>
 aD pg (iN c8 (.bool true) d5) w fun d6 w =>
 gZ d6
  (aD pg (aR 22 b4 (.slice none 0 0)) w fun _u w =>
  aD pg (aR 27 b5 (aNG 1)) w fun _u w =>
  R (.tuple #[]) w)
  (aD pg (aL 186 VI) (dr w) fun d7 w_ => w_ = (dr w) /\
  aD pg (aL 152 mZ) (dr w) fun d8 w_ => w_ = (dr w) /\
  (dr w) = (dr w) /\
  aD pg (cI 152 d8 s_8) (dr w) fun e0 w_ => w_ = (dr w) /\
  aD pg (aK 171 e0 1) (dr w) fun e1 w_ => w_ = (dr w) /\
  aD pg (aL 3 e1) (dr w) fun e2 w_ => w_ = (dr w) /\
  aD pg (jG 3 24 e2) (dr w) fun e3 w_ => w_ = (dr w) /\
  aD pg (aL 152 mZ) (dr w) fun e4 w_ => w_ = (dr w) /\
  (dr w) = (dr w) /\
  aD pg (cI 152 e4 s_8) (dr w) fun e6 w_ => w_ = (dr w) /\
  aD pg (aK 171 e6 0) (dr w) fun e7 w_ => w_ = (dr w) /\
  aD pg (aL 3 e7) (dr w) fun e8 w_ => w_ = (dr w) /\
  aT pg rS #[d7, e3, e8] (dr w) fun e9 aKB =>
  kn aKB)
theorem Ww (kn : K0) (R : K1) (hn : N0 Q kn) (hr : HR aJO R Q) (h : A9 kn R (g 2) (g 4) (g 5) (g 6) (g 8) w) : bD pg nT (aD5 dW) Q g w :=
 eL (l := []) h hn hr trivial
def FN (kn : K5) (mZ b4 b5 VI c3 : aNF) (w : aNE) : Prop :=
 kn mZ b4 b5 VI c3 w
theorem Xw (kn : K5) (hn : N5 Q kn 2 4 5 6 8) (h : FN kn (g 2) (g 4) (g 5) (g 6) (g 13) w) : bD pg nT (aFC dW) Q g w :=
 eL (kr := no) (l := []) h hn gT trivial
def UK (l : Nat) (R : K1) (mZ b4 b5 VI c3 : aNF) (w : aNE) : Prop :=
 FN (fun mZ b4 b5 VI s_8 w => Rdy l w fun w => A9 (fun w => aDw l none R w) (fun _ w => aDw l (some .ret) R w) mZ b4 b5 VI s_8 w) mZ b4 b5 VI c3 w
theorem alH {l : Nat} {tmps : Array aNF} {w : aNE} {R : K1} (hsz : tmps.size = 42) (h : UK l R (Vi tmps 2) (Vi tmps 4) (Vi tmps 5) (Vi tmps 6) (Vi tmps 13) w) : aAK pg l mX tmps (aFC dW) (aD5 dW) w R :=
 dsR (ann := nT) 42 TryzM.mixed hsz (Xw (asQ pg nT l (aD5 dW) R) (Vi tmps) w (fun mZ b4 b5 VI s_8 w => Rdy l w fun w => A9 (aDw l none R) (fun _ w => aDw l (some .ret) R w) mZ b4 b5 VI s_8 w) (fun g w h => let ⟨r, h1, h2, h3⟩ := h; ⟨r, h1, h2, (Ww (aBw l R) g _ (aDw l none R) (fun _ w => aDw l (some .ret) R w) (fun _ _ h => h) (fun _ _ h => h) h3)⟩) h) (by kernel_rfl) (by kernel_rfl) (by kernel_rfl)
def BH (R : K1) (b4 b5 VI t1000003 : aNF) (w : aNE) : Prop :=
 aD pg (aL 186 VI) w fun f0 w =>
 aT pg wE #[f0] w fun f1 w =>
 aD pg (aR 22 b4 f1) w fun _u w =>
 aD pg (aR 27 b5 (aNG 0)) w fun _u w =>
 G7 t1000003 w fun w => An pg 22 b4 w fun r0 => An pg 27 b5 w fun r1 => R (.tuple #[r0, r1]) w
theorem amA (R : K1) (hr : HRF Bj R Q) (h : BH R (g 4) (g 5) (g 6) (g 1000003) w) : bD pg nT (aB 1 (aB 2 dW)) Q g w :=
 eL (kn := no) (l := []) h gT hr trivial
def Pg (kn : K4) (R : K1) (mZ b4 b5 VI c1 t1000003 : aNF) (w : aNE) : Prop :=
 ∀ g : Env, g 2 = mZ -> g 4 = b4 -> g 5 = b5 -> g 6 = VI -> g 11 = c1 -> g 1000003 = t1000003 -> RF pg mX (.tmp 11) (aGA dW) (aFC dW) (aD5 dW) (exQ (fun g w => kn (g 4) (g 5) (g 6) (g 1000003) w) (fun g w => G7 (g 1000003) w fun w => An pg 22 (g 4) w fun r0 => An pg 27 (g 5) w fun r1 => R (.tuple #[r0, r1]) w) []) g w
theorem ajX (kn : K4) (R : K1) (hn : N4 Q kn 4 5 6 1000003) (hr : HRF Bj R Q) (h : Pg kn R (g 2) (g 4) (g 5) (g 6) (g 11) (g 1000003) w) : bD pg nT (bI (aB 1 (aF 1 (aB 2 dW)))) Q g w :=
 eL (l := []) (h g rfl rfl rfl rfl rfl rfl) hn hr trivial
def OL (kn : K4) (R : K1) (mZ b4 b5 VI c1 t1000003 : aNF) (w : aNE) : Prop :=
 Pg kn R mZ b4 b5 VI c1 t1000003 w
def NL (kn : K6) (l_1 mZ b4 b5 VI t1000003 : aNF) (w : aNE) : Prop :=
 aT pg zD #[l_1] w fun c1 w =>
 kn mZ b4 b5 VI c1 t1000003 w
theorem ajY (kn : K6) (hn : N6 Q kn 2 4 5 6 11 1000003) (h : NL kn (g 1) (g 2) (g 4) (g 5) (g 6) (g 1000003) w) : bD pg nT (aF 1 (aF 1 (aB 2 dW))) Q g w :=
 eL (kr := no) (l := []) h hn gT trivial
def M7 (kn : K4) (R : K1) (l_1 mZ b4 b5 VI t1000003 : aNF) (w : aNE) : Prop :=
 NL (fun mZ b4 b5 VI c1 t1000003 w => OL kn R mZ b4 b5 VI c1 t1000003 w) l_1 mZ b4 b5 VI t1000003 w
def Nc (R : K1) (l_1 mZ b4 b5 VI t1000003 : aNF) (w : aNE) : Prop :=
 M7 (fun b4 b5 VI t1000003 w => BH R b4 b5 VI t1000003 w) R l_1 mZ b4 b5 VI t1000003 w
theorem agB (kn : K4) (R : K1) (hn : N4 Q kn 4 5 6 1000003) (hr : HRF Bj R Q) (h : M7 kn R (g 1) (g 2) (g 4) (g 5) (g 6) (g 1000003) w) : bD pg nT (aF 1 (aB 2 dW)) Q g w :=
 jA 1 (ajY _ g w (OL kn R) (fun g w h => aJ (wX 0 (ajX _ g w kn R hn hr h))) h)
def NK (kn : K6) (cR l_1 t1000003 : aNF) (w : aNE) : Prop :=
 aD pg (B5 152 cR) w fun mZ w =>
 aD pg (fU 22) w fun b4 w =>
 aD pg (fU 27) w fun b5 w =>
 aT pg BZ #[] w fun b9 w =>
 aD pg (fU 186) w fun VI w =>
 aD pg (aR 186 VI b9) w fun _u w =>
 kn l_1 mZ b4 b5 VI t1000003 w
theorem aiD (kn : K6) (hn : N6 Q kn 1 2 4 5 6 1000003) (h : NK kn (g 0) (g 1) (g 1000003) w) : bD pg nT (aF 2 dW) Q g w :=
 eL (kr := no) (l := []) h hn gT trivial
def Ob (R : K1) (cR l_1 t1000003 : aNF) (w : aNE) : Prop :=
 NK (fun l_1 mZ b4 b5 VI t1000003 w => Nc R l_1 mZ b4 b5 VI t1000003 w) cR l_1 t1000003 w
theorem aiH (R : K1) (hr : HRF Bj R Q) (h : Ob R (g 0) (g 1) (g 1000003) w) : bD pg nT dW Q g w :=
 jA 2 (aiD _ g w (Nc R) (fun g w h => aJ (jA 1 (agB _ g w (BH R) R (fun g w h => aJ (amA _ g w R hr h)) hr h))) h)
def asX (a0 a1 : aNF) (w : aNE) (R : K1) : Prop :=
 Ob R a0 a1 undef w
theorem apI {a0 a1 : aNF} {w : aNE} {R : K1} (h : asX a0 a1 w R) : aT pg mX #[a0, a1] w R := by
 refine dsF (ann := nT) Tryz.f77 dW [a0, a1] Bj 42 TryzM.mixed Tryz.func77 ?_
 exact (aiH _ _ _ R (fun _ _ h => h) h)
def L8 : FA := ⟨Bd, fun i => .leaf ([], []) []⟩
def NA : List ResultVar := [.tmp 2]
noncomputable def Js : Code := dG Tryz.f78
def D7 (R : K1) (dY : aNF) (w : aNE) : Prop :=
 aT pg jS #[dY] w fun b4 w =>
 aD pg (fT 192 [(0, b4)]) w fun b5 w =>
 aD pg (B5 192 b5) w fun b6 w =>
 R b6 w
theorem UW (R : K1) (hr : HR NA R Q) (h : D7 R (g 0) w) : bD pg L8 Js Q g w :=
 eL (kn := no) (l := []) h gT hr trivial
def UL (a0 : aNF) (w : aNE) (R : K1) : Prop :=
 D7 R a0 w
theorem Xn {a0 : aNF} {w : aNE} {R : K1} (h : UL a0 w R) : aT pg Bd #[a0] w R := by
 refine uO (ann := L8) Tryz.f78 Js [a0] NA 7 TryzM.mixed Tryz.func78 ?_
 exact (UW _ _ _ R (fun _ _ h => h) h)
def Hq : FA := ⟨pQ, fun i => match Nat.beq i 3 with | true => .leaf ([], []) [(false, []), (false, []), (false, []), (false, []), (false, []), (false, []), (false, []), (false, []), (false, []), (false, []), (false, []), (false, []), (false, []), (false, [])] | false => match Nat.beq i 5 with | true => .leaf ([9], []) [(false, []), (false, []), (false, []), (false, []), (false, []), (false, []), (false, []), (false, []), (false, []), (true, []), (false, [])] | false => .leaf ([], []) []⟩
def Jl : List ResultVar := [.tmp 4, .tmp 5]
noncomputable def GZ : Code := dG Tryz.f79
def Bk (R : K1) (PW lW : aNF) (w : aNE) : Prop :=
 aD pg (aI .eql 156 (.tmp 8) (.const (.pointer none)) PW (.pointer none)) w fun b9 w =>
 Gd (gJ b9 false) (fun K => K lW w) w fun c1 w =>
 Gd (gJ b9 false) (fun K => aD pg (aI .lss 3 aM aM c1 (aNG 0)) w K) w fun c2 w =>
 aD pg (iN b9 (.bool true) c2) w fun c3 w =>
 Gd (gJ c3 false) (fun K => K lW w) w fun c5 w =>
 Gd (gJ c3 false) (fun K => aD pg (aI .gtr 3 aM aM c5 (aNG 32)) w K) w fun c6 w =>
 aD pg (iN c3 (.bool true) c6) w fun c7 w =>
 gZ c7
  (R (.tuple #[(.int .u64 0), (aNG 1)]) w)
  ((dr w) = (dr w) /\
  aD pg (vW PW) (dr w) fun d0 w_ => w_ = (dr w) /\
  aD pg (aK 192 d0 0) (dr w) fun d1 w_ => w_ = (dr w) /\
  aD pg (aL 22 d1) (dr w) fun d2 w_ => w_ = (dr w) /\
  aD pg (lG .len #[22] 3 [d2]) (dr w) fun d3 w_ => w_ = (dr w) /\
  aD pg (aI .mul 3 aM aM (aNG 8) d3) (dr w) fun d4 w_ => w_ = (dr w) /\
  (dr w) = (dr w) /\
  aD pg (vW PW) (dr w) fun d6 w_ => w_ = (dr w) /\
  aD pg (aK 192 d6 1) (dr w) fun d7 w_ => w_ = (dr w) /\
  aD pg (aL 3 d7) (dr w) fun d8 w_ => w_ = (dr w) /\
  aD pg (aI .sub 3 aM aM d4 d8) (dr w) fun d9 w_ => w_ = (dr w) /\
  (dr w) = (dr w) /\
  aD pg (aI .lss 3 aM aM d9 lW) (dr w) fun e1 w_ => w_ = (dr w) /\
  (dr w) = (dr w) /\
  gZ e1
   (R (.tuple #[(.int .u64 0), (aNG 10)]) (dr w))
   ((dr (dr w)) = (dr (dr w)) /\
   aD pg (vW PW) (dr (dr w)) fun e3 w_ => w_ = (dr (dr w)) /\
   aD pg (aK 192 e3 0) (dr (dr w)) fun e4 w_ => w_ = (dr (dr w)) /\
   aD pg (aL 22 e4) (dr (dr w)) fun e5 w_ => w_ = (dr (dr w)) /\
   (dr (dr w)) = (dr (dr w)) /\
   aD pg (vW PW) (dr (dr w)) fun e7 w_ => w_ = (dr (dr w)) /\
   aD pg (aK 192 e7 1) (dr (dr w)) fun e8 w_ => w_ = (dr (dr w)) /\
   aD pg (aL 3 e8) (dr (dr w)) fun e9 w_ => w_ = (dr (dr w)) /\
   (dr (dr w)) = (dr (dr w)) /\
   aT pg Jx #[e5, e9, lW] (dr (dr w)) fun f1 aJs =>
   aJs = aJs /\
   aD pg (vW PW) aJs fun f3 w =>
   aD pg (aK 192 f3 1) w fun f4 w =>
   aD pg (aL 3 f4) w fun f5 w =>
   aD pg (aI .add 3 aM aM f5 lW) w fun f7 w =>
   aD pg (vW PW) w fun f8 w =>
   aD pg (aK 192 f8 1) w fun f9 w =>
   aD pg (aR 3 f9 f7) w fun _u w =>
   R (.tuple #[f1, (aNG 0)]) w))
theorem Sm (R : K1) (hr : HR Jl R Q) (h : Bk R (g 0) (g 1) w) : bD pg Hq GZ Q g w :=
 eL (kn := no) (l := []) h gT hr trivial
def Qf (a0 a1 : aNF) (w : aNE) (R : K1) : Prop :=
 Bk R a0 a1 w
theorem TC {a0 a1 : aNF} {w : aNE} {R : K1} (h : Qf a0 a1 w R) : aT pg pQ #[a0, a1] w R := by
 refine uO (ann := Hq) Tryz.f79 GZ [a0, a1] Jl 51 TryzM.mixed Tryz.func79 ?_
 exact (Sm _ _ _ R (fun _ _ h => h) h)
def SZ : FA := ⟨F6, fun i => .leaf ([], []) []⟩
def UF : List ResultVar := [.tmp 4, .tmp 5]
noncomputable def Qr : Code := dG Tryz.f80
def Lq (R : K1) (PW awN : aNF) (w : aNE) : Prop :=
 aD pg (aI .add 3 aM aM awN (aNG 1)) w fun c2 w =>
 aD pg (jG 3 67 c2) w fun c3 w =>
 aT pg rZ #[c3] w fun c4 w =>
 aD pg (aI .sub 3 aM aM c4 (aNG 1)) w fun c8 w =>
 aT pg pQ #[PW, c8] w fun c9 w =>
 aD pg (bQ c9 0) w fun d0 w =>
 aD pg (bQ c9 1) w fun d1 w =>
 aD pg (aI .neq 27 (.tmp 22) (.const (aNG 0)) d1 (aNG 0)) w fun d3 w =>
 gZ d3
  (R (.tuple #[(aNG 0), d1]) w)
  (aD pg (aI .shl 3 aM aM (aNG 1) c4) w fun d6 w =>
  aD pg (aI .sub 3 aM aM d6 (aNG 2)) w fun d7 w =>
  aD pg (aI .sub 3 aM aM d7 awN) w fun d9 w =>
  aD pg (jG 24 3 d0) w fun e1 w =>
  aD pg (aI .lss 3 aM aM e1 d9) w fun e3 w =>
  gZ e3
   (aD pg (jG 24 3 d0) w fun e5 w =>
   R (.tuple #[e5, (aNG 0)]) w)
   (aT pg pQ #[PW, (aNG 1)] w fun e8 w =>
   aD pg (bQ e8 0) w fun e9 w =>
   aD pg (bQ e8 1) w fun f0 w =>
   aD pg (aI .neq 27 (.tmp 42) (.const (aNG 0)) f0 (aNG 0)) w fun f3 w =>
   gZ f3
    (R (.tuple #[(aNG 0), f0]) w)
    (aD pg (aI .eql 24 (.tmp 46) (.const (.int .u64 0)) e9 (.int .u64 0)) w fun f7 w =>
    gZ f7
     (aD pg (jG 24 3 d0) w fun f9 w =>
     R (.tuple #[f9, (aNG 0)]) w)
     (aD pg (jG 24 3 d0) w fun i1 w =>
     aD pg (aI .sub 3 aM aM c4 (aNG 1)) w fun i3 w =>
     aD pg (aI .shl 3 aM aM (aNG 1) i3) w fun i4 w =>
     aD pg (aI .add 3 aM aM i1 i4) w fun i5 w =>
     aD pg (aI .sub 3 aM aM i5 d9) w fun i7 w =>
     R (.tuple #[i7, (aNG 0)]) w))))
theorem aeE (R : K1) (hr : HR UF R Q) (h : Lq R (g 0) (g 1) w) : bD pg SZ Qr Q g w :=
 eL (kn := no) (l := []) h gT hr trivial
def afR (a0 a1 : aNF) (w : aNE) (R : K1) : Prop :=
 Lq R a0 a1 w
theorem alF {a0 a1 : aNF} {w : aNE} {R : K1} (h : afR a0 a1 w R) : aT pg F6 #[a0, a1] w R := by
 refine uO (ann := SZ) Tryz.f80 Qr [a0, a1] UF 58 TryzM.mixed Tryz.func80 ?_
 exact (aeE _ _ _ R (fun _ _ h => h) h)
def Tj : FA := ⟨yD, fun i => .leaf ([], []) []⟩
def Uw : List ResultVar := [.tmp 2]
noncomputable def Qe : Code := dG Tryz.f81
def C0 (R : K1) (p_0 : aNF) (w : aNE) : Prop :=
 aD pg (aI .lss 3 aM aM p_0 (aNG 0)) w fun b4 w =>
 gZ b4
  (R (aNG 1) w)
  (R p_0 w)
theorem acS (R : K1) (hr : HR Uw R Q) (h : C0 R (g 0) w) : bD pg Tj Qe Q g w :=
 eL (kn := no) (l := []) h gT hr trivial
def TN (a0 : aNF) (w : aNE) (R : K1) : Prop :=
 C0 R a0 w
theorem akW {a0 : aNF} {w : aNE} {R : K1} (h : TN a0 w R) : aT pg yD #[a0] w R := by
 refine uO (ann := Tj) Tryz.f81 Qe [a0] Uw 6 TryzM.mixed Tryz.func81 ?_
 exact (acS _ _ _ R (fun _ _ h => h) h)
def pA : FA := ⟨Cd, fun i => .leaf ([], []) []⟩
def tO : List ResultVar := [.tmp 2, .tmp 3]
noncomputable def oF : Code := dG Tryz.f82
def A7 (R : K1) (Bh : aNF) (w : aNE) : Prop :=
 R (.tuple #[Bh, (aNG 0)]) w
theorem Wx (R : K1) (hr : HR tO R Q) (h : A7 R (g 4) w) : bD pg pA (aB 1 (aB 2 (bI (aB 1 oF)))) Q g w :=
 eL (kn := no) (l := []) h gT hr trivial
def A0 (kn : K2) (k0 : K1) (R : K1) (PW Bh : aNF) (w : aNE) : Prop :=
 aT pg pQ #[PW, (aNG 2)] w fun b9 w =>
 aD pg (bQ b9 0) w fun c0 w =>
 aD pg (bQ b9 1) w fun c1 w =>
 aD pg (aI .neq 27 (.tmp 12) (.const (aNG 0)) c1 (aNG 0)) w fun c3 w =>
 gZ c3
  (R (.tuple #[(aNG 0), c1]) w)
  (aD pg (jG 24 3 c0) w fun c7 w =>
  aD pg (aI .add 3 aM aM Bh c7) w fun c8 w =>
  aD pg (aI .lss 24 aM aM c0 (.int .u64 3)) w fun d0 w =>
  gZ d0
   (k0 c8 w)
   (kn PW c8 w))
theorem VN (kn : K2) (k0 : K1) (R : K1) (hn : N2 Q kn 0 4) (h0 : E1 Q k0 0 4) (hr : HR tO R Q) (h : A0 kn k0 R (g 0) (g 4) w) : bD pg pA (bI (bI (aF 1 (aB 2 (bI (aB 1 oF)))))) Q g w :=
 eL (l := [(0, fun g w => k0 (g 4) w)]) h hn hr ⟨h0, trivial⟩
def FW (k0 : K1) (R : K1) (PW Bh : aNF) (w : aNE) : Prop :=
 cS (fun (X : aNF -> K0) (t : aNF) (w : aNE) => A0 (fun _ Bh w => X Bh w) k0 R PW t w) Bh w
theorem W4 (k0 : K1) (R : K1) (h0 : E1 Q k0 0 4) (hr : HR tO R Q) (h : FW k0 R (g 0) (g 4) w) : bD pg pA (bI (aF 1 (aB 2 (bI (aB 1 oF))))) Q g w := by
 refine CS (fun g : Env => g 4) (fun X t w => A0 (fun _ Bh w => X Bh w) k0 R (g 0) t w) h (fun X g1 w1 ha hL => ?_)
 rw [<- jX 0 ha] at hL
 exact (VN _ g1 w1 (fun _ Bh w => X Bh w) k0 R (fun _ _ h => h) h0 hr hL)
def Gy (kn : K1) (R : K1) (PW Bh : aNF) (w : aNE) : Prop :=
 FW kn R PW Bh w
def Gr (R : K1) (PW Bh : aNF) (w : aNE) : Prop :=
 Gy (fun Bh w => A7 R Bh w) R PW Bh w
theorem WE (kn : K1) (R : K1) (hn : N1 Q kn 4) (hr : HR tO R Q) (h : Gy kn R (g 0) (g 4) w) : bD pg pA (aF 1 (aB 2 (bI (aB 1 oF)))) Q g w :=
 wX 0 (W4 _ g w kn R hn hr h)
def GR (kn : K2) (PW : aNF) (w : aNE) : Prop :=
 kn PW (aNG 0) w
theorem Wb (kn : K2) (hn : N2 Q kn 0 4) (h : GR kn (g 0) w) : bD pg pA (aF 2 (bI (aB 1 oF))) Q g w :=
 eL (kr := no) (l := []) h hn gT trivial
def Qn (R : K1) (PW : aNF) (w : aNE) : Prop :=
 GR (fun PW Bh w => Gr R PW Bh w) PW w
def FV (R : K1) (PW : aNF) (w : aNE) : Prop :=
 Qn R PW w
def Fj (kn : K1) (PW : aNF) (w : aNE) : Prop :=
 kn PW w
theorem W0 (kn : K1) (hn : N1 Q kn 0) (h : Fj kn (g 0) w) : bD pg pA (aF 1 oF) Q g w :=
 eL (kr := no) (l := []) h hn gT trivial
def D0 (R : K1) (PW : aNF) (w : aNE) : Prop :=
 Fj (fun PW w => FV R PW w) PW w
theorem Vl (R : K1) (hr : HR tO R Q) (h : D0 R (g 0) w) : bD pg pA oF Q g w :=
 jA 1 (W0 _ g w (FV R) (fun g w h => aJ (scD (jA 2 (Wb _ g w (Gr R) (fun g w h => aJ (jA 1 (WE _ g w (A7 R) R (fun g w h => aJ (Wx _ g w R hr h)) hr h))) h)))) h)
def VO (a0 : aNF) (w : aNE) (R : K1) : Prop :=
 D0 R a0 w
theorem YV {a0 : aNF} {w : aNE} {R : K1} (h : VO a0 w R) : aT pg Cd #[a0] w R := by
 refine uO (ann := pA) Tryz.f82 oF [a0] tO 22 TryzM.mixed Tryz.func82 ?_
 exact (Vl _ _ _ R (fun _ _ h => h) h)
def Hp : FA := ⟨xP, fun i => .leaf ([], []) []⟩
def Jq : List ResultVar := [.tmp 2]
noncomputable def Fb : Code := dG Tryz.f83
def BA (R : K1) (PW : aNF) (w : aNE) : Prop :=
 aD pg (aI .eql 156 (.tmp 3) (.const (.pointer none)) PW (.pointer none)) w fun b4 w =>
 gZ b4
  (R (aNG 0) w)
  (aD pg (vW PW) w fun b6 w =>
  aD pg (aK 192 b6 1) w fun b7 w =>
  aD pg (aL 3 b7) w fun b8 w =>
  aD pg (aI .add 3 aM aM b8 (aNG 7)) w fun b9 w =>
  aD pg (aI .quo 3 aM aM b9 (aNG 8)) w fun c0 w =>
  R c0 w)
theorem Sj (R : K1) (hr : HR Jq R Q) (h : BA R (g 0) w) : bD pg Hp Fb Q g w :=
 eL (kn := no) (l := []) h gT hr trivial
def QB (a0 : aNF) (w : aNE) (R : K1) : Prop :=
 BA R a0 w
theorem TT {a0 : aNF} {w : aNE} {R : K1} (h : QB a0 w R) : aT pg xP #[a0] w R := by
 refine uO (ann := Hp) Tryz.f83 Fb [a0] Jq 11 TryzM.mixed Tryz.func83 ?_
 exact (Sj _ _ _ R (fun _ _ h => h) h)
def Pm : FA := ⟨Cb, fun i => .leaf ([], []) []⟩
def Qw : List ResultVar := [.tmp 2]
noncomputable def LY : Code := dG Tryz.f84
def GC (R : K1) (oJ : aNF) (w : aNE) : Prop :=
 aD pg (DX 9 (.string ⟨#[0, 1, 2, 2, 3, 3, 3, 3, 4, 4, 4, 4, 4, 4, 4, 4, 5, 5, 5, 5, 5, 5, 5, 5, 5, 5, 5, 5, 5, 5, 5, 5, 6, 6, 6, 6, 6, 6, 6, 6, 6, 6, 6, 6, 6, 6, 6, 6, 6, 6, 6, 6, 6, 6, 6, 6, 6, 6, 6, 6, 6, 6, 6, 6, 7, 7, 7, 7, 7, 7, 7, 7, 7, 7, 7, 7, 7, 7, 7, 7, 7, 7, 7, 7, 7, 7, 7, 7, 7, 7, 7, 7, 7, 7, 7, 7, 7, 7, 7, 7, 7, 7, 7, 7, 7, 7, 7, 7, 7, 7, 7, 7, 7, 7, 7, 7, 7, 7, 7, 7, 7, 7, 7, 7, 7, 7, 7, 7, 8, 8, 8, 8, 8, 8, 8, 8, 8, 8, 8, 8, 8, 8, 8, 8, 8, 8, 8, 8, 8, 8, 8, 8, 8, 8, 8, 8, 8, 8, 8, 8, 8, 8, 8, 8, 8, 8, 8, 8, 8, 8, 8, 8, 8, 8, 8, 8, 8, 8, 8, 8, 8, 8, 8, 8, 8, 8, 8, 8, 8, 8, 8, 8, 8, 8, 8, 8, 8, 8, 8, 8, 8, 8, 8, 8, 8, 8, 8, 8, 8, 8, 8, 8, 8, 8, 8, 8, 8, 8, 8, 8, 8, 8, 8, 8, 8, 8, 8, 8, 8, 8, 8, 8, 8, 8, 8, 8, 8, 8, 8, 8, 8, 8, 8, 8, 8, 8, 8, 8, 8, 8, 8, 8, 8, 8, 8, 8]⟩) oJ) w fun b4 w =>
 aD pg (jG 5 3 b4) w fun b5 w =>
 R b5 w
theorem XE (R : K1) (hr : HR Qw R Q) (h : GC R (g 0) w) : bD pg Pm LY Q g w :=
 eL (kn := no) (l := []) h gT hr trivial
def WS (a0 : aNF) (w : aNE) (R : K1) : Prop :=
 GC R a0 w
theorem YL {a0 : aNF} {w : aNE} {R : K1} (h : WS a0 w R) : aT pg Cb #[a0] w R := by
 refine uO (ann := Pm) Tryz.f84 LY [a0] Qw 6 TryzM.mixed Tryz.func84 ?_
 exact (XE _ _ _ R (fun _ _ h => h) h)
def Tb : FA := ⟨FG, fun i => .leaf ([], []) []⟩
def UI : List ResultVar := [.tmp 4]
noncomputable def Qo : Code := dG Tryz.f85
def KT (R : K1) (L1 MQ : aNF) (w : aNE) : Prop :=
 aD pg (B5 100 L1) w fun c_2 w =>
 aD pg (aL 100 c_2) w fun b6 w =>
 aT pg MF #[b6] w fun b7 w =>
 aD pg (sUn .not b7) w fun b8 w =>
 gZ b8
  (R (aNG 1) w)
  (aD pg (aK 100 c_2 0) w fun c0 w =>
  aD pg (aL 3 c0) w fun c1 w =>
  aD pg (aI .gtr 3 aM aM c1 MQ) w fun c3 w =>
  gZ c3
   (R (aNG 12) w)
   (R (aNG 0) w))
theorem ZJ (R : K1) (hr : HR UI R Q) (h : KT R (g 0) (g 1) w) : bD pg Tb Qo Q g w :=
 eL (kn := no) (l := []) h gT hr trivial
def afS (a0 a1 : aNF) (w : aNE) (R : K1) : Prop :=
 KT R a0 a1 w
theorem aiV {a0 a1 : aNF} {w : aNE} {R : K1} (h : afS a0 a1 w R) : aT pg FG #[a0, a1] w R := by
 refine uO (ann := Tb) Tryz.f85 Qo [a0, a1] UI 14 TryzM.mixed Tryz.func85 ?_
 exact (ZJ _ _ _ R (fun _ _ h => h) h)
def eU : FA := ⟨Gh, fun i => .leaf ([], []) []⟩
def QI : List ResultVar := [.tmp 2]
noncomputable def dP : Code := dG Tryz.f86
def Jc (R : K1) (cX : aNF) (w : aNE) : Prop :=
 R cX w
theorem aoB (R : K1) (hr : HR QI R Q) (h : Jc R (g 4) w) : bD pg eU (aB 1 (aB 1 (aB 1 (aB 4 dP)))) Q g w :=
 eL (kn := no) (l := []) h gT hr trivial
def IU (kn : K7) (nR cX bS kL e7 e8 e9 : aNF) (w : aNE) : Prop :=
 aD pg (aI .add 3 aM aM e9 (aNG 1)) w fun j8 w =>
 kn nR cX bS kL e7 e8 j8 w
theorem anF (kn : K7) (hn : N7 Q kn 3 4 5 8 37 38 39) (h : IU kn (g 3) (g 4) (g 5) (g 8) (g 37) (g 38) (g 39) w) : bD pg eU (aB 1 (aB 2 (bI (bI (aB 1 (aF 1 (aB 1 (aB 1 (aB 4 dP))))))))) Q g w :=
 eL (kr := no) (l := []) h hn gT trivial
def IM (kn : K10) (nR cX bS kL vY e7 e8 e9 f5 f6 : aNF) (w : aNE) : Prop :=
 aD pg (aI .add 3 aM aM f6 (aNG 1)) w fun j7 w =>
 kn nR cX bS kL vY e7 e8 e9 f5 j7 w
theorem anK (kn : K10) (hn : N10 Q kn 3 4 5 8 9 37 38 39 45 46) (h : IM kn (g 3) (g 4) (g 5) (g 8) (g 9) (g 37) (g 38) (g 39) (g 45) (g 46) w) : bD pg eU (aB 1 (aB 2 (bI (bI (aB 2 (bI (aB 1 (bI (aF 1 (aB 2 (bI (bI (aB 1 (aF 1 (aB 1 (aB 1 (aB 4 dP))))))))))))))))) Q g w :=
 eL (kr := no) (l := []) h hn gT trivial
def Jb (kn : K10) (k5 : K10) (nR cX bS kL vY e7 e8 e9 f5 f6 : aNF) (w : aNE) : Prop :=
 aD pg (aI .shr 3 aM aM nR (.int .u64 1)) w fun i6 w =>
 aD pg (aI .add 3 aM aM kL i6) w fun i7 w =>
 aD pg (aI .shr 3 aM aM nR (.int .u64 3)) w fun i9 w =>
 aD pg (aI .add 3 aM aM i7 i9) w fun j0 w =>
 aD pg (aI .add 3 aM aM j0 (aNG 3)) w fun j1 w =>
 aD pg (aI .rem 3 aM aM j1 nR) w fun j3 w =>
 aD pg (aI .lss 3 aM aM j3 bS) w fun j6 w =>
 gZ j6
  (k5 nR cX bS j3 vY e7 e8 e9 f5 f6 w)
  (kn nR cX bS j3 vY e7 e8 e9 f5 f6 w)
theorem anB (kn : K10) (k5 : K10) (hn : N10 Q kn 3 4 5 8 9 37 38 39 45 46) (h5 : E10 Q k5 5 3 4 5 8 9 37 38 39 45 46) (h : Jb kn k5 (g 3) (g 4) (g 5) (g 8) (g 9) (g 37) (g 38) (g 39) (g 45) (g 46) w) : bD pg eU (bI (bI (aB 1 (bI (aF 1 (aB 2 (bI (bI (aB 2 (bI (aB 1 (bI (aF 1 (aB 2 (bI (bI (aB 1 (aF 1 (aB 1 (aB 1 (aB 4 dP))))))))))))))))))))) Q g w :=
 eL (kr := no) (l := [(5, fun g w => k5 (g 3) (g 4) (g 5) (g 8) (g 9) (g 37) (g 38) (g 39) (g 45) (g 46) w)]) h hn gT ⟨h5, trivial⟩
def I1 (k5 : K10) (nR cX bS kL vY e7 e8 e9 f5 f6 : aNF) (w : aNE) : Prop :=
 cS (fun (X : aNF -> K0) (t : aNF) (w : aNE) => Jb (fun _ _ _ kL _ _ _ _ _ _ w => X kL w) k5 nR cX bS t vY e7 e8 e9 f5 f6 w) kL w
theorem anM (k5 : K10) (h5 : E10 Q k5 5 3 4 5 8 9 37 38 39 45 46) (h : I1 k5 (g 3) (g 4) (g 5) (g 8) (g 9) (g 37) (g 38) (g 39) (g 45) (g 46) w) : bD pg eU (bI (aB 1 (bI (aF 1 (aB 2 (bI (bI (aB 2 (bI (aB 1 (bI (aF 1 (aB 2 (bI (bI (aB 1 (aF 1 (aB 1 (aB 1 (aB 4 dP)))))))))))))))))))) Q g w := by
 refine CS (fun g : Env => g 8) (fun X t w => Jb (fun _ _ _ kL _ _ _ _ _ _ w => X kL w) k5 (g 3) (g 4) (g 5) t (g 9) (g 37) (g 38) (g 39) (g 45) (g 46) w) h (fun X g1 w1 ha hL => ?_)
 rw [<- jX 3 ha, <- jX 4 ha, <- jX 5 ha, <- jX 9 ha, <- jX 37 ha, <- jX 38 ha, <- jX 39 ha, <- jX 45 ha, <- jX 46 ha] at hL
 exact (anB _ g1 w1 (fun _ _ _ kL _ _ _ _ _ _ w => X kL w) k5 (fun _ _ h => h) h5 hL)
def RK (k5 : K10) (nR cX bS kL vY e7 e8 e9 f5 f6 : aNF) (w : aNE) : Prop :=
 I1 k5 nR cX bS kL vY e7 e8 e9 f5 f6 w
def Q4 (kn : K10) (nR cX bS kL vY e7 e8 e9 f5 f6 : aNF) (w : aNE) : Prop :=
 aD pg (jG 3 5 vY) w fun i1 w =>
 aD pg (cI 106 cX kL) w fun i2 w =>
 aD pg (aK 115 i2 0) w fun i3 w =>
 aD pg (aR 5 i3 i1) w fun _u w =>
 kn nR cX bS kL vY e7 e8 e9 f5 f6 w
theorem anE (kn : K10) (hn : N10 Q kn 3 4 5 8 9 37 38 39 45 46) (h : Q4 kn (g 3) (g 4) (g 5) (g 8) (g 9) (g 37) (g 38) (g 39) (g 45) (g 46) w) : bD pg eU (aF 1 (bI (aF 1 (aB 2 (bI (bI (aB 2 (bI (aB 1 (bI (aF 1 (aB 2 (bI (bI (aB 1 (aF 1 (aB 1 (aB 1 (aB 4 dP))))))))))))))))))) Q g w :=
 eL (kr := no) (l := []) h hn gT trivial
def ZC (k5 : K10) (nR cX bS kL vY e7 e8 e9 f5 f6 : aNF) (w : aNE) : Prop :=
 Q4 (fun nR cX bS kL vY e7 e8 e9 f5 f6 w => RK k5 nR cX bS kL vY e7 e8 e9 f5 f6 w) nR cX bS kL vY e7 e8 e9 f5 f6 w
def Rf (kn : K10) (nR cX bS kL vY e7 e8 e9 f5 f6 : aNF) (w : aNE) : Prop :=
 ZC kn nR cX bS kL vY e7 e8 e9 f5 f6 w
def O9 (kn : K10) (nR cX bS kL vY e7 e8 e9 f5 f6 : aNF) (w : aNE) : Prop :=
 Rf (fun nR cX bS kL vY e7 e8 e9 f5 f6 w => IM kn nR cX bS kL vY e7 e8 e9 f5 f6 w) nR cX bS kL vY e7 e8 e9 f5 f6 w
theorem aqX (kn : K10) (hn : N10 Q kn 3 4 5 8 9 37 38 39 45 46) (h : Rf kn (g 3) (g 4) (g 5) (g 8) (g 9) (g 37) (g 38) (g 39) (g 45) (g 46) w) : bD pg eU (aF 1 (aB 2 (bI (bI (aB 2 (bI (aB 1 (bI (aF 1 (aB 2 (bI (bI (aB 1 (aF 1 (aB 1 (aB 1 (aB 4 dP))))))))))))))))) Q g w :=
 wX 5 (jA 1 (anE _ g w (RK kn) (fun g w h => aJ (wX 6 (anM _ g w kn hn h))) h))
def EO (kn : K10) (k4 : K7) (nR cX bS kL vY e7 e8 e9 f5 f6 : aNF) (w : aNE) : Prop :=
 aD pg (aI .lss 3 aM aM f6 f5) w fun f7 w =>
 gZ f7
  (kn nR cX bS kL vY e7 e8 e9 f5 f6 w)
  (k4 nR cX bS kL e7 e8 e9 w)
theorem agE (kn : K10) (k4 : K7) (hn : N10 Q kn 3 4 5 8 9 37 38 39 45 46) (h4 : E7 Q k4 4 3 4 5 8 37 38 39) (h : EO kn k4 (g 3) (g 4) (g 5) (g 8) (g 9) (g 37) (g 38) (g 39) (g 45) (g 46) w) : bD pg eU (aF 2 (bI (bI (aB 2 (bI (aB 1 (bI (aF 1 (aB 2 (bI (bI (aB 1 (aF 1 (aB 1 (aB 1 (aB 4 dP)))))))))))))))) Q g w :=
 eL (kr := no) (l := [(4, fun g w => k4 (g 3) (g 4) (g 5) (g 8) (g 37) (g 38) (g 39) w)]) h hn gT ⟨h4, trivial⟩
def Bn (kn : K10) (k4 : K7) (nR cX bS kL vY e7 e8 e9 f5 f6 : aNF) (w : aNE) : Prop :=
 EO (fun nR cX bS kL vY e7 e8 e9 f5 f6 w => O9 kn nR cX bS kL vY e7 e8 e9 f5 f6 w) k4 nR cX bS kL vY e7 e8 e9 f5 f6 w
def NY (k4 : K7) (nR cX bS kL vY e7 e8 e9 f5 f6 : aNF) (w : aNE) : Prop :=
 cS (fun (X : (aNF × aNF) -> K0) (t : aNF × aNF) (w : aNE) => Bn (fun _ _ _ kL _ _ _ _ _ f6 w => X (kL, f6) w) k4 nR cX bS t.1 vY e7 e8 e9 f5 t.2 w) (kL, f6) w
theorem ahN (kn : K10) (k4 : K7) (hn : N10 Q kn 3 4 5 8 9 37 38 39 45 46) (h4 : E7 Q k4 4 3 4 5 8 37 38 39) (h : Bn kn k4 (g 3) (g 4) (g 5) (g 8) (g 9) (g 37) (g 38) (g 39) (g 45) (g 46) w) : bD pg eU (bI (bI (aB 2 (bI (aB 1 (bI (aF 1 (aB 2 (bI (bI (aB 1 (aF 1 (aB 1 (aB 1 (aB 4 dP))))))))))))))) Q g w :=
 jA 2 (agE _ g w (O9 kn) k4 (fun g w h => aJ (jA 1 (aqX _ g w (IM kn) (fun g w h => aJ (anK _ g w kn hn h)) h))) h4 h)
theorem aiJ (k4 : K7) (h4 : E7 Q k4 4 3 4 5 8 37 38 39) (h : NY k4 (g 3) (g 4) (g 5) (g 8) (g 9) (g 37) (g 38) (g 39) (g 45) (g 46) w) : bD pg eU (bI (aB 2 (bI (aB 1 (bI (aF 1 (aB 2 (bI (bI (aB 1 (aF 1 (aB 1 (aB 1 (aB 4 dP)))))))))))))) Q g w := by
 refine CS (fun g : Env => (g 8, g 46)) (fun X t w => Bn (fun _ _ _ kL _ _ _ _ _ f6 w => X (kL, f6) w) k4 (g 3) (g 4) (g 5) t.1 (g 9) (g 37) (g 38) (g 39) (g 45) t.2 w) h (fun X g1 w1 ha hL => ?_)
 rw [<- jX 3 ha, <- jX 4 ha, <- jX 5 ha, <- jX 9 ha, <- jX 37 ha, <- jX 38 ha, <- jX 39 ha, <- jX 45 ha] at hL
 exact (ahN _ g1 w1 (fun _ _ _ kL _ _ _ _ _ f6 w => X (kL, f6) w) k4 (fun _ _ h => h) h4 hL)
def Ny (kn : K7) (nR cX bS kL vY e7 e8 e9 f5 f6 : aNF) (w : aNE) : Prop :=
 NY kn nR cX bS kL vY e7 e8 e9 f5 f6 w
def Nn (kn : K10) (nR cX bS kL vY aBk e7 e8 e9 : aNF) (w : aNE) : Prop :=
 aD pg (lG .max #[3, 3] 3 [aBk, (aNG 0)]) w fun f5 w =>
 kn nR cX bS kL vY e7 e8 e9 f5 (aNG 0) w
theorem aiL (kn : K10) (hn : N10 Q kn 3 4 5 8 9 37 38 39 45 46) (h : Nn kn (g 3) (g 4) (g 5) (g 8) (g 9) (g 10) (g 37) (g 38) (g 39) w) : bD pg eU (aF 2 (bI (aB 1 (bI (aF 1 (aB 2 (bI (bI (aB 1 (aF 1 (aB 1 (aB 1 (aB 4 dP))))))))))))) Q g w :=
 eL (kr := no) (l := []) h hn gT trivial
def WQ (kn : K7) (nR cX bS kL vY aBk e7 e8 e9 : aNF) (w : aNE) : Prop :=
 Nn (fun nR cX bS kL vY e7 e8 e9 f5 f6 w => Ny kn nR cX bS kL vY e7 e8 e9 f5 f6 w) nR cX bS kL vY aBk e7 e8 e9 w
def PR (kn : K7) (nR cX bS kL vY aBk e7 e8 e9 : aNF) (w : aNE) : Prop :=
 WQ kn nR cX bS kL vY aBk e7 e8 e9 w
def Nk (kn : K9) (nR cX bS kL e7 e8 e9 : aNF) (w : aNE) : Prop :=
 aD pg (cI 42 e7 e9) w fun f2 w =>
 aD pg (aL 3 f2) w fun f3 w =>
 kn nR cX bS kL e9 f3 e7 e8 e9 w
theorem alV (kn : K9) (hn : N9 Q kn 3 4 5 8 9 10 37 38 39) (h : Nk kn (g 3) (g 4) (g 5) (g 8) (g 37) (g 38) (g 39) w) : bD pg eU (aF 1 (bI (aF 1 (aB 2 (bI (bI (aB 1 (aF 1 (aB 1 (aB 1 (aB 4 dP))))))))))) Q g w :=
 eL (kr := no) (l := []) h hn gT trivial
def V8 (kn : K7) (nR cX bS kL e7 e8 e9 : aNF) (w : aNE) : Prop :=
 Nk (fun nR cX bS kL vY aBk e7 e8 e9 w => PR kn nR cX bS kL vY aBk e7 e8 e9 w) nR cX bS kL e7 e8 e9 w
def PD (kn : K7) (nR cX bS kL e7 e8 e9 : aNF) (w : aNE) : Prop :=
 V8 kn nR cX bS kL e7 e8 e9 w
def NP (kn : K7) (nR cX bS kL e7 e8 e9 : aNF) (w : aNE) : Prop :=
 PD (fun nR cX bS kL e7 e8 e9 w => IU kn nR cX bS kL e7 e8 e9 w) nR cX bS kL e7 e8 e9 w
theorem aeX (kn : K7) (hn : N7 Q kn 3 4 5 8 37 38 39) (h : PD kn (g 3) (g 4) (g 5) (g 8) (g 37) (g 38) (g 39) w) : bD pg eU (aF 1 (aB 2 (bI (bI (aB 1 (aF 1 (aB 1 (aB 1 (aB 4 dP))))))))) Q g w :=
 wX 3 (jA 1 (alV _ g w (PR kn) (fun g w h => aJ (scD (jA 2 (aiL _ g w (Ny kn) (fun g w h => aJ (wX 4 (aiJ _ g w kn hn h))) h)))) h))
def Ft (kn : K7) (k2 : K1) (nR cX bS kL e7 e8 e9 : aNF) (w : aNE) : Prop :=
 aD pg (aI .lss 3 aM aM e9 e8) w fun f0 w =>
 gZ f0
  (kn nR cX bS kL e7 e8 e9 w)
  (k2 cX w)
theorem aiQ (kn : K7) (k2 : K1) (hn : N7 Q kn 3 4 5 8 37 38 39) (h2 : E1 Q k2 2 4) (h : Ft kn k2 (g 3) (g 4) (g 5) (g 8) (g 37) (g 38) (g 39) w) : bD pg eU (aF 2 (bI (bI (aB 1 (aF 1 (aB 1 (aB 1 (aB 4 dP)))))))) Q g w :=
 eL (kr := no) (l := [(2, fun g w => k2 (g 4) w)]) h hn gT ⟨h2, trivial⟩
def By (kn : K7) (k2 : K1) (nR cX bS kL e7 e8 e9 : aNF) (w : aNE) : Prop :=
 Ft (fun nR cX bS kL e7 e8 e9 w => NP kn nR cX bS kL e7 e8 e9 w) k2 nR cX bS kL e7 e8 e9 w
def NW (k2 : K1) (nR cX bS kL e7 e8 e9 : aNF) (w : aNE) : Prop :=
 cS (fun (X : (aNF × aNF) -> K0) (t : aNF × aNF) (w : aNE) => By (fun _ _ _ kL _ _ e9 w => X (kL, e9) w) k2 nR cX bS t.1 e7 e8 t.2 w) (kL, e9) w
theorem ajK (kn : K7) (k2 : K1) (hn : N7 Q kn 3 4 5 8 37 38 39) (h2 : E1 Q k2 2 4) (h : By kn k2 (g 3) (g 4) (g 5) (g 8) (g 37) (g 38) (g 39) w) : bD pg eU (bI (bI (aB 1 (aF 1 (aB 1 (aB 1 (aB 4 dP))))))) Q g w :=
 jA 2 (aiQ _ g w (NP kn) k2 (fun g w h => aJ (jA 1 (aeX _ g w (IU kn) (fun g w h => aJ (anF _ g w kn hn h)) h))) h2 h)
theorem aiX (k2 : K1) (h2 : E1 Q k2 2 4) (h : NW k2 (g 3) (g 4) (g 5) (g 8) (g 37) (g 38) (g 39) w) : bD pg eU (bI (aB 1 (aF 1 (aB 1 (aB 1 (aB 4 dP)))))) Q g w := by
 refine CS (fun g : Env => (g 8, g 39)) (fun X t w => By (fun _ _ _ kL _ _ e9 w => X (kL, e9) w) k2 (g 3) (g 4) (g 5) t.1 (g 37) (g 38) t.2 w) h (fun X g1 w1 ha hL => ?_)
 rw [<- jX 3 ha, <- jX 4 ha, <- jX 5 ha, <- jX 37 ha, <- jX 38 ha] at hL
 exact (ajK _ g1 w1 (fun _ _ _ kL _ _ e9 w => X (kL, e9) w) k2 (fun _ _ h => h) h2 hL)
def Oa (kn : K1) (nR cX bS kL e7 e8 e9 : aNF) (w : aNE) : Prop :=
 NW kn nR cX bS kL e7 e8 e9 w
def OQ (kn : K7) (cC nR cX bS kL : aNF) (w : aNE) : Prop :=
 aD pg (aK 100 cC 1) w fun e6 w =>
 aD pg (aL 42 e6) w fun e7 w =>
 aD pg (lG .len #[42] 3 [e7]) w fun e8 w =>
 kn nR cX bS kL e7 e8 (aNG 0) w
theorem ajZ (kn : K7) (hn : N7 Q kn 3 4 5 8 37 38 39) (h : OQ kn (g 1) (g 3) (g 4) (g 5) (g 8) w) : bD pg eU (aF 1 (aF 1 (aB 1 (aB 1 (aB 4 dP))))) Q g w :=
 eL (kr := no) (l := []) h hn gT trivial
def Nw (kn : K1) (cC nR cX bS kL : aNF) (w : aNE) : Prop :=
 OQ (fun nR cX bS kL e7 e8 e9 w => Oa kn nR cX bS kL e7 e8 e9 w) cC nR cX bS kL w
def OF (R : K1) (cC nR cX bS kL : aNF) (w : aNE) : Prop :=
 Nw (fun cX w => Jc R cX w) cC nR cX bS kL w
theorem alW (kn : K1) (hn : N1 Q kn 4) (h : Nw kn (g 1) (g 3) (g 4) (g 5) (g 8) w) : bD pg eU (aF 1 (aB 1 (aB 1 (aB 4 dP)))) Q g w :=
 jA 1 (ajZ _ g w (Oa kn) (fun g w h => aJ (wX 2 (aiX _ g w kn hn h))) h)
def PK (kn : K5) (cC nR cX bS : aNF) (w : aNE) : Prop :=
 kn cC nR cX bS (aNG 0) w
theorem alB (kn : K5) (hn : N5 Q kn 1 3 4 5 8) (h : PK kn (g 1) (g 3) (g 4) (g 5) w) : bD pg eU (aF 1 (aB 1 (aB 4 dP))) Q g w :=
 eL (kr := no) (l := []) h hn gT trivial
def ON (R : K1) (cC nR cX bS : aNF) (w : aNE) : Prop :=
 PK (fun cC nR cX bS kL w => OF R cC nR cX bS kL w) cC nR cX bS w
def Fx (kn : K7) (cC nR cX bS c8 c9 d0 : aNF) (w : aNE) : Prop :=
 aD pg (aI .add 3 aM aM d0 (aNG 1)) w fun e5 w =>
 kn cC nR cX bS c8 c9 e5 w
theorem ahY (kn : K7) (hn : N7 Q kn 1 3 4 5 18 19 20) (h : Fx kn (g 1) (g 3) (g 4) (g 5) (g 18) (g 19) (g 20) w) : bD pg eU (aB 3 (bI (bI (aB 1 (aF 1 (aB 4 dP)))))) Q g w :=
 eL (kr := no) (l := []) h hn gT trivial
def GB (kn : K7) (k0 : K4) (cC nR cX bS c8 c9 d0 : aNF) (w : aNE) : Prop :=
 aD pg (aI .lss 3 aM aM d0 c9) w fun d1 w =>
 gZ d1
  (aD pg (cI 42 c8 d0) w fun d3 w =>
  aD pg (aL 3 d3) w fun d4 w =>
  aD pg (aI .eql 3 (.tmp 25) (.const (aNG (-1))) d4 (aNG (-1))) w fun d6 w =>
  gZ d6
   (aD pg (aI .sub 3 aM aM bS (aNG 1)) w fun d8 w =>
   aD pg (jG 3 5 d0) w fun e2 w =>
   aD pg (cI 106 cX d8) w fun e3 w =>
   aD pg (aK 115 e3 0) w fun e4 w =>
   aD pg (aR 5 e4 e2) w fun _u w =>
   kn cC nR cX d8 c8 c9 d0 w)
   (kn cC nR cX bS c8 c9 d0 w))
  (k0 cC nR cX bS w)
theorem ajU (kn : K7) (k0 : K4) (hn : N7 Q kn 1 3 4 5 18 19 20) (h0 : E4 Q k0 0 1 3 4 5) (h : GB kn k0 (g 1) (g 3) (g 4) (g 5) (g 18) (g 19) (g 20) w) : bD pg eU (aF 3 (bI (bI (aB 1 (aF 1 (aB 4 dP)))))) Q g w :=
 eL (kr := no) (l := [(0, fun g w => k0 (g 1) (g 3) (g 4) (g 5) w)]) h hn gT ⟨h0, trivial⟩
def BR (kn : K7) (k0 : K4) (cC nR cX bS c8 c9 d0 : aNF) (w : aNE) : Prop :=
 GB (fun cC nR cX bS c8 c9 d0 w => Fx kn cC nR cX bS c8 c9 d0 w) k0 cC nR cX bS c8 c9 d0 w
def O1 (k0 : K4) (cC nR cX bS c8 c9 d0 : aNF) (w : aNE) : Prop :=
 cS (fun (X : (aNF × aNF) -> K0) (t : aNF × aNF) (w : aNE) => BR (fun _ _ _ bS _ _ d0 w => X (bS, d0) w) k0 cC nR cX t.1 c8 c9 t.2 w) (bS, d0) w
theorem agJ (kn : K7) (k0 : K4) (hn : N7 Q kn 1 3 4 5 18 19 20) (h0 : E4 Q k0 0 1 3 4 5) (h : BR kn k0 (g 1) (g 3) (g 4) (g 5) (g 18) (g 19) (g 20) w) : bD pg eU (bI (bI (aB 1 (aF 1 (aB 4 dP))))) Q g w :=
 jA 3 (ajU _ g w (Fx kn) k0 (fun g w h => aJ (ahY _ g w kn hn h)) h0 h)
theorem ahK (k0 : K4) (h0 : E4 Q k0 0 1 3 4 5) (h : O1 k0 (g 1) (g 3) (g 4) (g 5) (g 18) (g 19) (g 20) w) : bD pg eU (bI (aB 1 (aF 1 (aB 4 dP)))) Q g w := by
 refine CS (fun g : Env => (g 5, g 20)) (fun X t w => BR (fun _ _ _ bS _ _ d0 w => X (bS, d0) w) k0 (g 1) (g 3) (g 4) t.1 (g 18) (g 19) t.2 w) h (fun X g1 w1 ha hL => ?_)
 rw [<- jX 1 ha, <- jX 3 ha, <- jX 4 ha, <- jX 18 ha, <- jX 19 ha] at hL
 exact (agJ _ g1 w1 (fun _ _ _ bS _ _ d0 w => X (bS, d0) w) k0 (fun _ _ h => h) h0 hL)
def Nz (kn : K4) (cC nR cX bS c8 c9 d0 : aNF) (w : aNE) : Prop :=
 O1 kn cC nR cX bS c8 c9 d0 w
def M4 (kn : K7) (cC nR cX bS : aNF) (w : aNE) : Prop :=
 aD pg (aK 100 cC 1) w fun c7 w =>
 aD pg (aL 42 c7) w fun c8 w =>
 aD pg (lG .len #[42] 3 [c8]) w fun c9 w =>
 kn cC nR cX bS c8 c9 (aNG 0) w
theorem ajV (kn : K7) (hn : N7 Q kn 1 3 4 5 18 19 20) (h : M4 kn (g 1) (g 3) (g 4) (g 5) w) : bD pg eU (aF 1 (aF 1 (aB 4 dP))) Q g w :=
 eL (kr := no) (l := []) h hn gT trivial
def Nl (kn : K4) (cC nR cX bS : aNF) (w : aNE) : Prop :=
 M4 (fun cC nR cX bS c8 c9 d0 w => Nz kn cC nR cX bS c8 c9 d0 w) cC nR cX bS w
def OT (R : K1) (cC nR cX bS : aNF) (w : aNE) : Prop :=
 Nl (fun cC nR cX bS w => ON R cC nR cX bS w) cC nR cX bS w
theorem akL (kn : K4) (hn : N4 Q kn 1 3 4 5) (h : Nl kn (g 1) (g 3) (g 4) (g 5) w) : bD pg eU (aF 1 (aB 4 dP)) Q g w :=
 jA 1 (ajV _ g w (Nz kn) (fun g w h => aJ (wX 0 (ahK _ g w kn hn h))) h)
def OE (kn : K4) (L1 : aNF) (w : aNE) : Prop :=
 aD pg (B5 100 L1) w fun cC w =>
 aD pg (aK 100 cC 0) w fun c1 w =>
 aD pg (aL 3 c1) w fun c2 w =>
 aD pg (aI .shl 3 aM aM (aNG 1) c2) w fun c3 w =>
 aD pg (qC 106 c3 c3) w fun c5 w =>
 kn cC c3 c5 c3 w
theorem alA (kn : K4) (hn : N4 Q kn 1 3 4 5) (h : OE kn (g 0) w) : bD pg eU (aF 4 dP) Q g w :=
 eL (kr := no) (l := []) h hn gT trivial
def O5 (R : K1) (L1 : aNF) (w : aNE) : Prop :=
 OE (fun cC nR cX bS w => OT R cC nR cX bS w) L1 w
theorem ajB (R : K1) (hr : HR QI R Q) (h : O5 R (g 0) w) : bD pg eU dP Q g w :=
 jA 4 (alA _ g w (OT R) (fun g w h => aJ (jA 1 (akL _ g w (ON R) (fun g w h => aJ (jA 1 (alB _ g w (OF R) (fun g w h => aJ (jA 1 (alW _ g w (Jc R) (fun g w h => aJ (aoB _ g w R hr h)) h))) h))) h))) h)
def ayR (a0 : aNF) (w : aNE) (R : K1) : Prop :=
 O5 R a0 w
theorem auD {a0 : aNF} {w : aNE} {R : K1} (h : ayR a0 w R) : aT pg Gh #[a0] w R := by
 refine uO (ann := eU) Tryz.f86 dP [a0] QI 70 TryzM.mixed Tryz.func86 ?_
 exact (ajB _ _ _ R (fun _ _ h => h) h)
def GO : FA := ⟨qQ, fun i => match Nat.beq i 4 with | true => .leaf ([12], [(12, 15), (12, 16)]) [(false, []), (false, []), (false, []), (false, []), (false, []), (false, []), (false, []), (false, []), (false, []), (false, []), (false, []), (false, []), (true, []), (false, []), (false, []), (false, [2]), (false, [3]), (false, []), (false, [])] | false => .leaf ([], []) []⟩
def Hm : List ResultVar := [.tmp 4]
noncomputable def EG : Code := dG Tryz.f87
def AM (R : K1) (Ns lW : aNF) (w : aNE) : Prop :=
 aD pg (aI .eql 103 (.tmp 7) (.const (.pointer none)) Ns (.pointer none)) w fun b8 w =>
 Gd (gJ b8 false) (fun K => K lW w) w fun c0 w =>
 Gd (gJ b8 false) (fun K => aD pg (aI .lss 3 aM aM c0 (aNG 1)) w K) w fun c1 w =>
 aD pg (iN b8 (.bool true) c1) w fun c2 w =>
 Gd (gJ c2 false) (fun K => K lW w) w fun c4 w =>
 Gd (gJ c2 false) (fun K => aD pg (aI .gtr 3 aM aM c4 (aNG 56)) w K) w fun c5 w =>
 aD pg (iN c2 (.bool true) c5) w fun c6 w =>
 gZ c6
  (R (.int .u64 0) w)
  (aD pg (vW Ns) w fun c8 w =>
  aD pg (aK 165 c8 1) w fun c9 w =>
  aD pg (aL 3 c9) w fun d0 w =>
  aD pg (lG .max #[3, 3] 3 [d0, (aNG 0)]) w fun d1 w =>
  aD pg (lG .min #[3, 3] 3 [d1, lW]) w fun d3 w =>
  (dr w) = (dr w) /\
  aD pg (vW Ns) (dr w) fun d5 w_ => w_ = (dr w) /\
  aD pg (aK 165 d5 0) (dr w) fun d6 w_ => w_ = (dr w) /\
  aD pg (aL 22 d6) (dr w) fun d7 w_ => w_ = (dr w) /\
  (dr w) = (dr w) /\
  aD pg (vW Ns) (dr w) fun d9 w_ => w_ = (dr w) /\
  aD pg (aK 165 d9 1) (dr w) fun e0 w_ => w_ = (dr w) /\
  aD pg (aL 3 e0) (dr w) fun e1 w_ => w_ = (dr w) /\
  aD pg (lG .max #[3, 3] 3 [e1, (aNG 0)]) (dr w) fun e2 w_ => w_ = (dr w) /\
  (dr w) = (dr w) /\
  aD pg (aI .sub 3 aM aM e2 d3) (dr w) fun e4 w_ => w_ = (dr w) /\
  (dr w) = (dr w) /\
  aT pg Jx #[d7, e4, d3] (dr w) fun e6 Tg =>
  Tg = Tg /\
  Tg = Tg /\
  aD pg (aI .sub 3 aM aM lW d3) Tg fun e9 w_ => w_ = Tg /\
  (jJ pg (aI .sub 3 aM aM lW d3) e9 (dr w) /\ True) /\
  aD pg (jG 3 67 e9) Tg fun f0 w_ => w_ = Tg /\
  (jJ pg (jG 3 67 e9) f0 (dr w) /\ True) /\
  aD pg (aI .shl 24 aM aM e6 f0) Tg fun f1 w_ => w_ = Tg /\
  Tg = Tg /\
  aD pg (vW Ns) Tg fun f3 w =>
  aD pg (aK 165 f3 1) w fun f4 w =>
  aD pg (aL 3 f4) w fun f5 w =>
  aD pg (aI .sub 3 aM aM f5 lW) w fun f7 w =>
  aD pg (vW Ns) w fun f8 w =>
  aD pg (aK 165 f8 1) w fun f9 w =>
  aD pg (aR 3 f9 f7) w fun _u w =>
  R f1 w)
theorem Rl (R : K1) (hr : HR Hm R Q) (h : AM R (g 0) (g 1) w) : bD pg GO EG Q g w :=
 eL (kn := no) (l := []) h gT hr trivial
def OP (a0 a1 : aNF) (w : aNE) (R : K1) : Prop :=
 AM R a0 a1 w
theorem Th {a0 a1 : aNF} {w : aNE} {R : K1} (h : OP a0 a1 w R) : aT pg qQ #[a0, a1] w R := by
 refine uO (ann := GO) Tryz.f87 EG [a0, a1] Hm 51 TryzM.mixed Tryz.func87 ?_
 exact (Rl _ _ _ R (fun _ _ h => h) h)
def rO : FA := ⟨A8, fun i => .leaf ([], []) []⟩
def DR : List ResultVar := [.tmp 2]
noncomputable def qR : Code := dG Tryz.f89
def uU (R : K1) (oJ nM : aNF) (w : aNE) : Prop :=
 aD pg (jG 24 5 oJ) w fun d1 w =>
 aD pg (DX 9 (.string ⟨#[0, 1, 2, 2, 3, 3, 3, 3, 4, 4, 4, 4, 4, 4, 4, 4, 5, 5, 5, 5, 5, 5, 5, 5, 5, 5, 5, 5, 5, 5, 5, 5, 6, 6, 6, 6, 6, 6, 6, 6, 6, 6, 6, 6, 6, 6, 6, 6, 6, 6, 6, 6, 6, 6, 6, 6, 6, 6, 6, 6, 6, 6, 6, 6, 7, 7, 7, 7, 7, 7, 7, 7, 7, 7, 7, 7, 7, 7, 7, 7, 7, 7, 7, 7, 7, 7, 7, 7, 7, 7, 7, 7, 7, 7, 7, 7, 7, 7, 7, 7, 7, 7, 7, 7, 7, 7, 7, 7, 7, 7, 7, 7, 7, 7, 7, 7, 7, 7, 7, 7, 7, 7, 7, 7, 7, 7, 7, 7, 8, 8, 8, 8, 8, 8, 8, 8, 8, 8, 8, 8, 8, 8, 8, 8, 8, 8, 8, 8, 8, 8, 8, 8, 8, 8, 8, 8, 8, 8, 8, 8, 8, 8, 8, 8, 8, 8, 8, 8, 8, 8, 8, 8, 8, 8, 8, 8, 8, 8, 8, 8, 8, 8, 8, 8, 8, 8, 8, 8, 8, 8, 8, 8, 8, 8, 8, 8, 8, 8, 8, 8, 8, 8, 8, 8, 8, 8, 8, 8, 8, 8, 8, 8, 8, 8, 8, 8, 8, 8, 8, 8, 8, 8, 8, 8, 8, 8, 8, 8, 8, 8, 8, 8, 8, 8, 8, 8, 8, 8, 8, 8, 8, 8, 8, 8, 8, 8, 8, 8, 8, 8, 8, 8, 8, 8, 8, 8]⟩) d1) w fun d2 w =>
 aD pg (jG 5 3 d2) w fun d3 w =>
 aD pg (aI .add 3 aM aM nM d3) w fun d4 w =>
 R d4 w
theorem VH (R : K1) (hr : HR DR R Q) (h : uU R (g 0) (g 2) w) : bD pg rO (aB 1 (aB 1 (aB 2 qR))) Q g w :=
 eL (kn := no) (l := []) h gT hr trivial
def DV (kn : K2) (oJ nM : aNF) (w : aNE) : Prop :=
 aD pg (aI .geq 24 aM aM oJ (.int .u64 256)) w fun c4 w =>
 gZ c4
  (aD pg (aI .shr 24 aM aM oJ (.int .u64 8)) w fun c6 w =>
  aD pg (aI .add 3 aM aM nM (aNG 8)) w fun c8 w =>
  kn c6 c8 w)
  (kn oJ nM w)
theorem Vz (kn : K2) (hn : N2 Q kn 0 2) (h : DV kn (g 0) (g 2) w) : bD pg rO (aF 1 (aB 1 (aB 2 qR))) Q g w :=
 eL (kr := no) (l := []) h hn gT trivial
def zG (R : K1) (oJ nM : aNF) (w : aNE) : Prop :=
 DV (fun oJ nM w => uU R oJ nM w) oJ nM w
def Ef (kn : K2) (oJ nM : aNF) (w : aNE) : Prop :=
 aD pg (aI .geq 24 aM aM oJ (.int .u64 65536)) w fun b8 w =>
 gZ b8
  (aD pg (aI .shr 24 aM aM oJ (.int .u64 16)) w fun c0 w =>
  aD pg (aI .add 3 aM aM nM (aNG 16)) w fun c2 w =>
  kn c0 c2 w)
  (kn oJ nM w)
theorem Vo (kn : K2) (hn : N2 Q kn 0 2) (h : Ef kn (g 0) (g 2) w) : bD pg rO (aF 1 (aB 2 qR)) Q g w :=
 eL (kr := no) (l := []) h hn gT trivial
def zP (R : K1) (oJ nM : aNF) (w : aNE) : Prop :=
 Ef (fun oJ nM w => zG R oJ nM w) oJ nM w
def DL (kn : K2) (oJ : aNF) (w : aNE) : Prop :=
 aD pg (aI .geq 24 aM aM oJ (.int .u64 4294967296)) w fun b4 w =>
 gZ b4
  (aD pg (aI .shr 24 aM aM oJ (.int .u64 32)) w fun b6 w =>
  kn b6 (aNG 32) w)
  (kn oJ (aNG 0) w)
theorem U3 (kn : K2) (hn : N2 Q kn 0 2) (h : DL kn (g 0) w) : bD pg rO (aF 2 qR) Q g w :=
 eL (kr := no) (l := []) h hn gT trivial
def D4 (R : K1) (oJ : aNF) (w : aNE) : Prop :=
 DL (fun oJ nM w => zP R oJ nM w) oJ w
theorem Vu (R : K1) (hr : HR DR R Q) (h : D4 R (g 0) w) : bD pg rO qR Q g w :=
 jA 2 (U3 _ g w (zP R) (fun g w h => aJ (jA 1 (Vo _ g w (zG R) (fun g w h => aJ (jA 1 (Vz _ g w (uU R) (fun g w h => aJ (VH _ g w R hr h)) h))) h))) h)
def UQ (a0 : aNF) (w : aNE) (R : K1) : Prop :=
 D4 R a0 w
theorem W6 {a0 : aNF} {w : aNE} {R : K1} (h : UQ a0 w R) : aT pg A8 #[a0] w R := by
 refine uO (ann := rO) Tryz.f89 qR [a0] DR 25 TryzM.mixed Tryz.func89 ?_
 exact (Vu _ _ _ R (fun _ _ h => h) h)
def mH : FA := ⟨ES, fun i => .leaf ([], []) []⟩
def Rt : List ResultVar := [.tmp 2]
noncomputable def lR : Code := dG Tryz.f90
def IE (R : K1) (kQ : aNF) (w : aNE) : Prop :=
 R kQ w
theorem aoF (R : K1) (hr : HR Rt R Q) (h : IE R (g 3) w) : bD pg mH (aB 1 (aB 2 lR)) Q g w :=
 eL (kn := no) (l := []) h gT hr trivial
def Ja (kn : K3) (Cs kQ lF : aNF) (w : aNE) : Prop :=
 aD pg (aI .add 3 aM aM lF (aNG 1)) w fun c2 w =>
 kn Cs kQ c2 w
theorem aqR (kn : K3) (hn : N3 Q kn 0 3 4) (h : Ja kn (g 0) (g 3) (g 4) w) : bD pg mH (aB 1 (aB 1 (bI (bI (aB 1 (aF 1 (aB 2 lR))))))) Q g w :=
 eL (kr := no) (l := []) h hn gT trivial
def I8 (kn : K5) (k2 : K3) (Cs kQ lF c_5 Jh : aNF) (w : aNE) : Prop :=
 aD pg (aI .lss 3 aM aM Jh (aNG 8)) w fun c7 w =>
 gZ c7
  (aD pg (aI .rem 5 aM aM c_5 (.int .u8 2)) w fun d2 w =>
  aD pg (aI .eql 5 (.tmp 22) (.const (.int .u8 1)) d2 (.int .u8 1)) w fun d3 w =>
  aD pg (cV 131 1 [(0, d3)]) w fun d4 w =>
  aD pg (lG .append #[131, 131] 131 [kQ, d4]) w fun d5 w =>
  aD pg (aI .quo 5 aM aM c_5 (.int .u8 2)) w fun d7 w =>
  aD pg (aI .add 3 aM aM Jh (aNG 1)) w fun c9 w =>
  kn Cs d5 lF d7 c9 w)
  (k2 Cs kQ lF w)
theorem anH (kn : K5) (k2 : K3) (hn : N5 Q kn 0 3 4 5 6) (h2 : E3 Q k2 2 0 3 4) (h : I8 kn k2 (g 0) (g 3) (g 4) (g 5) (g 6) w) : bD pg mH (bI (bI (aB 2 (bI (aF 1 (aB 1 (bI (bI (aB 1 (aF 1 (aB 2 lR))))))))))) Q g w :=
 eL (kr := no) (l := [(2, fun g w => k2 (g 0) (g 3) (g 4) w)]) h hn gT ⟨h2, trivial⟩
def RQ (k2 : K3) (Cs kQ lF c_5 Jh : aNF) (w : aNE) : Prop :=
 cS (fun (X : (aNF × aNF × aNF) -> K0) (t : aNF × aNF × aNF) (w : aNE) => I8 (fun _ kQ _ c_5 Jh w => X (kQ, c_5, Jh) w) k2 Cs t.1 lF t.2.1 t.2.2 w) (kQ, c_5, Jh) w
theorem anZ (k2 : K3) (h2 : E3 Q k2 2 0 3 4) (h : RQ k2 (g 0) (g 3) (g 4) (g 5) (g 6) w) : bD pg mH (bI (aB 2 (bI (aF 1 (aB 1 (bI (bI (aB 1 (aF 1 (aB 2 lR)))))))))) Q g w := by
 refine CS (fun g : Env => (g 3, g 5, g 6)) (fun X t w => I8 (fun _ kQ _ c_5 Jh w => X (kQ, c_5, Jh) w) k2 (g 0) t.1 (g 4) t.2.1 t.2.2 w) h (fun X g1 w1 ha hL => ?_)
 rw [<- jX 0 ha, <- jX 4 ha] at hL
 exact (anH _ g1 w1 (fun _ kQ _ c_5 Jh w => X (kQ, c_5, Jh) w) k2 (fun _ _ h => h) h2 hL)
def Q6 (kn : K3) (Cs kQ lF c_5 Jh : aNF) (w : aNE) : Prop :=
 RQ kn Cs kQ lF c_5 Jh w
def QF (kn : K5) (Cs kQ lF : aNF) (w : aNE) : Prop :=
 aD pg (DX 9 Cs lF) w fun c5 w =>
 kn Cs kQ lF c5 (aNG 0) w
theorem apJ (kn : K5) (hn : N5 Q kn 0 3 4 5 6) (h : QF kn (g 0) (g 3) (g 4) w) : bD pg mH (aF 2 (bI (aF 1 (aB 1 (bI (bI (aB 1 (aF 1 (aB 2 lR))))))))) Q g w :=
 eL (kr := no) (l := []) h hn gT trivial
def Y9 (kn : K3) (Cs kQ lF : aNF) (w : aNE) : Prop :=
 QF (fun Cs kQ lF c_5 Jh w => Q6 kn Cs kQ lF c_5 Jh w) Cs kQ lF w
def Rv (kn : K3) (Cs kQ lF : aNF) (w : aNE) : Prop :=
 Y9 kn Cs kQ lF w
def RE (kn : K3) (Cs kQ lF : aNF) (w : aNE) : Prop :=
 Rv (fun Cs kQ lF w => Ja kn Cs kQ lF w) Cs kQ lF w
theorem amX (kn : K3) (hn : N3 Q kn 0 3 4) (h : Rv kn (g 0) (g 3) (g 4) w) : bD pg mH (aF 1 (aB 1 (bI (bI (aB 1 (aF 1 (aB 2 lR))))))) Q g w :=
 wX 1 (jA 2 (apJ _ g w (Q6 kn) (fun g w h => aJ (wX 2 (anZ _ g w kn hn h))) h))
def Ow (kn : K3) (k0 : K1) (Cs kQ lF : aNF) (w : aNE) : Prop :=
 aD pg (lG .len #[9] 3 [Cs]) w fun b9 w =>
 aD pg (aI .lss 3 aM aM lF b9) w fun c0 w =>
 gZ c0
  (kn Cs kQ lF w)
  (k0 kQ w)
theorem ahW (kn : K3) (k0 : K1) (hn : N3 Q kn 0 3 4) (h0 : E1 Q k0 0 3) (h : Ow kn k0 (g 0) (g 3) (g 4) w) : bD pg mH (aF 1 (bI (bI (aB 1 (aF 1 (aB 2 lR)))))) Q g w :=
 eL (kr := no) (l := [(0, fun g w => k0 (g 3) w)]) h hn gT ⟨h0, trivial⟩
def F4 (kn : K3) (k0 : K1) (Cs kQ lF : aNF) (w : aNE) : Prop :=
 Ow (fun Cs kQ lF w => RE kn Cs kQ lF w) k0 Cs kQ lF w
def Oh (k0 : K1) (Cs kQ lF : aNF) (w : aNE) : Prop :=
 cS (fun (X : (aNF × aNF) -> K0) (t : aNF × aNF) (w : aNE) => F4 (fun _ kQ lF w => X (kQ, lF) w) k0 Cs t.1 t.2 w) (kQ, lF) w
theorem ahQ (kn : K3) (k0 : K1) (hn : N3 Q kn 0 3 4) (h0 : E1 Q k0 0 3) (h : F4 kn k0 (g 0) (g 3) (g 4) w) : bD pg mH (bI (bI (aB 1 (aF 1 (aB 2 lR))))) Q g w :=
 jA 1 (ahW _ g w (RE kn) k0 (fun g w h => aJ (jA 1 (amX _ g w (Ja kn) (fun g w h => aJ (aqR _ g w kn hn h)) h))) h0 h)
theorem aiU (k0 : K1) (h0 : E1 Q k0 0 3) (h : Oh k0 (g 0) (g 3) (g 4) w) : bD pg mH (bI (aB 1 (aF 1 (aB 2 lR)))) Q g w := by
 refine CS (fun g : Env => (g 3, g 4)) (fun X t w => F4 (fun _ kQ lF w => X (kQ, lF) w) k0 (g 0) t.1 t.2 w) h (fun X g1 w1 ha hL => ?_)
 rw [<- jX 0 ha] at hL
 exact (ahQ _ g1 w1 (fun _ kQ lF w => X (kQ, lF) w) k0 (fun _ _ h => h) h0 hL)
def Ox (kn : K1) (Cs kQ lF : aNF) (w : aNE) : Prop :=
 Oh kn Cs kQ lF w
def MU (kn : K3) (Cs kQ : aNF) (w : aNE) : Prop :=
 kn Cs kQ (aNG 0) w
theorem agQ (kn : K3) (hn : N3 Q kn 0 3 4) (h : MU kn (g 0) (g 3) w) : bD pg mH (aF 1 (aF 1 (aB 2 lR))) Q g w :=
 eL (kr := no) (l := []) h hn gT trivial
def OG (kn : K1) (Cs kQ : aNF) (w : aNE) : Prop :=
 MU (fun Cs kQ lF w => Ox kn Cs kQ lF w) Cs kQ w
def PJ (R : K1) (Cs kQ : aNF) (w : aNE) : Prop :=
 OG (fun kQ w => IE R kQ w) Cs kQ w
theorem ahB (kn : K1) (hn : N1 Q kn 3) (h : OG kn (g 0) (g 3) w) : bD pg mH (aF 1 (aB 2 lR)) Q g w :=
 jA 1 (agQ _ g w (Ox kn) (fun g w h => aJ (wX 0 (aiU _ g w kn hn h))) h)
def MV (kn : K2) (Cs : aNF) (w : aNE) : Prop :=
 kn Cs (.slice none 0 0) w
theorem afO (kn : K2) (hn : N2 Q kn 0 3) (h : MV kn (g 0) w) : bD pg mH (aF 2 lR) Q g w :=
 eL (kr := no) (l := []) h hn gT trivial
def On (R : K1) (Cs : aNF) (w : aNE) : Prop :=
 MV (fun Cs kQ w => PJ R Cs kQ w) Cs w
theorem akC (R : K1) (hr : HR Rt R Q) (h : On R (g 0) w) : bD pg mH lR Q g w :=
 jA 2 (afO _ g w (PJ R) (fun g w h => aJ (jA 1 (ahB _ g w (IE R) (fun g w h => aJ (aoF _ g w R hr h)) h))) h)
def ayZ (a0 : aNF) (w : aNE) (R : K1) : Prop :=
 On R a0 w
theorem avH {a0 : aNF} {w : aNE} {R : K1} (h : ayZ a0 w R) : aT pg ES #[a0] w R := by
 refine uO (ann := mH) Tryz.f90 lR [a0] Rt 29 TryzM.mixed Tryz.func90 ?_
 exact (akC _ _ _ R (fun _ _ h => h) h)
def WW : FA := ⟨zQ, fun i => .leaf ([], []) []⟩
def Ze : List ResultVar := [.cell 4 176, .tmp 5, .tmp 6]
noncomputable def Un : Code := dG Tryz.f91
def Rr (R : K1) (PW lW : aNF) (w : aNE) : Prop :=
 aD pg (B5 176 PW) w fun f_2 w =>
 aD pg (fU 176) w fun b4 w =>
 aD pg (aI .lss 3 aM aM lW (aNG 0)) w fun b9 w =>
 Gd (gJ b9 false) (fun K => K lW w) w fun c1 w =>
 Gd (gJ b9 false) (fun K => aD pg (aI .gtr 3 aM aM c1 (aNG 32)) w K) w fun c2 w =>
 aD pg (iN b9 (.bool true) c2) w fun c3 w =>
 gZ c3
  (aD pg (aL 176 f_2) w fun c4 w =>
  aD pg (aR 176 b4 c4) w fun _u w =>
  An pg 176 b4 w fun r0 => R (.tuple #[r0, (.int .u64 0), (aNG 1)]) w)
  (aD pg (aK 176 f_2 0) w fun c5 w =>
  aD pg (aL 131 c5) w fun c6 w =>
  aD pg (lG .len #[131] 3 [c6]) w fun c7 w =>
  aD pg (aK 176 f_2 1) w fun c8 w =>
  aD pg (aL 3 c8) w fun c9 w =>
  aD pg (aI .sub 3 aM aM c7 c9) w fun d0 w =>
  aD pg (aI .lss 3 aM aM d0 lW) w fun d2 w =>
  gZ d2
   (aD pg (aL 176 f_2) w fun d3 w =>
   aD pg (aR 176 b4 d3) w fun _u w =>
   An pg 176 b4 w fun r0 => R (.tuple #[r0, (.int .u64 0), (aNG 10)]) w)
   (aD pg (aK 176 f_2 0) w fun d4 w =>
   aD pg (aL 131 d4) w fun d5 w =>
   aD pg (aK 176 f_2 1) w fun d6 w =>
   aD pg (aL 3 d6) w fun d7 w =>
   aD pg (aK 176 f_2 1) w fun d8 w =>
   aD pg (aL 3 d8) w fun d9 w =>
   aD pg (aI .add 3 aM aM d9 lW) w fun e1 w =>
   aD pg (lZ 131 d5 (some d7) (some e1) none) w fun e2 w =>
   aT pg BU #[e2] w fun e3 w =>
   aD pg (aK 176 f_2 1) w fun e4 w =>
   aD pg (aL 3 e4) w fun e5 w =>
   aD pg (aI .add 3 aM aM e5 lW) w fun e7 w =>
   aD pg (aK 176 f_2 1) w fun e8 w =>
   aD pg (aR 3 e8 e7) w fun _u w =>
   aD pg (aL 176 f_2) w fun e9 w =>
   aD pg (aR 176 b4 e9) w fun _u w =>
   An pg 176 b4 w fun r0 => R (.tuple #[r0, e3, (aNG 0)]) w))
theorem anX (R : K1) (hr : HR Ze R Q) (h : Rr R (g 0) (g 1) w) : bD pg WW Un Q g w :=
 eL (kn := no) (l := []) h gT hr trivial
def ayV (a0 a1 : aNF) (w : aNE) (R : K1) : Prop :=
 Rr R a0 a1 w
theorem auX {a0 a1 : aNF} {w : aNE} {R : K1} (h : ayV a0 a1 w R) : aT pg zQ #[a0, a1] w R := by
 refine uO (ann := WW) Tryz.f91 Un [a0, a1] Ze 41 TryzM.mixed Tryz.func91 ?_
 exact (anX _ _ _ R (fun _ _ h => h) h)
def VZ : FA := ⟨MC, fun i => .leaf ([], []) []⟩
def Zy : List ResultVar := [.cell 4 176, .tmp 5, .tmp 6]
noncomputable def UT : Code := dG Tryz.f92
def QP (R : K1) (PW awN : aNF) (w : aNE) : Prop :=
 aD pg (B5 176 PW) w fun f_2 w =>
 aD pg (fU 176) w fun b4 w =>
 aD pg (aI .add 3 aM aM awN (aNG 1)) w fun c4 w =>
 aT pg I5 #[c4] w fun c5 w =>
 aD pg (aL 176 f_2) w fun c7 w =>
 aD pg (aI .sub 3 aM aM c5 (aNG 1)) w fun c9 w =>
 aT pg zQ #[c7, c9] w fun d0 w =>
 aD pg (bQ d0 0) w fun d1 w =>
 aD pg (bQ d0 1) w fun d2 w =>
 aD pg (bQ d0 2) w fun d3 w =>
 aD pg (aR 176 f_2 d1) w fun _u w =>
 aD pg (aI .neq 27 (.tmp 24) (.const (aNG 0)) d3 (aNG 0)) w fun d5 w =>
 gZ d5
  (aD pg (aL 176 f_2) w fun d6 w =>
  aD pg (aR 176 b4 d6) w fun _u w =>
  An pg 176 b4 w fun r0 => R (.tuple #[r0, (aNG 0), d3]) w)
  (aD pg (aI .sub 3 aM aM c5 (aNG 1)) w fun d9 w =>
  aT pg nZ #[d9] w fun e0 w =>
  aD pg (aI .mul 3 aM aM (aNG 2) e0) w fun e2 w =>
  aD pg (aI .sub 3 aM aM e2 (aNG 2)) w fun e3 w =>
  aD pg (aI .sub 3 aM aM e3 awN) w fun e5 w =>
  aD pg (jG 24 3 d2) w fun e7 w =>
  aD pg (aI .lss 3 aM aM e7 e5) w fun e9 w =>
  gZ e9
   (aD pg (aL 176 f_2) w fun f0 w =>
   aD pg (jG 24 3 d2) w fun f2 w =>
   aD pg (aR 176 b4 f0) w fun _u w =>
   An pg 176 b4 w fun r0 => R (.tuple #[r0, f2, (aNG 0)]) w)
   (aD pg (aL 176 f_2) w fun f4 w =>
   aT pg zQ #[f4, (aNG 1)] w fun f5 w =>
   aD pg (bQ f5 0) w fun f6 w =>
   aD pg (bQ f5 1) w fun f7 w =>
   aD pg (bQ f5 2) w fun f8 w =>
   aD pg (aR 176 f_2 f6) w fun _u w =>
   aD pg (aI .neq 27 (.tmp 49) (.const (aNG 0)) f8 (aNG 0)) w fun i0 w =>
   gZ i0
    (aD pg (aL 176 f_2) w fun i1 w =>
    aD pg (aR 176 b4 i1) w fun _u w =>
    An pg 176 b4 w fun r0 => R (.tuple #[r0, (aNG 0), f8]) w)
    (aD pg (aI .eql 24 (.tmp 53) (.const (.int .u64 1)) f7 (.int .u64 1)) w fun i4 w =>
    gZ i4
     (aD pg (aL 176 f_2) w fun i5 w =>
     aD pg (jG 24 3 d2) w fun i7 w =>
     aD pg (aI .add 3 aM aM i7 e0) w fun i9 w =>
     aD pg (aI .sub 3 aM aM i9 e5) w fun j1 w =>
     aD pg (aR 176 b4 i5) w fun _u w =>
     An pg 176 b4 w fun r0 => R (.tuple #[r0, j1, (aNG 0)]) w)
     (aD pg (aL 176 f_2) w fun j2 w =>
     aD pg (jG 24 3 d2) w fun j4 w =>
     aD pg (aR 176 b4 j2) w fun _u w =>
     An pg 176 b4 w fun r0 => R (.tuple #[r0, j4, (aNG 0)]) w))))
theorem anN (R : K1) (hr : HR Zy R Q) (h : QP R (g 0) (g 1) w) : bD pg VZ UT Q g w :=
 eL (kn := no) (l := []) h gT hr trivial
def awJ (a0 a1 : aNF) (w : aNE) (R : K1) : Prop :=
 QP R a0 a1 w
theorem auB {a0 a1 : aNF} {w : aNE} {R : K1} (h : awJ a0 a1 w R) : aT pg MC #[a0, a1] w R := by
 refine uO (ann := VZ) Tryz.f92 UT [a0, a1] Zy 65 TryzM.mixed Tryz.func92 ?_
 exact (anN _ _ _ R (fun _ _ h => h) h)
def W7 : FA := ⟨Ml, fun i => .leaf ([], []) []⟩
def Zx : List ResultVar := [.tmp 2]
noncomputable def UJ : Code := dG Tryz.f93
def Rb (R : K1) (PW : aNF) (w : aNE) : Prop :=
 aD pg (B5 176 PW) w fun f_1 w =>
 aD pg (aK 176 f_1 1) w fun b3 w =>
 aD pg (aL 3 b3) w fun b4 w =>
 aD pg (aI .add 3 aM aM b4 (aNG 7)) w fun b5 w =>
 aD pg (aI .quo 3 aM aM b5 (aNG 8)) w fun b6 w =>
 R b6 w
theorem aqU (R : K1) (hr : HR Zx R Q) (h : Rb R (g 0) w) : bD pg W7 UJ Q g w :=
 eL (kn := no) (l := []) h gT hr trivial
def azB (a0 : aNF) (w : aNE) (R : K1) : Prop :=
 Rb R a0 w
theorem avE {a0 : aNF} {w : aNE} {R : K1} (h : azB a0 w R) : aT pg Ml #[a0] w R := by
 refine uO (ann := W7) Tryz.f93 UJ [a0] Zx 7 TryzM.mixed Tryz.func93 ?_
 exact (aqU _ _ _ R (fun _ _ h => h) h)
def UD : FA := ⟨IJ, fun i => .leaf ([], []) []⟩
def Wj : List ResultVar := [.tmp 4]
noncomputable def SI : Code := dG Tryz.f94
def OD (R : K1) (L1 MQ : aNF) (w : aNE) : Prop :=
 aD pg (B5 128 L1) w fun c_2 w =>
 aD pg (aL 128 c_2) w fun b6 w =>
 aT pg Qd #[b6] w fun b7 w =>
 aD pg (sUn .not b7) w fun b9 w =>
 gZ b9
  (R (aNG 1) w)
  (aD pg (aK 128 c_2 0) w fun c0 w =>
  aD pg (aL 3 c0) w fun c1 w =>
  aD pg (aI .gtr 3 aM aM c1 MQ) w fun c3 w =>
  gZ c3
   (R (aNG 12) w)
   (R (aNG 0) w))
theorem aiE (R : K1) (hr : HR Wj R Q) (h : OD R (g 0) (g 1) w) : bD pg UD SI Q g w :=
 eL (kn := no) (l := []) h gT hr trivial
def asH (a0 a1 : aNF) (w : aNE) (R : K1) : Prop :=
 OD R a0 a1 w
theorem aoU {a0 a1 : aNF} {w : aNE} {R : K1} (h : asH a0 a1 w R) : aT pg IJ #[a0, a1] w R := by
 refine uO (ann := UD) Tryz.f94 SI [a0, a1] Wj 14 TryzM.mixed Tryz.func94 ?_
 exact (aiE _ _ _ R (fun _ _ h => h) h)
end Go.Proofs.YtgpimhlgaokobaaGreat

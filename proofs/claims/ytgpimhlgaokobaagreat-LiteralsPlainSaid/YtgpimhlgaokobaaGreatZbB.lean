/- Parts of the proof of LiteralsPlain: merged and given short names by a program of ours. -/
import Derived.Test.YtgpimhlgaokobaaGreatZbA
set_option linter.unusedVariables false
set_option linter.unusedSimpArgs false
namespace Go.Proofs.YtgpimhlgaokobaaGreat
open Go Go.En
set_option maxRecDepth 20000
attribute [local irreducible] Go.En.bD
variable (Q : Exit -> Env -> aNX -> Prop) (g : Env) (w : aNX)
def jO : FA := ⟨BY, fun i => match Nat.beq i 22 with | true => .leaf ([8, 9], [(0, 8), (1, 8), (3, 8), (4, 8), (5, 8), (6, 8), (7, 8)]) [(false, []), (false, []), (false, []), (false, []), (false, []), (false, []), (false, []), (false, []), (true, [0, 1, 2, 3, 4, 6, 7]), (true, [])] | false => match Nat.beq i 24 with | true => .leaf ([1], [(1, 2), (1, 3)]) [(false, []), (true, []), (false, [0]), (false, [1]), (false, [])] | false => match Nat.beq i 25 with | true => .leaf ([11, 12], []) [(false, []), (false, []), (false, []), (false, []), (false, []), (false, []), (false, []), (false, []), (false, []), (false, []), (false, []), (true, []), (true, []), (false, [])] | false => match Nat.beq i 26 with | true => .leaf ([8, 10], [(1, 8)]) [(false, []), (false, []), (false, []), (false, []), (false, []), (false, []), (false, []), (false, []), (true, [6]), (false, []), (true, [])] | false => .leaf ([], []) []⟩
def wI : List ResultVar := [.tmp 2, .tmp 3]
noncomputable def iV : Code := dH Tryz.f39
def wS (R : K1) (kQ : aNY) (w : aNX) : Prop :=
 aD pg (lI .len #[22] 3 [kQ]) w fun o0 w =>
 aD pg (aI .geq 3 aM aM o0 (aNZ 256)) w fun o1 w =>
 gU o1
  (R (.tuple #[(.slice none 0 0), (aNZ 11)]) w)
  (R (.tuple #[kQ, (aNZ 0)]) w)
theorem VU (R : K1) (hr : HR wI R Q) (h : wS R (g 11) w) : bD pg jO (aB 1 (aB 3 (aB 1 (aB 7 (bI (aB 1 iV)))))) Q g w :=
 eK (kn := no) (l := []) h gR hr trivial
def Bi (kn : K5) (k2 : K1) (JD b8 b9 kQ i4 : aNY) (w : aNX) : Prop :=
 aD pg (aI .lss 3 aM aM i4 (aNZ 256)) w fun i5 w =>
 gU i5
  (aD pg (aK 108 b8 1) (dr w) fun i7 w_ => w_ = (dr w) /\
  aD pg (aL 106 i7) (dr w) fun i8 w_ => w_ = (dr w) /\
  (dr w) = (dr w) /\
  aD pg (aI .rem 3 aM aM i4 (aNZ 2)) (dr w) fun j0 w_ => w_ = (dr w) /\
  aD pg (cI 111 b9 j0) (dr w) fun j1 w_ => w_ = (dr w) /\
  aD pg (aL 3 j1) (dr w) fun j2 w_ => w_ = (dr w) /\
  aD pg (cI 106 i8 j2) (dr w) fun j3 w_ => w_ = (dr w) /\
  aD pg (aL 115 j3) (dr w) fun j4 w_ => w_ = (dr w) /\
  aD pg (fW 115) (dr w) fun aJa arW =>
  (jH pg (aL 115 j3) j4 arW /\ jH pg (cI 106 i8 j2) j3 arW /\ jH pg (aL 3 j1) j2 arW /\ jH pg (cI 111 b9 j0) j1 arW /\ jH pg (aI .rem 3 aM aM i4 (aNZ 2)) j0 arW /\ jH pg (aL 106 i7) i8 arW /\ jH pg (aK 108 b8 1) i7 arW /\ True) /\
  aD pg (aT 115 aJa j4) arW fun _u9 aKJ =>
  aD pg (aK 115 aJa 0) aKJ fun j6 w =>
  aD pg (aL 5 j6) w fun j7 w =>
  aD pg (cU 22 1 [(0, j7)]) w fun j8 w =>
  aD pg (lI .append #[22, 22] 22 [kQ, j8]) w fun j9 w =>
  (dr w) = (dr w) /\
  aS pg qQ #[JD] (dr w) fun l1 pK =>
  aD pg (aK 115 aJa 1) pK fun l2 w_ => w_ = pK /\
  (jH pg (aK 115 aJa 1) l2 (dr w) /\ True) /\
  aD pg (aL 3 l2) pK fun l3 w_ => w_ = pK /\
  (jH pg (aL 3 l2) l3 (dr w) /\ True) /\
  aD pg (aI .lss 3 aM aM l1 l3) pK fun l4 w_ => w_ = pK /\
  gU l4
   ((dr pK) = (dr pK) /\
   aD pg (aK 108 b8 1) (dr pK) fun l6 w_ => w_ = (dr pK) /\
   aD pg (aL 106 l6) (dr pK) fun l7 w_ => w_ = (dr pK) /\
   (dr pK) = (dr pK) /\
   aD pg (aI .add 3 aM aM i4 (aNZ 1)) (dr pK) fun l9 w_ => w_ = (dr pK) /\
   aD pg (aI .rem 3 aM aM l9 (aNZ 2)) (dr pK) fun m0 w_ => w_ = (dr pK) /\
   aD pg (cI 111 b9 m0) (dr pK) fun m1 w_ => w_ = (dr pK) /\
   aD pg (aL 3 m1) (dr pK) fun m2 w_ => w_ = (dr pK) /\
   aD pg (cI 106 l7 m2) (dr pK) fun m3 w_ => w_ = (dr pK) /\
   aD pg (aK 115 m3 0) (dr pK) fun m4 w_ => w_ = (dr pK) /\
   aD pg (aL 5 m4) (dr pK) fun m5 w_ => w_ = (dr pK) /\
   aD pg (cU 22 1 [(0, m5)]) (dr pK) fun m6 aJV =>
   aD pg (lI .append #[22, 22] 22 [j9, m6]) aJV fun m7 aEH =>
   aEH = aEH /\
   k2 m7 aEH)
   ((dr pK) = (dr pK) /\
   aD pg (aI .rem 3 aM aM i4 (aNZ 2)) (dr pK) fun m9 w_ => w_ = (dr pK) /\
   aD pg (aL 108 b8) (dr pK) fun n0 w_ => w_ = (dr pK) /\
   (dr pK) = (dr pK) /\
   aD pg (aI .rem 3 aM aM i4 (aNZ 2)) (dr pK) fun n2 w_ => w_ = (dr pK) /\
   aD pg (cI 111 b9 n2) (dr pK) fun n3 w_ => w_ = (dr pK) /\
   aD pg (aL 3 n3) (dr pK) fun n4 w_ => w_ = (dr pK) /\
   (dr pK) = (dr pK) /\
   aS pg Un #[n0, n4, JD] (dr pK) fun n6 aFy =>
   (jH pg (aI .rem 3 aM aM i4 (aNZ 2)) m9 aFy /\ True) /\
   aD pg (cI 111 b9 m9) aFy fun n7 w_ => w_ = aFy /\
   aD pg (aT 3 n7 n6) aFy fun _u10 aJG =>
   aD pg (aI .add 3 aM aM i4 (aNZ 1)) aJG fun n8 w =>
   kn JD b8 b9 j9 n8 w))
  (k2 kQ w)
theorem Xf (kn : K5) (k2 : K1) (hn : N5 Q kn 7 8 9 11 54) (h2 : E1 Q k2 2 11) (h : Bi kn k2 (g 7) (g 8) (g 9) (g 11) (g 54) w) : bD pg jO (bI (bI (aB 1 (aF 1 (aB 3 (aB 1 (aB 7 (bI (aB 1 iV))))))))) Q g w :=
 eK (kr := no) (l := [(2, fun g w => k2 (g 11) w)]) h hn gR ⟨h2, trivial⟩
def FT (k2 : K1) (JD b8 b9 kQ i4 : aNY) (w : aNX) : Prop :=
 cR (fun (X : (aNY × aNY) -> K0) (t : aNY × aNY) (w : aNX) => Bi (fun _ _ _ kQ i4 w => X (kQ, i4) w) k2 JD b8 b9 t.1 t.2 w) (kQ, i4) w
theorem Wt (k2 : K1) (h2 : E1 Q k2 2 11) (h : FT k2 (g 7) (g 8) (g 9) (g 11) (g 54) w) : bD pg jO (bI (aB 1 (aF 1 (aB 3 (aB 1 (aB 7 (bI (aB 1 iV)))))))) Q g w := by
 refine CX (fun g : Env => (g 11, g 54)) (fun X t w => Bi (fun _ _ _ kQ i4 w => X (kQ, i4) w) k2 (g 7) (g 8) (g 9) t.1 t.2 w) h (fun X g1 w1 ha hL => ?_)
 rw [<- kA 7 ha, <- kA 8 ha, <- kA 9 ha] at hL
 exact (Xf _ g1 w1 (fun _ _ _ kQ i4 w => X (kQ, i4) w) k2 (fun _ _ h => h) h2 hL)
def F9 (kn : K1) (JD b8 b9 kQ i4 : aNY) (w : aNX) : Prop :=
 FT kn JD b8 b9 kQ i4 w
def F7 (kn : K5) (JD b8 b9 kQ : aNY) (w : aNX) : Prop :=
 kn JD b8 b9 kQ (aNZ 0) w
theorem WB (kn : K5) (hn : N5 Q kn 7 8 9 11 54) (h : F7 kn (g 7) (g 8) (g 9) (g 11) w) : bD pg jO (aF 1 (aF 1 (aB 3 (aB 1 (aB 7 (bI (aB 1 iV))))))) Q g w :=
 eK (kr := no) (l := []) h hn gR trivial
def Fp (kn : K1) (JD b8 b9 kQ : aNY) (w : aNX) : Prop :=
 F7 (fun JD b8 b9 kQ i4 w => F9 kn JD b8 b9 kQ i4 w) JD b8 b9 kQ w
def Be (R : K1) (JD b8 b9 kQ : aNY) (w : aNX) : Prop :=
 Fp (fun kQ w => wS R kQ w) JD b8 b9 kQ w
theorem Wp (kn : K1) (hn : N1 Q kn 11) (h : Fp kn (g 7) (g 8) (g 9) (g 11) w) : bD pg jO (aF 1 (aB 3 (aB 1 (aB 7 (bI (aB 1 iV)))))) Q g w :=
 jA 1 (WB _ g w (F9 kn) (fun g w h => aJ (xC 2 (Wt _ g w kn hn h))) h)
def FJ (kn : K4) (R : K1) (JD b8 b9 : aNY) (w : aNX) : Prop :=
 aS pg qQ #[JD] w fun i2 w =>
 aD pg (aI .lss 3 aM aM i2 (aNZ 0)) w fun i3 w =>
 gU i3
  (R (.tuple #[(.slice none 0 0), (aNZ 11)]) w)
  (kn JD b8 b9 (.slice none 0 0) w)
theorem Xp (kn : K4) (R : K1) (hn : N4 Q kn 7 8 9 11) (hr : HR wI R Q) (h : FJ kn R (g 7) (g 8) (g 9) w) : bD pg jO (aF 3 (aB 1 (aB 7 (bI (aB 1 iV))))) Q g w :=
 eK (l := []) h hn hr trivial
def Bg (R : K1) (JD b8 b9 : aNY) (w : aNX) : Prop :=
 FJ (fun JD b8 b9 kQ w => Be R JD b8 b9 kQ w) R JD b8 b9 w
def zD (kn : K4) (k0 : K3) (JD b8 b9 f2 : aNY) (w : aNX) : Prop :=
 aD pg (aI .lss 3 aM aM f2 (aNZ 2)) w fun f3 w =>
 gU f3
  (aD pg (aL 108 b8) w fun f6 w =>
  aS pg Qy #[f6, JD] w fun f8 w =>
  aD pg (cI 111 b9 f2) w fun f9 w =>
  aD pg (aT 3 f9 f8) w fun _u w =>
  aD pg (aI .add 3 aM aM f2 (aNZ 1)) w fun i0 w =>
  kn JD b8 b9 i0 w)
  (k0 JD b8 b9 w)
theorem Vm (kn : K4) (k0 : K3) (hn : N4 Q kn 7 8 9 42) (h0 : E3 Q k0 0 7 8 9) (h : zD kn k0 (g 7) (g 8) (g 9) (g 42) w) : bD pg jO (bI (bI (aB 1 (aF 1 (aB 7 (bI (aB 1 iV))))))) Q g w :=
 eK (kr := no) (l := [(0, fun g w => k0 (g 7) (g 8) (g 9) w)]) h hn gR ⟨h0, trivial⟩
def Ea (k0 : K3) (JD b8 b9 f2 : aNY) (w : aNX) : Prop :=
 cR (fun (X : aNY -> K0) (t : aNY) (w : aNX) => zD (fun _ _ _ f2 w => X f2 w) k0 JD b8 b9 t w) f2 w
theorem Vh (k0 : K3) (h0 : E3 Q k0 0 7 8 9) (h : Ea k0 (g 7) (g 8) (g 9) (g 42) w) : bD pg jO (bI (aB 1 (aF 1 (aB 7 (bI (aB 1 iV)))))) Q g w := by
 refine CX (fun g : Env => g 42) (fun X t w => zD (fun _ _ _ f2 w => X f2 w) k0 (g 7) (g 8) (g 9) t w) h (fun X g1 w1 ha hL => ?_)
 rw [<- kA 7 ha, <- kA 8 ha, <- kA 9 ha] at hL
 exact (Vm _ g1 w1 (fun _ _ _ f2 w => X f2 w) k0 (fun _ _ h => h) h0 hL)
def Ew (kn : K3) (JD b8 b9 f2 : aNY) (w : aNX) : Prop :=
 Ea kn JD b8 b9 f2 w
def D7 (kn : K4) (JD b8 b9 : aNY) (w : aNX) : Prop :=
 kn JD b8 b9 (aNZ 0) w
theorem VO (kn : K4) (hn : N4 Q kn 7 8 9 42) (h : D7 kn (g 7) (g 8) (g 9) w) : bD pg jO (aF 1 (aF 1 (aB 7 (bI (aB 1 iV))))) Q g w :=
 eK (kr := no) (l := []) h hn gR trivial
def D3 (kn : K3) (JD b8 b9 : aNY) (w : aNX) : Prop :=
 D7 (fun JD b8 b9 f2 w => Ew kn JD b8 b9 f2 w) JD b8 b9 w
def yZ (R : K1) (JD b8 b9 : aNY) (w : aNX) : Prop :=
 D3 (fun JD b8 b9 w => Bg R JD b8 b9 w) JD b8 b9 w
theorem Vt (kn : K3) (hn : N3 Q kn 7 8 9) (h : D3 kn (g 7) (g 8) (g 9) w) : bD pg jO (aF 1 (aB 7 (bI (aB 1 iV)))) Q g w :=
 jA 1 (VO _ g w (Ew kn) (fun g w h => aJ (xC 0 (Vh _ g w kn hn h))) h)
def Eo (kn : K3) (R : K1) (eX : aNY) (w : aNX) : Prop :=
 aS pg I8 #[eX, (aNZ 6), (aNZ 12)] w fun c6 w =>
 aD pg (bP c6 0) w fun c7 w =>
 aD pg (bP c6 1) w fun c8 w =>
 aD pg (bP c6 2) w fun c9 w =>
 aD pg (fW 100) w fun c_4 w =>
 aD pg (aT 100 c_4 c7) w fun _u w =>
 aD pg (aI .neq 27 (.tmp 20) (.const (aNZ 0)) c9 (aNZ 0)) w fun d1 w =>
 gU d1
  (R (.tuple #[(.slice none 0 0), c9]) w)
  (aD pg (mD 22 eX (some c8) none none) w fun d6 w =>
  aS pg sN #[d6] w fun d7 w =>
  aD pg (bP d7 0) w fun d8 w =>
  aD pg (bP d7 1) w fun d9 w =>
  aD pg (aI .neq 27 (.tmp 30) (.const (aNZ 0)) d9 (aNZ 0)) w fun e1 w =>
  gU e1
   (R (.tuple #[(.slice none 0 0), d9]) w)
   (aD pg (aL 100 c_4) w fun e4 w =>
   aS pg Jz #[e4] w fun e5 w =>
   aD pg (bP e5 0) w fun e6 w =>
   aD pg (bP e5 1) w fun e7 w =>
   aD pg (fW 108) w fun b8 w =>
   aD pg (aT 108 b8 e6) w fun _u w =>
   aD pg (aI .neq 27 (.tmp 38) (.const (aNZ 0)) e7 (aNZ 0)) w fun e9 w =>
   gU e9
    (R (.tuple #[(.slice none 0 0), e7]) w)
    (aD pg (fX 111 []) w fun f1 w =>
    aD pg (fW 111) w fun b9 w =>
    aD pg (aT 111 b9 f1) w fun _u w =>
    kn d8 b8 b9 w)))
theorem VH (kn : K3) (R : K1) (hn : N3 Q kn 7 8 9) (hr : HR wI R Q) (h : Eo kn R (g 0) w) : bD pg jO (aF 7 (bI (aB 1 iV))) Q g w :=
 eK (l := []) h hn hr trivial
def OE (R : K1) (eX : aNY) (w : aNX) : Prop :=
 Eo (fun JD b8 b9 w => yZ R JD b8 b9 w) R eX w
def DV (R : K1) (eX : aNY) (w : aNX) : Prop :=
 OE R eX w
def Ek (kn : K1) (eX : aNY) (w : aNX) : Prop :=
 kn eX w
theorem VD (kn : K1) (hn : N1 Q kn 0) (h : Ek kn (g 0) w) : bD pg jO (aF 1 iV) Q g w :=
 eK (kr := no) (l := []) h hn gR trivial
def Et (R : K1) (eX : aNY) (w : aNX) : Prop :=
 Ek (fun eX w => DV R eX w) eX w
theorem U7 (R : K1) (hr : HR wI R Q) (h : Et R (g 0) w) : bD pg jO iV Q g w :=
 jA 1 (VD _ g w (DV R) (fun g w h => aJ (scD (jA 7 (VH _ g w (yZ R) R (fun g w h => aJ (jA 1 (Vt _ g w (Bg R) (fun g w h => aJ (jA 3 (Xp _ g w (Be R) R (fun g w h => aJ (jA 1 (Wp _ g w (wS R) (fun g w h => aJ (VU _ g w R hr h)) h))) hr h))) h))) hr h)))) h)
def XP (a0 : aNY) (w : aNX) (R : K1) : Prop :=
 Et R a0 w
theorem Yr {a0 : aNY} {w : aNX} {R : K1} (h : XP a0 w R) : aS pg BY #[a0] w R := by
 refine uP (ann := jO) Tryz.f39 iV [a0] wI 103 TryzM.mixed Tryz.func39 ?_
 exact (U7 _ _ _ R (fun _ _ h => h) h)
def Qf : FA := ⟨DC, fun i => .leaf ([], []) []⟩
def Ts : List ResultVar := [.tmp 2, .tmp 3]
noncomputable def OL : Code := dH Tryz.f40
def HE (R : K1) (cS : aNY) (w : aNX) : Prop :=
 aS pg Ak #[cS] w fun c0 w =>
 aD pg (bP c0 0) w fun c1 w =>
 aD pg (bP c0 1) w fun c2 w =>
 aD pg (sUn .not c2) w fun c4 w =>
 Gd (gQ c4 false) (fun K => K cS w) w fun c6 w =>
 Gd (gQ c4 false) (fun K => aD pg (lI .len #[22] 3 [c6]) w K) w fun c7 w =>
 Gd (gQ c4 false) (fun K => aD pg (aI .eql 3 (.tmp 17) (.const (aNZ 0)) c7 (aNZ 0)) w K) w fun c8 w =>
 aD pg (iO c4 (.bool true) c8) w fun c9 w =>
 Gd (gQ c9 false) (fun K => K cS w) w fun d1 w =>
 Gd (gQ c9 false) (fun K => aD pg (lI .len #[22] 3 [d1]) w K) w fun d2 w =>
 Gd (gQ c9 false) (fun K => aD pg (aI .geq 3 aM aM d2 (aNZ 256)) w K) w fun d3 w =>
 aD pg (iO c9 (.bool true) d3) w fun d4 w =>
 Gd (gQ d4 false) (fun K => K c1 w) w fun d6 w =>
 Gd (gQ d4 false) (fun K => aD pg (aI .eql 3 (.tmp 26) (.const (aNZ 0)) d6 (aNZ 0)) w K) w fun d7 w =>
 aD pg (iO d4 (.bool true) d7) w fun d8 w =>
 gU d8
  (R (.tuple #[(.slice none 0 0), (aNZ 11)]) w)
  (aD pg (jP 3 67 c1) w fun e0 w =>
  aS pg rT #[e0] w fun e1 w =>
  aD pg (aI .shl 3 aM aM (aNZ 1) e1) w fun e3 w =>
  aD pg (aI .sub 3 aM aM e3 c1) w fun e5 w =>
  aD pg (aI .gtr 3 aM aM e1 (aNZ 11)) w fun e7 w =>
  Gd (gQ e7 false) (fun K => K e5 w) w fun e9 w =>
  Gd (gQ e7 false) (fun K => K e5 w) w fun f0 w =>
  Gd (gQ e7 false) (fun K => aD pg (aI .sub 3 aM aM f0 (aNZ 1)) w K) w fun f1 w =>
  Gd (gQ e7 false) (fun K => aD pg (aI .and 3 aM aM e9 f1) w K) w fun f2 w =>
  Gd (gQ e7 false) (fun K => aD pg (aI .neq 3 (.tmp 42) (.const (aNZ 0)) f2 (aNZ 0)) w K) w fun f3 w =>
  aD pg (iO e7 (.bool true) f3) w fun f4 w =>
  gU f4
   (R (.tuple #[(.slice none 0 0), (aNZ 11)]) w)
   (aS pg jS #[cS] w fun f6 w =>
   aD pg (jP 3 67 e5) w fun f8 w =>
   aS pg rT #[f8] w fun f9 w =>
   aD pg (jP 3 5 f9) w fun i0 w =>
   aD pg (cU 22 1 [(0, i0)]) w fun i1 w =>
   aD pg (lI .append #[22, 22] 22 [f6, i1]) w fun i2 w =>
   R (.tuple #[i2, (aNZ 0)]) w))
theorem Zk (R : K1) (hr : HR Ts R Q) (h : HE R (g 0) w) : bD pg Qf OL Q g w :=
 eK (kn := no) (l := []) h gR hr trivial
def Zy (a0 : aNY) (w : aNX) (R : K1) : Prop :=
 HE R a0 w
theorem aaA {a0 : aNY} {w : aNX} {R : K1} (h : Zy a0 w R) : aS pg DC #[a0] w R := by
 refine uP (ann := Qf) Tryz.f40 OL [a0] Ts 53 TryzM.mixed Tryz.func40 ?_
 exact (Zk _ _ _ R (fun _ _ h => h) h)
def U0 : FA := ⟨I1, fun i => .leaf ([], []) []⟩
def WC : List ResultVar := [.tmp 6, .tmp 7]
noncomputable def SM : Code := dH Tryz.f41
def Py (R : K1) (cS b_1 nU : aNY) (w : aNX) : Prop :=
 aS pg Aq #[cS] w fun c2 w =>
 aD pg (bP c2 0) w fun c3 w =>
 aD pg (bP c2 1) w fun c4 w =>
 aD pg (fW 122) w fun b8 w =>
 aD pg (aT 122 b8 c3) w fun _u w =>
 aD pg (aI .neq 27 (.tmp 16) (.const (aNZ 0)) c4 (aNZ 0)) w fun c7 w =>
 gU c7
  (R (.tuple #[(.slice none 0 0), c4]) w)
  (aD pg (aI .lss 3 aM aM nU (aNZ 0)) w fun d1 w =>
  Gd (gQ d1 false) (fun K => K nU w) w fun d3 w =>
  Gd (gQ d1 false) (fun K => aD pg (aI .gtr 3 aM aM d3 (aNZ 131072)) w K) w fun d4 w =>
  aD pg (iO d1 (.bool true) d4) w fun d5 w =>
  gU d5
   (R (.tuple #[(.slice none 0 0), (aNZ 1)]) w)
   (aD pg (aL 122 b8) w fun d6 w =>
   aS pg tZ #[d6, b_1, nU] w fun d9 w =>
   aD pg (bP d9 0) w fun e0 w =>
   aD pg (bP d9 1) w fun e1 w =>
   R (.tuple #[e0, e1]) w))
theorem ahO (R : K1) (hr : HR WC R Q) (h : Py R (g 0) (g 1) (g 2) w) : bD pg U0 SM Q g w :=
 eK (kn := no) (l := []) h gR hr trivial
def asN (a0 a1 a2 : aNY) (w : aNX) (R : K1) : Prop :=
 Py R a0 a1 a2 w
theorem apU {a0 a1 a2 : aNY} {w : aNX} {R : K1} (h : asN a0 a1 a2 w R) : aS pg I1 #[a0, a1, a2] w R := by
 refine uP (ann := U0) Tryz.f41 SM [a0, a1, a2] WC 32 TryzM.mixed Tryz.func41 ?_
 exact (ahO _ _ _ R (fun _ _ h => h) h)
def lQ : FA := ⟨FC, fun i => match Nat.beq i 16 with | true => .leaf ([1, 12], [(1, 2), (1, 3), (1, 5), (1, 6), (1, 8), (1, 9)]) [(false, []), (true, []), (false, [0]), (false, [1]), (false, []), (false, [3]), (false, [4]), (false, []), (false, [6]), (false, [7]), (false, []), (false, []), (true, [])] | false => match Nat.beq i 23 with | true => .leaf ([5, 9], [(0, 5), (5, 7), (5, 8)]) [(false, []), (false, []), (false, []), (false, []), (false, []), (true, [4]), (false, []), (false, [1]), (false, [2]), (true, []), (false, []), (false, []), (false, []), (false, []), (false, [])] | false => .leaf ([], []) []⟩
def rV : List ResultVar := [.tmp 6, .tmp 7]
noncomputable def kZ : Code := dH Tryz.f42
def DF (R : K1) (dR : aNY) (w : aNX) : Prop :=
 R (.tuple #[dR, (aNZ 0)]) w
theorem abA (R : K1) (hr : HR rV R Q) (h : DF R (g 15) w) : bD pg lQ (aB 1 (aB 3 (aB 1 (aB 8 kZ)))) Q g w :=
 eK (kn := no) (l := []) h gR hr trivial
def C5 (kn : K6) (k2 : K1) (R : K1) (b8 iL tH gK dR l1 : aNY) (w : aNX) : Prop :=
 aD pg (aI .lss 3 aM aM l1 (aNZ 4)) w fun l2 w =>
 gU l2
  (aD pg (aL 122 b8) (dr w) fun l5 w_ => w_ = (dr w) /\
  (dr w) = (dr w) /\
  (dr w) = (dr w) /\
  aD pg (cI 73 gK l1) (dr w) fun l8 w_ => w_ = (dr w) /\
  aD pg (aL 3 l8) (dr w) fun l9 w_ => w_ = (dr w) /\
  aS pg vT #[tH, l9] (dr w) fun m0 atH =>
  (jH pg (aL 122 b8) l5 atH /\ True) /\
  atH = atH /\
  aD pg (cI 73 iL l1) atH fun m2 w_ => w_ = atH /\
  (jH pg (cI 73 iL l1) m2 (dr w) /\ True) /\
  aD pg (aL 3 m2) atH fun m3 w_ => w_ = atH /\
  (jH pg (aL 3 m2) m3 (dr w) /\ True) /\
  aS pg tZ #[l5, m0, m3] atH fun m4 Wm =>
  Wm = Wm /\
  aD pg (bP m4 0) Wm fun m5 w_ => w_ = Wm /\
  aD pg (bP m4 1) Wm fun m6 w_ => w_ = Wm /\
  Wm = Wm /\
  Wm = Wm /\
  aD pg (aI .neq 27 (.tmp 87) (.const (aNZ 0)) m6 (aNZ 0)) Wm fun m8 w =>
  gU m8
   (R (.tuple #[(.slice none 0 0), m6]) w)
   (aD pg (lI .append #[22, 22] 22 [dR, m5]) w fun n2 w =>
   aD pg (aI .add 3 aM aM l1 (aNZ 1)) w fun n3 w =>
   kn b8 iL tH gK n2 n3 w))
  (k2 dR w)
theorem adY (kn : K6) (k2 : K1) (R : K1) (hn : N6 Q kn 8 10 12 13 15 71) (h2 : E1 Q k2 2 15) (hr : HR rV R Q) (h : C5 kn k2 R (g 8) (g 10) (g 12) (g 13) (g 15) (g 71) w) : bD pg lQ (bI (bI (aB 1 (aF 1 (aB 3 (aB 1 (aB 8 kZ))))))) Q g w :=
 eK (l := [(2, fun g w => k2 (g 15) w)]) h hn hr ⟨h2, trivial⟩
def Kh (k2 : K1) (R : K1) (b8 iL tH gK dR l1 : aNY) (w : aNX) : Prop :=
 cR (fun (X : (aNY × aNY) -> K0) (t : aNY × aNY) (w : aNX) => C5 (fun _ _ _ _ dR l1 w => X (dR, l1) w) k2 R b8 iL tH gK t.1 t.2 w) (dR, l1) w
theorem adQ (k2 : K1) (R : K1) (h2 : E1 Q k2 2 15) (hr : HR rV R Q) (h : Kh k2 R (g 8) (g 10) (g 12) (g 13) (g 15) (g 71) w) : bD pg lQ (bI (aB 1 (aF 1 (aB 3 (aB 1 (aB 8 kZ)))))) Q g w := by
 refine CX (fun g : Env => (g 15, g 71)) (fun X t w => C5 (fun _ _ _ _ dR l1 w => X (dR, l1) w) k2 R (g 8) (g 10) (g 12) (g 13) t.1 t.2 w) h (fun X g1 w1 ha hL => ?_)
 rw [<- kA 8 ha, <- kA 10 ha, <- kA 12 ha, <- kA 13 ha] at hL
 exact (adY _ g1 w1 (fun _ _ _ _ dR l1 w => X (dR, l1) w) k2 R (fun _ _ h => h) h2 hr hL)
def Lp (kn : K1) (R : K1) (b8 iL tH gK dR l1 : aNY) (w : aNX) : Prop :=
 Kh kn R b8 iL tH gK dR l1 w
def KL (kn : K6) (b8 iL tH gK dR : aNY) (w : aNX) : Prop :=
 kn b8 iL tH gK dR (aNZ 0) w
theorem ZX (kn : K6) (hn : N6 Q kn 8 10 12 13 15 71) (h : KL kn (g 8) (g 10) (g 12) (g 13) (g 15) w) : bD pg lQ (aF 1 (aF 1 (aB 3 (aB 1 (aB 8 kZ))))) Q g w :=
 eK (kr := no) (l := []) h hn gR trivial
def Kb (kn : K1) (R : K1) (b8 iL tH gK dR : aNY) (w : aNX) : Prop :=
 KL (fun b8 iL tH gK dR l1 w => Lp kn R b8 iL tH gK dR l1 w) b8 iL tH gK dR w
def KZ (R : K1) (b8 iL tH gK dR : aNY) (w : aNX) : Prop :=
 Kb (fun dR w => DF R dR w) R b8 iL tH gK dR w
theorem acE (kn : K1) (R : K1) (hn : N1 Q kn 15) (hr : HR rV R Q) (h : Kb kn R (g 8) (g 10) (g 12) (g 13) (g 15) w) : bD pg lQ (aF 1 (aB 3 (aB 1 (aB 8 kZ)))) Q g w :=
 jA 1 (ZX _ g w (Lp kn R) (fun g w h => aJ (xC 2 (adQ _ g w kn R hn hr h))) h)
def KD (kn : K5) (R : K1) (b8 iL tH gK : aNY) (w : aNX) : Prop :=
 (dr w) = (dr w) /\
 aS pg wJ #[tH] (dr w) fun i2 CY =>
 aD pg (cI 73 gK (aNZ 0)) CY fun i3 w_ => w_ = CY /\
 (jH pg (cI 73 gK (aNZ 0)) i3 (dr w) /\ True) /\
 aD pg (aL 3 i3) CY fun i4 w_ => w_ = CY /\
 (jH pg (aL 3 i3) i4 (dr w) /\ True) /\
 aD pg (aI .sub 3 aM aM i2 i4) CY fun i5 w_ => w_ = CY /\
 aD pg (cI 73 gK (aNZ 1)) CY fun i6 w_ => w_ = CY /\
 (jH pg (cI 73 gK (aNZ 1)) i6 (dr w) /\ True) /\
 aD pg (aL 3 i6) CY fun i7 w_ => w_ = CY /\
 (jH pg (aL 3 i6) i7 (dr w) /\ True) /\
 aD pg (aI .sub 3 aM aM i5 i7) CY fun i8 w_ => w_ = CY /\
 aD pg (cI 73 gK (aNZ 2)) CY fun i9 w_ => w_ = CY /\
 (jH pg (cI 73 gK (aNZ 2)) i9 (dr w) /\ True) /\
 aD pg (aL 3 i9) CY fun j0 w_ => w_ = CY /\
 (jH pg (aL 3 i9) j0 (dr w) /\ True) /\
 aD pg (aI .sub 3 aM aM i8 j0) CY fun j1 w_ => w_ = CY /\
 aD pg (cI 73 gK (aNZ 3)) CY fun j2 w_ => w_ = CY /\
 aD pg (aT 3 j2 j1) CY fun _u12 aJ4 =>
 aS pg rO #[tH] aJ4 fun j4 w =>
 aD pg (aI .neq 27 (.tmp 64) (.const (aNZ 0)) j4 (aNZ 0)) w fun j5 w =>
 Gd (gQ j5 false) (fun K => aD pg (cI 73 gK (aNZ 3)) w K) w fun j7 w =>
 Gd (gQ j5 false) (fun K => aD pg (aL 3 j7) w K) w fun j8 w =>
 Gd (gQ j5 false) (fun K => aD pg (aI .lss 3 aM aM j8 (aNZ 0)) w K) w fun j9 w =>
 aD pg (iO j5 (.bool true) j9) w fun l0 w =>
 gU l0
  (R (.tuple #[(.slice none 0 0), (aNZ 10)]) w)
  (kn b8 iL tH gK (.slice none 0 0) w)
theorem aeC (kn : K5) (R : K1) (hn : N5 Q kn 8 10 12 13 15) (hr : HR rV R Q) (h : KD kn R (g 8) (g 10) (g 12) (g 13) w) : bD pg lQ (aF 3 (aB 1 (aB 8 kZ))) Q g w :=
 eK (l := []) h hn hr trivial
def Ly (R : K1) (b8 iL tH gK : aNY) (w : aNX) : Prop :=
 KD (fun b8 iL tH gK dR w => KZ R b8 iL tH gK dR w) R b8 iL tH gK w
def Cs (kn : K5) (k0 : K4) (b8 iL tH gK f2 : aNY) (w : aNX) : Prop :=
 aD pg (aI .lss 3 aM aM f2 (aNZ 3)) w fun f3 w =>
 gU f3
  (aS pg rG #[tH, (aNZ 2)] w fun f7 w =>
  aD pg (jP 24 3 f7) w fun f8 w =>
  aD pg (cI 73 gK f2) w fun f9 w =>
  aD pg (aT 3 f9 f8) w fun _u w =>
  aD pg (aI .add 3 aM aM f2 (aNZ 1)) w fun i0 w =>
  kn b8 iL tH gK i0 w)
  (k0 b8 iL tH gK w)
theorem X9 (kn : K5) (k0 : K4) (hn : N5 Q kn 8 10 12 13 42) (h0 : E4 Q k0 0 8 10 12 13) (h : Cs kn k0 (g 8) (g 10) (g 12) (g 13) (g 42) w) : bD pg lQ (bI (bI (aB 1 (aF 1 (aB 8 kZ))))) Q g w :=
 eK (kr := no) (l := [(0, fun g w => k0 (g 8) (g 10) (g 12) (g 13) w)]) h hn gR ⟨h0, trivial⟩
def HC (k0 : K4) (b8 iL tH gK f2 : aNY) (w : aNX) : Prop :=
 cR (fun (X : aNY -> K0) (t : aNY) (w : aNX) => Cs (fun _ _ _ _ f2 w => X f2 w) k0 b8 iL tH gK t w) f2 w
theorem Zp (k0 : K4) (h0 : E4 Q k0 0 8 10 12 13) (h : HC k0 (g 8) (g 10) (g 12) (g 13) (g 42) w) : bD pg lQ (bI (aB 1 (aF 1 (aB 8 kZ)))) Q g w := by
 refine CX (fun g : Env => g 42) (fun X t w => Cs (fun _ _ _ _ f2 w => X f2 w) k0 (g 8) (g 10) (g 12) (g 13) t w) h (fun X g1 w1 ha hL => ?_)
 rw [<- kA 8 ha, <- kA 10 ha, <- kA 12 ha, <- kA 13 ha] at hL
 exact (X9 _ g1 w1 (fun _ _ _ _ f2 w => X f2 w) k0 (fun _ _ h => h) h0 hL)
def Ib (kn : K4) (b8 iL tH gK f2 : aNY) (w : aNX) : Prop :=
 HC kn b8 iL tH gK f2 w
def HB (kn : K5) (b8 iL tH gK : aNY) (w : aNX) : Prop :=
 kn b8 iL tH gK (aNZ 0) w
theorem Ym (kn : K5) (hn : N5 Q kn 8 10 12 13 42) (h : HB kn (g 8) (g 10) (g 12) (g 13) w) : bD pg lQ (aF 1 (aF 1 (aB 8 kZ))) Q g w :=
 eK (kr := no) (l := []) h hn gR trivial
def HZ (kn : K4) (b8 iL tH gK : aNY) (w : aNX) : Prop :=
 HB (fun b8 iL tH gK f2 w => Ib kn b8 iL tH gK f2 w) b8 iL tH gK w
def Ig (R : K1) (b8 iL tH gK : aNY) (w : aNX) : Prop :=
 HZ (fun b8 iL tH gK w => Ly R b8 iL tH gK w) b8 iL tH gK w
theorem Y7 (kn : K4) (hn : N4 Q kn 8 10 12 13) (h : HZ kn (g 8) (g 10) (g 12) (g 13) w) : bD pg lQ (aF 1 (aB 8 kZ)) Q g w :=
 jA 1 (Ym _ g w (Ib kn) (fun g w h => aJ (xC 0 (Zp _ g w kn hn h))) h)
def HJ (kn : K4) (R : K1) (cS b_1 nU : aNY) (w : aNX) : Prop :=
 aS pg Aq #[cS] w fun d1 w =>
 aD pg (bP d1 0) w fun d2 w =>
 aD pg (bP d1 1) w fun d3 w =>
 aD pg (fW 122) w fun b8 w =>
 aD pg (aT 122 b8 d2) w fun _u w =>
 aD pg (aI .neq 27 (.tmp 24) (.const (aNZ 0)) d3 (aNZ 0)) w fun d5 w =>
 gU d5
  (R (.tuple #[(.slice none 0 0), d3]) w)
  (aD pg (aI .lss 3 aM aM nU (aNZ 0)) w fun d8 w =>
  Gd (gQ d8 false) (fun K => K nU w) w fun e0 w =>
  Gd (gQ d8 false) (fun K => aD pg (aI .gtr 3 aM aM e0 (aNZ 131072)) w K) w fun e1 w =>
  aD pg (iO d8 (.bool true) e1) w fun e2 w =>
  gU e2
   (R (.tuple #[(.slice none 0 0), (aNZ 1)]) w)
   (aS pg FY #[nU] w fun e5 w =>
   aD pg (bP e5 0) w fun e6 w =>
   aD pg (bP e5 1) w fun e7 w =>
   aD pg (fW 73) w fun iL w =>
   aD pg (aT 73 iL e6) w fun _u w =>
   aD pg (sUn .not e7) w fun e9 w =>
   gU e9
    (R (.tuple #[(.slice none 0 0), (aNZ 11)]) w)
    (aS pg vH #[b_1] w fun f1 w =>
    aD pg (fW 73) w fun gK w =>
    kn b8 iL f1 gK w)))
theorem Zf (kn : K4) (R : K1) (hn : N4 Q kn 8 10 12 13) (hr : HR rV R Q) (h : HJ kn R (g 0) (g 1) (g 2) w) : bD pg lQ (aF 8 kZ) Q g w :=
 eK (l := []) h hn hr trivial
def Ih (R : K1) (cS b_1 nU : aNY) (w : aNX) : Prop :=
 HJ (fun b8 iL tH gK w => Ig R b8 iL tH gK w) R cS b_1 nU w
theorem YU (R : K1) (hr : HR rV R Q) (h : Ih R (g 0) (g 1) (g 2) w) : bD pg lQ kZ Q g w :=
 jA 8 (Zf _ g w (Ig R) R (fun g w h => aJ (jA 1 (Y7 _ g w (Ly R) (fun g w h => aJ (jA 3 (aeC _ g w (KZ R) R (fun g w h => aJ (jA 1 (acE _ g w (DF R) R (fun g w h => aJ (abA _ g w R hr h)) hr h))) hr h))) h))) hr h)
def amE (a0 a1 a2 : aNY) (w : aNX) (R : K1) : Prop :=
 Ih R a0 a1 a2 w
theorem aiZ {a0 a1 a2 : aNY} {w : aNX} {R : K1} (h : amE a0 a1 a2 w R) : aS pg FC #[a0, a1, a2] w R := by
 refine uP (ann := lQ) Tryz.f42 kZ [a0, a1, a2] rV 95 TryzM.mixed Tryz.func42 ?_
 exact (YU _ _ _ R (fun _ _ h => h) h)
def oB : FA := ⟨EV, fun i => .leaf ([], []) []⟩
def DL : List ResultVar := [.tmp 4, .tmp 5]
noncomputable def nE : Code := dH Tryz.f43
def Db (R : K1) (gE : aNY) (w : aNX) : Prop :=
 aD pg (jP 22 9 gE) w fun e8 w =>
 R (.tuple #[e8, (aNZ 0)]) w
theorem abE (R : K1) (hr : HR DL R Q) (h : Db R (g 6) w) : bD pg oB (aB 1 (aB 3 nE)) Q g w :=
 eK (kn := no) (l := []) h gR hr trivial
def Ag (kn : K4) (eX kN gE PX : aNY) (w : aNX) : Prop :=
 aD pg (aI .add 3 aM aM PX (aNZ 1)) w fun c7 w =>
 kn eX kN gE c7 w
theorem abG (kn : K4) (hn : N4 Q kn 0 1 6 7) (h : Ag kn (g 0) (g 1) (g 6) (g 7) w) : bD pg oB (aB 2 (bI (bI (aB 1 (aF 1 (aB 3 nE)))))) Q g w :=
 eK (kr := no) (l := []) h hn gR trivial
def JG (kn : K4) (k0 : K1) (eX kN gE PX : aNY) (w : aNX) : Prop :=
 aD pg (aI .lss 3 aM aM PX kN) w fun c5 w =>
 gU c5
  (aD pg (aI .rem 3 aM aM PX (aNZ 2)) w fun c9 w =>
  aD pg (aI .eql 3 (.tmp 19) (.const (aNZ 0)) c9 (aNZ 0)) w fun d0 w =>
  gU d0
   (aD pg (aI .quo 3 aM aM PX (aNZ 2)) w fun d4 w =>
   aD pg (CN 9 eX d4) w fun d5 w =>
   aD pg (aI .quo 5 aM aM d5 (.int .u8 16)) w fun d6 w =>
   aD pg (cU 22 1 [(0, d6)]) w fun d7 w =>
   aD pg (lI .append #[22, 22] 22 [gE, d7]) w fun d8 w =>
   kn eX kN d8 PX w)
   (aD pg (aI .quo 3 aM aM PX (aNZ 2)) w fun e2 w =>
   aD pg (CN 9 eX e2) w fun e3 w =>
   aD pg (aI .rem 5 aM aM e3 (.int .u8 16)) w fun e4 w =>
   aD pg (cU 22 1 [(0, e4)]) w fun e5 w =>
   aD pg (lI .append #[22, 22] 22 [gE, e5]) w fun e6 w =>
   kn eX kN e6 PX w))
  (k0 gE w)
theorem adT (kn : K4) (k0 : K1) (hn : N4 Q kn 0 1 6 7) (h0 : E1 Q k0 0 6) (h : JG kn k0 (g 0) (g 1) (g 6) (g 7) w) : bD pg oB (aF 2 (bI (bI (aB 1 (aF 1 (aB 3 nE)))))) Q g w :=
 eK (kr := no) (l := [(0, fun g w => k0 (g 6) w)]) h hn gR ⟨h0, trivial⟩
def DE (kn : K4) (k0 : K1) (eX kN gE PX : aNY) (w : aNX) : Prop :=
 JG (fun eX kN gE PX w => Ag kn eX kN gE PX w) k0 eX kN gE PX w
def JW (k0 : K1) (eX kN gE PX : aNY) (w : aNX) : Prop :=
 cR (fun (X : (aNY × aNY) -> K0) (t : aNY × aNY) (w : aNX) => DE (fun _ _ gE PX w => X (gE, PX) w) k0 eX kN t.1 t.2 w) (gE, PX) w
theorem adX (kn : K4) (k0 : K1) (hn : N4 Q kn 0 1 6 7) (h0 : E1 Q k0 0 6) (h : DE kn k0 (g 0) (g 1) (g 6) (g 7) w) : bD pg oB (bI (bI (aB 1 (aF 1 (aB 3 nE))))) Q g w :=
 jA 2 (adT _ g w (Ag kn) k0 (fun g w h => aJ (abG _ g w kn hn h)) h0 h)
theorem abZ (k0 : K1) (h0 : E1 Q k0 0 6) (h : JW k0 (g 0) (g 1) (g 6) (g 7) w) : bD pg oB (bI (aB 1 (aF 1 (aB 3 nE)))) Q g w := by
 refine CX (fun g : Env => (g 6, g 7)) (fun X t w => DE (fun _ _ gE PX w => X (gE, PX) w) k0 (g 0) (g 1) t.1 t.2 w) h (fun X g1 w1 ha hL => ?_)
 rw [<- kA 0 ha, <- kA 1 ha] at hL
 exact (adX _ g1 w1 (fun _ _ gE PX w => X (gE, PX) w) k0 (fun _ _ h => h) h0 hL)
def JH (kn : K1) (eX kN gE PX : aNY) (w : aNX) : Prop :=
 JW kn eX kN gE PX w
def KO (kn : K4) (eX kN gE : aNY) (w : aNX) : Prop :=
 kn eX kN gE (aNZ 0) w
theorem aaE (kn : K4) (hn : N4 Q kn 0 1 6 7) (h : KO kn (g 0) (g 1) (g 6) w) : bD pg oB (aF 1 (aF 1 (aB 3 nE))) Q g w :=
 eK (kr := no) (l := []) h hn gR trivial
def LJ (kn : K1) (eX kN gE : aNY) (w : aNX) : Prop :=
 KO (fun eX kN gE PX w => JH kn eX kN gE PX w) eX kN gE w
def LA (R : K1) (eX kN gE : aNY) (w : aNX) : Prop :=
 LJ (fun gE w => Db R gE w) eX kN gE w
theorem aeF (kn : K1) (hn : N1 Q kn 6) (h : LJ kn (g 0) (g 1) (g 6) w) : bD pg oB (aF 1 (aB 3 nE)) Q g w :=
 jA 1 (aaE _ g w (JH kn) (fun g w h => aJ (xC 0 (abZ _ g w kn hn h))) h)
def HP (kn : K3) (R : K1) (eX kN : aNY) (w : aNX) : Prop :=
 aD pg (lI .len #[9] 3 [eX]) w fun b9 w =>
 aD pg (aI .mul 3 aM aM (aNZ 2) b9) w fun c0 w =>
 aD pg (aI .lss 3 aM aM c0 kN) w fun c2 w =>
 gU c2
  (R (.tuple #[(.string ⟨#[]⟩), (aNZ 10)]) w)
  (kn eX kN (.slice none 0 0) w)
theorem Yo (kn : K3) (R : K1) (hn : N3 Q kn 0 1 6) (hr : HR DL R Q) (h : HP kn R (g 0) (g 1) w) : bD pg oB (aF 3 nE) Q g w :=
 eK (l := []) h hn hr trivial
def Hx (R : K1) (eX kN : aNY) (w : aNX) : Prop :=
 HP (fun eX kN gE w => LA R eX kN gE w) R eX kN w
theorem YX (R : K1) (hr : HR DL R Q) (h : Hx R (g 0) (g 1) w) : bD pg oB nE Q g w :=
 jA 3 (Yo _ g w (LA R) R (fun g w h => aJ (jA 1 (aeF _ g w (Db R) (fun g w h => aJ (abE _ g w R hr h)) h))) hr h)
def afM (a0 a1 : aNY) (w : aNX) (R : K1) : Prop :=
 Hx R a0 a1 w
theorem akX {a0 a1 : aNY} {w : aNX} {R : K1} (h : afM a0 a1 w R) : aS pg EV #[a0, a1] w R := by
 refine uP (ann := oB) Tryz.f43 nE [a0, a1] DL 39 TryzM.mixed Tryz.func43 ?_
 exact (YX _ _ _ R (fun _ _ h => h) h)
def sR : FA := ⟨EX, fun i => match Nat.beq i 18 with | true => .leaf ([1], [(1, 2), (1, 3)]) [(false, []), (true, []), (false, [0]), (false, [1]), (false, [])] | false => .leaf ([], []) []⟩
def tU : List ResultVar := [.tmp 2, .tmp 3]
noncomputable def rI : Code := dH Tryz.f44
def DO (R : K1)  (w : aNX) : Prop :=
 R (.tuple #[(.string ⟨#[]⟩), (aNZ 11)]) w
theorem aaT (R : K1) (hr : HR tU R Q) (h : DO R w) : bD pg sR (aB 1 (aB 11 rI)) Q g w :=
 eK (kn := no) (l := []) h gR hr trivial
def Dr (kn : K5) (k0 : K0) (R : K1) (v_7 b8 Hk c0 kQ : aNY) (w : aNX) : Prop :=
 aD pg (lI .len #[22] 3 [kQ]) w fun i7 w =>
 aD pg (aI .lss 3 aM aM i7 (aNZ 256)) w fun i8 w =>
 gU i8
  (aD pg (aK 138 b8 1) w fun i9 w =>
  aD pg (aL 136 i9) w fun j0 w =>
  aD pg (cI 136 j0 Hk) w fun j2 w =>
  aD pg (aL 145 j2) w fun j3 w =>
  aD pg (fW 145) w fun aI5 w =>
  aD pg (aT 145 aI5 j3) w fun _u w =>
  aD pg (aK 145 aI5 0) w fun j5 w =>
  aD pg (aL 3 j5) w fun j6 w =>
  aD pg (jP 3 5 j6) w fun j7 w =>
  aD pg (cU 22 1 [(0, j7)]) w fun j8 w =>
  aD pg (lI .append #[22, 22] 22 [kQ, j8]) w fun j9 w =>
  aD pg (aL 133 v_7) (dr w) fun l0 w_ => w_ = (dr w) /\
  aS pg Ci #[l0] (dr w) fun l1 atD =>
  aD pg (aK 145 aI5 1) atD fun l2 w_ => w_ = atD /\
  (jH pg (aK 145 aI5 1) l2 (dr w) /\ True) /\
  aD pg (aL 3 l2) atD fun l3 w_ => w_ = atD /\
  (jH pg (aL 3 l2) l3 (dr w) /\ True) /\
  aD pg (aI .lss 3 aM aM l1 l3) atD fun l4 w_ => w_ = atD /\
  gU l4
   (aD pg (aK 138 b8 1) atD fun l6 w =>
   aD pg (aL 136 l6) w fun l7 w =>
   aD pg (cI 136 l7 c0) w fun l9 w =>
   aD pg (aK 145 l9 0) w fun m0 w =>
   aD pg (aL 3 m0) w fun m1 w =>
   aD pg (jP 3 5 m1) w fun m2 w =>
   aD pg (cU 22 1 [(0, m2)]) w fun m3 w =>
   aD pg (lI .append #[22, 22] 22 [j9, m3]) w fun m4 w =>
   aD pg (lI .len #[22] 3 [m4]) w fun m6 w =>
   aD pg (aI .gtr 3 aM aM m6 (aNZ 255)) w fun m7 w =>
   gU m7
    (R (.tuple #[(.string ⟨#[]⟩), (aNZ 11)]) w)
    (aD pg (jP 22 9 m4) w fun m9 w =>
    R (.tuple #[m9, (aNZ 0)]) w))
   (aD pg (aL 138 b8) atD fun n1 w =>
   aD pg (aL 133 v_7) w fun n3 w =>
   aS pg Mv #[n1, Hk, n3] w fun n4 w =>
   aD pg (bP n4 0) w fun n5 w =>
   aD pg (bP n4 1) w fun n6 w =>
   aD pg (aT 133 v_7 n5) w fun _u w =>
   kn v_7 b8 c0 n6 j9 w))
  (k0 w)
theorem afD (kn : K5) (k0 : K0) (R : K1) (hn : N5 Q kn 7 8 9 10 11) (h0 : E0 Q k0 0) (hr : HR tU R Q) (h : Dr kn k0 R (g 7) (g 8) (g 9) (g 10) (g 11) w) : bD pg sR (bI (bI (aF 1 (aB 11 rI)))) Q g w :=
 eK (l := [(0, fun g w => k0 w)]) h hn hr ⟨h0, trivial⟩
def Kv (k0 : K0) (R : K1) (v_7 b8 Hk c0 kQ : aNY) (w : aNX) : Prop :=
 cR (fun (X : (aNY × aNY × aNY) -> K0) (t : aNY × aNY × aNY) (w : aNX) => Dr (fun _ _ Hk c0 kQ w => X (Hk, c0, kQ) w) k0 R v_7 b8 t.1 t.2.1 t.2.2 w) (Hk, c0, kQ) w
theorem adO (k0 : K0) (R : K1) (h0 : E0 Q k0 0) (hr : HR tU R Q) (h : Kv k0 R (g 7) (g 8) (g 9) (g 10) (g 11) w) : bD pg sR (bI (aF 1 (aB 11 rI))) Q g w := by
 refine CX (fun g : Env => (g 9, g 10, g 11)) (fun X t w => Dr (fun _ _ Hk c0 kQ w => X (Hk, c0, kQ) w) k0 R (g 7) (g 8) t.1 t.2.1 t.2.2 w) h (fun X g1 w1 ha hL => ?_)
 rw [<- kA 7 ha, <- kA 8 ha] at hL
 exact (afD _ g1 w1 (fun _ _ Hk c0 kQ w => X (Hk, c0, kQ) w) k0 R (fun _ _ h => h) h0 hr hL)
def Kt (kn : K0) (R : K1) (v_7 b8 Hk c0 kQ : aNY) (w : aNX) : Prop :=
 Kv kn R v_7 b8 Hk c0 kQ w
def Dq (R : K1) (v_7 b8 Hk c0 kQ : aNY) (w : aNX) : Prop :=
 Kt (fun  w => DO R w) R v_7 b8 Hk c0 kQ w
theorem acS (kn : K0) (R : K1) (hn : N0 Q kn) (hr : HR tU R Q) (h : Kt kn R (g 7) (g 8) (g 9) (g 10) (g 11) w) : bD pg sR (aF 1 (aB 11 rI)) Q g w :=
 xC 0 (adO _ g w kn R hn hr h)
def Kr (kn : K5) (R : K1) (eX : aNY) (w : aNX) : Prop :=
 aS pg Mq #[eX, (aNZ 6), (aNZ 12)] w fun c6 w =>
 aD pg (bP c6 0) w fun c7 w =>
 aD pg (bP c6 1) w fun c8 w =>
 aD pg (bP c6 2) w fun c9 w =>
 aD pg (fW 128) w fun c_4 w =>
 aD pg (aT 128 c_4 c7) w fun _u w =>
 aD pg (aI .neq 27 (.tmp 20) (.const (aNZ 0)) c9 (aNZ 0)) w fun d1 w =>
 gU d1
  (R (.tuple #[(.string ⟨#[]⟩), c9]) w)
  (aD pg (mD 9 eX (some c8) none none) w fun d6 w =>
  aS pg EC #[d6] w fun d7 w =>
  aD pg (bP d7 0) w fun d8 w =>
  aD pg (bP d7 1) w fun d9 w =>
  aD pg (fW 133) w fun v_7 w =>
  aD pg (aT 133 v_7 d8) w fun _u w =>
  aD pg (aI .neq 27 (.tmp 30) (.const (aNZ 0)) d9 (aNZ 0)) w fun e1 w =>
  gU e1
   (R (.tuple #[(.string ⟨#[]⟩), d9]) w)
   (aD pg (aL 128 c_4) w fun e4 w =>
   aS pg I6 #[e4] w fun e5 w =>
   aD pg (bP e5 0) w fun e6 w =>
   aD pg (bP e5 1) w fun e7 w =>
   aD pg (fW 138) w fun b8 w =>
   aD pg (aT 138 b8 e6) w fun _u w =>
   aD pg (aI .neq 27 (.tmp 38) (.const (aNZ 0)) e7 (aNZ 0)) w fun e9 w =>
   gU e9
    (R (.tuple #[(.string ⟨#[]⟩), e7]) w)
    (aD pg (aL 138 b8) w fun f2 w =>
    aD pg (aL 133 v_7) w fun f3 w =>
    aS pg CV #[f2, f3] w fun f4 w =>
    aD pg (bP f4 0) w fun f5 w =>
    aD pg (bP f4 1) w fun f6 w =>
    aD pg (aT 133 v_7 f5) w fun _u w =>
    aD pg (aL 138 b8) w fun f8 w =>
    aD pg (aL 133 v_7) w fun f9 w =>
    aS pg CV #[f8, f9] w fun i0 w =>
    aD pg (bP i0 0) w fun i1 w =>
    aD pg (bP i0 1) w fun i2 w =>
    aD pg (aT 133 v_7 i1) w fun _u w =>
    aD pg (aL 133 v_7) w fun i3 w =>
    aS pg Ci #[i3] w fun i4 w =>
    aD pg (aI .lss 3 aM aM i4 (aNZ 0)) w fun i5 w =>
    gU i5
     (R (.tuple #[(.string ⟨#[]⟩), (aNZ 11)]) w)
     (kn v_7 b8 f6 i2 (.slice none 0 0) w))))
theorem acU (kn : K5) (R : K1) (hn : N5 Q kn 7 8 9 10 11) (hr : HR tU R Q) (h : Kr kn R (g 0) w) : bD pg sR (aF 11 rI) Q g w :=
 eK (l := []) h hn hr trivial
def J8 (R : K1) (eX : aNY) (w : aNX) : Prop :=
 Kr (fun v_7 b8 Hk c0 kQ w => Dq R v_7 b8 Hk c0 kQ w) R eX w
theorem aeR (R : K1) (hr : HR tU R Q) (h : J8 R (g 0) w) : bD pg sR rI Q g w :=
 jA 11 (acU _ g w (Dq R) R (fun g w h => aJ (jA 1 (acS _ g w (fun  w => DO R w) R (fun g w h => aJ (aaT _ g w R hr h)) hr h))) hr h)
def alW (a0 : aNY) (w : aNX) (R : K1) : Prop :=
 J8 R a0 w
theorem alZ {a0 : aNY} {w : aNX} {R : K1} (h : alW a0 w R) : aS pg EX #[a0] w R := by
 refine uP (ann := sR) Tryz.f44 rI [a0] tU 99 TryzM.mixed Tryz.func44 ?_
 exact (aeR _ _ _ R (fun _ _ h => h) h)
def tV : FA := ⟨IK, fun i => .leaf ([], []) []⟩
def EZ : List ResultVar := [.tmp 2, .tmp 3]
noncomputable def sM : Code := dH Tryz.f45
def GR (R : K1) (cS w_4 d_5 : aNY) (w : aNX) : Prop :=
 aS pg oD #[d_5] w fun d7 w =>
 aD pg (aI .sub 3 aM aM d7 w_4) w fun d9 w =>
 aS pg Jf #[d9] w fun e0 w =>
 aD pg (aI .gtr 3 aM aM d_5 (aNZ 11)) w fun e2 w =>
 Gd (gQ e2 false) (fun K => K e0 w) w fun e4 w =>
 Gd (gQ e2 false) (fun K => aD pg (aI .lss 3 aM aM e4 (aNZ 0)) w K) w fun e5 w =>
 aD pg (iO e2 (.bool true) e5) w fun e6 w =>
 gU e6
  (R (.tuple #[(.string ⟨#[]⟩), (aNZ 11)]) w)
  (aD pg (aI .add 3 aM aM e0 (aNZ 1)) w fun e9 w =>
  aD pg (jP 3 5 e9) w fun f0 w =>
  aD pg (cU 22 1 [(0, f0)]) w fun f1 w =>
  aD pg (jP 22 9 f1) w fun f2 w =>
  aD pg (aI .add 9 aM aM cS f2) w fun f3 w =>
  R (.tuple #[f3, (aNZ 0)]) w)
theorem agA (R : K1) (hr : HR EZ R Q) (h : GR R (g 0) (g 4) (g 5) w) : bD pg tV (aB 1 (aB 4 sM)) Q g w :=
 eK (kn := no) (l := []) h gR hr trivial
def Gc (kn : K3) (k0 : K3) (cS w_4 d_5 : aNY) (w : aNX) : Prop :=
 aS pg oD #[d_5] w fun d1 w =>
 aD pg (aI .leq 3 aM aM d1 w_4) w fun d3 w =>
 gU d3
  (aD pg (aI .add 3 aM aM d_5 (aNZ 1)) w fun d5 w =>
  kn cS w_4 d5 w)
  (k0 cS w_4 d_5 w)
theorem akU (kn : K3) (k0 : K3) (hn : N3 Q kn 0 4 5) (h0 : E3 Q k0 0 0 4 5) (h : Gc kn k0 (g 0) (g 4) (g 5) w) : bD pg tV (bI (bI (aF 1 (aB 4 sM)))) Q g w :=
 eK (kr := no) (l := [(0, fun g w => k0 (g 0) (g 4) (g 5) w)]) h hn gR ⟨h0, trivial⟩
def M0 (k0 : K3) (cS w_4 d_5 : aNY) (w : aNX) : Prop :=
 cR (fun (X : aNY -> K0) (t : aNY) (w : aNX) => Gc (fun _ _ d_5 w => X d_5 w) k0 cS w_4 t w) d_5 w
theorem amM (k0 : K3) (h0 : E3 Q k0 0 0 4 5) (h : M0 k0 (g 0) (g 4) (g 5) w) : bD pg tV (bI (aF 1 (aB 4 sM))) Q g w := by
 refine CX (fun g : Env => g 5) (fun X t w => Gc (fun _ _ d_5 w => X d_5 w) k0 (g 0) (g 4) t w) h (fun X g1 w1 ha hL => ?_)
 rw [<- kA 0 ha, <- kA 4 ha] at hL
 exact (akU _ g1 w1 (fun _ _ d_5 w => X d_5 w) k0 (fun _ _ h => h) h0 hL)
def NU (kn : K3) (cS w_4 d_5 : aNY) (w : aNX) : Prop :=
 M0 kn cS w_4 d_5 w
def OP (R : K1) (cS w_4 d_5 : aNY) (w : aNX) : Prop :=
 NU (fun cS w_4 d_5 w => GR R cS w_4 d_5 w) cS w_4 d_5 w
theorem alV (kn : K3) (hn : N3 Q kn 0 4 5) (h : NU kn (g 0) (g 4) (g 5) w) : bD pg tV (aF 1 (aB 4 sM)) Q g w :=
 xC 0 (amM _ g w kn hn h)
def Ob (kn : K3) (R : K1) (cS : aNY) (w : aNX) : Prop :=
 aS pg CU #[cS] w fun b8 w =>
 aD pg (aI .eql 9 (.tmp 9) (.const (.string ⟨#[]⟩)) cS (.string ⟨#[]⟩)) w fun c0 w =>
 Gd (gQ c0 false) (fun K => K cS w) w fun c2 w =>
 Gd (gQ c0 false) (fun K => aD pg (lI .len #[9] 3 [c2]) w K) w fun c3 w =>
 Gd (gQ c0 false) (fun K => aD pg (aI .gtr 3 aM aM c3 (aNZ 255)) w K) w fun c4 w =>
 aD pg (iO c0 (.bool true) c4) w fun c5 w =>
 Gd (gQ c5 false) (fun K => K b8 w) w fun c7 w =>
 Gd (gQ c5 false) (fun K => aD pg (aI .lss 3 aM aM c7 (aNZ 1)) w K) w fun c8 w =>
 aD pg (iO c5 (.bool true) c8) w fun c9 w =>
 gU c9
  (R (.tuple #[(.string ⟨#[]⟩), (aNZ 11)]) w)
  (kn cS b8 (aNZ 1) w)
theorem agU (kn : K3) (R : K1) (hn : N3 Q kn 0 4 5) (hr : HR EZ R Q) (h : Ob kn R (g 0) w) : bD pg tV (aF 4 sM) Q g w :=
 eK (l := []) h hn hr trivial
def OA (R : K1) (cS : aNY) (w : aNX) : Prop :=
 Ob (fun cS w_4 d_5 w => OP R cS w_4 d_5 w) R cS w
theorem alO (R : K1) (hr : HR EZ R Q) (h : OA R (g 0) w) : bD pg tV sM Q g w :=
 jA 4 (agU _ g w (OP R) R (fun g w h => aJ (jA 1 (alV _ g w (GR R) (fun g w h => aJ (agA _ g w R hr h)) h))) hr h)
def atF (a0 : aNY) (w : aNX) (R : K1) : Prop :=
 OA R a0 w
theorem aqW {a0 : aNY} {w : aNX} {R : K1} (h : atF a0 w R) : aS pg IK #[a0] w R := by
 refine uP (ann := tV) Tryz.f45 sM [a0] EZ 44 TryzM.mixed Tryz.func45 ?_
 exact (alO _ _ _ R (fun _ _ h => h) h)
def dW : FA := ⟨Av, fun i => .leaf ([], []) []⟩
def GK : List ResultVar := [.tmp 2, .tmp 3]
noncomputable def dM : Code := dH Tryz.f46
def FD (R : K1) (aU : aNY) (w : aNX) : Prop :=
 R (.tuple #[aU, (aNZ 0)]) w
theorem agZ (R : K1) (hr : HR GK R Q) (h : FD R (g 5) w) : bD pg dW (aB 1 (aB 2 (aB 1 (aB 4 dM)))) Q g w :=
 eK (kn := no) (l := []) h gR hr trivial
def Fq (kn : K6) (cS mG aU cH cP vZ : aNY) (w : aNX) : Prop :=
 aD pg (aI .add 3 aM aM vZ (aNZ 1)) w fun e0 w =>
 kn cS mG aU cH cP e0 w
theorem agG (kn : K6) (hn : N6 Q kn 0 4 5 7 8 9) (h : Fq kn (g 0) (g 4) (g 5) (g 7) (g 8) (g 9) w) : bD pg dW (aB 1 (aB 1 (bI (bI (aB 1 (aF 1 (aB 2 (aB 1 (aB 4 dM))))))))) Q g w :=
 eK (kr := no) (l := []) h hn gR trivial
def yB (kn : K7) (cS mG aU cH cP vZ mY : aNY) (w : aNX) : Prop :=
 aD pg (aI .add 3 aM aM mY (aNZ 1)) w fun e6 w =>
 kn cS mG aU cH cP vZ e6 w
theorem aiM (kn : K7) (hn : N7 Q kn 0 4 5 7 8 9 10) (h : yB kn (g 0) (g 4) (g 5) (g 7) (g 8) (g 9) (g 10) w) : bD pg dW (aB 1 (aB 1 (bI (bI (aB 1 (bI (aF 1 (aB 1 (bI (bI (aB 1 (aF 1 (aB 2 (aB 1 (aB 4 dM))))))))))))))) Q g w :=
 eK (kr := no) (l := []) h hn gR trivial
def xY (kn : K7) (cS mG aU cH vZ mY yV : aNY) (w : aNX) : Prop :=
 aD pg (fX 148 [(0, yV), (1, cH)]) w fun j3 w =>
 aD pg (cI 84 aU mY) w fun j4 w =>
 aD pg (aT 148 j4 j3) w fun _u w =>
 kn cS mG aU cH yV vZ mY w
theorem ajA (kn : K7) (hn : N7 Q kn 0 4 5 7 8 9 10) (h : xY kn (g 0) (g 4) (g 5) (g 7) (g 9) (g 10) (g 11) w) : bD pg dW (aB 1 (aB 3 (bI (aF 1 (aB 1 (bI (bI (aB 1 (bI (aF 1 (aB 1 (bI (bI (aB 1 (aF 1 (aB 2 (aB 1 (aB 4 dM)))))))))))))))))) Q g w :=
 eK (kr := no) (l := []) h hn gR trivial
def GZ (kn : K8) (k6 : K7) (cS mG aU cH cP vZ mY yV : aNY) (w : aNX) : Prop :=
 aD pg (aI .gtr 3 aM aM cP yV) w fun i3 w =>
 gU i3
  (aD pg (aI .quo 3 aM aM cH (aNZ 2)) w fun i5 w =>
  aD pg (aI .sub 3 aM aM cP (aNZ 1)) w fun i7 w =>
  kn cS mG aU i5 i7 vZ mY yV w)
  (k6 cS mG aU cH vZ mY yV w)
theorem alP (kn : K8) (k6 : K7) (hn : N8 Q kn 0 4 5 7 8 9 10 11) (h6 : E7 Q k6 6 0 4 5 7 9 10 11) (h : GZ kn k6 (g 0) (g 4) (g 5) (g 7) (g 8) (g 9) (g 10) (g 11) w) : bD pg dW (bI (bI (aF 1 (aB 3 (bI (aF 1 (aB 1 (bI (bI (aB 1 (bI (aF 1 (aB 1 (bI (bI (aB 1 (aF 1 (aB 2 (aB 1 (aB 4 dM)))))))))))))))))))) Q g w :=
 eK (kr := no) (l := [(6, fun g w => k6 (g 0) (g 4) (g 5) (g 7) (g 9) (g 10) (g 11) w)]) h hn gR ⟨h6, trivial⟩
def Nv (k6 : K7) (cS mG aU cH cP vZ mY yV : aNY) (w : aNX) : Prop :=
 cR (fun (X : (aNY × aNY) -> K0) (t : aNY × aNY) (w : aNX) => GZ (fun _ _ _ cH cP _ _ _ w => X (cH, cP) w) k6 cS mG aU t.1 t.2 vZ mY yV w) (cH, cP) w
theorem aiG (k6 : K7) (h6 : E7 Q k6 6 0 4 5 7 9 10 11) (h : Nv k6 (g 0) (g 4) (g 5) (g 7) (g 8) (g 9) (g 10) (g 11) w) : bD pg dW (bI (aF 1 (aB 3 (bI (aF 1 (aB 1 (bI (bI (aB 1 (bI (aF 1 (aB 1 (bI (bI (aB 1 (aF 1 (aB 2 (aB 1 (aB 4 dM))))))))))))))))))) Q g w := by
 refine CX (fun g : Env => (g 7, g 8)) (fun X t w => GZ (fun _ _ _ cH cP _ _ _ w => X (cH, cP) w) k6 (g 0) (g 4) (g 5) t.1 t.2 (g 9) (g 10) (g 11) w) h (fun X g1 w1 ha hL => ?_)
 rw [<- kA 0 ha, <- kA 4 ha, <- kA 5 ha, <- kA 9 ha, <- kA 10 ha, <- kA 11 ha] at hL
 exact (alP _ g1 w1 (fun _ _ _ cH cP _ _ _ w => X (cH, cP) w) k6 (fun _ _ h => h) h6 hL)
def NL (kn : K7) (cS mG aU cH cP vZ mY yV : aNY) (w : aNX) : Prop :=
 Nv kn cS mG aU cH cP vZ mY yV w
def FM (kn : K7) (cS mG aU cH cP vZ mY yV : aNY) (w : aNX) : Prop :=
 NL (fun cS mG aU cH vZ mY yV w => xY kn cS mG aU cH vZ mY yV w) cS mG aU cH cP vZ mY yV w
theorem alI (kn : K7) (hn : N7 Q kn 0 4 5 7 9 10 11) (h : NL kn (g 0) (g 4) (g 5) (g 7) (g 8) (g 9) (g 10) (g 11) w) : bD pg dW (aF 1 (aB 3 (bI (aF 1 (aB 1 (bI (bI (aB 1 (bI (aF 1 (aB 1 (bI (bI (aB 1 (aF 1 (aB 2 (aB 1 (aB 4 dM)))))))))))))))))) Q g w :=
 xC 6 (aiG _ g w kn hn h)
def PH (kn : K8) (k5 : K7) (cS mG aU cH cP vZ mY : aNY) (w : aNX) : Prop :=
 aD pg (CN 9 cS mY) w fun e9 w =>
 aD pg (jP 5 3 e9) w fun f0 w =>
 aD pg (aI .neq 3 (.tmp 40) (.tmp 41) f0 vZ) w fun f2 w =>
 gU f2
  (k5 cS mG aU cH cP vZ mY w)
  (aD pg (aI .add 3 aM aM mG (aNZ 1)) w fun f4 w =>
  aD pg (aI .sub 3 aM aM f4 vZ) w fun f6 w =>
  aD pg (aI .gtr 3 aM aM cP (aNZ 0)) w fun f8 w =>
  gU f8
   (aD pg (aI .add 3 aM aM cH (aNZ 1)) w fun i0 w =>
   kn cS mG aU i0 cP vZ mY f6 w)
   (kn cS mG aU cH cP vZ mY f6 w))
theorem ajN (kn : K8) (k5 : K7) (hn : N8 Q kn 0 4 5 7 8 9 10 11) (h5 : E7 Q k5 5 0 4 5 7 8 9 10) (h : PH kn k5 (g 0) (g 4) (g 5) (g 7) (g 8) (g 9) (g 10) w) : bD pg dW (aF 3 (bI (aF 1 (aB 1 (bI (bI (aB 1 (bI (aF 1 (aB 1 (bI (bI (aB 1 (aF 1 (aB 2 (aB 1 (aB 4 dM))))))))))))))))) Q g w :=
 eK (kr := no) (l := [(5, fun g w => k5 (g 0) (g 4) (g 5) (g 7) (g 8) (g 9) (g 10) w)]) h hn gR ⟨h5, trivial⟩
def UG (kn : K7) (k5 : K7) (cS mG aU cH cP vZ mY : aNY) (w : aNX) : Prop :=
 PH (fun cS mG aU cH cP vZ mY yV w => FM kn cS mG aU cH cP vZ mY yV w) k5 cS mG aU cH cP vZ mY w
def Kn (kn : K7) (cS mG aU cH cP vZ mY : aNY) (w : aNX) : Prop :=
 UG kn kn cS mG aU cH cP vZ mY w
def Ks (kn : K7) (cS mG aU cH cP vZ mY : aNY) (w : aNX) : Prop :=
 Kn (fun cS mG aU cH cP vZ mY w => yB kn cS mG aU cH cP vZ mY w) cS mG aU cH cP vZ mY w
theorem aeV (kn : K7) (hn : N7 Q kn 0 4 5 7 8 9 10) (h : Kn kn (g 0) (g 4) (g 5) (g 7) (g 8) (g 9) (g 10) w) : bD pg dW (aF 1 (aB 1 (bI (bI (aB 1 (bI (aF 1 (aB 1 (bI (bI (aB 1 (aF 1 (aB 2 (aB 1 (aB 4 dM))))))))))))))) Q g w :=
 xC 5 (jA 3 (ajN _ g w (FM kn) kn (fun g w h => aJ (jA 1 (alI _ g w (xY kn) (fun g w h => aJ (ajA _ g w kn hn h)) h))) hn h))
def Lg (kn : K7) (k4 : K6) (cS mG aU cH cP vZ mY : aNY) (w : aNX) : Prop :=
 aD pg (lI .len #[9] 3 [cS]) w fun e3 w =>
 aD pg (aI .lss 3 aM aM mY e3) w fun e4 w =>
 gU e4
  (kn cS mG aU cH cP vZ mY w)
  (k4 cS mG aU cH cP vZ w)
theorem abP (kn : K7) (k4 : K6) (hn : N7 Q kn 0 4 5 7 8 9 10) (h4 : E6 Q k4 4 0 4 5 7 8 9) (h : Lg kn k4 (g 0) (g 4) (g 5) (g 7) (g 8) (g 9) (g 10) w) : bD pg dW (aF 1 (bI (bI (aB 1 (bI (aF 1 (aB 1 (bI (bI (aB 1 (aF 1 (aB 2 (aB 1 (aB 4 dM)))))))))))))) Q g w :=
 eK (kr := no) (l := [(4, fun g w => k4 (g 0) (g 4) (g 5) (g 7) (g 8) (g 9) w)]) h hn gR ⟨h4, trivial⟩
def DK (kn : K7) (k4 : K6) (cS mG aU cH cP vZ mY : aNY) (w : aNX) : Prop :=
 Lg (fun cS mG aU cH cP vZ mY w => Ks kn cS mG aU cH cP vZ mY w) k4 cS mG aU cH cP vZ mY w
def JN (k4 : K6) (cS mG aU cH cP vZ mY : aNY) (w : aNX) : Prop :=
 cR (fun (X : (aNY × aNY × aNY) -> K0) (t : aNY × aNY × aNY) (w : aNX) => DK (fun _ _ _ cH cP _ mY w => X (cH, cP, mY) w) k4 cS mG aU t.1 t.2.1 vZ t.2.2 w) (cH, cP, mY) w
theorem acA (kn : K7) (k4 : K6) (hn : N7 Q kn 0 4 5 7 8 9 10) (h4 : E6 Q k4 4 0 4 5 7 8 9) (h : DK kn k4 (g 0) (g 4) (g 5) (g 7) (g 8) (g 9) (g 10) w) : bD pg dW (bI (bI (aB 1 (bI (aF 1 (aB 1 (bI (bI (aB 1 (aF 1 (aB 2 (aB 1 (aB 4 dM))))))))))))) Q g w :=
 jA 1 (abP _ g w (Ks kn) k4 (fun g w h => aJ (jA 1 (aeV _ g w (yB kn) (fun g w h => aJ (aiM _ g w kn hn h)) h))) h4 h)
theorem adL (k4 : K6) (h4 : E6 Q k4 4 0 4 5 7 8 9) (h : JN k4 (g 0) (g 4) (g 5) (g 7) (g 8) (g 9) (g 10) w) : bD pg dW (bI (aB 1 (bI (aF 1 (aB 1 (bI (bI (aB 1 (aF 1 (aB 2 (aB 1 (aB 4 dM)))))))))))) Q g w := by
 refine CX (fun g : Env => (g 7, g 8, g 10)) (fun X t w => DK (fun _ _ _ cH cP _ mY w => X (cH, cP, mY) w) k4 (g 0) (g 4) (g 5) t.1 t.2.1 (g 9) t.2.2 w) h (fun X g1 w1 ha hL => ?_)
 rw [<- kA 0 ha, <- kA 4 ha, <- kA 5 ha, <- kA 9 ha] at hL
 exact (acA _ g1 w1 (fun _ _ _ cH cP _ mY w => X (cH, cP, mY) w) k4 (fun _ _ h => h) h4 hL)
def J5 (kn : K6) (cS mG aU cH cP vZ mY : aNY) (w : aNX) : Prop :=
 JN kn cS mG aU cH cP vZ mY w
def Kp (kn : K7) (cS mG aU cH cP vZ : aNY) (w : aNX) : Prop :=
 kn cS mG aU cH cP vZ (aNZ 0) w
theorem aaM (kn : K7) (hn : N7 Q kn 0 4 5 7 8 9 10) (h : Kp kn (g 0) (g 4) (g 5) (g 7) (g 8) (g 9) w) : bD pg dW (aF 1 (bI (aF 1 (aB 1 (bI (bI (aB 1 (aF 1 (aB 2 (aB 1 (aB 4 dM))))))))))) Q g w :=
 eK (kr := no) (l := []) h hn gR trivial
def Uv (kn : K6) (cS mG aU cH cP vZ : aNY) (w : aNX) : Prop :=
 Kp (fun cS mG aU cH cP vZ mY w => J5 kn cS mG aU cH cP vZ mY w) cS mG aU cH cP vZ w
def KR (kn : K6) (cS mG aU cH cP vZ : aNY) (w : aNX) : Prop :=
 Uv kn cS mG aU cH cP vZ w
def J3 (kn : K6) (cS mG aU cH cP vZ : aNY) (w : aNX) : Prop :=
 KR (fun cS mG aU cH cP vZ w => Fq kn cS mG aU cH cP vZ w) cS mG aU cH cP vZ w
theorem Z0 (kn : K6) (hn : N6 Q kn 0 4 5 7 8 9) (h : KR kn (g 0) (g 4) (g 5) (g 7) (g 8) (g 9) w) : bD pg dW (aF 1 (aB 1 (bI (bI (aB 1 (aF 1 (aB 2 (aB 1 (aB 4 dM))))))))) Q g w :=
 xC 3 (jA 1 (aaM _ g w (J5 kn) (fun g w h => aJ (xC 4 (adL _ g w kn hn h))) h))
def JS (kn : K6) (k2 : K1) (cS mG aU cH cP vZ : aNY) (w : aNX) : Prop :=
 aD pg (aI .leq 3 aM aM vZ mG) w fun d8 w =>
 gU d8
  (kn cS mG aU cH cP vZ w)
  (k2 aU w)
theorem abK (kn : K6) (k2 : K1) (hn : N6 Q kn 0 4 5 7 8 9) (h2 : E1 Q k2 2 5) (h : JS kn k2 (g 0) (g 4) (g 5) (g 7) (g 8) (g 9) w) : bD pg dW (aF 1 (bI (bI (aB 1 (aF 1 (aB 2 (aB 1 (aB 4 dM)))))))) Q g w :=
 eK (kr := no) (l := [(2, fun g w => k2 (g 5) w)]) h hn gR ⟨h2, trivial⟩
def C9 (kn : K6) (k2 : K1) (cS mG aU cH cP vZ : aNY) (w : aNX) : Prop :=
 JS (fun cS mG aU cH cP vZ w => J3 kn cS mG aU cH cP vZ w) k2 cS mG aU cH cP vZ w
def Kf (k2 : K1) (cS mG aU cH cP vZ : aNY) (w : aNX) : Prop :=
 cR (fun (X : (aNY × aNY × aNY) -> K0) (t : aNY × aNY × aNY) (w : aNX) => C9 (fun _ _ _ cH cP vZ w => X (cH, cP, vZ) w) k2 cS mG aU t.1 t.2.1 t.2.2 w) (cH, cP, vZ) w
theorem aaP (kn : K6) (k2 : K1) (hn : N6 Q kn 0 4 5 7 8 9) (h2 : E1 Q k2 2 5) (h : C9 kn k2 (g 0) (g 4) (g 5) (g 7) (g 8) (g 9) w) : bD pg dW (bI (bI (aB 1 (aF 1 (aB 2 (aB 1 (aB 4 dM))))))) Q g w :=
 jA 1 (abK _ g w (J3 kn) k2 (fun g w h => aJ (jA 1 (Z0 _ g w (Fq kn) (fun g w h => aJ (agG _ g w kn hn h)) h))) h2 h)
theorem aeW (k2 : K1) (h2 : E1 Q k2 2 5) (h : Kf k2 (g 0) (g 4) (g 5) (g 7) (g 8) (g 9) w) : bD pg dW (bI (aB 1 (aF 1 (aB 2 (aB 1 (aB 4 dM)))))) Q g w := by
 refine CX (fun g : Env => (g 7, g 8, g 9)) (fun X t w => C9 (fun _ _ _ cH cP vZ w => X (cH, cP, vZ) w) k2 (g 0) (g 4) (g 5) t.1 t.2.1 t.2.2 w) h (fun X g1 w1 ha hL => ?_)
 rw [<- kA 0 ha, <- kA 4 ha, <- kA 5 ha] at hL
 exact (aaP _ g1 w1 (fun _ _ _ cH cP vZ w => X (cH, cP, vZ) w) k2 (fun _ _ h => h) h2 hL)
def Kg (kn : K1) (cS mG aU cH cP vZ : aNY) (w : aNX) : Prop :=
 Kf kn cS mG aU cH cP vZ w
def JQ (kn : K6) (cS mG aU cH cP : aNY) (w : aNX) : Prop :=
 kn cS mG aU cH cP (aNZ 1) w
theorem adS (kn : K6) (hn : N6 Q kn 0 4 5 7 8 9) (h : JQ kn (g 0) (g 4) (g 5) (g 7) (g 8) w) : bD pg dW (aF 1 (aF 1 (aB 2 (aB 1 (aB 4 dM))))) Q g w :=
 eK (kr := no) (l := []) h hn gR trivial
def Ka (kn : K1) (cS mG aU cH cP : aNY) (w : aNX) : Prop :=
 JQ (fun cS mG aU cH cP vZ w => Kg kn cS mG aU cH cP vZ w) cS mG aU cH cP w
def Lw (R : K1) (cS mG aU cH cP : aNY) (w : aNX) : Prop :=
 Ka (fun aU w => FD R aU w) cS mG aU cH cP w
theorem acY (kn : K1) (hn : N1 Q kn 5) (h : Ka kn (g 0) (g 4) (g 5) (g 7) (g 8) w) : bD pg dW (aF 1 (aB 2 (aB 1 (aB 4 dM)))) Q g w :=
 jA 1 (adS _ g w (Kg kn) (fun g w h => aJ (xC 2 (aeW _ g w kn hn h))) h)
def JR (kn : K5) (cS mG aU : aNY) (w : aNX) : Prop :=
 kn cS mG aU (aNZ 0) (aNZ 0) w
theorem abS (kn : K5) (hn : N5 Q kn 0 4 5 7 8) (h : JR kn (g 0) (g 4) (g 5) w) : bD pg dW (aF 2 (aB 1 (aB 4 dM))) Q g w :=
 eK (kr := no) (l := []) h hn gR trivial
def LQ (R : K1) (cS mG aU : aNY) (w : aNX) : Prop :=
 JR (fun cS mG aU cH cP w => Lw R cS mG aU cH cP w) cS mG aU w
def DN (kn : K4) (k0 : K3) (cS mG aU xG : aNY) (w : aNX) : Prop :=
 aD pg (lI .len #[9] 3 [cS]) w fun c8 w =>
 aD pg (aI .lss 3 aM aM xG c8) w fun c9 w =>
 gU c9
  (aD pg (fX 148 []) w fun d3 w =>
  aD pg (cU 84 1 [(0, d3)]) w fun d4 w =>
  aD pg (lI .append #[84, 84] 84 [aU, d4]) w fun d5 w =>
  aD pg (aI .add 3 aM aM xG (aNZ 1)) w fun d1 w =>
  kn cS mG d5 d1 w)
  (k0 cS mG aU w)
theorem acB (kn : K4) (k0 : K3) (hn : N4 Q kn 0 4 5 6) (h0 : E3 Q k0 0 0 4 5) (h : DN kn k0 (g 0) (g 4) (g 5) (g 6) w) : bD pg dW (bI (bI (aB 1 (aF 1 (aB 4 dM))))) Q g w :=
 eK (kr := no) (l := [(0, fun g w => k0 (g 0) (g 4) (g 5) w)]) h hn gR ⟨h0, trivial⟩
def Ll (k0 : K3) (cS mG aU xG : aNY) (w : aNX) : Prop :=
 cR (fun (X : (aNY × aNY) -> K0) (t : aNY × aNY) (w : aNX) => DN (fun _ _ aU xG w => X (aU, xG) w) k0 cS mG t.1 t.2 w) (aU, xG) w
theorem aaD (k0 : K3) (h0 : E3 Q k0 0 0 4 5) (h : Ll k0 (g 0) (g 4) (g 5) (g 6) w) : bD pg dW (bI (aB 1 (aF 1 (aB 4 dM)))) Q g w := by
 refine CX (fun g : Env => (g 5, g 6)) (fun X t w => DN (fun _ _ aU xG w => X (aU, xG) w) k0 (g 0) (g 4) t.1 t.2 w) h (fun X g1 w1 ha hL => ?_)
 rw [<- kA 0 ha, <- kA 4 ha] at hL
 exact (acB _ g1 w1 (fun _ _ aU xG w => X (aU, xG) w) k0 (fun _ _ h => h) h0 hL)
def Ku (kn : K3) (cS mG aU xG : aNY) (w : aNX) : Prop :=
 Ll kn cS mG aU xG w
def JU (kn : K4) (cS mG aU : aNY) (w : aNX) : Prop :=
 kn cS mG aU (aNZ 0) w
theorem aaK (kn : K4) (hn : N4 Q kn 0 4 5 6) (h : JU kn (g 0) (g 4) (g 5) w) : bD pg dW (aF 1 (aF 1 (aB 4 dM))) Q g w :=
 eK (kr := no) (l := []) h hn gR trivial
def JV (kn : K3) (cS mG aU : aNY) (w : aNX) : Prop :=
 JU (fun cS mG aU xG w => Ku kn cS mG aU xG w) cS mG aU w
def JI (R : K1) (cS mG aU : aNY) (w : aNX) : Prop :=
 JV (fun cS mG aU w => LQ R cS mG aU w) cS mG aU w
theorem aaO (kn : K3) (hn : N3 Q kn 0 4 5) (h : JV kn (g 0) (g 4) (g 5) w) : bD pg dW (aF 1 (aB 4 dM)) Q g w :=
 jA 1 (aaK _ g w (Ku kn) (fun g w h => aJ (xC 0 (aaD _ g w kn hn h))) h)
def C4 (kn : K3) (R : K1) (cS : aNY) (w : aNX) : Prop :=
 aS pg IZ #[cS] w fun c3 w =>
 aD pg (aI .eql 3 (.tmp 14) (.const (aNZ 0)) c3 (aNZ 0)) w fun c5 w =>
 gU c5
  (R (.tuple #[(.slice none 0 0), (aNZ 1)]) w)
  (kn cS c3 (.slice none 0 0) w)
theorem aeM (kn : K3) (R : K1) (hn : N3 Q kn 0 4 5) (hr : HR GK R Q) (h : C4 kn R (g 0) w) : bD pg dW (aF 4 dM) Q g w :=
 eK (l := []) h hn hr trivial
def Dk (R : K1) (cS : aNY) (w : aNX) : Prop :=
 C4 (fun cS mG aU w => JI R cS mG aU w) R cS w
theorem acD (R : K1) (hr : HR GK R Q) (h : Dk R (g 0) w) : bD pg dW dM Q g w :=
 jA 4 (aeM _ g w (JI R) R (fun g w h => aJ (jA 1 (aaO _ g w (LQ R) (fun g w h => aJ (jA 2 (abS _ g w (Lw R) (fun g w h => aJ (jA 1 (acY _ g w (FD R) (fun g w h => aJ (agZ _ g w R hr h)) h))) h))) h))) hr h)
def Xw (a0 : aNY) (w : aNX) (R : K1) : Prop :=
 Dk R a0 w
theorem Sp {a0 : aNY} {w : aNX} {R : K1} (h : Xw a0 w R) : aS pg Av #[a0] w R := by
 refine uP (ann := dW) Tryz.f46 dM [a0] GK 66 TryzM.mixed Tryz.func46 ?_
 exact (acD _ _ _ R (fun _ _ h => h) h)
def qP : FA := ⟨BC, fun i => .leaf ([], []) []⟩
def C3 : List ResultVar := [.tmp 6, .tmp 7]
noncomputable def pX : Code := dH Tryz.f47
def Dg (R : K1) (b_8 iN : aNY) (w : aNX) : Prop :=
 aD pg (aL 133 b_8) w fun e9 w =>
 aS pg Ci #[e9] w fun f0 w =>
 aD pg (aI .lss 3 aM aM f0 (aNZ 0)) w fun f2 w =>
 gU f2
  (R (.tuple #[(.string ⟨#[]⟩), (aNZ 11)]) w)
  (aD pg (aI .gtr 3 aM aM f0 (aNZ 0)) w fun f4 w =>
  gU f4
   (R (.tuple #[(.string ⟨#[]⟩), (aNZ 15)]) w)
   (aD pg (jP 22 9 iN) w fun f6 w =>
   R (.tuple #[f6, (aNZ 0)]) w))
theorem aeX (R : K1) (hr : HR C3 R Q) (h : Dg R (g 8) (g 10) w) : bD pg qP (aB 1 (aB 4 pX)) Q g w :=
 eK (kn := no) (l := []) h gR hr trivial
def DI (kn : K5) (k0 : K2) (cQ nU b_8 iN Ze : aNY) (w : aNX) : Prop :=
 aD pg (aI .lss 3 aM aM Ze nU) w fun d5 w =>
 gU d5
  (aD pg (aL 133 b_8) w fun e0 w =>
  aS pg Qw #[cQ, e0] w fun e1 w =>
  aD pg (bP e1 0) w fun e2 w =>
  aD pg (bP e1 1) w fun e3 w =>
  aD pg (fW 133) w fun aKt w =>
  aD pg (aT 133 aKt e2) w fun _u w =>
  aD pg (aL 133 aKt) w fun e4 w =>
  aD pg (aT 133 b_8 e4) w fun _u w =>
  aD pg (cU 22 1 [(0, e3)]) w fun e7 w =>
  aD pg (lI .append #[22, 22] 22 [iN, e7]) w fun e8 w =>
  aD pg (aI .add 3 aM aM Ze (aNZ 1)) w fun d7 w =>
  kn cQ nU b_8 e8 d7 w)
  (k0 b_8 iN w)
theorem aeU (kn : K5) (k0 : K2) (hn : N5 Q kn 0 2 8 10 11) (h0 : E2 Q k0 0 8 10) (h : DI kn k0 (g 0) (g 2) (g 8) (g 10) (g 11) w) : bD pg qP (bI (bI (aB 1 (aF 1 (aB 4 pX))))) Q g w :=
 eK (kr := no) (l := [(0, fun g w => k0 (g 8) (g 10) w)]) h hn gR ⟨h0, trivial⟩
def Ln (k0 : K2) (cQ nU b_8 iN Ze : aNY) (w : aNX) : Prop :=
 cR (fun (X : (aNY × aNY) -> K0) (t : aNY × aNY) (w : aNX) => DI (fun _ _ _ iN Ze w => X (iN, Ze) w) k0 cQ nU b_8 t.1 t.2 w) (iN, Ze) w
theorem aaW (k0 : K2) (h0 : E2 Q k0 0 8 10) (h : Ln k0 (g 0) (g 2) (g 8) (g 10) (g 11) w) : bD pg qP (bI (aB 1 (aF 1 (aB 4 pX)))) Q g w := by
 refine CX (fun g : Env => (g 10, g 11)) (fun X t w => DI (fun _ _ _ iN Ze w => X (iN, Ze) w) k0 (g 0) (g 2) (g 8) t.1 t.2 w) h (fun X g1 w1 ha hL => ?_)
 rw [<- kA 0 ha, <- kA 2 ha, <- kA 8 ha] at hL
 exact (aeU _ g1 w1 (fun _ _ _ iN Ze w => X (iN, Ze) w) k0 (fun _ _ h => h) h0 hL)
def Ld (kn : K2) (cQ nU b_8 iN Ze : aNY) (w : aNX) : Prop :=
 Ln kn cQ nU b_8 iN Ze w
def Kz (kn : K5) (cQ nU b_8 iN : aNY) (w : aNX) : Prop :=
 kn cQ nU b_8 iN (aNZ 0) w
theorem acN (kn : K5) (hn : N5 Q kn 0 2 8 10 11) (h : Kz kn (g 0) (g 2) (g 8) (g 10) w) : bD pg qP (aF 1 (aF 1 (aB 4 pX))) Q g w :=
 eK (kr := no) (l := []) h hn gR trivial
def KU (kn : K2) (cQ nU b_8 iN : aNY) (w : aNX) : Prop :=
 Kz (fun cQ nU b_8 iN Ze w => Ld kn cQ nU b_8 iN Ze w) cQ nU b_8 iN w
def JK (R : K1) (cQ nU b_8 iN : aNY) (w : aNX) : Prop :=
 KU (fun b_8 iN w => Dg R b_8 iN w) cQ nU b_8 iN w
theorem abL (kn : K2) (hn : N2 Q kn 8 10) (h : KU kn (g 0) (g 2) (g 8) (g 10) w) : bD pg qP (aF 1 (aB 4 pX)) Q g w :=
 jA 1 (acN _ g w (Ld kn) (fun g w h => aJ (xC 0 (aaW _ g w kn hn h))) h)
def Kj (kn : K4) (R : K1) (cQ s_1 nU : aNY) (w : aNX) : Prop :=
 aS pg EC #[s_1] w fun c7 w =>
 aD pg (bP c7 0) w fun c8 w =>
 aD pg (bP c7 1) w fun c9 w =>
 aD pg (fW 133) w fun b_8 w =>
 aD pg (aT 133 b_8 c8) w fun _u w =>
 aD pg (aI .neq 27 (.tmp 20) (.const (aNZ 0)) c9 (aNZ 0)) w fun d1 w =>
 gU d1
  (R (.tuple #[(.string ⟨#[]⟩), c9]) w)
  (kn cQ nU b_8 (.slice none 0 0) w)
theorem aeG (kn : K4) (R : K1) (hn : N4 Q kn 0 2 8 10) (hr : HR C3 R Q) (h : Kj kn R (g 0) (g 1) (g 2) w) : bD pg qP (aF 4 pX) Q g w :=
 eK (l := []) h hn hr trivial
def KK (R : K1) (cQ s_1 nU : aNY) (w : aNX) : Prop :=
 Kj (fun cQ nU b_8 iN w => JK R cQ nU b_8 iN w) R cQ s_1 nU w
theorem ZU (R : K1) (hr : HR C3 R Q) (h : KK R (g 0) (g 1) (g 2) w) : bD pg qP pX Q g w :=
 jA 4 (aeG _ g w (JK R) R (fun g w h => aJ (jA 1 (abL _ g w (Dg R) (fun g w h => aJ (aeX _ g w R hr h)) h))) hr h)
def agO (a0 a1 a2 : aNY) (w : aNX) (R : K1) : Prop :=
 KK R a0 a1 a2 w
theorem alC {a0 a1 a2 : aNY} {w : aNX} {R : K1} (h : agO a0 a1 a2 w R) : aS pg BC #[a0, a1, a2] w R := by
 refine uP (ann := qP) Tryz.f47 pX [a0, a1, a2] C3 47 TryzM.mixed Tryz.func47 ?_
 exact (ZU _ _ _ R (fun _ _ h => h) h)
def Qr : FA := ⟨Af, fun i => .leaf ([], []) []⟩
def Su : List ResultVar := [.tmp 2]
noncomputable def NJ : Code := dH Tryz.f48
def HH (R : K1) (cS : aNY) (w : aNX) : Prop :=
 aS pg Ak #[cS] w fun b8 w =>
 aD pg (bP b8 0) w fun b9 w =>
 aD pg (bP b8 1) w fun c0 w =>
 aD pg (sUn .not c0) w fun c2 w =>
 Gd (gQ c2 false) (fun K => K cS w) w fun c4 w =>
 Gd (gQ c2 false) (fun K => aD pg (lI .len #[22] 3 [c4]) w K) w fun c5 w =>
 Gd (gQ c2 false) (fun K => aD pg (aI .lss 3 aM aM c5 (aNZ 2)) w K) w fun c6 w =>
 aD pg (iO c2 (.bool true) c6) w fun c7 w =>
 Gd (gQ c7 false) (fun K => K cS w) w fun c9 w =>
 Gd (gQ c7 false) (fun K => aD pg (lI .len #[22] 3 [c9]) w K) w fun d0 w =>
 Gd (gQ c7 false) (fun K => aD pg (aI .gtr 3 aM aM d0 (aNZ 256)) w K) w fun d1 w =>
 aD pg (iO c7 (.bool true) d1) w fun d2 w =>
 Gd (gQ d2 false) (fun K => K cS w) w fun d4 w =>
 Gd (gQ d2 false) (fun K => K cS w) w fun d5 w =>
 Gd (gQ d2 false) (fun K => aD pg (lI .len #[22] 3 [d5]) w K) w fun d6 w =>
 Gd (gQ d2 false) (fun K => aD pg (aI .sub 3 aM aM d6 (aNZ 1)) w K) w fun d7 w =>
 Gd (gQ d2 false) (fun K => aD pg (cI 22 d4 d7) w K) w fun d8 w =>
 Gd (gQ d2 false) (fun K => aD pg (aL 5 d8) w K) w fun d9 w =>
 Gd (gQ d2 false) (fun K => aD pg (aI .eql 5 (.tmp 29) (.const (.int .u8 0)) d9 (.int .u8 0)) w K) w fun e0 w =>
 aD pg (iO d2 (.bool true) e0) w fun e1 w =>
 Gd (gQ e1 false) (fun K => K b9 w) w fun e3 w =>
 Gd (gQ e1 false) (fun K => K b9 w) w fun e4 w =>
 Gd (gQ e1 false) (fun K => aD pg (aI .sub 3 aM aM e4 (aNZ 1)) w K) w fun e5 w =>
 Gd (gQ e1 false) (fun K => aD pg (aI .and 3 aM aM e3 e5) w K) w fun e6 w =>
 Gd (gQ e1 false) (fun K => aD pg (aI .neq 3 (.tmp 36) (.const (aNZ 0)) e6 (aNZ 0)) w K) w fun e7 w =>
 aD pg (iO e1 (.bool true) e7) w fun e8 w =>
 gU e8
  (R (aNZ 0) w)
  (aD pg (jP 3 67 b9) w fun f0 w =>
  aS pg rT #[f0] w fun f1 w =>
  aD pg (aI .sub 3 aM aM f1 (aNZ 1)) w fun f2 w =>
  aD pg (aI .gtr 3 aM aM f2 (aNZ 11)) w fun f4 w =>
  Gd (gQ f4 false) (fun K => K cS w) w fun f6 w =>
  Gd (gQ f4 false) (fun K => aS pg Bc #[f6] w K) w fun f7 w =>
  Gd (gQ f4 false) (fun K => aD pg (jP 5 3 f7) w K) w fun f8 w =>
  Gd (gQ f4 false) (fun K => K f2 w) w fun f9 w =>
  Gd (gQ f4 false) (fun K => aD pg (aI .gtr 3 aM aM f8 f9) w K) w fun i0 w =>
  aD pg (iO f4 (.bool true) i0) w fun i1 w =>
  gU i1
   (R (aNZ 0) w)
   (R f2 w))
theorem YP (R : K1) (hr : HR Su R Q) (h : HH R (g 0) w) : bD pg Qr NJ Q g w :=
 eK (kn := no) (l := []) h gR hr trivial
def ZB (a0 : aNY) (w : aNX) (R : K1) : Prop :=
 HH R a0 w
theorem abV {a0 : aNY} {w : aNX} {R : K1} (h : ZB a0 w R) : aS pg Af #[a0] w R := by
 refine uP (ann := Qr) Tryz.f48 NJ [a0] Su 53 TryzM.mixed Tryz.func48 ?_
 exact (YP _ _ _ R (fun _ _ h => h) h)
def UT : FA := ⟨Jb, fun i => .leaf ([], []) []⟩
def Ww : List ResultVar := [.tmp 4, .tmp 5]
noncomputable def Tk : Code := dH Tryz.f49
def O6 (R : K1) (cS cG : aNY) (w : aNX) : Prop :=
 aS pg tS #[cS] w fun c0 w =>
 aD pg (bP c0 0) w fun c1 w =>
 aD pg (bP c0 1) w fun c2 w =>
 aD pg (aI .neq 27 (.tmp 14) (.const (aNZ 0)) c2 (aNZ 0)) w fun c5 w =>
 gU c5
  (R (.tuple #[(.slice none 0 0), c2]) w)
  (aD pg (lI .len #[22] 3 [cG]) w fun c9 w =>
  aD pg (aI .gtr 3 aM aM c9 (aNZ 131072)) w fun d0 w =>
  gU d0
   (R (.tuple #[(.slice none 0 0), (aNZ 1)]) w)
   (aS pg nF #[c1, cG] w fun d3 w =>
   aD pg (bP d3 0) w fun d4 w =>
   aD pg (bP d3 1) w fun d5 w =>
   R (.tuple #[d4, d5]) w))
theorem ahJ (R : K1) (hr : HR Ww R Q) (h : O6 R (g 0) (g 1) w) : bD pg UT Tk Q g w :=
 eK (kn := no) (l := []) h gR hr trivial
def asF (a0 a1 : aNY) (w : aNX) (R : K1) : Prop :=
 O6 R a0 a1 w
theorem anG {a0 a1 : aNY} {w : aNX} {R : K1} (h : asF a0 a1 w R) : aS pg Jb #[a0, a1] w R := by
 refine uP (ann := UT) Tryz.f49 Tk [a0, a1] Ww 26 TryzM.mixed Tryz.func49 ?_
 exact (ahJ _ _ _ R (fun _ _ h => h) h)
def lP : FA := ⟨FV, fun i => .leaf ([], []) []⟩
def qK : List ResultVar := [.tmp 4, .tmp 5]
noncomputable def kU : Code := dH Tryz.f50
def Ab (R : K1) (sC jI : aNY) (w : aNX) : Prop :=
 aS pg sF #[sC, jI] w fun l3 w =>
 aS pg rQ #[sC] w fun l5 w =>
 R (.tuple #[l5, (aNZ 0)]) w
theorem abM (R : K1) (hr : HR qK R Q) (h : Ab R (g 10) (g 11) w) : bD pg lP (aB 1 (aB 7 kU)) Q g w :=
 eK (kn := no) (l := []) h gR hr trivial
def Al (kn : K6) (cG jM sC jI e8 e9 : aNY) (w : aNX) : Prop :=
 aD pg (aI .add 3 aM aM e9 (aNZ 1)) w fun l0 w =>
 kn cG jM sC jI e8 l0 w
theorem adE (kn : K6) (hn : N6 Q kn 1 6 10 11 38 39) (h : Al kn (g 1) (g 6) (g 10) (g 11) (g 38) (g 39) w) : bD pg lP (aB 1 (aB 2 (bI (bI (aB 1 (aF 1 (aB 7 kU))))))) Q g w :=
 eK (kr := no) (l := []) h hn gR trivial
def Ad (kn : K6) (cG jM sC jI aIk e8 e9 : aNY) (w : aNX) : Prop :=
 aD pg (lI .append #[22, 22] 22 [jI, aIk]) w fun j9 w =>
 kn cG jM sC j9 e8 e9 w
theorem aaB (kn : K6) (hn : N6 Q kn 1 6 10 11 38 39) (h : Ad kn (g 1) (g 6) (g 10) (g 11) (g 14) (g 38) (g 39) w) : bD pg lP (aB 5 (bI (aF 1 (aB 2 (bI (bI (aB 1 (aF 1 (aB 7 kU))))))))) Q g w :=
 eK (kr := no) (l := []) h hn gR trivial
def LI (kn : K7) (R : K1) (cG jM sC jI e8 e9 : aNY) (w : aNX) : Prop :=
 aD pg (CN 73 e8 e9) w fun f2 w =>
 aD pg (mD 22 cG none (some f2) none) w fun f7 w =>
 aS pg nF #[jM, f7] w fun f8 w =>
 aD pg (bP f8 0) w fun f9 w =>
 aD pg (bP f8 1) w fun i0 w =>
 aD pg (aI .neq 27 (.tmp 51) (.const (aNZ 0)) i0 (aNZ 0)) w fun i2 w =>
 gU i2
  (R (.tuple #[(.slice none 0 0), i0]) w)
  (aD pg (mD 22 cG (some f2) none none) w fun i6 w =>
  aD pg (aI .lss 3 aM aM e9 (aNZ 3)) w fun i8 w =>
  gU i8
   (aD pg (lI .len #[22] 3 [f9]) w fun j0 w =>
   aD pg (aI .geq 3 aM aM j0 (aNZ 65536)) w fun j1 w =>
   gU j1
    (R (.tuple #[(.slice none 0 0), (aNZ 1)]) w)
    (aD pg (lI .len #[22] 3 [f9]) w fun j4 w =>
    aD pg (jP 3 24 j4) w fun j5 w =>
    aS pg lJ #[sC, j5, (aNZ 2)] w fun j6 w =>
    kn i6 jM sC jI f9 e8 e9 w))
   (kn i6 jM sC jI f9 e8 e9 w))
theorem abC (kn : K7) (R : K1) (hn : N7 Q kn 1 6 10 11 14 38 39) (hr : HR qK R Q) (h : LI kn R (g 1) (g 6) (g 10) (g 11) (g 38) (g 39) w) : bD pg lP (aF 5 (bI (aF 1 (aB 2 (bI (bI (aB 1 (aF 1 (aB 7 kU))))))))) Q g w :=
 eK (l := []) h hn hr trivial
def UR (kn : K6) (R : K1) (cG jM sC jI e8 e9 : aNY) (w : aNX) : Prop :=
 LI (fun cG jM sC jI aIk e8 e9 w => Ad kn cG jM sC jI aIk e8 e9 w) R cG jM sC jI e8 e9 w
def LF (kn : K6) (R : K1) (cG jM sC jI e8 e9 : aNY) (w : aNX) : Prop :=
 UR kn R cG jM sC jI e8 e9 w
def JT (kn : K6) (R : K1) (cG jM sC jI e8 e9 : aNY) (w : aNX) : Prop :=
 LF (fun cG jM sC jI e8 e9 w => Al kn cG jM sC jI e8 e9 w) R cG jM sC jI e8 e9 w
theorem ZW (kn : K6) (R : K1) (hn : N6 Q kn 1 6 10 11 38 39) (hr : HR qK R Q) (h : LF kn R (g 1) (g 6) (g 10) (g 11) (g 38) (g 39) w) : bD pg lP (aF 1 (aB 2 (bI (bI (aB 1 (aF 1 (aB 7 kU))))))) Q g w :=
 xC 1 (jA 5 (abC _ g w (Ad kn) R (fun g w h => aJ (aaB _ g w kn hn h)) hr h))
def KA (kn : K6) (k0 : K2) (cG jM sC jI e8 e9 : aNY) (w : aNX) : Prop :=
 aD pg (aI .lss 3 aM aM e9 (aNZ 4)) w fun f0 w =>
 gU f0
  (kn cG jM sC jI e8 e9 w)
  (k0 sC jI w)
theorem Z3 (kn : K6) (k0 : K2) (hn : N6 Q kn 1 6 10 11 38 39) (h0 : E2 Q k0 0 10 11) (h : KA kn k0 (g 1) (g 6) (g 10) (g 11) (g 38) (g 39) w) : bD pg lP (aF 2 (bI (bI (aB 1 (aF 1 (aB 7 kU)))))) Q g w :=
 eK (kr := no) (l := [(0, fun g w => k0 (g 10) (g 11) w)]) h hn gR ⟨h0, trivial⟩
def Dy (kn : K6) (k0 : K2) (R : K1) (cG jM sC jI e8 e9 : aNY) (w : aNX) : Prop :=
 KA (fun cG jM sC jI e8 e9 w => JT kn R cG jM sC jI e8 e9 w) k0 cG jM sC jI e8 e9 w
def HD (k0 : K2) (R : K1) (cG jM sC jI e8 e9 : aNY) (w : aNX) : Prop :=
 cR (fun (X : (aNY × aNY × aNY) -> K0) (t : aNY × aNY × aNY) (w : aNX) => Dy (fun cG _ _ jI _ e9 w => X (cG, jI, e9) w) k0 R t.1 jM sC t.2.1 e8 t.2.2 w) (cG, jI, e9) w
theorem Z9 (kn : K6) (k0 : K2) (R : K1) (hn : N6 Q kn 1 6 10 11 38 39) (h0 : E2 Q k0 0 10 11) (hr : HR qK R Q) (h : Dy kn k0 R (g 1) (g 6) (g 10) (g 11) (g 38) (g 39) w) : bD pg lP (bI (bI (aB 1 (aF 1 (aB 7 kU))))) Q g w :=
 jA 2 (Z3 _ g w (JT kn R) k0 (fun g w h => aJ (jA 1 (ZW _ g w (Al kn) R (fun g w h => aJ (adE _ g w kn hn h)) hr h))) h0 h)
theorem Ys (k0 : K2) (R : K1) (h0 : E2 Q k0 0 10 11) (hr : HR qK R Q) (h : HD k0 R (g 1) (g 6) (g 10) (g 11) (g 38) (g 39) w) : bD pg lP (bI (aB 1 (aF 1 (aB 7 kU)))) Q g w := by
 refine CX (fun g : Env => (g 1, g 11, g 39)) (fun X t w => Dy (fun cG _ _ jI _ e9 w => X (cG, jI, e9) w) k0 R t.1 (g 6) (g 10) t.2.1 (g 38) t.2.2 w) h (fun X g1 w1 ha hL => ?_)
 rw [<- kA 6 ha, <- kA 10 ha, <- kA 38 ha] at hL
 exact (Z9 _ g1 w1 (fun cG _ _ jI _ e9 w => X (cG, jI, e9) w) k0 R (fun _ _ h => h) h0 hr hL)
def Cd (kn : K2) (R : K1) (cG jM sC jI e8 e9 : aNY) (w : aNX) : Prop :=
 HD kn R cG jM sC jI e8 e9 w
def Ii (kn : K6) (cG jM J4 sC jI : aNY) (w : aNX) : Prop :=
 aD pg (aL 73 J4) w fun e8 w =>
 kn cG jM sC jI e8 (aNZ 0) w
theorem Yn (kn : K6) (hn : N6 Q kn 1 6 10 11 38 39) (h : Ii kn (g 1) (g 6) (g 8) (g 10) (g 11) w) : bD pg lP (aF 1 (aF 1 (aB 7 kU))) Q g w :=
 eK (kr := no) (l := []) h hn gR trivial
def Il (kn : K2) (R : K1) (cG jM J4 sC jI : aNY) (w : aNX) : Prop :=
 Ii (fun cG jM sC jI e8 e9 w => Cd kn R cG jM sC jI e8 e9 w) cG jM J4 sC jI w
def Ie (R : K1) (cG jM J4 sC jI : aNY) (w : aNX) : Prop :=
 Il (fun sC jI w => Ab R sC jI w) R cG jM J4 sC jI w
theorem Zo (kn : K2) (R : K1) (hn : N2 Q kn 10 11) (hr : HR qK R Q) (h : Il kn R (g 1) (g 6) (g 8) (g 10) (g 11) w) : bD pg lP (aF 1 (aB 7 kU)) Q g w :=
 jA 1 (Yn _ g w (Cd kn R) (fun g w h => aJ (xC 0 (Ys _ g w kn R hn hr h))) h)
def HU (kn : K5) (R : K1) (cS cG : aNY) (w : aNX) : Prop :=
 aS pg tS #[cS] w fun c8 w =>
 aD pg (bP c8 0) w fun c9 w =>
 aD pg (bP c8 1) w fun d0 w =>
 aD pg (aI .neq 27 (.tmp 21) (.const (aNZ 0)) d0 (aNZ 0)) w fun d2 w =>
 gU d2
  (R (.tuple #[(.slice none 0 0), d0]) w)
  (aD pg (lI .len #[22] 3 [cG]) w fun d6 w =>
  aS pg FY #[d6] w fun d7 w =>
  aD pg (bP d7 0) w fun d8 w =>
  aD pg (bP d7 1) w fun d9 w =>
  aD pg (fW 73) w fun J4 w =>
  aD pg (aT 73 J4 d8) w fun _u w =>
  aD pg (sUn .not d9) w fun e1 w =>
  Gd (gQ e1 false) (fun K => K cG w) w fun e3 w =>
  Gd (gQ e1 false) (fun K => aD pg (lI .len #[22] 3 [e3]) w K) w fun e4 w =>
  Gd (gQ e1 false) (fun K => aD pg (aI .gtr 3 aM aM e4 (aNZ 131072)) w K) w fun e5 w =>
  aD pg (iO e1 (.bool true) e5) w fun e6 w =>
  gU e6
   (R (.tuple #[(.slice none 0 0), (aNZ 1)]) w)
   (aS pg sQ #[] w fun e7 w =>
   kn cG c9 J4 e7 (.slice none 0 0) w))
theorem YI (kn : K5) (R : K1) (hn : N5 Q kn 1 6 8 10 11) (hr : HR qK R Q) (h : HU kn R (g 0) (g 1) w) : bD pg lP (aF 7 kU) Q g w :=
 eK (l := []) h hn hr trivial
def H0 (R : K1) (cS cG : aNY) (w : aNX) : Prop :=
 HU (fun cG jM J4 sC jI w => Ie R cG jM J4 sC jI w) R cS cG w
theorem YJ (R : K1) (hr : HR qK R Q) (h : H0 R (g 0) (g 1) w) : bD pg lP kU Q g w :=
 jA 7 (YI _ g w (Ie R) R (fun g w h => aJ (jA 1 (Zo _ g w (Ab R) R (fun g w h => aJ (abM _ g w R hr h)) hr h))) hr h)
def aiL (a0 a1 : aNY) (w : aNX) (R : K1) : Prop :=
 H0 R a0 a1 w
theorem afW {a0 a1 : aNY} {w : aNX} {R : K1} (h : aiL a0 a1 w R) : aS pg FV #[a0, a1] w R := by
 refine uP (ann := lP) Tryz.f50 kU [a0, a1] qK 76 TryzM.mixed Tryz.func50 ?_
 exact (YJ _ _ _ R (fun _ _ h => h) h)
def rY : FA := ⟨oD, fun i => .leaf ([], []) []⟩
def Pk : List ResultVar := [.tmp 2]
noncomputable def qZ : Code := dH Tryz.f51
def Fu (R : K1) (Bj : aNY) (w : aNX) : Prop :=
 R Bj w
theorem ahW (R : K1) (hr : HR Pk R Q) (h : Fu R (g 3) w) : bD pg rY (aB 1 (aB 2 qZ)) Q g w :=
 eK (kn := no) (l := []) h gR hr trivial
def BL (kn : K3) (k0 : K1) (n_0 Bj lG : aNY) (w : aNX) : Prop :=
 aD pg (aI .lss 3 aM aM lG n_0) w fun b7 w =>
 Gd (gQ b7 true) (fun K => K lG w) w fun b9 w =>
 Gd (gQ b7 true) (fun K => aD pg (aI .lss 3 aM aM b9 (aNZ 40)) w K) w fun c0 w =>
 aD pg (iO b7 c0 (.bool false)) w fun c1 w =>
 gU c1
  (aD pg (aI .mul 3 aM aM Bj (aNZ 2)) w fun c5 w =>
  aD pg (aI .add 3 aM aM lG (aNZ 1)) w fun c3 w =>
  kn n_0 c5 c3 w)
  (k0 Bj w)
theorem aiH (kn : K3) (k0 : K1) (hn : N3 Q kn 0 3 4) (h0 : E1 Q k0 0 3) (h : BL kn k0 (g 0) (g 3) (g 4) w) : bD pg rY (bI (bI (aB 1 (aF 1 (aB 2 qZ))))) Q g w :=
 eK (kr := no) (l := [(0, fun g w => k0 (g 3) w)]) h hn gR ⟨h0, trivial⟩
def OK (k0 : K1) (n_0 Bj lG : aNY) (w : aNX) : Prop :=
 cR (fun (X : (aNY × aNY) -> K0) (t : aNY × aNY) (w : aNX) => BL (fun _ Bj lG w => X (Bj, lG) w) k0 n_0 t.1 t.2 w) (Bj, lG) w
theorem akO (k0 : K1) (h0 : E1 Q k0 0 3) (h : OK k0 (g 0) (g 3) (g 4) w) : bD pg rY (bI (aB 1 (aF 1 (aB 2 qZ)))) Q g w := by
 refine CX (fun g : Env => (g 3, g 4)) (fun X t w => BL (fun _ Bj lG w => X (Bj, lG) w) k0 (g 0) t.1 t.2 w) h (fun X g1 w1 ha hL => ?_)
 rw [<- kA 0 ha] at hL
 exact (aiH _ g1 w1 (fun _ Bj lG w => X (Bj, lG) w) k0 (fun _ _ h => h) h0 hL)
def PM (kn : K1) (n_0 Bj lG : aNY) (w : aNX) : Prop :=
 OK kn n_0 Bj lG w
def Oa (kn : K3) (n_0 Bj : aNY) (w : aNX) : Prop :=
 kn n_0 Bj (aNZ 0) w
theorem ahN (kn : K3) (hn : N3 Q kn 0 3 4) (h : Oa kn (g 0) (g 3) w) : bD pg rY (aF 1 (aF 1 (aB 2 qZ))) Q g w :=
 eK (kr := no) (l := []) h hn gR trivial
def NQ (kn : K1) (n_0 Bj : aNY) (w : aNX) : Prop :=
 Oa (fun n_0 Bj lG w => PM kn n_0 Bj lG w) n_0 Bj w
def Ny (R : K1) (n_0 Bj : aNY) (w : aNX) : Prop :=
 NQ (fun Bj w => Fu R Bj w) n_0 Bj w
theorem agX (kn : K1) (hn : N1 Q kn 3) (h : NQ kn (g 0) (g 3) w) : bD pg rY (aF 1 (aB 2 qZ)) Q g w :=
 jA 1 (ahN _ g w (PM kn) (fun g w h => aJ (xC 0 (akO _ g w kn hn h))) h)
def Ol (kn : K2) (n_0 : aNY) (w : aNX) : Prop :=
 kn n_0 (aNZ 1) w
theorem ahB (kn : K2) (hn : N2 Q kn 0 3) (h : Ol kn (g 0) w) : bD pg rY (aF 2 qZ) Q g w :=
 eK (kr := no) (l := []) h hn gR trivial
def OV (R : K1) (n_0 : aNY) (w : aNX) : Prop :=
 Ol (fun n_0 Bj w => Ny R n_0 Bj w) n_0 w
theorem ajT (R : K1) (hr : HR Pk R Q) (h : OV R (g 0) w) : bD pg rY qZ Q g w :=
 jA 2 (ahB _ g w (Ny R) (fun g w h => aJ (jA 1 (agX _ g w (Fu R) (fun g w h => aJ (ahW _ g w R hr h)) h))) h)
def asG (a0 : aNY) (w : aNX) (R : K1) : Prop :=
 OV R a0 w
theorem apB {a0 : aNY} {w : aNX} {R : K1} (h : asG a0 w R) : aS pg oD #[a0] w R := by
 refine uP (ann := rY) Tryz.f51 qZ [a0] Pk 17 TryzM.mixed Tryz.func51 ?_
 exact (ajT _ _ _ R (fun _ _ h => h) h)
def G8 : FA := ⟨sV, fun i => .leaf ([], []) []⟩
def Ht : List ResultVar := [.tmp 6]
noncomputable def EH : Code := dH Tryz.f52
def AK (R : K1) (OB kN aKK : aNY) (w : aNX) : Prop :=
 aD pg (wA OB) w fun c0 w =>
 aD pg (aK 92 c0 1) w fun c1 w =>
 aD pg (aL 27 c1) w fun c2 w =>
 aD pg (aI .neq 27 (.tmp 12) (.const (aNZ 0)) c2 (aNZ 0)) w fun c3 w =>
 gU c3
  (R (.slice none 0 0) w)
  (aD pg (sUn .not aKK) w fun c6 w =>
  gU c6
   (aD pg (wA OB) w fun c8 w =>
   aD pg (aK 92 c8 1) w fun c9 w =>
   aD pg (aT 27 c9 (aNZ 1)) w fun _u w =>
   R (.slice none 0 0) w)
   (aD pg (wA OB) w fun d3 w =>
   aD pg (aK 92 d3 0) w fun d4 w =>
   aD pg (aL 22 d4) w fun d5 w =>
   aD pg (lI .len #[22] 3 [d5]) w fun d6 w =>
   aD pg (aI .gtr 3 aM aM kN d6) w fun d7 w =>
   gU d7
    (aD pg (wA OB) w fun d9 w =>
    aD pg (aK 92 d9 1) w fun e0 w =>
    aD pg (aT 27 e0 (aNZ 10)) w fun _u w =>
    R (.slice none 0 0) w)
    (aD pg (wA OB) w fun e2 w =>
    aD pg (aK 92 e2 0) w fun e3 w =>
    aD pg (aL 22 e3) w fun e4 w =>
    aD pg (mD 22 e4 none (some kN) (some kN)) w fun e7 w =>
    aD pg (wA OB) w fun f0 w =>
    aD pg (aK 92 f0 0) w fun f1 w =>
    aD pg (aL 22 f1) w fun f2 w =>
    aD pg (mD 22 f2 (some kN) none none) w fun f4 w =>
    aD pg (wA OB) w fun f5 w =>
    aD pg (aK 92 f5 0) w fun f6 w =>
    aD pg (aT 22 f6 f4) w fun _u w =>
    R e7 w)))
theorem RC (R : K1) (hr : HR Ht R Q) (h : AK R (g 0) (g 1) (g 2) w) : bD pg G8 EH Q g w :=
 eK (kn := no) (l := []) h gR hr trivial
def NM (a0 a1 a2 : aNY) (w : aNX) (R : K1) : Prop :=
 AK R a0 a1 a2 w
theorem SE {a0 a1 a2 : aNY} {w : aNX} {R : K1} (h : NM a0 a1 a2 w R) : aS pg sV #[a0, a1, a2] w R := by
 refine uP (ann := G8) Tryz.f52 EH [a0, a1, a2] Ht 48 TryzM.mixed Tryz.func52 ?_
 exact (RC _ _ _ R (fun _ _ h => h) h)
def L1 : FA := ⟨A4, fun i => .leaf ([], []) []⟩
def Po : List ResultVar := [.tmp 4, .tmp 5]
noncomputable def Jo : Code := dH Tryz.f54
def D6 (R : K1) (oL y_1 : aNY) (w : aNX) : Prop :=
 aD pg (aI .and 24 aM aM oL (.int .u64 4294967295)) w fun c5 w =>
 aD pg (aI .shr 24 aM aM oL (.int .u64 32)) w fun c7 w =>
 aD pg (aI .and 24 aM aM y_1 (.int .u64 4294967295)) w fun c9 w =>
 aD pg (aI .shr 24 aM aM y_1 (.int .u64 32)) w fun d1 w =>
 aD pg (aI .mul 24 aM aM c5 c9) w fun d4 w =>
 aD pg (aI .mul 24 aM aM c7 c9) w fun d7 w =>
 aD pg (aI .shr 24 aM aM d4 (.int .u64 32)) w fun d9 w =>
 aD pg (aI .add 24 aM aM d7 d9) w fun e0 w =>
 aD pg (aI .and 24 aM aM e0 (.int .u64 4294967295)) w fun e2 w =>
 aD pg (aI .shr 24 aM aM e0 (.int .u64 32)) w fun e4 w =>
 aD pg (aI .mul 24 aM aM c5 d1) w fun e8 w =>
 aD pg (aI .add 24 aM aM e2 e8) w fun e9 w =>
 aD pg (aI .mul 24 aM aM c7 d1) w fun f2 w =>
 aD pg (aI .add 24 aM aM f2 e4) w fun f4 w =>
 aD pg (aI .shr 24 aM aM e9 (.int .u64 32)) w fun f6 w =>
 aD pg (aI .add 24 aM aM f4 f6) w fun f7 w =>
 aD pg (aI .mul 24 aM aM oL y_1) w fun i0 w =>
 R (.tuple #[f7, i0]) w
theorem U9 (R : K1) (hr : HR Po R Q) (h : D6 R (g 0) (g 1) w) : bD pg L1 Jo Q g w :=
 eK (kn := no) (l := []) h gR hr trivial
def UF (a0 a1 : aNY) (w : aNX) (R : K1) : Prop :=
 D6 R a0 a1 w
theorem Wi {a0 a1 : aNY} {w : aNX} {R : K1} (h : UF a0 a1 w R) : aS pg A4 #[a0, a1] w R := by
 refine uP (ann := L1) Tryz.f54 Jo [a0, a1] Po 51 TryzM.mixed Tryz.func54 ?_
 exact (U9 _ _ _ R (fun _ _ h => h) h)
def pI : FA := ⟨I8, fun i => match Nat.beq i 25 with | true => .leaf ([2, 3], [(0, 2)]) [(false, []), (false, []), (true, [1]), (true, []), (false, []), (false, [])] | false => .leaf ([], []) []⟩
def rF : List ResultVar := [.cell 6 100, .tmp 7, .tmp 8]
noncomputable def oC : Code := dH Tryz.f55
def FR (R : K1) (b6 oX fP : aNY) (w : aNX) : Prop :=
 aD pg (aL 100 fP) (dr w) fun o1 w_ => w_ = (dr w) /\
 (dr w) = (dr w) /\
 aS pg xQ #[oX] (dr w) fun o3 aJk =>
 (jH pg (aL 100 fP) o1 aJk /\ True) /\
 aD pg (aT 100 b6 o1) aJk fun _u3 aBb =>
 aBb = aBb /\
 aBb = aBb /\
 Ac pg 100 b6 aBb fun r0 => R (.tuple #[r0, o3, (aNZ 0)]) aBb
theorem aiR (R : K1) (hr : HR rF R Q) (h : FR R (g 6) (g 9) (g 12) w) : bD pg pI (aB 1 (aB 7 oC)) Q g w :=
 eK (kn := no) (l := []) h gR hr trivial
def BI (kn : K5) (R : K1) (aO b6 oX fP aX : aNY) (w : aNX) : Prop :=
 aD pg (aK 100 fP 1) w fun n1 w =>
 aD pg (aL 42 n1) w fun n2 w =>
 aD pg (lI .len #[42] 3 [n2]) w fun n3 w =>
 aD pg (aI .gtr 3 aM aM n3 aO) w fun n5 w =>
 Gd (gQ n5 false) (fun K => K aX w) w fun n7 w =>
 Gd (gQ n5 false) (fun K => aD pg (aI .lss 3 aM aM n7 (aNZ 0)) w K) w fun n8 w =>
 aD pg (iO n5 (.bool true) n8) w fun n9 w =>
 gU n9
  (aD pg (fX 100 []) w fun o0 w =>
  aD pg (aT 100 b6 o0) w fun _u w =>
  Ac pg 100 b6 w fun r0 => R (.tuple #[r0, (aNZ 0), (aNZ 11)]) w)
  (kn aO b6 oX fP aX w)
theorem akN (kn : K5) (R : K1) (hn : N5 Q kn 2 6 9 12 13) (hr : HR rF R Q) (h : BI kn R (g 2) (g 6) (g 9) (g 12) (g 13) w) : bD pg pI (aB 6 (bI (aB 1 (bI (bI (aF 1 (aB 7 oC))))))) Q g w :=
 eK (l := []) h hn hr trivial
def NB (kn : K5) (R : K1) (aO b6 oX fP aX : aNY) (w : aNX) : Prop :=
 aS pg GC #[oX, aX] w fun i2 w =>
 aD pg (bP i2 0) w fun i3 w =>
 aD pg (bP i2 1) w fun i4 w =>
 aD pg (aI .neq 27 (.tmp 55) (.const (aNZ 0)) i4 (aNZ 0)) w fun i6 w =>
 gU i6
  (aD pg (fX 100 []) w fun i7 w =>
  aD pg (aT 100 b6 i7) w fun _u w =>
  Ac pg 100 b6 w fun r0 => R (.tuple #[r0, (aNZ 0), i4]) w)
  (aD pg (aI .sub 3 aM aM i3 (aNZ 1)) w fun j0 w =>
  aS pg yF #[j0] w fun j3 w =>
  aD pg (aI .sub 3 aM aM aX j3) w fun j4 w =>
  aD pg (aK 100 fP 1) w fun j5 w =>
  aD pg (aL 42 j5) w fun j6 w =>
  aD pg (cU 42 1 [(0, j0)]) w fun j8 w =>
  aD pg (lI .append #[42, 42] 42 [j6, j8]) w fun j9 w =>
  aD pg (aK 100 fP 1) w fun l0 w =>
  aD pg (aT 42 l0 j9) w fun _u w =>
  aD pg (aI .eql 3 (.tmp 71) (.const (aNZ 0)) j0 (aNZ 0)) w fun l2 w =>
  gU l2
   (aS pg Ct #[oX] w fun l5 w =>
   aD pg (bP l5 0) w fun l6 w =>
   aD pg (bP l5 1) w fun l7 w =>
   aD pg (aI .neq 27 (.tmp 78) (.const (aNZ 0)) l7 (aNZ 0)) w fun l9 w =>
   gU l9
    (aD pg (fX 100 []) w fun m0 w =>
    aD pg (aT 100 b6 m0) w fun _u w =>
    Ac pg 100 b6 w fun r0 => R (.tuple #[r0, (aNZ 0), l7]) w)
    (aD pg (aI .gtr 3 aM aM l6 aO) w fun m4 w =>
    gU m4
     (aD pg (fX 100 []) w fun m5 w =>
     aD pg (aT 100 b6 m5) w fun _u w =>
     Ac pg 100 b6 w fun r0 => R (.tuple #[r0, (aNZ 0), (aNZ 11)]) w)
     (aD pg (aK 100 fP 1) w fun m6 w =>
     aD pg (aL 42 m6) w fun m7 w =>
     aD pg (lI .append #[42, 3] 42 [m7, l6]) w fun m9 w =>
     aD pg (aK 100 fP 1) w fun n0 w =>
     aD pg (aT 42 n0 m9) w fun _u w =>
     kn aO b6 oX fP j4 w)))
   (kn aO b6 oX fP j4 w))
theorem ajM (kn : K5) (R : K1) (hn : N5 Q kn 2 6 9 12 13) (hr : HR rF R Q) (h : NB kn R (g 2) (g 6) (g 9) (g 12) (g 13) w) : bD pg pI (aF 6 (bI (aB 1 (bI (bI (aF 1 (aB 7 oC))))))) Q g w :=
 eK (l := []) h hn hr trivial
def VS (kn : K5) (R : K1) (aO b6 oX fP aX : aNY) (w : aNX) : Prop :=
 NB (fun aO b6 oX fP aX w => BI kn R aO b6 oX fP aX w) R aO b6 oX fP aX w
def Pc (kn : K5) (R : K1) (aO b6 oX fP aX : aNY) (w : aNX) : Prop :=
 VS kn R aO b6 oX fP aX w
def Ps (kn : K5) (k0 : K3) (aO b6 oX fP aX : aNY) (w : aNX) : Prop :=
 aD pg (aI .gtr 3 aM aM aX (aNZ 0)) w fun f8 w =>
 gU f8
  (kn aO b6 oX fP aX w)
  (k0 b6 oX fP w)
theorem akR (kn : K5) (k0 : K3) (hn : N5 Q kn 2 6 9 12 13) (h0 : E3 Q k0 0 6 9 12) (h : Ps kn k0 (g 2) (g 6) (g 9) (g 12) (g 13) w) : bD pg pI (aF 1 (bI (bI (aF 1 (aB 7 oC))))) Q g w :=
 eK (kr := no) (l := [(0, fun g w => k0 (g 6) (g 9) (g 12) w)]) h hn gR ⟨h0, trivial⟩
def Fg (kn : K5) (k0 : K3) (R : K1) (aO b6 oX fP aX : aNY) (w : aNX) : Prop :=
 Ps (fun aO b6 oX fP aX w => Pc kn R aO b6 oX fP aX w) k0 aO b6 oX fP aX w
def Pv (k0 : K3) (R : K1) (aO b6 oX fP aX : aNY) (w : aNX) : Prop :=
 cR (fun (X : aNY -> K0) (t : aNY) (w : aNX) => Fg (fun _ _ _ _ aX w => X aX w) k0 R aO b6 oX fP t w) aX w
theorem afQ (kn : K5) (k0 : K3) (R : K1) (hn : N5 Q kn 2 6 9 12 13) (h0 : E3 Q k0 0 6 9 12) (hr : HR rF R Q) (h : Fg kn k0 R (g 2) (g 6) (g 9) (g 12) (g 13) w) : bD pg pI (bI (bI (aF 1 (aB 7 oC)))) Q g w :=
 jA 1 (akR _ g w (Pc kn R) k0 (fun g w h => aJ (xC 1 (jA 6 (ajM _ g w (BI kn R) R (fun g w h => aJ (akN _ g w kn R hn hr h)) hr h)))) h0 h)
theorem ahC (k0 : K3) (R : K1) (h0 : E3 Q k0 0 6 9 12) (hr : HR rF R Q) (h : Pv k0 R (g 2) (g 6) (g 9) (g 12) (g 13) w) : bD pg pI (bI (aF 1 (aB 7 oC))) Q g w := by
 refine CX (fun g : Env => g 13) (fun X t w => Fg (fun _ _ _ _ aX w => X aX w) k0 R (g 2) (g 6) (g 9) (g 12) t w) h (fun X g1 w1 ha hL => ?_)
 rw [<- kA 2 ha, <- kA 6 ha, <- kA 9 ha, <- kA 12 ha] at hL
 exact (afQ _ g1 w1 (fun _ _ _ _ aX w => X aX w) k0 R (fun _ _ h => h) h0 hr hL)
def Nk (kn : K3) (R : K1) (aO b6 oX fP aX : aNY) (w : aNX) : Prop :=
 Pv kn R aO b6 oX fP aX w
def C8 (R : K1) (aO b6 oX fP aX : aNY) (w : aNX) : Prop :=
 Nk (fun b6 oX fP w => FR R b6 oX fP w) R aO b6 oX fP aX w
theorem afL (kn : K3) (R : K1) (hn : N3 Q kn 6 9 12) (hr : HR rF R Q) (h : Nk kn R (g 2) (g 6) (g 9) (g 12) (g 13) w) : bD pg pI (aF 1 (aB 7 oC)) Q g w :=
 xC 0 (ahC _ g w kn R hn hr h)
def KC (kn : K5) (R : K1) (eX PE aO : aNY) (w : aNX) : Prop :=
 aD pg (fW 100) w fun b6 w =>
 aS pg AR #[eX] w fun d0 w =>
 aS pg pV #[d0, (aNZ 4)] w fun d3 w =>
 aD pg (bP d3 0) w fun d4 w =>
 aD pg (bP d3 1) w fun d5 w =>
 aD pg (aI .neq 27 (.tmp 26) (.const (aNZ 0)) d5 (aNZ 0)) w fun d7 w =>
 gU d7
  (aD pg (fX 100 []) w fun d8 w =>
  aD pg (aT 100 b6 d8) w fun _u w =>
  Ac pg 100 b6 w fun r0 => R (.tuple #[r0, (aNZ 0), d5]) w)
  (aD pg (jP 24 3 d4) w fun e1 w =>
  aD pg (aI .add 3 aM aM e1 (aNZ 5)) w fun e2 w =>
  aD pg (fX 100 [(0, e2)]) w fun e3 w =>
  aD pg (fW 100) w fun fP w =>
  aD pg (aT 100 fP e3) w fun _u w =>
  aD pg (aK 100 fP 0) w fun e4 w =>
  aD pg (aL 3 e4) w fun e5 w =>
  aD pg (aI .gtr 3 aM aM e5 PE) w fun e7 w =>
  Gd (gQ e7 false) (fun K => aD pg (aK 100 fP 0) w K) w fun e9 w =>
  Gd (gQ e7 false) (fun K => aD pg (aL 3 e9) w K) w fun f0 w =>
  Gd (gQ e7 false) (fun K => aD pg (aI .gtr 3 aM aM f0 (aNZ 15)) w K) w fun f1 w =>
  aD pg (iO e7 (.bool true) f1) w fun f2 w =>
  gU f2
   (aD pg (fX 100 []) w fun f3 w =>
   aD pg (aT 100 b6 f3) w fun _u w =>
   Ac pg 100 b6 w fun r0 => R (.tuple #[r0, (aNZ 0), (aNZ 12)]) w)
   (aD pg (aK 100 fP 0) w fun f4 w =>
   aD pg (aL 3 f4) w fun f5 w =>
   aD pg (aI .shl 3 aM aM (aNZ 1) f5) w fun f6 w =>
   kn aO b6 d0 fP f6 w))
theorem aaN (kn : K5) (R : K1) (hn : N5 Q kn 2 6 9 12 13) (hr : HR rF R Q) (h : KC kn R (g 0) (g 1) (g 2) w) : bD pg pI (aF 7 oC) Q g w :=
 eK (l := []) h hn hr trivial
def LP (R : K1) (eX PE aO : aNY) (w : aNX) : Prop :=
 KC (fun aO b6 oX fP aX w => C8 R aO b6 oX fP aX w) R eX PE aO w
theorem acR (R : K1) (hr : HR rF R Q) (h : LP R (g 0) (g 1) (g 2) w) : bD pg pI oC Q g w :=
 jA 7 (aaN _ g w (C8 R) R (fun g w h => aJ (jA 1 (afL _ g w (FR R) R (fun g w h => aJ (aiR _ g w R hr h)) hr h))) hr h)
def atA (a0 a1 a2 : aNY) (w : aNX) (R : K1) : Prop :=
 LP R a0 a1 a2 w
theorem aoT {a0 a1 a2 : aNY} {w : aNX} {R : K1} (h : atA a0 a1 a2 w R) : aS pg I8 #[a0, a1, a2] w R := by
 refine uP (ann := pI) Tryz.f55 oC [a0, a1, a2] rF 104 TryzM.mixed Tryz.func55 ?_
 exact (acR _ _ _ R (fun _ _ h => h) h)
def JB : FA := ⟨sN, fun i => match Nat.beq i 3 with | true => .leaf ([1, 12, 16], [(1, 3), (1, 4), (1, 5), (1, 8), (1, 9), (1, 10), (1, 11), (3, 12), (4, 12), (5, 12)]) [(false, []), (true, []), (false, []), (false, [1]), (false, [2]), (false, [3]), (false, []), (false, []), (false, [6]), (false, [7]), (false, [8]), (false, [9]), (true, [6, 7, 8]), (false, []), (false, []), (false, []), (true, []), (false, []), (false, [])] | false => .leaf ([], []) []⟩
def L2 : List ResultVar := [.tmp 2, .tmp 3]
noncomputable def Hm : Code := dH Tryz.f56
def xM (R : K1) (eX : aNY) (w : aNX) : Prop :=
 aD pg (lI .len #[22] 3 [eX]) w fun b5 w =>
 aD pg (aI .eql 3 (.tmp 5) (.const (aNZ 0)) b5 (aNZ 0)) w fun b6 w =>
 Gd (gQ b6 false) (fun K => K eX w) w fun b8 w =>
 Gd (gQ b6 false) (fun K => K eX w) w fun b9 w =>
 Gd (gQ b6 false) (fun K => aD pg (lI .len #[22] 3 [b9]) w K) w fun c0 w =>
 Gd (gQ b6 false) (fun K => aD pg (aI .sub 3 aM aM c0 (aNZ 1)) w K) w fun c1 w =>
 Gd (gQ b6 false) (fun K => aD pg (cI 22 b8 c1) w K) w fun c2 w =>
 Gd (gQ b6 false) (fun K => aD pg (aL 5 c2) w K) w fun c3 w =>
 Gd (gQ b6 false) (fun K => aD pg (aI .eql 5 (.tmp 13) (.const (.int .u8 0)) c3 (.int .u8 0)) w K) w fun c4 w =>
 aD pg (iO b6 (.bool true) c4) w fun c5 w =>
 gU c5
  (R (.tuple #[(.pointer none), (aNZ 11)]) w)
  ((dr w) = (dr w) /\
  aS pg jS #[eX] (dr w) fun c7 RG =>
  RG = RG /\
  aD pg (lI .len #[22] 3 [eX]) RG fun c9 w_ => w_ = RG /\
  (jH pg (lI .len #[22] 3 [eX]) c9 (dr w) /\ True) /\
  aD pg (aI .sub 3 aM aM c9 (aNZ 1)) RG fun d0 w_ => w_ = RG /\
  (jH pg (aI .sub 3 aM aM c9 (aNZ 1)) d0 (dr w) /\ True) /\
  aD pg (aI .mul 3 aM aM (aNZ 8) d0) RG fun d1 w_ => w_ = RG /\
  (jH pg (aI .mul 3 aM aM (aNZ 8) d0) d1 (dr w) /\ True) /\
  RG = RG /\
  RG = RG /\
  aD pg (lI .len #[22] 3 [eX]) RG fun d4 w_ => w_ = RG /\
  (jH pg (lI .len #[22] 3 [eX]) d4 (dr w) /\ True) /\
  aD pg (aI .sub 3 aM aM d4 (aNZ 1)) RG fun d5 w_ => w_ = RG /\
  (jH pg (aI .sub 3 aM aM d4 (aNZ 1)) d5 (dr w) /\ True) /\
  aD pg (cI 22 eX d5) RG fun d6 w_ => w_ = RG /\
  (jH pg (cI 22 eX d5) d6 (dr w) /\ True) /\
  aD pg (aL 5 d6) RG fun d7 w_ => w_ = RG /\
  (jH pg (aL 5 d6) d7 (dr w) /\ True) /\
  aS pg B9 #[d7] RG fun d8 Cv =>
  (jH pg (aI .mul 3 aM aM (aNZ 8) d0) d1 Cv /\ jH pg (aI .sub 3 aM aM c9 (aNZ 1)) d0 Cv /\ jH pg (lI .len #[22] 3 [eX]) c9 Cv /\ True) /\
  aD pg (aI .add 3 aM aM d1 d8) Cv fun d9 w_ => w_ = Cv /\
  aD pg (aI .sub 3 aM aM d9 (aNZ 1)) Cv fun e0 w_ => w_ = Cv /\
  aD pg (fX 165 [(0, c7), (1, e0)]) Cv fun e1 w_ => w_ = Cv /\
  aD pg (B4 165 e1) Cv fun e2 aCo =>
  aCo = aCo /\
  aCo = aCo /\
  R (.tuple #[e2, (aNZ 0)]) aCo)
theorem T7 (R : K1) (hr : HR L2 R Q) (h : xM R (g 0) w) : bD pg JB Hm Q g w :=
 eK (kn := no) (l := []) h gR hr trivial
def IB (a0 : aNY) (w : aNX) (R : K1) : Prop :=
 xM R a0 w
theorem Hl {a0 : aNY} {w : aNX} {R : K1} (h : IB a0 w R) : aS pg sN #[a0] w R := by
 refine uP (ann := JB) Tryz.f56 Hm [a0] L2 33 TryzM.mixed Tryz.func56 ?_
 exact (T7 _ _ _ R (fun _ _ h => h) h)
def kK : FA := ⟨Jz, fun i => match Nat.beq i 3 with | true => .split 3 5 (.perm [0, 1, 2, 3, 4, 5, 6] [(3, 5)] ([3, 5, 6], [(0, 3), (0, 5), (1, 3), (1, 5), (4, 5)]) [(false, []), (false, []), (false, []), (true, [1, 2]), (false, []), (true, [0, 3, 4]), (true, [])]) (.perm [0, 1, 2, 5, 3, 4, 6] [(5, 3)] ([3, 4, 6], [(0, 3), (0, 4), (1, 3), (1, 4), (2, 3)]) [(false, []), (false, []), (false, []), (true, [0, 1, 2]), (true, [2, 3]), (false, []), (true, [])]) | false => match Nat.beq i 16 with | true => .leaf ([5, 10], [(1, 5), (2, 5)]) [(false, []), (false, []), (false, []), (false, []), (false, []), (true, [2, 3]), (false, []), (false, []), (false, []), (false, []), (true, [])] | false => match Nat.beq i 17 with | true => .leaf ([13], []) [(false, []), (false, []), (false, []), (false, []), (false, []), (false, []), (false, []), (false, []), (false, []), (false, []), (false, []), (false, []), (false, []), (true, [])] | false => .leaf ([], []) []⟩
def Mh : List ResultVar := [.cell 2 108, .tmp 3]
noncomputable def jE : Code := dH Tryz.f57
def Mx (R : K1) (b2 b4 : aNY) (w : aNX) : Prop :=
 aD pg (aL 108 b4) w fun n0 w =>
 aD pg (aT 108 b2 n0) w fun _u w =>
 Ac pg 108 b2 w fun r0 => R (.tuple #[r0, (aNZ 0)]) w
theorem auW (R : K1) (hr : HR Mh R Q) (h : Mx R (g 2) (g 4) w) : bD pg kK (aB 1 (aB 1 (aB 1 (aB 3 jE)))) Q g w :=
 eK (kn := no) (l := []) h gR hr trivial
def Mr (kn : K6) (cB b2 b4 fV f2 f3 : aNY) (w : aNX) : Prop :=
 aD pg (aI .add 3 aM aM f3 (aNZ 1)) w fun m9 w =>
 kn cB b2 b4 fV f2 m9 w
theorem avV (kn : K6) (hn : N6 Q kn 1 2 4 5 42 43) (h : Mr kn (g 1) (g 2) (g 4) (g 5) (g 42) (g 43) w) : bD pg kK (aB 1 (aB 2 (bI (bI (aB 1 (aF 1 (aB 1 (aB 1 (aB 3 jE))))))))) Q g w :=
 eK (kr := no) (l := []) h hn gR trivial
def MC (kn : K6) (cB b2 b4 fV x_9 qM f2 f3 : aNY) (w : aNX) : Prop :=
 (dr w) = (dr w) /\
 (dr w) = (dr w) /\
 (dr w) = (dr w) /\
 aD pg (wA x_9) (dr w) fun l9 w_ => w_ = (dr w) /\
 aD pg (aK 115 l9 1) (dr w) fun m0 w_ => w_ = (dr w) /\
 aD pg (aL 3 m0) (dr w) fun m1 w_ => w_ = (dr w) /\
 aD pg (aI .shl 3 aM aM qM m1) (dr w) fun m2 w_ => w_ = (dr w) /\
 aD pg (aK 108 b4 1) (dr w) fun m3 w_ => w_ = (dr w) /\
 aD pg (aL 106 m3) (dr w) fun m4 w_ => w_ = (dr w) /\
 aD pg (lI .len #[106] 3 [m4]) (dr w) fun m5 w_ => w_ = (dr w) /\
 aD pg (aI .sub 3 aM aM m2 m5) (dr w) fun m6 w_ => w_ = (dr w) /\
 aD pg (wA x_9) (dr w) fun m7 w_ => w_ = (dr w) /\
 aD pg (aK 115 m7 2) (dr w) fun m8 w_ => w_ = (dr w) /\
 aD pg (aT 3 m8 m6) (dr w) fun _u13 aJ5 =>
 kn cB b2 b4 fV f2 f3 aJ5
theorem atN (kn : K6) (hn : N6 Q kn 1 2 4 5 42 43) (h : MC kn (g 1) (g 2) (g 4) (g 5) (g 9) (g 10) (g 42) (g 43) w) : bD pg kK (aB 1 (aB 4 (bI (aF 1 (aB 2 (bI (bI (aB 1 (aF 1 (aB 1 (aB 1 (aB 3 jE)))))))))))) Q g w :=
 eK (kr := no) (l := []) h hn gR trivial
def TK (kn : K8) (cB b2 b4 fV x_9 qM f2 f3 : aNY) (w : aNX) : Prop :=
 (dr w) = (dr w) /\
 aD pg (aK 100 cB 0) (dr w) fun j7 w_ => w_ = (dr w) /\
 aD pg (aL 3 j7) (dr w) fun j8 w_ => w_ = (dr w) /\
 (dr w) = (dr w) /\
 aD pg (jP 3 67 qM) (dr w) fun l0 w_ => w_ = (dr w) /\
 aS pg rT #[l0] (dr w) fun l1 Ai =>
 (jH pg (aL 3 j7) j8 Ai /\ jH pg (aK 100 cB 0) j7 Ai /\ True) /\
 aD pg (aI .sub 3 aM aM j8 l1) Ai fun l2 w_ => w_ = Ai /\
 aD pg (aI .add 3 aM aM l2 (aNZ 1)) Ai fun l3 w_ => w_ = Ai /\
 aD pg (wA x_9) Ai fun l4 w_ => w_ = Ai /\
 aD pg (aK 115 l4 1) Ai fun l5 w_ => w_ = Ai /\
 aD pg (aT 3 l5 l3) Ai fun _u10 aJz =>
 kn cB b2 b4 fV x_9 qM f2 f3 aJz
theorem atT (kn : K8) (hn : N8 Q kn 1 2 4 5 9 10 42 43) (h : TK kn (g 1) (g 2) (g 4) (g 5) (g 9) (g 10) (g 42) (g 43) w) : bD pg kK (aF 1 (aB 4 (bI (aF 1 (aB 2 (bI (bI (aB 1 (aF 1 (aB 1 (aB 1 (aB 3 jE)))))))))))) Q g w :=
 eK (kr := no) (l := []) h hn gR trivial
def TD (kn : K6) (cB b2 b4 fV x_9 qM f2 f3 : aNY) (w : aNX) : Prop :=
 TK (fun cB b2 b4 fV x_9 qM f2 f3 w => MC kn cB b2 b4 fV x_9 qM f2 f3 w) cB b2 b4 fV x_9 qM f2 f3 w
def Um (kn : K8) (cB b2 b4 fV f2 f3 : aNY) (w : aNX) : Prop :=
 aD pg (aK 108 b4 1) w fun f6 w =>
 aD pg (aL 106 f6) w fun f7 w =>
 aD pg (cI 106 f7 f3) w fun f9 w =>
 aD pg (wA f9) w fun i2 w =>
 aD pg (aK 115 i2 0) w fun i3 w =>
 aD pg (aL 5 i3) w fun i4 w =>
 aD pg (cI 42 fV i4) w fun i5 w =>
 aD pg (aL 3 i5) w fun i6 w =>
 aD pg (wA f9) w fun i9 w =>
 aD pg (aK 115 i9 0) w fun j0 w =>
 aD pg (aL 5 j0) w fun j1 w =>
 aD pg (cI 42 fV j1) w fun j2 w =>
 aD pg (aL 3 j2) w fun j3 w =>
 aD pg (aI .add 3 aM aM j3 (aNZ 1)) w fun j4 w =>
 aD pg (cI 42 fV j1) w fun j5 w =>
 aD pg (aT 3 j5 j4) w fun _u w =>
 kn cB b2 b4 fV f9 i6 f2 f3 w
theorem avM (kn : K8) (hn : N8 Q kn 1 2 4 5 9 10 42 43) (h : Um kn (g 1) (g 2) (g 4) (g 5) (g 42) (g 43) w) : bD pg kK (aF 4 (bI (aF 1 (aB 2 (bI (bI (aB 1 (aF 1 (aB 1 (aB 1 (aB 3 jE))))))))))) Q g w :=
 eK (kr := no) (l := []) h hn gR trivial
def afS (kn : K6) (cB b2 b4 fV f2 f3 : aNY) (w : aNX) : Prop :=
 Um (fun cB b2 b4 fV x_9 qM f2 f3 w => TD kn cB b2 b4 fV x_9 qM f2 f3 w) cB b2 b4 fV f2 f3 w
def TR (kn : K6) (cB b2 b4 fV f2 f3 : aNY) (w : aNX) : Prop :=
 afS kn cB b2 b4 fV f2 f3 w
def Mj (kn : K6) (cB b2 b4 fV f2 f3 : aNY) (w : aNX) : Prop :=
 TR (fun cB b2 b4 fV f2 f3 w => Mr kn cB b2 b4 fV f2 f3 w) cB b2 b4 fV f2 f3 w
theorem avA (kn : K6) (hn : N6 Q kn 1 2 4 5 42 43) (h : TR kn (g 1) (g 2) (g 4) (g 5) (g 42) (g 43) w) : bD pg kK (aF 1 (aB 2 (bI (bI (aB 1 (aF 1 (aB 1 (aB 1 (aB 3 jE))))))))) Q g w :=
 xC 3 (jA 4 (avM _ g w (TD kn) (fun g w h => aJ (jA 1 (atT _ g w (MC kn) (fun g w h => aJ (atN _ g w kn hn h)) h))) h))
def QX (kn : K6) (k2 : K2) (cB b2 b4 fV f2 f3 : aNY) (w : aNX) : Prop :=
 aD pg (aI .lss 3 aM aM f3 f2) w fun f4 w =>
 gU f4
  (kn cB b2 b4 fV f2 f3 w)
  (k2 b2 b4 w)
theorem arK (kn : K6) (k2 : K2) (hn : N6 Q kn 1 2 4 5 42 43) (h2 : E2 Q k2 2 2 4) (h : QX kn k2 (g 1) (g 2) (g 4) (g 5) (g 42) (g 43) w) : bD pg kK (aF 2 (bI (bI (aB 1 (aF 1 (aB 1 (aB 1 (aB 3 jE)))))))) Q g w :=
 eK (kr := no) (l := [(2, fun g w => k2 (g 2) (g 4) w)]) h hn gR ⟨h2, trivial⟩
def IX (kn : K6) (k2 : K2) (cB b2 b4 fV f2 f3 : aNY) (w : aNX) : Prop :=
 QX (fun cB b2 b4 fV f2 f3 w => Mj kn cB b2 b4 fV f2 f3 w) k2 cB b2 b4 fV f2 f3 w
def RD (k2 : K2) (cB b2 b4 fV f2 f3 : aNY) (w : aNX) : Prop :=
 cR (fun (X : aNY -> K0) (t : aNY) (w : aNX) => IX (fun _ _ _ _ _ f3 w => X f3 w) k2 cB b2 b4 fV f2 t w) f3 w
theorem amQ (kn : K6) (k2 : K2) (hn : N6 Q kn 1 2 4 5 42 43) (h2 : E2 Q k2 2 2 4) (h : IX kn k2 (g 1) (g 2) (g 4) (g 5) (g 42) (g 43) w) : bD pg kK (bI (bI (aB 1 (aF 1 (aB 1 (aB 1 (aB 3 jE))))))) Q g w :=
 jA 2 (arK _ g w (Mj kn) k2 (fun g w h => aJ (jA 1 (avA _ g w (Mr kn) (fun g w h => aJ (avV _ g w kn hn h)) h))) h2 h)
theorem anR (k2 : K2) (h2 : E2 Q k2 2 2 4) (h : RD k2 (g 1) (g 2) (g 4) (g 5) (g 42) (g 43) w) : bD pg kK (bI (aB 1 (aF 1 (aB 1 (aB 1 (aB 3 jE)))))) Q g w := by
 refine CX (fun g : Env => g 43) (fun X t w => IX (fun _ _ _ _ _ f3 w => X f3 w) k2 (g 1) (g 2) (g 4) (g 5) (g 42) t w) h (fun X g1 w1 ha hL => ?_)
 rw [<- kA 1 ha, <- kA 2 ha, <- kA 4 ha, <- kA 5 ha, <- kA 42 ha] at hL
 exact (amQ _ g1 w1 (fun _ _ _ _ _ f3 w => X f3 w) k2 (fun _ _ h => h) h2 hL)
def Sd (kn : K2) (cB b2 b4 fV f2 f3 : aNY) (w : aNX) : Prop :=
 RD kn cB b2 b4 fV f2 f3 w
def Sh (kn : K6) (cB b2 b4 fV : aNY) (w : aNX) : Prop :=
 aD pg (aK 108 b4 1) w fun f0 w =>
 aD pg (aL 106 f0) w fun f1 w =>
 aD pg (lI .len #[106] 3 [f1]) w fun f2 w =>
 kn cB b2 b4 fV f2 (aNZ 0) w
theorem arI (kn : K6) (hn : N6 Q kn 1 2 4 5 42 43) (h : Sh kn (g 1) (g 2) (g 4) (g 5) w) : bD pg kK (aF 1 (aF 1 (aB 1 (aB 1 (aB 3 jE))))) Q g w :=
 eK (kr := no) (l := []) h hn gR trivial
def RH (kn : K2) (cB b2 b4 fV : aNY) (w : aNX) : Prop :=
 Sh (fun cB b2 b4 fV f2 f3 w => Sd kn cB b2 b4 fV f2 f3 w) cB b2 b4 fV w
def IL (R : K1) (cB b2 b4 fV : aNY) (w : aNX) : Prop :=
 RH (fun b2 b4 w => Mx R b2 b4 w) cB b2 b4 fV w
theorem anO (kn : K2) (hn : N2 Q kn 2 4) (h : RH kn (g 1) (g 2) (g 4) (g 5) w) : bD pg kK (aF 1 (aB 1 (aB 1 (aB 3 jE)))) Q g w :=
 jA 1 (arI _ g w (Sd kn) (fun g w h => aJ (xC 2 (anR _ g w kn hn h))) h)
def C1 (kn : K7) (k0 : K4) (cB b2 b4 fV d5 d6 d7 : aNY) (w : aNX) : Prop :=
 aD pg (aI .lss 3 aM aM d7 d6) w fun d8 w =>
 gU d8
  (aD pg (cI 42 d5 d7) w fun e0 w =>
  aD pg (aL 3 e0) w fun e1 w =>
  aD pg (sUn .neg e1) w fun e6 w =>
  aD pg (lI .max #[3, 3] 3 [e1, e6]) w fun e7 w =>
  aD pg (cI 42 fV d7) w fun e8 w =>
  aD pg (aT 3 e8 e7) w fun _u w =>
  aD pg (aI .add 3 aM aM d7 (aNZ 1)) w fun e9 w =>
  kn cB b2 b4 fV d5 d6 e9 w)
  (k0 cB b2 b4 fV w)
theorem arL (kn : K7) (k0 : K4) (hn : N7 Q kn 1 2 4 5 25 26 27) (h0 : E4 Q k0 0 1 2 4 5) (h : C1 kn k0 (g 1) (g 2) (g 4) (g 5) (g 25) (g 26) (g 27) w) : bD pg kK (bI (bI (aB 1 (aF 1 (aB 1 (aB 3 jE)))))) Q g w :=
 eK (kr := no) (l := [(0, fun g w => k0 (g 1) (g 2) (g 4) (g 5) w)]) h hn gR ⟨h0, trivial⟩
def Rw (k0 : K4) (cB b2 b4 fV d5 d6 d7 : aNY) (w : aNX) : Prop :=
 cR (fun (X : aNY -> K0) (t : aNY) (w : aNX) => C1 (fun _ _ _ _ _ _ d7 w => X d7 w) k0 cB b2 b4 fV d5 d6 t w) d7 w
theorem aqA (k0 : K4) (h0 : E4 Q k0 0 1 2 4 5) (h : Rw k0 (g 1) (g 2) (g 4) (g 5) (g 25) (g 26) (g 27) w) : bD pg kK (bI (aB 1 (aF 1 (aB 1 (aB 3 jE))))) Q g w := by
 refine CX (fun g : Env => g 27) (fun X t w => C1 (fun _ _ _ _ _ _ d7 w => X d7 w) k0 (g 1) (g 2) (g 4) (g 5) (g 25) (g 26) t w) h (fun X g1 w1 ha hL => ?_)
 rw [<- kA 1 ha, <- kA 2 ha, <- kA 4 ha, <- kA 5 ha, <- kA 25 ha, <- kA 26 ha] at hL
 exact (arL _ g1 w1 (fun _ _ _ _ _ _ d7 w => X d7 w) k0 (fun _ _ h => h) h0 hL)
def Q1 (kn : K4) (cB b2 b4 fV d5 d6 d7 : aNY) (w : aNX) : Prop :=
 Rw kn cB b2 b4 fV d5 d6 d7 w
def RS (kn : K7) (cB b2 b4 fV : aNY) (w : aNX) : Prop :=
 aD pg (aK 100 cB 1) w fun d4 w =>
 aD pg (aL 42 d4) w fun d5 w =>
 aD pg (lI .len #[42] 3 [d5]) w fun d6 w =>
 kn cB b2 b4 fV d5 d6 (aNZ 0) w
theorem aqQ (kn : K7) (hn : N7 Q kn 1 2 4 5 25 26 27) (h : RS kn (g 1) (g 2) (g 4) (g 5) w) : bD pg kK (aF 1 (aF 1 (aB 1 (aB 3 jE)))) Q g w :=
 eK (kr := no) (l := []) h hn gR trivial
def R7 (kn : K4) (cB b2 b4 fV : aNY) (w : aNX) : Prop :=
 RS (fun cB b2 b4 fV d5 d6 d7 w => Q1 kn cB b2 b4 fV d5 d6 d7 w) cB b2 b4 fV w
def Re (R : K1) (cB b2 b4 fV : aNY) (w : aNX) : Prop :=
 R7 (fun cB b2 b4 fV w => IL R cB b2 b4 fV w) cB b2 b4 fV w
theorem apL (kn : K4) (hn : N4 Q kn 1 2 4 5) (h : R7 kn (g 1) (g 2) (g 4) (g 5) w) : bD pg kK (aF 1 (aB 1 (aB 3 jE))) Q g w :=
 jA 1 (aqQ _ g w (Q1 kn) (fun g w h => aJ (xC 0 (aqA _ g w kn hn h))) h)
def Rj (kn : K4) (cB b2 b4 : aNY) (w : aNX) : Prop :=
 aD pg (aK 100 cB 1) w fun d0 w =>
 aD pg (aL 42 d0) w fun d1 w =>
 aD pg (lI .len #[42] 3 [d1]) w fun d2 w =>
 aD pg (qG 42 d2 d2) w fun d3 w =>
 kn cB b2 b4 d3 w
theorem apF (kn : K4) (hn : N4 Q kn 1 2 4 5) (h : Rj kn (g 1) (g 2) (g 4) w) : bD pg kK (aF 1 (aB 3 jE)) Q g w :=
 eK (kr := no) (l := []) h hn gR trivial
def C0 (R : K1) (cB b2 b4 : aNY) (w : aNX) : Prop :=
 Rj (fun cB b2 b4 fV w => Re R cB b2 b4 fV w) cB b2 b4 w
def Rv (kn : K3) (R : K1) (Ma : aNY) (w : aNX) : Prop :=
 aD pg (B4 100 Ma) w fun cB w =>
 aD pg (fW 108) w fun b2 w =>
 aD pg (aL 100 cB) w fun c1 w =>
 aS pg Fk #[c1, (aNZ 15)] w fun c2 w =>
 aD pg (aI .neq 27 (.tmp 12) (.const (aNZ 0)) c2 (aNZ 0)) w fun c3 w =>
 gU c3
  (aD pg (fX 108 []) w fun c4 w =>
  aD pg (aT 108 b2 c4) w fun _u w =>
  Ac pg 108 b2 w fun r0 => R (.tuple #[r0, (aNZ 1)]) w)
  (Ord (aIr Jz 3 (ZF 3 jE) 3 5 w)
   (aD pg (aK 100 cB 0) (dr w) fun c5 w_ => w_ = (dr w) /\
   aD pg (aL 3 c5) (dr w) fun c6 w_ => w_ = (dr w) /\
   aD pg (aL 100 cB) (dr w) fun c7 w_ => w_ = (dr w) /\
   aS pg G0 #[c7] (dr w) fun c8 aAq =>
   (jH pg (aL 3 c5) c6 aAq /\ jH pg (aK 100 cB 0) c5 aAq /\ True) /\
   aD pg (fX 108 [(0, c6), (1, c8)]) aAq fun c9 w_ => w_ = aAq /\
   aD pg (fW 108) aAq fun b4 aJb =>
   (jH pg (fX 108 [(0, c6), (1, c8)]) c9 aJb /\ jH pg (aL 3 c5) c6 aJb /\ jH pg (aK 100 cB 0) c5 aJb /\ True) /\
   aD pg (aT 108 b4 c9) aJb fun _u6 aJD =>
   kn cB b2 b4 aJD)
   (aD pg (aK 100 cB 0) (dr w) fun c5 w_ => w_ = (dr w) /\
   aD pg (aL 3 c5) (dr w) fun c6 w_ => w_ = (dr w) /\
   aD pg (aL 100 cB) (dr w) fun c7 w_ => w_ = (dr w) /\
   aD pg (fW 108) (dr w) fun b4 aAq =>
   (jH pg (aL 100 cB) c7 aAq /\ jH pg (aL 3 c5) c6 aAq /\ jH pg (aK 100 cB 0) c5 aAq /\ True) /\
   aS pg G0 #[c7] aAq fun c8 Wj =>
   (jH pg (aL 3 c5) c6 Wj /\ jH pg (aK 100 cB 0) c5 Wj /\ True) /\
   aD pg (fX 108 [(0, c6), (1, c8)]) Wj fun c9 w_ => w_ = Wj /\
   aD pg (aT 108 b4 c9) Wj fun _u6 aJD =>
   kn cB b2 b4 aJD))
theorem aqH (kn : K3) (R : K1) (hn : N3 Q kn 1 2 4) (hr : HR Mh R Q) (h : Rv kn R (g 0) w) : bD pg kK (aF 3 jE) Q g w :=
 eK (l := []) h hn hr trivial
def Sj (R : K1) (Ma : aNY) (w : aNX) : Prop :=
 Rv (fun cB b2 b4 w => C0 R cB b2 b4 w) R Ma w
theorem aoU (R : K1) (hr : HR Mh R Q) (h : Sj R (g 0) w) : bD pg kK jE Q g w :=
 jA 3 (aqH _ g w (C0 R) R (fun g w h => aJ (jA 1 (apF _ g w (Re R) (fun g w h => aJ (jA 1 (apL _ g w (IL R) (fun g w h => aJ (jA 1 (anO _ g w (Mx R) (fun g w h => aJ (auW _ g w R hr h)) h))) h))) h))) hr h)
def aAZ (a0 : aNY) (w : aNX) (R : K1) : Prop :=
 Sj R a0 w
theorem awM {a0 : aNY} {w : aNX} {R : K1} (h : aAZ a0 w R) : aS pg Jz #[a0] w R := by
 refine uP (ann := kK) Tryz.f57 jE [a0] Mh 91 TryzM.mixed Tryz.func57 ?_
 exact (aoU _ _ _ R (fun _ _ h => h) h)
def ZL : FA := ⟨Qy, fun i => .leaf ([], []) []⟩
def afR : List ResultVar := [.tmp 4]
noncomputable def W8 : Code := dH Tryz.f58
def T0 (R : K1) (b0 r_1 : aNY) (w : aNX) : Prop :=
 aD pg (B4 108 b0) w fun b2 w =>
 aD pg (aK 108 b2 0) w fun b6 w =>
 aD pg (aL 3 b6) w fun b7 w =>
 aS pg qV #[r_1, b7] w fun b8 w =>
 aD pg (jP 24 3 b8) w fun b9 w =>
 R b9 w
theorem auQ (R : K1) (hr : HR afR R Q) (h : T0 R (g 0) (g 1) w) : bD pg ZL W8 Q g w :=
 eK (kn := no) (l := []) h gR hr trivial
def aBk (a0 a1 : aNY) (w : aNX) (R : K1) : Prop :=
 T0 R a0 a1 w
theorem aAd {a0 a1 : aNY} {w : aNX} {R : K1} (h : aBk a0 a1 w R) : aS pg Qy #[a0, a1] w R := by
 refine uP (ann := ZL) Tryz.f58 W8 [a0, a1] afR 10 TryzM.mixed Tryz.func58 ?_
 exact (auQ _ _ _ R (fun _ _ h => h) h)
def Fm : FA := ⟨qQ, fun i => .leaf ([], []) []⟩
def He : List ResultVar := [.tmp 2]
noncomputable def EA : Code := dH Tryz.f59
def AF (R : K1) (OB : aNY) (w : aNX) : Prop :=
 aD pg (aI .eql 103 (.tmp 3) (.const (.pointer none)) OB (.pointer none)) w fun b4 w =>
 gU b4
  (R (aNZ 0) w)
  (aD pg (wA OB) w fun b6 w =>
  aD pg (aK 165 b6 1) w fun b7 w =>
  aD pg (aL 3 b7) w fun b8 w =>
  R b8 w)
theorem R0 (R : K1) (hr : HR He R Q) (h : AF R (g 0) w) : bD pg Fm EA Q g w :=
 eK (kn := no) (l := []) h gR hr trivial
def OW (a0 : aNY) (w : aNX) (R : K1) : Prop :=
 AF R a0 w
theorem Tn {a0 : aNY} {w : aNX} {R : K1} (h : OW a0 w R) : aS pg qQ #[a0] w R := by
 refine uP (ann := Fm) Tryz.f59 EA [a0] He 9 TryzM.mixed Tryz.func59 ?_
 exact (R0 _ _ _ R (fun _ _ h => h) h)
def akP : FA := ⟨Un, fun i => match Nat.beq i 4 with | true => .leaf ([5], [(0, 5), (1, 5)]) [(false, []), (false, []), (false, []), (false, []), (false, []), (true, [3, 4]), (false, []), (false, []), (false, [])] | false => .leaf ([], []) []⟩
def asO : List ResultVar := [.tmp 6]
noncomputable def Zs : Code := dH Tryz.f60
def Xi (R : K1) (b0 MA Iv : aNY) (w : aNX) : Prop :=
 aD pg (B4 108 b0) w fun b3 w =>
 aD pg (aI .lss 3 aM aM MA (aNZ 0)) w fun b9 w =>
 Gd (gQ b9 false) (fun K => K MA w) w fun c1 w =>
 Gd (gQ b9 false) (fun K => aD pg (aK 108 b3 1) w K) w fun c2 w =>
 Gd (gQ b9 false) (fun K => aD pg (aL 106 c2) w K) w fun c3 w =>
 Gd (gQ b9 false) (fun K => aD pg (lI .len #[106] 3 [c3]) w K) w fun c4 w =>
 Gd (gQ b9 false) (fun K => aD pg (aI .geq 3 aM aM c1 c4) w K) w fun c5 w =>
 aD pg (iO b9 (.bool true) c5) w fun c6 w =>
 gU c6
  (R (aNZ 0) w)
  (aD pg (aK 108 b3 1) w fun c7 w =>
  aD pg (aL 106 c7) w fun c8 w =>
  aD pg (cI 106 c8 MA) w fun d0 w =>
  aD pg (aL 115 d0) w fun d1 w =>
  aD pg (fW 115) w fun tR w =>
  aD pg (aT 115 tR d1) w fun _u w =>
  aD pg (aK 115 tR 2) (dr w) fun d2 w_ => w_ = (dr w) /\
  aD pg (aL 3 d2) (dr w) fun d3 w_ => w_ = (dr w) /\
  (dr w) = (dr w) /\
  aD pg (aK 115 tR 1) (dr w) fun d5 w_ => w_ = (dr w) /\
  aD pg (aL 3 d5) (dr w) fun d6 w_ => w_ = (dr w) /\
  aS pg qV #[Iv, d6] (dr w) fun d7 aB0 =>
  (jH pg (aL 3 d2) d3 aB0 /\ jH pg (aK 115 tR 2) d2 aB0 /\ True) /\
  aD pg (jP 24 3 d7) aB0 fun d8 w_ => w_ = aB0 /\
  aD pg (aI .add 3 aM aM d3 d8) aB0 fun d9 w_ => w_ = aB0 /\
  aB0 = aB0 /\
  R d9 aB0)
theorem awL (R : K1) (hr : HR asO R Q) (h : Xi R (g 0) (g 1) (g 2) w) : bD pg akP Zs Q g w :=
 eK (kn := no) (l := []) h gR hr trivial
def aCr (a0 a1 a2 : aNY) (w : aNX) (R : K1) : Prop :=
 Xi R a0 a1 a2 w
theorem aAt {a0 a1 a2 : aNY} {w : aNX} {R : K1} (h : aCr a0 a1 a2 w R) : aS pg Un #[a0, a1, a2] w R := by
 refine uP (ann := akP) Tryz.f60 Zs [a0, a1, a2] asO 30 TryzM.mixed Tryz.func60 ?_
 exact (awL _ _ _ R (fun _ _ h => h) h)
def nG : FA := ⟨Ak, fun i => .leaf ([], []) []⟩
def sK : List ResultVar := [.tmp 2, .tmp 3]
noncomputable def mP : Code := dH Tryz.f61
def Cu (R : K1) (qX : aNY) (w : aNX) : Prop :=
 R (.tuple #[qX, (.bool true)]) w
theorem Yu (R : K1) (hr : HR sK R Q) (h : Cu R (g 4) w) : bD pg nG (aB 1 (aB 2 mP)) Q g w :=
 eK (kn := no) (l := []) h gR hr trivial
def Ch (kn : K4) (qX b7 b8 b9 : aNY) (w : aNX) : Prop :=
 aD pg (aI .add 3 aM aM b9 (aNZ 1)) w fun d2 w =>
 kn qX b7 b8 d2 w
theorem Y1 (kn : K4) (hn : N4 Q kn 4 7 8 9) (h : Ch kn (g 4) (g 7) (g 8) (g 9) w) : bD pg nG (aB 3 (bI (bI (aB 1 (aF 1 (aB 2 mP)))))) Q g w :=
 eK (kr := no) (l := []) h hn gR trivial
def H5 (kn : K4) (k0 : K1) (R : K1) (qX b7 b8 b9 : aNY) (w : aNX) : Prop :=
 aD pg (aI .lss 3 aM aM b9 b8) w fun c0 w =>
 gU c0
  (aD pg (cI 22 b7 b9) w fun c1 w =>
  aD pg (aL 5 c1) w fun c2 w =>
  aD pg (aI .gtr 5 aM aM c2 (.int .u8 11)) w fun c4 w =>
  gU c4
   (R (.tuple #[(aNZ 0), (.bool false)]) w)
   (aD pg (aI .gtr 5 aM aM c2 (.int .u8 0)) w fun c6 w =>
   gU c6
    (aD pg (aI .sub 5 aM aM c2 (.int .u8 1)) w fun c9 w =>
    aD pg (aI .shl 3 aM aM (aNZ 1) c9) w fun d0 w =>
    aD pg (aI .add 3 aM aM qX d0) w fun d1 w =>
    kn d1 b7 b8 b9 w)
    (kn qX b7 b8 b9 w)))
  (k0 qX w)
theorem Zn (kn : K4) (k0 : K1) (R : K1) (hn : N4 Q kn 4 7 8 9) (h0 : E1 Q k0 0 4) (hr : HR sK R Q) (h : H5 kn k0 R (g 4) (g 7) (g 8) (g 9) w) : bD pg nG (aF 3 (bI (bI (aB 1 (aF 1 (aB 2 mP)))))) Q g w :=
 eK (l := [(0, fun g w => k0 (g 4) w)]) h hn hr ⟨h0, trivial⟩
def Cp (kn : K4) (k0 : K1) (R : K1) (qX b7 b8 b9 : aNY) (w : aNX) : Prop :=
 H5 (fun qX b7 b8 b9 w => Ch kn qX b7 b8 b9 w) k0 R qX b7 b8 b9 w
def H3 (k0 : K1) (R : K1) (qX b7 b8 b9 : aNY) (w : aNX) : Prop :=
 cR (fun (X : (aNY × aNY) -> K0) (t : aNY × aNY) (w : aNX) => Cp (fun qX _ _ b9 w => X (qX, b9) w) k0 R t.1 b7 b8 t.2 w) (qX, b9) w
theorem Yj (kn : K4) (k0 : K1) (R : K1) (hn : N4 Q kn 4 7 8 9) (h0 : E1 Q k0 0 4) (hr : HR sK R Q) (h : Cp kn k0 R (g 4) (g 7) (g 8) (g 9) w) : bD pg nG (bI (bI (aB 1 (aF 1 (aB 2 mP))))) Q g w :=
 jA 3 (Zn _ g w (Ch kn) k0 R (fun g w h => aJ (Y1 _ g w kn hn h)) h0 hr h)
theorem Y5 (k0 : K1) (R : K1) (h0 : E1 Q k0 0 4) (hr : HR sK R Q) (h : H3 k0 R (g 4) (g 7) (g 8) (g 9) w) : bD pg nG (bI (aB 1 (aF 1 (aB 2 mP)))) Q g w := by
 refine CX (fun g : Env => (g 4, g 9)) (fun X t w => Cp (fun qX _ _ b9 w => X (qX, b9) w) k0 R t.1 (g 7) (g 8) t.2 w) h (fun X g1 w1 ha hL => ?_)
 rw [<- kA 7 ha, <- kA 8 ha] at hL
 exact (Yj _ g1 w1 (fun qX _ _ b9 w => X (qX, b9) w) k0 R (fun _ _ h => h) h0 hr hL)
def Ia (kn : K1) (R : K1) (qX b7 b8 b9 : aNY) (w : aNX) : Prop :=
 H3 kn R qX b7 b8 b9 w
def Ij (kn : K4) (cS qX : aNY) (w : aNX) : Prop :=
 aD pg (lI .len #[22] 3 [cS]) w fun b8 w =>
 kn qX cS b8 (aNZ 0) w
theorem Y8 (kn : K4) (hn : N4 Q kn 4 7 8 9) (h : Ij kn (g 0) (g 4) w) : bD pg nG (aF 1 (aF 1 (aB 2 mP))) Q g w :=
 eK (kr := no) (l := []) h hn gR trivial
def HX (kn : K1) (R : K1) (cS qX : aNY) (w : aNX) : Prop :=
 Ij (fun qX b7 b8 b9 w => Ia kn R qX b7 b8 b9 w) cS qX w
def HW (R : K1) (cS qX : aNY) (w : aNX) : Prop :=
 HX (fun qX w => Cu R qX w) R cS qX w
theorem Yw (kn : K1) (R : K1) (hn : N1 Q kn 4) (hr : HR sK R Q) (h : HX kn R (g 0) (g 4) w) : bD pg nG (aF 1 (aB 2 mP)) Q g w :=
 jA 1 (Y8 _ g w (Ia kn R) (fun g w h => aJ (xC 0 (Y5 _ g w kn R hn hr h))) h)
def Gx (kn : K2) (cS : aNY) (w : aNX) : Prop :=
 kn cS (aNZ 0) w
theorem XN (kn : K2) (hn : N2 Q kn 0 4) (h : Gx kn (g 0) w) : bD pg nG (aF 2 mP) Q g w :=
 eK (kr := no) (l := []) h hn gR trivial
def Ge (R : K1) (cS : aNY) (w : aNX) : Prop :=
 Gx (fun cS qX w => HW R cS qX w) cS w
theorem Wk (R : K1) (hr : HR sK R Q) (h : Ge R (g 0) w) : bD pg nG mP Q g w :=
 jA 2 (XN _ g w (HW R) (fun g w h => aJ (jA 1 (Yw _ g w (Cu R) R (fun g w h => aJ (Yu _ g w R hr h)) hr h))) h)
def ZI (a0 : aNY) (w : aNX) (R : K1) : Prop :=
 Ge R a0 w
theorem afA {a0 : aNY} {w : aNX} {R : K1} (h : ZI a0 w R) : aS pg Ak #[a0] w R := by
 refine uP (ann := nG) Tryz.f61 mP [a0] sK 24 TryzM.mixed Tryz.func61 ?_
 exact (Wk _ _ _ R (fun _ _ h => h) h)
def Qj : FA := ⟨rT, fun i => .leaf ([], []) []⟩
def Td : List ResultVar := [.tmp 2]
noncomputable def On : Code := dH Tryz.f62
def HN (R : K1) (oL : aNY) (w : aNX) : Prop :=
 gU (.bool false)
  (aD pg (jP 67 94 oL) w fun b4 w =>
  aS pg ajS #[b4] w fun b5 w =>
  R b5 w)
  (aS pg AZ #[oL] w fun b7 w =>
  R b7 w)
theorem YQ (R : K1) (hr : HR Td R Q) (h : HN R (g 0) w) : bD pg Qj On Q g w :=
 eK (kn := no) (l := []) h gR hr trivial
def Zr (a0 : aNY) (w : aNX) (R : K1) : Prop :=
 HN R a0 w
theorem abX {a0 : aNY} {w : aNX} {R : K1} (h : Zr a0 w R) : aS pg rT #[a0] w R := by
 refine uP (ann := Qj) Tryz.f62 On [a0] Td 8 TryzM.mixed Tryz.func62 ?_
 exact (YQ _ _ _ R (fun _ _ h => h) h)
def iQ : FA := ⟨Aq, fun i => .leaf ([], []) []⟩
def Fh : List ResultVar := [.cell 2 122, .tmp 3]
noncomputable def gZ : Code := dH Tryz.f63
def FU (R : K1) (b2 b6 : aNY) (w : aNX) : Prop :=
 aD pg (aL 122 b6) w fun m1 w =>
 aD pg (aT 122 b2 m1) w fun _u w =>
 Ac pg 122 b2 w fun r0 => R (.tuple #[r0, (aNZ 0)]) w
theorem ajZ (R : K1) (hr : HR Fh R Q) (h : FU R (g 2) (g 6) w) : bD pg iQ (aB 1 (aB 1 (aB 1 (aB 4 gZ)))) Q g w :=
 eK (kn := no) (l := []) h gR hr trivial
def Bq (kn : K5) (b2 b6 f1 f2 f3 : aNY) (w : aNX) : Prop :=
 aD pg (aI .add 3 aM aM f3 (aNZ 1)) w fun m0 w =>
 kn b2 b6 f1 f2 m0 w
theorem amD (kn : K5) (hn : N5 Q kn 2 6 41 42 43) (h : Bq kn (g 2) (g 6) (g 41) (g 42) (g 43) w) : bD pg iQ (aB 1 (aB 2 (bI (bI (aB 1 (aF 1 (aB 1 (aB 1 (aB 4 gZ))))))))) Q g w :=
 eK (kr := no) (l := []) h hn gR trivial
def G9 (kn : K10) (k4 : K5) (b2 b6 wE Wg Q7 f1 f2 f3 j4 j5 : aNY) (w : aNX) : Prop :=
 aD pg (aI .lss 3 aM aM j5 j4) w fun j6 w =>
 gU j6
  (aD pg (aK 122 b6 1) w fun j8 w =>
  aD pg (aL 120 j8) w fun j9 w =>
  aD pg (aI .add 3 aM aM Q7 j5) w fun l2 w =>
  aD pg (jP 3 5 wE) w fun l4 w =>
  aD pg (aK 171 Wg 0) w fun l5 w =>
  aD pg (aL 3 l5) w fun l6 w =>
  aD pg (fX 173 [(0, l4), (1, l6)]) w fun l7 w =>
  aD pg (cI 120 j9 l2) w fun l8 w =>
  aD pg (aT 173 l8 l7) w fun _u w =>
  aD pg (aI .add 3 aM aM j5 (aNZ 1)) w fun l9 w =>
  kn b2 b6 wE Wg Q7 f1 f2 f3 j4 l9 w)
  (k4 b2 b6 f1 f2 f3 w)
theorem ahH (kn : K10) (k4 : K5) (hn : N10 Q kn 2 6 9 10 11 41 42 43 64 65) (h4 : E5 Q k4 4 2 6 41 42 43) (h : G9 kn k4 (g 2) (g 6) (g 9) (g 10) (g 11) (g 41) (g 42) (g 43) (g 64) (g 65) w) : bD pg iQ (bI (bI (aB 4 (bI (aF 1 (aB 2 (bI (bI (aB 1 (aF 1 (aB 1 (aB 1 (aB 4 gZ))))))))))))) Q g w :=
 eK (kr := no) (l := [(4, fun g w => k4 (g 2) (g 6) (g 41) (g 42) (g 43) w)]) h hn gR ⟨h4, trivial⟩
def Nn (k4 : K5) (b2 b6 wE Wg Q7 f1 f2 f3 j4 j5 : aNY) (w : aNX) : Prop :=
 cR (fun (X : aNY -> K0) (t : aNY) (w : aNX) => G9 (fun _ _ _ _ _ _ _ _ _ j5 w => X j5 w) k4 b2 b6 wE Wg Q7 f1 f2 f3 j4 t w) j5 w
theorem aiO (k4 : K5) (h4 : E5 Q k4 4 2 6 41 42 43) (h : Nn k4 (g 2) (g 6) (g 9) (g 10) (g 11) (g 41) (g 42) (g 43) (g 64) (g 65) w) : bD pg iQ (bI (aB 4 (bI (aF 1 (aB 2 (bI (bI (aB 1 (aF 1 (aB 1 (aB 1 (aB 4 gZ)))))))))))) Q g w := by
 refine CX (fun g : Env => g 65) (fun X t w => G9 (fun _ _ _ _ _ _ _ _ _ j5 w => X j5 w) k4 (g 2) (g 6) (g 9) (g 10) (g 11) (g 41) (g 42) (g 43) (g 64) t w) h (fun X g1 w1 ha hL => ?_)
 rw [<- kA 2 ha, <- kA 6 ha, <- kA 9 ha, <- kA 10 ha, <- kA 11 ha, <- kA 41 ha, <- kA 42 ha, <- kA 43 ha, <- kA 64 ha] at hL
 exact (ahH _ g1 w1 (fun _ _ _ _ _ _ _ _ _ j5 w => X j5 w) k4 (fun _ _ h => h) h4 hL)
def MQ (kn : K5) (b2 b6 wE Wg Q7 f1 f2 f3 j4 j5 : aNY) (w : aNX) : Prop :=
 Nn kn b2 b6 wE Wg Q7 f1 f2 f3 j4 j5 w
def NF (kn : K10) (k3 : K5) (b2 b6 f1 f2 f3 : aNY) (w : aNX) : Prop :=
 aD pg (cI 152 f1 f3) w fun f6 w =>
 aD pg (aL 171 f6) w fun f7 w =>
 aD pg (fW 171) w fun Wg w =>
 aD pg (aT 171 Wg f7) w fun _u w =>
 aD pg (aK 171 Wg 0) w fun f8 w =>
 aD pg (aL 3 f8) w fun f9 w =>
 aD pg (aI .eql 3 (.tmp 49) (.const (aNZ 0)) f9 (aNZ 0)) w fun i0 w =>
 gU i0
  (k3 b2 b6 f1 f2 f3 w)
  (aD pg (aK 171 Wg 1) w fun i1 w =>
  aD pg (aL 3 i1) w fun i2 w =>
  aD pg (aK 122 b6 0) w fun i3 w =>
  aD pg (aL 3 i3) w fun i4 w =>
  aD pg (aK 171 Wg 0) w fun i5 w =>
  aD pg (aL 3 i5) w fun i6 w =>
  aD pg (aI .sub 3 aM aM i4 i6) w fun i7 w =>
  aD pg (aI .shl 3 aM aM i2 i7) w fun i8 w =>
  aD pg (aK 122 b6 0) w fun i9 w =>
  aD pg (aL 3 i9) w fun j0 w =>
  aD pg (aK 171 Wg 0) w fun j1 w =>
  aD pg (aL 3 j1) w fun j2 w =>
  aD pg (aI .sub 3 aM aM j0 j2) w fun j3 w =>
  aD pg (aI .shl 3 aM aM (aNZ 1) j3) w fun j4 w =>
  kn b2 b6 f3 Wg i8 f1 f2 f3 j4 (aNZ 0) w)
theorem afF (kn : K10) (k3 : K5) (hn : N10 Q kn 2 6 9 10 11 41 42 43 64 65) (h3 : E5 Q k3 3 2 6 41 42 43) (h : NF kn k3 (g 2) (g 6) (g 41) (g 42) (g 43) w) : bD pg iQ (aF 4 (bI (aF 1 (aB 2 (bI (bI (aB 1 (aF 1 (aB 1 (aB 1 (aB 4 gZ))))))))))) Q g w :=
 eK (kr := no) (l := [(3, fun g w => k3 (g 2) (g 6) (g 41) (g 42) (g 43) w)]) h hn gR ⟨h3, trivial⟩
def WH (kn : K5) (k3 : K5) (b2 b6 f1 f2 f3 : aNY) (w : aNX) : Prop :=
 NF (fun b2 b6 wE Wg Q7 f1 f2 f3 j4 j5 w => MQ kn b2 b6 wE Wg Q7 f1 f2 f3 j4 j5 w) k3 b2 b6 f1 f2 f3 w
def OC (kn : K5) (b2 b6 f1 f2 f3 : aNY) (w : aNX) : Prop :=
 WH kn kn b2 b6 f1 f2 f3 w
def Ng (kn : K5) (b2 b6 f1 f2 f3 : aNY) (w : aNX) : Prop :=
 OC (fun b2 b6 f1 f2 f3 w => Bq kn b2 b6 f1 f2 f3 w) b2 b6 f1 f2 f3 w
theorem ajB (kn : K5) (hn : N5 Q kn 2 6 41 42 43) (h : OC kn (g 2) (g 6) (g 41) (g 42) (g 43) w) : bD pg iQ (aF 1 (aB 2 (bI (bI (aB 1 (aF 1 (aB 1 (aB 1 (aB 4 gZ))))))))) Q g w :=
 xC 3 (jA 4 (afF _ g w (MQ kn) kn (fun g w h => aJ (xC 4 (aiO _ g w kn hn h))) hn h))
def Ky (kn : K5) (k2 : K2) (b2 b6 f1 f2 f3 : aNY) (w : aNX) : Prop :=
 aD pg (aI .lss 3 aM aM f3 f2) w fun f4 w =>
 gU f4
  (kn b2 b6 f1 f2 f3 w)
  (k2 b2 b6 w)
theorem aaL (kn : K5) (k2 : K2) (hn : N5 Q kn 2 6 41 42 43) (h2 : E2 Q k2 2 2 6) (h : Ky kn k2 (g 2) (g 6) (g 41) (g 42) (g 43) w) : bD pg iQ (aF 2 (bI (bI (aB 1 (aF 1 (aB 1 (aB 1 (aB 4 gZ)))))))) Q g w :=
 eK (kr := no) (l := [(2, fun g w => k2 (g 2) (g 6) w)]) h hn gR ⟨h2, trivial⟩
def C6 (kn : K5) (k2 : K2) (b2 b6 f1 f2 f3 : aNY) (w : aNX) : Prop :=
 Ky (fun b2 b6 f1 f2 f3 w => Ng kn b2 b6 f1 f2 f3 w) k2 b2 b6 f1 f2 f3 w
def Lc (k2 : K2) (b2 b6 f1 f2 f3 : aNY) (w : aNX) : Prop :=
 cR (fun (X : aNY -> K0) (t : aNY) (w : aNX) => C6 (fun _ _ _ _ f3 w => X f3 w) k2 b2 b6 f1 f2 t w) f3 w
theorem acQ (kn : K5) (k2 : K2) (hn : N5 Q kn 2 6 41 42 43) (h2 : E2 Q k2 2 2 6) (h : C6 kn k2 (g 2) (g 6) (g 41) (g 42) (g 43) w) : bD pg iQ (bI (bI (aB 1 (aF 1 (aB 1 (aB 1 (aB 4 gZ))))))) Q g w :=
 jA 2 (aaL _ g w (Ng kn) k2 (fun g w h => aJ (jA 1 (ajB _ g w (Bq kn) (fun g w h => aJ (amD _ g w kn hn h)) h))) h2 h)
theorem adI (k2 : K2) (h2 : E2 Q k2 2 2 6) (h : Lc k2 (g 2) (g 6) (g 41) (g 42) (g 43) w) : bD pg iQ (bI (aB 1 (aF 1 (aB 1 (aB 1 (aB 4 gZ)))))) Q g w := by
 refine CX (fun g : Env => g 43) (fun X t w => C6 (fun _ _ _ _ f3 w => X f3 w) k2 (g 2) (g 6) (g 41) (g 42) t w) h (fun X g1 w1 ha hL => ?_)
 rw [<- kA 2 ha, <- kA 6 ha, <- kA 41 ha, <- kA 42 ha] at hL
 exact (acQ _ g1 w1 (fun _ _ _ _ f3 w => X f3 w) k2 (fun _ _ h => h) h2 hL)
def Lh (kn : K2) (b2 b6 f1 f2 f3 : aNY) (w : aNX) : Prop :=
 Lc kn b2 b6 f1 f2 f3 w
def Ke (kn : K5) (b2 kT b6 : aNY) (w : aNX) : Prop :=
 aD pg (lI .len #[152] 3 [kT]) w fun f2 w =>
 kn b2 b6 kT f2 (aNZ 0) w
theorem aaS (kn : K5) (hn : N5 Q kn 2 6 41 42 43) (h : Ke kn (g 2) (g 4) (g 6) w) : bD pg iQ (aF 1 (aF 1 (aB 1 (aB 1 (aB 4 gZ))))) Q g w :=
 eK (kr := no) (l := []) h hn gR trivial
def KN (kn : K2) (b2 kT b6 : aNY) (w : aNX) : Prop :=
 Ke (fun b2 b6 f1 f2 f3 w => Lh kn b2 b6 f1 f2 f3 w) b2 kT b6 w
def KM (R : K1) (b2 kT b6 : aNY) (w : aNX) : Prop :=
 KN (fun b2 b6 w => FU R b2 b6 w) b2 kT b6 w
theorem adD (kn : K2) (hn : N2 Q kn 2 6) (h : KN kn (g 2) (g 4) (g 6) w) : bD pg iQ (aF 1 (aB 1 (aB 1 (aB 4 gZ)))) Q g w :=
 jA 1 (aaS _ g w (Lh kn) (fun g w h => aJ (xC 2 (adI _ g w kn hn h))) h)
def Kk (kn : K3) (b2 kT b6 : aNY) (w : aNX) : Prop :=
 aD pg (aK 122 b6 0) w fun e6 w =>
 aD pg (aL 3 e6) w fun e7 w =>
 aD pg (aI .shl 3 aM aM (aNZ 1) e7) w fun e8 w =>
 aD pg (qG 120 e8 e8) w fun e9 w =>
 aD pg (aK 122 b6 1) w fun f0 w =>
 aD pg (aT 120 f0 e9) w fun _u w =>
 kn b2 kT b6 w
theorem adV (kn : K3) (hn : N3 Q kn 2 4 6) (h : Kk kn (g 2) (g 4) (g 6) w) : bD pg iQ (aF 1 (aB 1 (aB 4 gZ))) Q g w :=
 eK (kr := no) (l := []) h hn gR trivial
def KF (R : K1) (b2 kT b6 : aNY) (w : aNX) : Prop :=
 Kk (fun b2 kT b6 w => KM R b2 kT b6 w) b2 kT b6 w
def Dn (kn : K6) (k0 : K3) (b2 kT b6 d3 d4 d5 : aNY) (w : aNX) : Prop :=
 aD pg (aI .lss 3 aM aM d5 d4) w fun d6 w =>
 gU d6
  (aD pg (cI 152 d3 d5) w fun d7 w =>
  aD pg (aL 171 d7) w fun d8 w =>
  aD pg (fW 171) w fun c_8 w =>
  aD pg (aT 171 c_8 d8) w fun _u w =>
  aD pg (aK 122 b6 0) w fun d9 w =>
  aD pg (aL 3 d9) w fun e0 w =>
  aD pg (aK 171 c_8 0) w fun e1 w =>
  aD pg (aL 3 e1) w fun e2 w =>
  aD pg (lI .max #[3, 3] 3 [e0, e2]) w fun e3 w =>
  aD pg (aK 122 b6 0) w fun e4 w =>
  aD pg (aT 3 e4 e3) w fun _u w =>
  aD pg (aI .add 3 aM aM d5 (aNZ 1)) w fun e5 w =>
  kn b2 kT b6 d3 d4 e5 w)
  (k0 b2 kT b6 w)
theorem acH (kn : K6) (k0 : K3) (hn : N6 Q kn 2 4 6 23 24 25) (h0 : E3 Q k0 0 2 4 6) (h : Dn kn k0 (g 2) (g 4) (g 6) (g 23) (g 24) (g 25) w) : bD pg iQ (bI (bI (aB 1 (aF 1 (aB 4 gZ))))) Q g w :=
 eK (kr := no) (l := [(0, fun g w => k0 (g 2) (g 4) (g 6) w)]) h hn gR ⟨h0, trivial⟩
def Lu (k0 : K3) (b2 kT b6 d3 d4 d5 : aNY) (w : aNX) : Prop :=
 cR (fun (X : aNY -> K0) (t : aNY) (w : aNX) => Dn (fun _ _ _ _ _ d5 w => X d5 w) k0 b2 kT b6 d3 d4 t w) d5 w
theorem acZ (k0 : K3) (h0 : E3 Q k0 0 2 4 6) (h : Lu k0 (g 2) (g 4) (g 6) (g 23) (g 24) (g 25) w) : bD pg iQ (bI (aB 1 (aF 1 (aB 4 gZ)))) Q g w := by
 refine CX (fun g : Env => g 25) (fun X t w => Dn (fun _ _ _ _ _ d5 w => X d5 w) k0 (g 2) (g 4) (g 6) (g 23) (g 24) t w) h (fun X g1 w1 ha hL => ?_)
 rw [<- kA 2 ha, <- kA 4 ha, <- kA 6 ha, <- kA 23 ha, <- kA 24 ha] at hL
 exact (acH _ g1 w1 (fun _ _ _ _ _ d5 w => X d5 w) k0 (fun _ _ h => h) h0 hL)
def KQ (kn : K3) (b2 kT b6 d3 d4 d5 : aNY) (w : aNX) : Prop :=
 Lu kn b2 kT b6 d3 d4 d5 w
def Ki (kn : K6) (b2 kT b6 : aNY) (w : aNX) : Prop :=
 aD pg (lI .len #[152] 3 [kT]) w fun d4 w =>
 kn b2 kT b6 kT d4 (aNZ 0) w
theorem adB (kn : K6) (hn : N6 Q kn 2 4 6 23 24 25) (h : Ki kn (g 2) (g 4) (g 6) w) : bD pg iQ (aF 1 (aF 1 (aB 4 gZ))) Q g w :=
 eK (kr := no) (l := []) h hn gR trivial
def Lf (kn : K3) (b2 kT b6 : aNY) (w : aNX) : Prop :=
 Ki (fun b2 kT b6 d3 d4 d5 w => KQ kn b2 kT b6 d3 d4 d5 w) b2 kT b6 w
def JF (R : K1) (b2 kT b6 : aNY) (w : aNX) : Prop :=
 Lf (fun b2 kT b6 w => KF R b2 kT b6 w) b2 kT b6 w
theorem adP (kn : K3) (hn : N3 Q kn 2 4 6) (h : Lf kn (g 2) (g 4) (g 6) w) : bD pg iQ (aF 1 (aB 4 gZ)) Q g w :=
 jA 1 (adB _ g w (KQ kn) (fun g w h => aJ (xC 0 (acZ _ g w kn hn h))) h)
def Dd (kn : K3) (R : K1) (cS : aNY) (w : aNX) : Prop :=
 aD pg (fW 122) w fun b2 w =>
 aS pg tS #[cS] w fun c5 w =>
 aD pg (bP c5 0) w fun c6 w =>
 aD pg (bP c5 1) w fun c7 w =>
 aD pg (aI .neq 27 (.tmp 18) (.const (aNZ 0)) c7 (aNZ 0)) w fun c9 w =>
 gU c9
  (aD pg (fX 122 []) w fun d0 w =>
  aD pg (aT 122 b2 d0) w fun _u w =>
  Ac pg 122 b2 w fun r0 => R (.tuple #[r0, c7]) w)
  (aD pg (fX 122 []) w fun d2 w =>
  aD pg (fW 122) w fun b6 w =>
  aD pg (aT 122 b6 d2) w fun _u w =>
  kn b2 c6 b6 w)
theorem acJ (kn : K3) (R : K1) (hn : N3 Q kn 2 4 6) (hr : HR Fh R Q) (h : Dd kn R (g 0) w) : bD pg iQ (aF 4 gZ) Q g w :=
 eK (l := []) h hn hr trivial
def DD (R : K1) (cS : aNY) (w : aNX) : Prop :=
 Dd (fun b2 kT b6 w => JF R b2 kT b6 w) R cS w
theorem aeN (R : K1) (hr : HR Fh R Q) (h : DD R (g 0) w) : bD pg iQ gZ Q g w :=
 jA 4 (acJ _ g w (JF R) R (fun g w h => aJ (jA 1 (adP _ g w (KF R) (fun g w h => aJ (jA 1 (adV _ g w (KM R) (fun g w h => aJ (jA 1 (adD _ g w (FU R) (fun g w h => aJ (ajZ _ g w R hr h)) h))) h))) h))) hr h)
def VT (a0 : aNY) (w : aNX) (R : K1) : Prop :=
 DD R a0 w
theorem Ss {a0 : aNY} {w : aNX} {R : K1} (h : VT a0 w R) : aS pg Aq #[a0] w R := by
 refine uP (ann := iQ) Tryz.f63 gZ [a0] Fh 82 TryzM.mixed Tryz.func63 ?_
 exact (aeN _ _ _ R (fun _ _ h => h) h)
def mS : FA := ⟨tZ, fun i => match Nat.beq i 9 with | true => .leaf ([5], [(2, 5)]) [(false, []), (false, []), (false, []), (false, []), (false, []), (true, [2]), (false, []), (false, []), (false, [])] | false => .leaf ([], []) []⟩
def wT : List ResultVar := [.tmp 6, .tmp 7]
noncomputable def mN : Code := dH Tryz.f64
def wW (R : K1) (r_8 iN c2 : aNY) (w : aNX) : Prop :=
 aS pg qQ #[r_8] w fun j3 w =>
 aD pg (aI .add 3 aM aM j3 c2) w fun j5 w =>
 aD pg (aI .lss 3 aM aM j5 (aNZ 0)) w fun j8 w =>
 gU j8
  (R (.tuple #[(.slice none 0 0), (aNZ 11)]) w)
  (aD pg (aI .gtr 3 aM aM j5 (aNZ 0)) w fun l1 w =>
  gU l1
   (R (.tuple #[(.slice none 0 0), (aNZ 15)]) w)
   (R (.tuple #[iN, (aNZ 0)]) w))
theorem SK (R : K1) (hr : HR wT R Q) (h : wW R (g 8) (g 10) (g 12) w) : bD pg mS (aB 1 (aB 5 mN)) Q g w :=
 eK (kn := no) (l := []) h gR hr trivial
def wX (kn : K7) (k0 : K3) (b3 r_8 iN nL c2 d6 d7 : aNY) (w : aNX) : Prop :=
 aD pg (aI .lss 3 aM aM d7 d6) w fun d8 w =>
 gU d8
  (aD pg (aK 122 b3 0) w fun d9 w =>
  aD pg (aL 3 d9) w fun e0 w =>
  aD pg (aI .sub 3 aM aM e0 c2) w fun e2 w =>
  (dr w) = (dr w) /\
  (dr w) = (dr w) /\
  aD pg (aI .shl 3 aM aM nL e2) (dr w) fun e5 w_ => w_ = (dr w) /\
  (dr w) = (dr w) /\
  (dr w) = (dr w) /\
  aS pg qV #[r_8, e2] (dr w) fun e8 aDa =>
  (jH pg (aI .shl 3 aM aM nL e2) e5 aDa /\ True) /\
  aD pg (jP 24 3 e8) aDa fun e9 w_ => w_ = aDa /\
  aD pg (aI .or 3 aM aM e5 e9) aDa fun f0 w_ => w_ = aDa /\
  aDa = aDa /\
  aD pg (aK 122 b3 1) aDa fun f1 w =>
  aD pg (aL 120 f1) w fun f2 w =>
  aD pg (cI 120 f2 f0) w fun f4 w =>
  aD pg (aL 173 f4) w fun f5 w =>
  aD pg (fW 173) w fun aJW w =>
  aD pg (aT 173 aJW f5) w fun _u w =>
  aD pg (aK 173 aJW 0) w fun f7 w =>
  aD pg (aL 5 f7) w fun f8 w =>
  aD pg (cU 22 1 [(0, f8)]) w fun f9 w =>
  aD pg (lI .append #[22, 22] 22 [iN, f9]) w fun i0 w =>
  aD pg (aK 122 b3 0) w fun i1 w =>
  aD pg (aL 3 i1) w fun i2 w =>
  aD pg (aK 173 aJW 1) w fun i3 w =>
  aD pg (aL 3 i3) w fun i4 w =>
  aD pg (aI .sub 3 aM aM i2 i4) w fun i5 w =>
  aD pg (aI .shl 3 aM aM (aNZ 1) i5) w fun i8 w =>
  aD pg (aI .sub 3 aM aM i8 (aNZ 1)) w fun i9 w =>
  aD pg (aI .and 3 aM aM f0 i9) w fun j0 w =>
  aD pg (aI .add 3 aM aM d7 (aNZ 1)) w fun j1 w =>
  kn b3 r_8 i0 j0 i5 d6 j1 w)
  (k0 r_8 iN c2 w)
theorem SJ (kn : K7) (k0 : K3) (hn : N7 Q kn 3 8 10 11 12 26 27) (h0 : E3 Q k0 0 8 10 12) (h : wX kn k0 (g 3) (g 8) (g 10) (g 11) (g 12) (g 26) (g 27) w) : bD pg mS (bI (bI (aB 1 (aF 1 (aB 5 mN))))) Q g w :=
 eK (kr := no) (l := [(0, fun g w => k0 (g 8) (g 10) (g 12) w)]) h hn gR ⟨h0, trivial⟩
def BW (k0 : K3) (b3 r_8 iN nL c2 d6 d7 : aNY) (w : aNX) : Prop :=
 cR (fun (X : (aNY × aNY × aNY × aNY) -> K0) (t : aNY × aNY × aNY × aNY) (w : aNX) => wX (fun _ _ iN nL c2 _ d7 w => X (iN, nL, c2, d7) w) k0 b3 r_8 t.1 t.2.1 t.2.2.1 d6 t.2.2.2 w) (iN, nL, c2, d7) w
theorem Tj (k0 : K3) (h0 : E3 Q k0 0 8 10 12) (h : BW k0 (g 3) (g 8) (g 10) (g 11) (g 12) (g 26) (g 27) w) : bD pg mS (bI (aB 1 (aF 1 (aB 5 mN)))) Q g w := by
 refine CX (fun g : Env => (g 10, g 11, g 12, g 27)) (fun X t w => wX (fun _ _ iN nL c2 _ d7 w => X (iN, nL, c2, d7) w) k0 (g 3) (g 8) t.1 t.2.1 t.2.2.1 (g 26) t.2.2.2 w) h (fun X g1 w1 ha hL => ?_)
 rw [<- kA 3 ha, <- kA 8 ha, <- kA 26 ha] at hL
 exact (SJ _ g1 w1 (fun _ _ iN nL c2 _ d7 w => X (iN, nL, c2, d7) w) k0 (fun _ _ h => h) h0 hL)
def Bw (kn : K3) (b3 r_8 iN nL c2 d6 d7 : aNY) (w : aNX) : Prop :=
 BW kn b3 r_8 iN nL c2 d6 d7 w
def By (kn : K7) (nU b3 r_8 iN nL c2 : aNY) (w : aNX) : Prop :=
 kn b3 r_8 iN nL c2 nU (aNZ 0) w
theorem Tv (kn : K7) (hn : N7 Q kn 3 8 10 11 12 26 27) (h : By kn (g 2) (g 3) (g 8) (g 10) (g 11) (g 12) w) : bD pg mS (aF 1 (aF 1 (aB 5 mN))) Q g w :=
 eK (kr := no) (l := []) h hn gR trivial
def BF (kn : K3) (nU b3 r_8 iN nL c2 : aNY) (w : aNX) : Prop :=
 By (fun b3 r_8 iN nL c2 d6 d7 w => Bw kn b3 r_8 iN nL c2 d6 d7 w) nU b3 r_8 iN nL c2 w
def Bo (R : K1) (nU b3 r_8 iN nL c2 : aNY) (w : aNX) : Prop :=
 BF (fun r_8 iN c2 w => wW R r_8 iN c2 w) nU b3 r_8 iN nL c2 w
theorem S5 (kn : K3) (hn : N3 Q kn 8 10 12) (h : BF kn (g 2) (g 3) (g 8) (g 10) (g 11) (g 12) w) : bD pg mS (aF 1 (aB 5 mN)) Q g w :=
 jA 1 (Tv _ g w (Bw kn) (fun g w h => aJ (xC 0 (Tj _ g w kn hn h))) h)
def Bp (kn : K6) (R : K1) (b0 b_1 nU : aNY) (w : aNX) : Prop :=
 aD pg (B4 122 b0) w fun b3 w =>
 aS pg sN #[b_1] w fun c8 w =>
 aD pg (bP c8 0) w fun c9 w =>
 aD pg (bP c8 1) w fun d0 w =>
 aD pg (aI .neq 27 (.tmp 21) (.const (aNZ 0)) d0 (aNZ 0)) w fun d2 w =>
 gU d2
  (R (.tuple #[(.slice none 0 0), d0]) w)
  (aD pg (qG 22 (aNZ 0) nU) w fun d5 w =>
  kn nU b3 c9 d5 (aNZ 0) (aNZ 0) w)
theorem SP (kn : K6) (R : K1) (hn : N6 Q kn 2 3 8 10 11 12) (hr : HR wT R Q) (h : Bp kn R (g 0) (g 1) (g 2) w) : bD pg mS (aF 5 mN) Q g w :=
 eK (l := []) h hn hr trivial
def BB (R : K1) (b0 b_1 nU : aNY) (w : aNX) : Prop :=
 Bp (fun nU b3 r_8 iN nL c2 w => Bo R nU b3 r_8 iN nL c2 w) R b0 b_1 nU w
theorem Sw (R : K1) (hr : HR wT R Q) (h : BB R (g 0) (g 1) (g 2) w) : bD pg mS mN Q g w :=
 jA 5 (SP _ g w (Bo R) R (fun g w h => aJ (jA 1 (S5 _ g w (wW R) (fun g w h => aJ (SK _ g w R hr h)) h))) hr h)
def Qh (a0 a1 a2 : aNY) (w : aNX) (R : K1) : Prop :=
 BB R a0 a1 a2 w
theorem TG {a0 a1 a2 : aNY} {w : aNX} {R : K1} (h : Qh a0 a1 a2 w R) : aS pg tZ #[a0, a1, a2] w R := by
 refine uP (ann := mS) Tryz.f64 mN [a0, a1, a2] wT 73 TryzM.mixed Tryz.func64 ?_
 exact (Sw _ _ _ R (fun _ _ h => h) h)
def VW : FA := ⟨FY, fun i => .leaf ([], []) []⟩
def Zu : List ResultVar := [.cell 2 73, .tmp 3]
noncomputable def Ux : Code := dH Tryz.f65
def R1 (R : K1) (n_0 : aNY) (w : aNX) : Prop :=
 aD pg (fW 73) w fun b2 w =>
 aD pg (aI .add 3 aM aM n_0 (aNZ 4)) w fun b6 w =>
 aD pg (aI .sub 3 aM aM b6 (aNZ 1)) w fun b7 w =>
 aD pg (aI .quo 3 aM aM b7 (aNZ 4)) w fun b8 w =>
 aD pg (aI .mul 3 aM aM (aNZ 3) b8) w fun c4 w =>
 aD pg (aI .sub 3 aM aM n_0 c4) w fun c5 w =>
 aD pg (fX 73 [(0, b8), (1, b8), (2, b8), (3, c5)]) w fun c6 w =>
 aD pg (aI .mul 3 aM aM (aNZ 3) b8) w fun c9 w =>
 aD pg (aI .geq 3 aM aM n_0 c9) w fun d0 w =>
 aD pg (aT 73 b2 c6) w fun _u w =>
 Ac pg 73 b2 w fun r0 => R (.tuple #[r0, d0]) w
theorem arS (R : K1) (hr : HR Zu R Q) (h : R1 R (g 0) w) : bD pg VW Ux Q g w :=
 eK (kn := no) (l := []) h gR hr trivial
def ayL (a0 : aNY) (w : aNX) (R : K1) : Prop :=
 R1 R a0 w
theorem auM {a0 : aNY} {w : aNX} {R : K1} (h : ayL a0 w R) : aS pg FY #[a0] w R := by
 refine uP (ann := VW) Tryz.f65 Ux [a0] Zu 21 TryzM.mixed Tryz.func65 ?_
 exact (arS _ _ _ R (fun _ _ h => h) h)
def FK : FA := ⟨wJ, fun i => .leaf ([], []) []⟩
def Hu : List ResultVar := [.tmp 2]
noncomputable def EF : Code := dH Tryz.f66
def AN (R : K1) (OB : aNY) (w : aNX) : Prop :=
 aD pg (aI .eql 74 (.tmp 3) (.const (.pointer none)) OB (.pointer none)) w fun b4 w =>
 gU b4
  (R (aNZ 0) w)
  (aD pg (wA OB) w fun b6 w =>
  aD pg (aK 92 b6 0) w fun b7 w =>
  aD pg (aL 22 b7) w fun b8 w =>
  aD pg (lI .len #[22] 3 [b8]) w fun b9 w =>
  R b9 w)
theorem Ri (R : K1) (hr : HR Hu R Q) (h : AN R (g 0) w) : bD pg FK EF Q g w :=
 eK (kn := no) (l := []) h gR hr trivial
def Oj (a0 : aNY) (w : aNX) (R : K1) : Prop :=
 AN R a0 w
theorem Th {a0 : aNY} {w : aNX} {R : K1} (h : Oj a0 w R) : aS pg wJ #[a0] w R := by
 refine uP (ann := FK) Tryz.f66 EF [a0] Hu 10 TryzM.mixed Tryz.func66 ?_
 exact (Ri _ _ _ R (fun _ _ h => h) h)
def EI : FA := ⟨vT, fun i => .leaf ([], []) []⟩
def FX : List ResultVar := [.tmp 4]
noncomputable def CL : Code := dH Tryz.f67
def zH (R : K1) (OB kN : aNY) (w : aNX) : Prop :=
 aD pg (aI .eql 74 (.tmp 5) (.const (.pointer none)) OB (.pointer none)) w fun b6 w =>
 gU b6
  (R (.slice none 0 0) w)
  (aD pg (aI .geq 3 aM aM kN (aNZ 0)) w fun c0 w =>
  aS pg sV #[OB, kN, c0] w fun c1 w =>
  R c1 w)
theorem PY (R : K1) (hr : HR FX R Q) (h : zH R (g 0) (g 1) w) : bD pg EI CL Q g w :=
 eK (kn := no) (l := []) h gR hr trivial
def L8 (a0 a1 : aNY) (w : aNX) (R : K1) : Prop :=
 zH R a0 a1 w
theorem R9 {a0 a1 : aNY} {w : aNX} {R : K1} (h : L8 a0 a1 w R) : aS pg vT #[a0, a1] w R := by
 refine uP (ann := EI) Tryz.f67 CL [a0, a1] FX 12 TryzM.mixed Tryz.func67 ?_
 exact (PY _ _ _ R (fun _ _ h => h) h)
def iM : FA := ⟨Mq, fun i => match Nat.beq i 30 with | true => .leaf ([2, 3], [(0, 2)]) [(false, []), (false, []), (true, [1]), (true, []), (false, []), (false, [])] | false => .leaf ([], []) []⟩
def oF : List ResultVar := [.cell 6 128, .tmp 7, .tmp 8]
noncomputable def gW : Code := dH Tryz.f68
def IJ (R : K1) (b6 oX fP : aNY) (w : aNX) : Prop :=
 aD pg (aL 128 fP) (dr w) fun p1 w_ => w_ = (dr w) /\
 aD pg (aL 176 oX) (dr w) fun p2 w_ => w_ = (dr w) /\
 aS pg MH #[p2] (dr w) fun p3 aJr =>
 (jH pg (aL 128 fP) p1 aJr /\ True) /\
 aD pg (aT 128 b6 p1) aJr fun _u3 aAE =>
 aAE = aAE /\
 aAE = aAE /\
 Ac pg 128 b6 aAE fun r0 => R (.tuple #[r0, p3, (aNZ 0)]) aAE
theorem amZ (R : K1) (hr : HR oF R Q) (h : IJ R (g 6) (g 9) (g 12) w) : bD pg iM (aB 1 (aB 7 gW)) Q g w :=
 eK (kn := no) (l := []) h gR hr trivial
def IQ (kn : K5) (R : K1) (aO b6 oX fP aX : aNY) (w : aNX) : Prop :=
 aD pg (aK 128 fP 1) w fun o1 w =>
 aD pg (aL 42 o1) w fun o2 w =>
 aD pg (lI .len #[42] 3 [o2]) w fun o3 w =>
 aD pg (aI .gtr 3 aM aM o3 aO) w fun o5 w =>
 Gd (gQ o5 false) (fun K => K aX w) w fun o7 w =>
 Gd (gQ o5 false) (fun K => aD pg (aI .lss 3 aM aM o7 (aNZ 0)) w K) w fun o8 w =>
 aD pg (iO o5 (.bool true) o8) w fun o9 w =>
 gU o9
  (aD pg (fX 128 []) w fun p0 w =>
  aD pg (aT 128 b6 p0) w fun _u w =>
  Ac pg 128 b6 w fun r0 => R (.tuple #[r0, (aNZ 0), (aNZ 11)]) w)
  (kn aO b6 oX fP aX w)
theorem apO (kn : K5) (R : K1) (hn : N5 Q kn 2 6 9 12 13) (hr : HR oF R Q) (h : IQ kn R (g 2) (g 6) (g 9) (g 12) (g 13) w) : bD pg iM (aB 1 (aB 1 (aB 5 (bI (aB 1 (bI (bI (aF 1 (aB 7 gW))))))))) Q g w :=
 eK (l := []) h hn hr trivial
def IM (kn : K6) (aO b6 oX wB fP aX : aNY) (w : aNX) : Prop :=
 aD pg (aI .eql 24 (.tmp 99) (.const (.int .u64 3)) wB (.int .u64 3)) w fun o0 w =>
 kn aO b6 oX fP aX o0 w
theorem aoZ (kn : K6) (hn : N6 Q kn 2 6 9 12 13 15) (h : IM kn (g 2) (g 6) (g 9) (g 10) (g 12) (g 13) w) : bD pg iM (aB 1 (aB 2 (bI (aB 1 (bI (bI (aF 1 (aB 1 (aB 5 (bI (aB 1 (bI (bI (aF 1 (aB 7 gW))))))))))))))) Q g w :=
 eK (kr := no) (l := []) h hn gR trivial
def II (kn : K7) (k4 : K6) (aO b6 oX wB fP aX qS : aNY) (w : aNX) : Prop :=
 aD pg (jP 24 3 wB) w fun n0 w =>
 aD pg (aI .lss 3 aM aM qS n0) w fun n1 w =>
 gU n1
  (aD pg (aK 128 fP 1) w fun n4 w =>
  aD pg (aL 42 n4) w fun n5 w =>
  aD pg (cU 42 1 [(0, (aNZ 0))]) w fun n6 w =>
  aD pg (lI .append #[42, 42] 42 [n5, n6]) w fun n7 w =>
  aD pg (aK 128 fP 1) w fun n8 w =>
  aD pg (aT 42 n8 n7) w fun _u w =>
  aD pg (aI .add 3 aM aM qS (aNZ 1)) w fun n3 w =>
  kn aO b6 oX wB fP aX n3 w)
  (k4 aO b6 oX wB fP aX w)
theorem aoA (kn : K7) (k4 : K6) (hn : N7 Q kn 2 6 9 10 12 13 16) (h4 : E6 Q k4 4 2 6 9 10 12 13) (h : II kn k4 (g 2) (g 6) (g 9) (g 10) (g 12) (g 13) (g 16) w) : bD pg iM (bI (bI (aB 1 (aF 1 (aB 2 (bI (aB 1 (bI (bI (aF 1 (aB 1 (aB 5 (bI (aB 1 (bI (bI (aF 1 (aB 7 gW)))))))))))))))))) Q g w :=
 eK (kr := no) (l := [(4, fun g w => k4 (g 2) (g 6) (g 9) (g 10) (g 12) (g 13) w)]) h hn gR ⟨h4, trivial⟩
def Q2 (k4 : K6) (aO b6 oX wB fP aX qS : aNY) (w : aNX) : Prop :=
 cR (fun (X : aNY -> K0) (t : aNY) (w : aNX) => II (fun _ _ _ _ _ _ qS w => X qS w) k4 aO b6 oX wB fP aX t w) qS w
theorem aqF (k4 : K6) (h4 : E6 Q k4 4 2 6 9 10 12 13) (h : Q2 k4 (g 2) (g 6) (g 9) (g 10) (g 12) (g 13) (g 16) w) : bD pg iM (bI (aB 1 (aF 1 (aB 2 (bI (aB 1 (bI (bI (aF 1 (aB 1 (aB 5 (bI (aB 1 (bI (bI (aF 1 (aB 7 gW))))))))))))))))) Q g w := by
 refine CX (fun g : Env => g 16) (fun X t w => II (fun _ _ _ _ _ _ qS w => X qS w) k4 (g 2) (g 6) (g 9) (g 10) (g 12) (g 13) t w) h (fun X g1 w1 ha hL => ?_)
 rw [<- kA 2 ha, <- kA 6 ha, <- kA 9 ha, <- kA 10 ha, <- kA 12 ha, <- kA 13 ha] at hL
 exact (aoA _ g1 w1 (fun _ _ _ _ _ _ qS w => X qS w) k4 (fun _ _ h => h) h4 hL)
def Sf (kn : K6) (aO b6 oX wB fP aX qS : aNY) (w : aNX) : Prop :=
 Q2 kn aO b6 oX wB fP aX qS w
def QW (kn : K7) (aO b6 oX wB fP aX : aNY) (w : aNX) : Prop :=
 kn aO b6 oX wB fP aX (aNZ 0) w
theorem arB (kn : K7) (hn : N7 Q kn 2 6 9 10 12 13 16) (h : QW kn (g 2) (g 6) (g 9) (g 10) (g 12) (g 13) w) : bD pg iM (aF 1 (aF 1 (aB 2 (bI (aB 1 (bI (bI (aF 1 (aB 1 (aB 5 (bI (aB 1 (bI (bI (aF 1 (aB 7 gW)))))))))))))))) Q g w :=
 eK (kr := no) (l := []) h hn gR trivial
def Q8 (kn : K6) (aO b6 oX wB fP aX : aNY) (w : aNX) : Prop :=
 QW (fun aO b6 oX wB fP aX qS w => Sf kn aO b6 oX wB fP aX qS w) aO b6 oX wB fP aX w
def I5 (kn : K6) (aO b6 oX wB fP aX : aNY) (w : aNX) : Prop :=
 Q8 (fun aO b6 oX wB fP aX w => IM kn aO b6 oX wB fP aX w) aO b6 oX wB fP aX w
theorem anF (kn : K6) (hn : N6 Q kn 2 6 9 10 12 13) (h : Q8 kn (g 2) (g 6) (g 9) (g 10) (g 12) (g 13) w) : bD pg iM (aF 1 (aB 2 (bI (aB 1 (bI (bI (aF 1 (aB 1 (aB 5 (bI (aB 1 (bI (bI (aF 1 (aB 7 gW))))))))))))))) Q g w :=
 jA 1 (arB _ g w (Sf kn) (fun g w h => aJ (xC 4 (aqF _ g w kn hn h))) h)
def Nl (kn : K6) (R : K1) (aO b6 oX fP aX : aNY) (w : aNX) : Prop :=
 aD pg (aL 176 oX) w fun l9 w =>
 aS pg zS #[l9, (aNZ 2)] w fun m0 w =>
 aD pg (bP m0 0) w fun m1 w =>
 aD pg (bP m0 1) w fun m2 w =>
 aD pg (bP m0 2) w fun m3 w =>
 aD pg (aT 176 oX m1) w fun _u w =>
 aD pg (aI .neq 27 (.tmp 84) (.const (aNZ 0)) m3 (aNZ 0)) w fun m5 w =>
 gU m5
  (aD pg (fX 128 []) w fun m6 w =>
  aD pg (aT 128 b6 m6) w fun _u w =>
  Ac pg 128 b6 w fun r0 => R (.tuple #[r0, (aNZ 0), m3]) w)
  (kn aO b6 oX m2 fP aX w)
theorem alS (kn : K6) (R : K1) (hn : N6 Q kn 2 6 9 10 12 13) (hr : HR oF R Q) (h : Nl kn R (g 2) (g 6) (g 9) (g 12) (g 13) w) : bD pg iM (aF 2 (bI (aB 1 (bI (bI (aF 1 (aB 1 (aB 5 (bI (aB 1 (bI (bI (aF 1 (aB 7 gW)))))))))))))) Q g w :=
 eK (l := []) h hn hr trivial
def WZ (kn : K6) (R : K1) (aO b6 oX fP aX : aNY) (w : aNX) : Prop :=
 Nl (fun aO b6 oX wB fP aX w => I5 kn aO b6 oX wB fP aX w) R aO b6 oX fP aX w
def O1 (kn : K6) (R : K1) (aO b6 oX fP aX : aNY) (w : aNX) : Prop :=
 WZ kn R aO b6 oX fP aX w
def Nh (kn : K5) (k2 : K5) (aO b6 oX fP aX c5 : aNY) (w : aNX) : Prop :=
 gU c5
  (kn aO b6 oX fP aX w)
  (k2 aO b6 oX fP aX w)
theorem ajX (kn : K5) (k2 : K5) (hn : N5 Q kn 2 6 9 12 13) (h2 : E5 Q k2 2 2 6 9 12 13) (h : Nh kn k2 (g 2) (g 6) (g 9) (g 12) (g 13) (g 15) w) : bD pg iM (aF 1 (bI (bI (aF 1 (aB 1 (aB 5 (bI (aB 1 (bI (bI (aF 1 (aB 7 gW)))))))))))) Q g w :=
 eK (kr := no) (l := [(2, fun g w => k2 (g 2) (g 6) (g 9) (g 12) (g 13) w)]) h hn gR ⟨h2, trivial⟩
def FG (kn : K6) (k2 : K5) (R : K1) (aO b6 oX fP aX c5 : aNY) (w : aNX) : Prop :=
 Nh (fun aO b6 oX fP aX w => O1 kn R aO b6 oX fP aX w) k2 aO b6 oX fP aX c5 w
def Pg (k2 : K5) (R : K1) (aO b6 oX fP aX c5 : aNY) (w : aNX) : Prop :=
 cR (fun (X : aNY -> K0) (t : aNY) (w : aNX) => FG (fun _ _ _ _ _ c5 w => X c5 w) k2 R aO b6 oX fP aX t w) c5 w
theorem agB (kn : K6) (k2 : K5) (R : K1) (hn : N6 Q kn 2 6 9 12 13 15) (h2 : E5 Q k2 2 2 6 9 12 13) (hr : HR oF R Q) (h : FG kn k2 R (g 2) (g 6) (g 9) (g 12) (g 13) (g 15) w) : bD pg iM (bI (bI (aF 1 (aB 1 (aB 5 (bI (aB 1 (bI (bI (aF 1 (aB 7 gW))))))))))) Q g w :=
 jA 1 (ajX _ g w (O1 kn R) k2 (fun g w h => aJ (xC 3 (jA 2 (alS _ g w (I5 kn) R (fun g w h => aJ (jA 1 (anF _ g w (IM kn) (fun g w h => aJ (aoZ _ g w kn hn h)) h))) hr h)))) h2 h)
theorem agF (k2 : K5) (R : K1) (h2 : E5 Q k2 2 2 6 9 12 13) (hr : HR oF R Q) (h : Pg k2 R (g 2) (g 6) (g 9) (g 12) (g 13) (g 15) w) : bD pg iM (bI (aF 1 (aB 1 (aB 5 (bI (aB 1 (bI (bI (aF 1 (aB 7 gW)))))))))) Q g w := by
 refine CX (fun g : Env => g 15) (fun X t w => FG (fun _ _ _ _ _ c5 w => X c5 w) k2 R (g 2) (g 6) (g 9) (g 12) (g 13) t w) h (fun X g1 w1 ha hL => ?_)
 rw [<- kA 2 ha, <- kA 6 ha, <- kA 9 ha, <- kA 12 ha, <- kA 13 ha] at hL
 exact (agB _ g1 w1 (fun _ _ _ _ _ c5 w => X c5 w) k2 R (fun _ _ h => h) h2 hr hL)
def NA (kn : K5) (R : K1) (aO b6 oX fP aX c5 : aNY) (w : aNX) : Prop :=
 Pg kn R aO b6 oX fP aX c5 w
def OX (kn : K5) (R : K1) (aO b6 oX fP aX c5 : aNY) (w : aNX) : Prop :=
 NA (fun aO b6 oX fP aX w => IQ kn R aO b6 oX fP aX w) R aO b6 oX fP aX c5 w
theorem afH (kn : K5) (R : K1) (hn : N5 Q kn 2 6 9 12 13) (hr : HR oF R Q) (h : NA kn R (g 2) (g 6) (g 9) (g 12) (g 13) (g 15) w) : bD pg iM (aF 1 (aB 1 (aB 5 (bI (aB 1 (bI (bI (aF 1 (aB 7 gW))))))))) Q g w :=
 xC 2 (agF _ g w kn R hn hr h)
def NS (kn : K6) (aO b6 oX fP aX aEj : aNY) (w : aNX) : Prop :=
 aD pg (aI .eql 3 (.tmp 75) (.const (aNZ 1)) aEj (aNZ 1)) w fun l6 w =>
 kn aO b6 oX fP aX l6 w
theorem aiA (kn : K6) (hn : N6 Q kn 2 6 9 12 13 15) (h : NS kn (g 2) (g 6) (g 9) (g 12) (g 13) (g 14) w) : bD pg iM (aF 1 (aB 5 (bI (aB 1 (bI (bI (aF 1 (aB 7 gW)))))))) Q g w :=
 eK (kr := no) (l := []) h hn gR trivial
def Bn (kn : K5) (R : K1) (aO b6 oX fP aX aEj : aNY) (w : aNX) : Prop :=
 NS (fun aO b6 oX fP aX c5 w => OX kn R aO b6 oX fP aX c5 w) aO b6 oX fP aX aEj w
def OR (kn : K6) (R : K1) (aO b6 oX fP aX : aNY) (w : aNX) : Prop :=
 aD pg (aL 176 oX) w fun i0 w =>
 aS pg Mz #[i0, aX] w fun i2 w =>
 aD pg (bP i2 0) w fun i3 w =>
 aD pg (bP i2 1) w fun i4 w =>
 aD pg (bP i2 2) w fun i5 w =>
 aD pg (aT 176 oX i3) w fun _u w =>
 aD pg (aI .neq 27 (.tmp 56) (.const (aNZ 0)) i5 (aNZ 0)) w fun i7 w =>
 gU i7
  (aD pg (fX 128 []) w fun i8 w =>
  aD pg (aT 128 b6 i8) w fun _u w =>
  Ac pg 128 b6 w fun r0 => R (.tuple #[r0, (aNZ 0), i5]) w)
  (aD pg (aK 128 fP 1) w fun j0 w =>
  aD pg (aL 42 j0) w fun j1 w =>
  aD pg (aI .sub 3 aM aM i4 (aNZ 1)) w fun j3 w =>
  aD pg (cU 42 1 [(0, j3)]) w fun j4 w =>
  aD pg (lI .append #[42, 42] 42 [j1, j4]) w fun j5 w =>
  aD pg (aK 128 fP 1) w fun j6 w =>
  aD pg (aT 42 j6 j5) w fun _u w =>
  aD pg (aI .eql 3 (.tmp 67) (.const (aNZ 0)) i4 (aNZ 0)) w fun j8 w =>
  gU j8
   (aD pg (aI .sub 3 aM aM aX (aNZ 1)) w fun l0 w =>
   kn aO b6 oX fP l0 i4 w)
   (aD pg (aI .sub 3 aM aM i4 (aNZ 1)) w fun l3 w =>
   aD pg (aI .sub 3 aM aM aX l3) w fun l4 w =>
   kn aO b6 oX fP l4 i4 w))
theorem alX (kn : K6) (R : K1) (hn : N6 Q kn 2 6 9 12 13 14) (hr : HR oF R Q) (h : OR kn R (g 2) (g 6) (g 9) (g 12) (g 13) w) : bD pg iM (aF 5 (bI (aB 1 (bI (bI (aF 1 (aB 7 gW))))))) Q g w :=
 eK (l := []) h hn hr trivial
def Xb (kn : K5) (R : K1) (aO b6 oX fP aX : aNY) (w : aNX) : Prop :=
 OR (fun aO b6 oX fP aX aEj w => Bn kn R aO b6 oX fP aX aEj w) R aO b6 oX fP aX w
def O7 (kn : K5) (R : K1) (aO b6 oX fP aX : aNY) (w : aNX) : Prop :=
 Xb kn R aO b6 oX fP aX w
def PL (kn : K5) (k0 : K3) (aO b6 oX fP aX : aNY) (w : aNX) : Prop :=
 aD pg (aI .gtr 3 aM aM aX (aNZ 0)) w fun f8 w =>
 gU f8
  (kn aO b6 oX fP aX w)
  (k0 b6 oX fP w)
theorem ahS (kn : K5) (k0 : K3) (hn : N5 Q kn 2 6 9 12 13) (h0 : E3 Q k0 0 6 9 12) (h : PL kn k0 (g 2) (g 6) (g 9) (g 12) (g 13) w) : bD pg iM (aF 1 (bI (bI (aF 1 (aB 7 gW))))) Q g w :=
 eK (kr := no) (l := [(0, fun g w => k0 (g 6) (g 9) (g 12) w)]) h hn gR ⟨h0, trivial⟩
def Fw (kn : K5) (k0 : K3) (R : K1) (aO b6 oX fP aX : aNY) (w : aNX) : Prop :=
 PL (fun aO b6 oX fP aX w => O7 kn R aO b6 oX fP aX w) k0 aO b6 oX fP aX w
def PJ (k0 : K3) (R : K1) (aO b6 oX fP aX : aNY) (w : aNX) : Prop :=
 cR (fun (X : aNY -> K0) (t : aNY) (w : aNX) => Fw (fun _ _ _ _ aX w => X aX w) k0 R aO b6 oX fP t w) aX w
theorem akY (kn : K5) (k0 : K3) (R : K1) (hn : N5 Q kn 2 6 9 12 13) (h0 : E3 Q k0 0 6 9 12) (hr : HR oF R Q) (h : Fw kn k0 R (g 2) (g 6) (g 9) (g 12) (g 13) w) : bD pg iM (bI (bI (aF 1 (aB 7 gW)))) Q g w :=
 jA 1 (ahS _ g w (O7 kn R) k0 (fun g w h => aJ (xC 1 (jA 5 (alX _ g w (Bn kn R) R (fun g w h => aJ (jA 1 (aiA _ g w (OX kn R) (fun g w h => aJ (jA 1 (afH _ g w (IQ kn R) R (fun g w h => aJ (apO _ g w kn R hn hr h)) hr h))) h))) hr h)))) h0 h)
theorem ahV (k0 : K3) (R : K1) (h0 : E3 Q k0 0 6 9 12) (hr : HR oF R Q) (h : PJ k0 R (g 2) (g 6) (g 9) (g 12) (g 13) w) : bD pg iM (bI (aF 1 (aB 7 gW))) Q g w := by
 refine CX (fun g : Env => g 13) (fun X t w => Fw (fun _ _ _ _ aX w => X aX w) k0 R (g 2) (g 6) (g 9) (g 12) t w) h (fun X g1 w1 ha hL => ?_)
 rw [<- kA 2 ha, <- kA 6 ha, <- kA 9 ha, <- kA 12 ha] at hL
 exact (akY _ g1 w1 (fun _ _ _ _ aX w => X aX w) k0 R (fun _ _ h => h) h0 hr hL)
def Oz (kn : K3) (R : K1) (aO b6 oX fP aX : aNY) (w : aNX) : Prop :=
 PJ kn R aO b6 oX fP aX w
def Fa (R : K1) (aO b6 oX fP aX : aNY) (w : aNX) : Prop :=
 Oz (fun b6 oX fP w => IJ R b6 oX fP w) R aO b6 oX fP aX w
theorem ahE (kn : K3) (R : K1) (hn : N3 Q kn 6 9 12) (hr : HR oF R Q) (h : Oz kn R (g 2) (g 6) (g 9) (g 12) (g 13) w) : bD pg iM (aF 1 (aB 7 gW)) Q g w :=
 xC 0 (ahV _ g w kn R hn hr h)
def NW (kn : K5) (R : K1) (eX PE aO : aNY) (w : aNX) : Prop :=
 aD pg (fW 128) w fun b6 w =>
 aS pg GI #[eX] w fun c8 w =>
 aD pg (fX 176 [(0, c8)]) w fun c9 w =>
 aD pg (fW 176) w fun oX w =>
 aD pg (aT 176 oX c9) w fun _u w =>
 aD pg (aL 176 oX) w fun d1 w =>
 aS pg zS #[d1, (aNZ 4)] w fun d2 w =>
 aD pg (bP d2 0) w fun d3 w =>
 aD pg (bP d2 1) w fun d4 w =>
 aD pg (bP d2 2) w fun d5 w =>
 aD pg (aT 176 oX d3) w fun _u w =>
 aD pg (aI .neq 27 (.tmp 26) (.const (aNZ 0)) d5 (aNZ 0)) w fun d7 w =>
 gU d7
  (aD pg (fX 128 []) w fun d8 w =>
  aD pg (aT 128 b6 d8) w fun _u w =>
  Ac pg 128 b6 w fun r0 => R (.tuple #[r0, (aNZ 0), d5]) w)
  (aD pg (jP 24 3 d4) w fun e1 w =>
  aD pg (aI .add 3 aM aM e1 (aNZ 5)) w fun e2 w =>
  aD pg (fX 128 [(0, e2)]) w fun e3 w =>
  aD pg (fW 128) w fun fP w =>
  aD pg (aT 128 fP e3) w fun _u w =>
  aD pg (aK 128 fP 0) w fun e4 w =>
  aD pg (aL 3 e4) w fun e5 w =>
  aD pg (aI .gtr 3 aM aM e5 PE) w fun e7 w =>
  Gd (gQ e7 false) (fun K => aD pg (aK 128 fP 0) w K) w fun e9 w =>
  Gd (gQ e7 false) (fun K => aD pg (aL 3 e9) w K) w fun f0 w =>
  Gd (gQ e7 false) (fun K => aD pg (aI .gtr 3 aM aM f0 (aNZ 15)) w K) w fun f1 w =>
  aD pg (iO e7 (.bool true) f1) w fun f2 w =>
  gU f2
   (aD pg (fX 128 []) w fun f3 w =>
   aD pg (aT 128 b6 f3) w fun _u w =>
   Ac pg 128 b6 w fun r0 => R (.tuple #[r0, (aNZ 0), (aNZ 12)]) w)
   (aD pg (aK 128 fP 0) w fun f4 w =>
   aD pg (aL 3 f4) w fun f5 w =>
   aS pg oD #[f5] w fun f6 w =>
   kn aO b6 oX fP f6 w))
theorem akK (kn : K5) (R : K1) (hn : N5 Q kn 2 6 9 12 13) (hr : HR oF R Q) (h : NW kn R (g 0) (g 1) (g 2) w) : bD pg iM (aF 7 gW) Q g w :=
 eK (l := []) h hn hr trivial
def MW (R : K1) (eX PE aO : aNY) (w : aNX) : Prop :=
 NW (fun aO b6 oX fP aX w => Fa R aO b6 oX fP aX w) R eX PE aO w
theorem akB (R : K1) (hr : HR oF R Q) (h : MW R (g 0) (g 1) (g 2) w) : bD pg iM gW Q g w :=
 jA 7 (akK _ g w (Fa R) R (fun g w h => aJ (jA 1 (ahE _ g w (IJ R) R (fun g w h => aJ (amZ _ g w R hr h)) hr h))) hr h)
def axL (a0 a1 a2 : aNY) (w : aNX) (R : K1) : Prop :=
 MW R a0 a1 a2 w
theorem avN {a0 a1 a2 : aNY} {w : aNX} {R : K1} (h : axL a0 a1 a2 w R) : aS pg Mq #[a0, a1, a2] w R := by
 refine uP (ann := iM) Tryz.f68 gW [a0, a1, a2] oF 114 TryzM.mixed Tryz.func68 ?_
 exact (akB _ _ _ R (fun _ _ h => h) h)
def xI : FA := ⟨EC, fun i => .leaf ([], []) []⟩
def Mo : List ResultVar := [.cell 2 133, .tmp 3]
noncomputable def vD : Code := dH Tryz.f69
def Mi (R : K1) (b2 l_4 iB : aNY) (w : aNX) : Prop :=
 aD pg (mD 131 l_4 none (some iB) none) w fun e1 w =>
 aD pg (fX 133 [(0, e1)]) w fun e2 w =>
 aD pg (aT 133 b2 e2) w fun _u w =>
 Ac pg 133 b2 w fun r0 => R (.tuple #[r0, (aNZ 0)]) w
theorem avW (R : K1) (hr : HR Mo R Q) (h : Mi R (g 2) (g 4) (g 5) w) : bD pg xI (aB 1 (aB 4 vD)) Q g w :=
 eK (kn := no) (l := []) h gR hr trivial
def My (kn : K3) (k0 : K3) (b2 l_4 iB : aNY) (w : aNX) : Prop :=
 aD pg (cI 131 l_4 iB) w fun d4 w =>
 aD pg (aL 4 d4) w fun d5 w =>
 aD pg (sUn .not d5) w fun d6 w =>
 gU d6
  (aD pg (aI .sub 3 aM aM iB (aNZ 1)) w fun d8 w =>
  kn b2 l_4 d8 w)
  (k0 b2 l_4 iB w)
theorem avD (kn : K3) (k0 : K3) (hn : N3 Q kn 2 4 5) (h0 : E3 Q k0 0 2 4 5) (h : My kn k0 (g 2) (g 4) (g 5) w) : bD pg xI (bI (bI (aF 1 (aB 4 vD)))) Q g w :=
 eK (kr := no) (l := [(0, fun g w => k0 (g 2) (g 4) (g 5) w)]) h hn gR ⟨h0, trivial⟩
def Ue (k0 : K3) (b2 l_4 iB : aNY) (w : aNX) : Prop :=
 cR (fun (X : aNY -> K0) (t : aNY) (w : aNX) => My (fun _ _ iB w => X iB w) k0 b2 l_4 t w) iB w
theorem avC (k0 : K3) (h0 : E3 Q k0 0 2 4 5) (h : Ue k0 (g 2) (g 4) (g 5) w) : bD pg xI (bI (aF 1 (aB 4 vD))) Q g w := by
 refine CX (fun g : Env => g 5) (fun X t w => My (fun _ _ iB w => X iB w) k0 (g 2) (g 4) t w) h (fun X g1 w1 ha hL => ?_)
 rw [<- kA 2 ha, <- kA 4 ha] at hL
 exact (avD _ g1 w1 (fun _ _ iB w => X iB w) k0 (fun _ _ h => h) h0 hL)
def Tz (kn : K3) (b2 l_4 iB : aNY) (w : aNX) : Prop :=
 Ue kn b2 l_4 iB w
def TI (R : K1) (b2 l_4 iB : aNY) (w : aNX) : Prop :=
 Tz (fun b2 l_4 iB w => Mi R b2 l_4 iB w) b2 l_4 iB w
theorem avF (kn : K3) (hn : N3 Q kn 2 4 5) (h : Tz kn (g 2) (g 4) (g 5) w) : bD pg xI (aF 1 (aB 4 vD)) Q g w :=
 xC 0 (avC _ g w kn hn h)
def MF (kn : K3) (R : K1) (Cz : aNY) (w : aNX) : Prop :=
 aD pg (fW 133) w fun b2 w =>
 aD pg (aI .eql 9 (.tmp 6) (.const (.string ⟨#[]⟩)) Cz (.string ⟨#[]⟩)) w fun b7 w =>
 Gd (gQ b7 false) (fun K => K Cz w) w fun b9 w =>
 Gd (gQ b7 false) (fun K => K Cz w) w fun c0 w =>
 Gd (gQ b7 false) (fun K => aD pg (lI .len #[9] 3 [c0]) w K) w fun c1 w =>
 Gd (gQ b7 false) (fun K => aD pg (aI .sub 3 aM aM c1 (aNZ 1)) w K) w fun c2 w =>
 Gd (gQ b7 false) (fun K => aD pg (CN 9 b9 c2) w K) w fun c3 w =>
 Gd (gQ b7 false) (fun K => aD pg (aI .eql 5 (.tmp 13) (.const (.int .u8 0)) c3 (.int .u8 0)) w K) w fun c4 w =>
 aD pg (iO b7 (.bool true) c4) w fun c5 w =>
 gU c5
  (aD pg (fX 133 []) w fun c6 w =>
  aD pg (aT 133 b2 c6) w fun _u w =>
  Ac pg 133 b2 w fun r0 => R (.tuple #[r0, (aNZ 11)]) w)
  (aS pg GI #[Cz] w fun c8 w =>
  aD pg (lI .len #[131] 3 [c8]) w fun d0 w =>
  aD pg (aI .sub 3 aM aM d0 (aNZ 1)) w fun d1 w =>
  kn b2 c8 d1 w)
theorem avK (kn : K3) (R : K1) (hn : N3 Q kn 2 4 5) (hr : HR Mo R Q) (h : MF kn R (g 0) w) : bD pg xI (aF 4 vD) Q g w :=
 eK (l := []) h hn hr trivial
def MB (R : K1) (Cz : aNY) (w : aNX) : Prop :=
 MF (fun b2 l_4 iB w => TI R b2 l_4 iB w) R Cz w
theorem avU (R : K1) (hr : HR Mo R Q) (h : MB R (g 0) w) : bD pg xI vD Q g w :=
 jA 4 (avK _ g w (TI R) R (fun g w h => aJ (jA 1 (avF _ g w (Mi R) (fun g w h => aJ (avW _ g w R hr h)) h))) hr h)
def anJ (a0 : aNY) (w : aNX) (R : K1) : Prop :=
 MB R a0 w
theorem XI {a0 : aNY} {w : aNX} {R : K1} (h : anJ a0 w R) : aS pg EC #[a0] w R := by
 refine uP (ann := xI) Tryz.f69 vD [a0] Mo 33 TryzM.mixed Tryz.func69 ?_
 exact (avU _ _ _ R (fun _ _ h => h) h)
def bE : FA := ⟨I6, fun i => match Nat.beq i 46 with | true => .leaf ([5, 11], [(0, 5), (1, 5)]) [(false, []), (false, []), (false, []), (false, []), (false, []), (true, [3, 4]), (false, []), (false, []), (false, []), (false, []), (false, []), (true, [])] | false => .leaf ([], []) []⟩
def rK : List ResultVar := [.cell 2 138, .tmp 3]
noncomputable def bA : Code := dH Tryz.f70
def Gk (R : K1) (b2 b6 : aNY) (w : aNX) : Prop :=
 aD pg (aL 138 b6) w fun z4 w =>
 aD pg (aT 138 b2 z4) w fun _u w =>
 Ac pg 138 b2 w fun r0 => R (.tuple #[r0, (aNZ 0)]) w
theorem aiB (R : K1) (hr : HR rK R Q) (h : Gk R (g 2) (g 6) w) : bD pg bE (aB 1 (aB 1 (aB 1 (aB 1 (aB 1 (aB 1 (aB 1 (aB 5 bA)))))))) Q g w :=
 eK (kn := no) (l := []) h gR hr trivial
def BG (kn : K6) (cB b2 iB b6 dB nY : aNY) (w : aNX) : Prop :=
 aD pg (aI .add 3 aM aM nY (aNZ 1)) w fun q1 w =>
 kn cB b2 iB b6 dB q1 w
theorem alF (kn : K6) (hn : N6 Q kn 1 2 5 6 14 15) (h : BG kn (g 1) (g 2) (g 5) (g 6) (g 14) (g 15) w) : bD pg bE (aB 1 (aB 1 (bI (bI (aB 1 (aF 1 (aB 1 (aB 1 (aB 1 (aB 1 (aB 1 (aB 1 (aB 5 bA))))))))))))) Q g w :=
 eK (kr := no) (l := []) h hn gR trivial
def Fi (kn : K6) (cB b2 iB b6 dB nY TF pY : aNY) (w : aNX) : Prop :=
 aD pg (aK 138 b6 1) w fun x7 w =>
 aD pg (aL 136 x7) w fun x8 w =>
 aD pg (cI 136 x8 nY) w fun y1 w =>
 aD pg (aK 145 y1 1) w fun y2 w =>
 aD pg (aT 3 y2 pY) w fun _u w =>
 aD pg (aK 138 b6 1) (dr w) fun y3 w_ => w_ = (dr w) /\
 aD pg (aL 136 y3) (dr w) fun y4 w_ => w_ = (dr w) /\
 (dr w) = (dr w) /\
 (dr w) = (dr w) /\
 (dr w) = (dr w) /\
 aS pg oD #[pY] (dr w) fun y8 Tg =>
 (jH pg (aL 136 y3) y4 Tg /\ jH pg (aK 138 b6 1) y3 Tg /\ True) /\
 aD pg (aI .mul 3 aM aM TF y8) Tg fun y9 w_ => w_ = Tg /\
 Tg = Tg /\
 aD pg (aI .sub 3 aM aM y9 iB) Tg fun z1 w_ => w_ = Tg /\
 aD pg (cI 136 y4 nY) Tg fun z2 w_ => w_ = Tg /\
 aD pg (aK 145 z2 2) Tg fun z3 w_ => w_ = Tg /\
 aD pg (aT 3 z3 z1) Tg fun _u11 aKg =>
 kn cB b2 iB b6 dB nY aKg
theorem afX (kn : K6) (hn : N6 Q kn 1 2 5 6 14 15) (h : Fi kn (g 1) (g 2) (g 5) (g 6) (g 14) (g 15) (g 18) (g 19) w) : bD pg bE (aB 1 (aB 3 (aB 2 (aB 2 (bI (aF 1 (aB 1 (bI (bI (aB 1 (aF 1 (aB 1 (aB 1 (aB 1 (aB 1 (aB 1 (aB 1 (aB 5 bA)))))))))))))))))) Q g w :=
 eK (kr := no) (l := []) h hn gR trivial
def GV (kn : K8) (k12 : K8) (cB b2 iB b6 dB nY TF pY : aNY) (w : aNX) : Prop :=
 aD pg (aK 128 cB 0) w fun v7 w =>
 aD pg (aL 3 v7) w fun v8 w =>
 aD pg (aI .sub 3 aM aM v8 pY) w fun x0 w =>
 aD pg (aI .add 3 aM aM x0 (aNZ 1)) w fun x1 w =>
 aS pg oD #[x1] w fun x2 w =>
 aD pg (aI .leq 3 aM aM x2 TF) w fun x4 w =>
 gU x4
  (aD pg (aI .sub 3 aM aM pY (aNZ 1)) w fun x6 w =>
  kn cB b2 iB b6 dB nY TF x6 w)
  (k12 cB b2 iB b6 dB nY TF pY w)
theorem amG (kn : K8) (k12 : K8) (hn : N8 Q kn 1 2 5 6 14 15 18 19) (h12 : E8 Q k12 12 1 2 5 6 14 15 18 19) (h : GV kn k12 (g 1) (g 2) (g 5) (g 6) (g 14) (g 15) (g 18) (g 19) w) : bD pg bE (bI (bI (aF 1 (aB 3 (aB 2 (aB 2 (bI (aF 1 (aB 1 (bI (bI (aB 1 (aF 1 (aB 1 (aB 1 (aB 1 (aB 1 (aB 1 (aB 1 (aB 5 bA)))))))))))))))))))) Q g w :=
 eK (kr := no) (l := [(12, fun g w => k12 (g 1) (g 2) (g 5) (g 6) (g 14) (g 15) (g 18) (g 19) w)]) h hn gR ⟨h12, trivial⟩
def Gv (k12 : K8) (cB b2 iB b6 dB nY TF pY : aNY) (w : aNX) : Prop :=
 cR (fun (X : aNY -> K0) (t : aNY) (w : aNX) => GV (fun _ _ _ _ _ _ _ pY w => X pY w) k12 cB b2 iB b6 dB nY TF t w) pY w
theorem aiK (k12 : K8) (h12 : E8 Q k12 12 1 2 5 6 14 15 18 19) (h : Gv k12 (g 1) (g 2) (g 5) (g 6) (g 14) (g 15) (g 18) (g 19) w) : bD pg bE (bI (aF 1 (aB 3 (aB 2 (aB 2 (bI (aF 1 (aB 1 (bI (bI (aB 1 (aF 1 (aB 1 (aB 1 (aB 1 (aB 1 (aB 1 (aB 1 (aB 5 bA))))))))))))))))))) Q g w := by
 refine CX (fun g : Env => g 19) (fun X t w => GV (fun _ _ _ _ _ _ _ pY w => X pY w) k12 (g 1) (g 2) (g 5) (g 6) (g 14) (g 15) (g 18) t w) h (fun X g1 w1 ha hL => ?_)
 rw [<- kA 1 ha, <- kA 2 ha, <- kA 5 ha, <- kA 6 ha, <- kA 14 ha, <- kA 15 ha, <- kA 18 ha] at hL
 exact (amG _ g1 w1 (fun _ _ _ _ _ _ _ pY w => X pY w) k12 (fun _ _ h => h) h12 hL)
def PI (kn : K8) (cB b2 iB b6 dB nY TF pY : aNY) (w : aNX) : Prop :=
 Gv kn cB b2 iB b6 dB nY TF pY w
def Pa (kn : K6) (cB b2 iB b6 dB nY TF pY : aNY) (w : aNX) : Prop :=
 PI (fun cB b2 iB b6 dB nY TF pY w => Fi kn cB b2 iB b6 dB nY TF pY w) cB b2 iB b6 dB nY TF pY w
theorem akI (kn : K8) (hn : N8 Q kn 1 2 5 6 14 15 18 19) (h : PI kn (g 1) (g 2) (g 5) (g 6) (g 14) (g 15) (g 18) (g 19) w) : bD pg bE (aF 1 (aB 3 (aB 2 (aB 2 (bI (aF 1 (aB 1 (bI (bI (aB 1 (aF 1 (aB 1 (aB 1 (aB 1 (aB 1 (aB 1 (aB 1 (aB 5 bA)))))))))))))))))) Q g w :=
 xC 12 (aiK _ g w kn hn h)
def NC (kn : K8) (cB b2 iB b6 dB nY TW aEx : aNY) (w : aNX) : Prop :=
 aD pg (cI 183 dB TW) w fun u6 w =>
 aD pg (aL 3 u6) w fun u7 w =>
 aD pg (aI .add 3 aM aM u7 aEx) w fun u9 w =>
 aD pg (cI 183 dB TW) w fun v1 w =>
 aD pg (aL 3 v1) w fun v2 w =>
 aD pg (aI .add 3 aM aM v2 (aNZ 1)) w fun v3 w =>
 aD pg (cI 183 dB TW) w fun v4 w =>
 aD pg (aT 3 v4 v3) w fun _u w =>
 aD pg (aK 128 cB 0) w fun v5 w =>
 aD pg (aL 3 v5) w fun v6 w =>
 kn cB b2 iB b6 dB nY u9 v6 w
theorem ahY (kn : K8) (hn : N8 Q kn 1 2 5 6 14 15 18 19) (h : NC kn (g 1) (g 2) (g 5) (g 6) (g 14) (g 15) (g 16) (g 17) w) : bD pg bE (aF 3 (aB 2 (aB 2 (bI (aF 1 (aB 1 (bI (bI (aB 1 (aF 1 (aB 1 (aB 1 (aB 1 (aB 1 (aB 1 (aB 1 (aB 5 bA))))))))))))))))) Q g w :=
 eK (kr := no) (l := []) h hn gR trivial
def GG (kn : K6) (cB b2 iB b6 dB nY TW aEx : aNY) (w : aNX) : Prop :=
 NC (fun cB b2 iB b6 dB nY TF pY w => Pa kn cB b2 iB b6 dB nY TF pY w) cB b2 iB b6 dB nY TW aEx w
def LM (kn : K8) (cB b2 iB b6 dB nY TW : aNY) (w : aNX) : Prop :=
 aD pg (aK 128 cB 1) w fun s8 w =>
 aD pg (aL 42 s8) w fun s9 w =>
 aD pg (cI 42 s9 TW) w fun u1 w =>
 aD pg (aL 3 u1) w fun u2 w =>
 aD pg (aI .lss 3 aM aM u2 (aNZ 0)) w fun u4 w =>
 gU u4
  (kn cB b2 iB b6 dB nY TW (aNZ 1) w)
  (kn cB b2 iB b6 dB nY TW u2 w)
theorem acL (kn : K8) (hn : N8 Q kn 1 2 5 6 14 15 16 17) (h : LM kn (g 1) (g 2) (g 5) (g 6) (g 14) (g 15) (g 16) w) : bD pg bE (aF 2 (aB 2 (bI (aF 1 (aB 1 (bI (bI (aB 1 (aF 1 (aB 1 (aB 1 (aB 1 (aB 1 (aB 1 (aB 1 (aB 5 bA)))))))))))))))) Q g w :=
 eK (kr := no) (l := []) h hn gR trivial
def KT (kn : K6) (cB b2 iB b6 dB nY TW : aNY) (w : aNX) : Prop :=
 LM (fun cB b2 iB b6 dB nY TW aEx w => GG kn cB b2 iB b6 dB nY TW aEx w) cB b2 iB b6 dB nY TW w
def JP (kn : K7) (R : K1) (cB b2 iB b6 dB nY : aNY) (w : aNX) : Prop :=
 aD pg (aK 138 b6 1) w fun q2 w =>
 aD pg (aL 136 q2) w fun q3 w =>
 aD pg (cI 136 q3 nY) w fun q5 w =>
 aD pg (aK 145 q5 0) w fun q6 w =>
 aD pg (aL 3 q6) w fun q7 w =>
 aD pg (aI .lss 3 aM aM q7 (aNZ 0)) w fun q9 w =>
 Gd (gQ q9 false) (fun K => K q7 w) w fun s1 w =>
 Gd (gQ q9 false) (fun K => aD pg (aK 128 cB 1) w K) w fun s2 w =>
 Gd (gQ q9 false) (fun K => aD pg (aL 42 s2) w K) w fun s3 w =>
 Gd (gQ q9 false) (fun K => aD pg (lI .len #[42] 3 [s3]) w K) w fun s4 w =>
 Gd (gQ q9 false) (fun K => aD pg (aI .geq 3 aM aM s1 s4) w K) w fun s5 w =>
 aD pg (iO q9 (.bool true) s5) w fun s6 w =>
 gU s6
  (aD pg (fX 138 []) w fun s7 w =>
  aD pg (aT 138 b2 s7) w fun _u w =>
  Ac pg 138 b2 w fun r0 => R (.tuple #[r0, (aNZ 1)]) w)
  (kn cB b2 iB b6 dB nY q7 w)
theorem acI (kn : K7) (R : K1) (hn : N7 Q kn 1 2 5 6 14 15 16) (hr : HR rK R Q) (h : JP kn R (g 1) (g 2) (g 5) (g 6) (g 14) (g 15) w) : bD pg bE (aF 2 (bI (aF 1 (aB 1 (bI (bI (aB 1 (aF 1 (aB 1 (aB 1 (aB 1 (aB 1 (aB 1 (aB 1 (aB 5 bA))))))))))))))) Q g w :=
 eK (l := []) h hn hr trivial
def Uw (kn : K6) (R : K1) (cB b2 iB b6 dB nY : aNY) (w : aNX) : Prop :=
 JP (fun cB b2 iB b6 dB nY TW w => KT kn cB b2 iB b6 dB nY TW w) R cB b2 iB b6 dB nY w
def J2 (kn : K6) (R : K1) (cB b2 iB b6 dB nY : aNY) (w : aNX) : Prop :=
 Uw kn R cB b2 iB b6 dB nY w
def Dh (kn : K6) (R : K1) (cB b2 iB b6 dB nY : aNY) (w : aNX) : Prop :=
 J2 (fun cB b2 iB b6 dB nY w => BG kn cB b2 iB b6 dB nY w) R cB b2 iB b6 dB nY w
theorem aeQ (kn : K6) (R : K1) (hn : N6 Q kn 1 2 5 6 14 15) (hr : HR rK R Q) (h : J2 kn R (g 1) (g 2) (g 5) (g 6) (g 14) (g 15) w) : bD pg bE (aF 1 (aB 1 (bI (bI (aB 1 (aF 1 (aB 1 (aB 1 (aB 1 (aB 1 (aB 1 (aB 1 (aB 5 bA))))))))))))) Q g w :=
 xC 11 (jA 2 (acI _ g w (KT kn) R (fun g w h => aJ (jA 2 (acL _ g w (GG kn) (fun g w h => aJ (jA 3 (ahY _ g w (Pa kn) (fun g w h => aJ (jA 1 (akI _ g w (Fi kn) (fun g w h => aJ (afX _ g w kn hn h)) h))) h))) h))) hr h))
def KJ (kn : K6) (k10 : K2) (cB b2 iB b6 dB nY : aNY) (w : aNX) : Prop :=
 aD pg (aI .lss 3 aM aM nY iB) w fun p9 w =>
 gU p9
  (kn cB b2 iB b6 dB nY w)
  (k10 b2 b6 w)
theorem acK (kn : K6) (k10 : K2) (hn : N6 Q kn 1 2 5 6 14 15) (h10 : E2 Q k10 10 2 6) (h : KJ kn k10 (g 1) (g 2) (g 5) (g 6) (g 14) (g 15) w) : bD pg bE (aF 1 (bI (bI (aB 1 (aF 1 (aB 1 (aB 1 (aB 1 (aB 1 (aB 1 (aB 1 (aB 5 bA)))))))))))) Q g w :=
 eK (kr := no) (l := [(10, fun g w => k10 (g 2) (g 6) w)]) h hn gR ⟨h10, trivial⟩
def DP (kn : K6) (k10 : K2) (R : K1) (cB b2 iB b6 dB nY : aNY) (w : aNX) : Prop :=
 KJ (fun cB b2 iB b6 dB nY w => Dh kn R cB b2 iB b6 dB nY w) k10 cB b2 iB b6 dB nY w
def Kc (k10 : K2) (R : K1) (cB b2 iB b6 dB nY : aNY) (w : aNX) : Prop :=
 cR (fun (X : aNY -> K0) (t : aNY) (w : aNX) => DP (fun _ _ _ _ _ nY w => X nY w) k10 R cB b2 iB b6 dB t w) nY w
theorem acO (kn : K6) (k10 : K2) (R : K1) (hn : N6 Q kn 1 2 5 6 14 15) (h10 : E2 Q k10 10 2 6) (hr : HR rK R Q) (h : DP kn k10 R (g 1) (g 2) (g 5) (g 6) (g 14) (g 15) w) : bD pg bE (bI (bI (aB 1 (aF 1 (aB 1 (aB 1 (aB 1 (aB 1 (aB 1 (aB 1 (aB 5 bA))))))))))) Q g w :=
 jA 1 (acK _ g w (Dh kn R) k10 (fun g w h => aJ (jA 1 (aeQ _ g w (BG kn) R (fun g w h => aJ (alF _ g w kn hn h)) hr h))) h10 h)
theorem aaR (k10 : K2) (R : K1) (h10 : E2 Q k10 10 2 6) (hr : HR rK R Q) (h : Kc k10 R (g 1) (g 2) (g 5) (g 6) (g 14) (g 15) w) : bD pg bE (bI (aB 1 (aF 1 (aB 1 (aB 1 (aB 1 (aB 1 (aB 1 (aB 1 (aB 5 bA)))))))))) Q g w := by
 refine CX (fun g : Env => g 15) (fun X t w => DP (fun _ _ _ _ _ nY w => X nY w) k10 R (g 1) (g 2) (g 5) (g 6) (g 14) t w) h (fun X g1 w1 ha hL => ?_)
 rw [<- kA 1 ha, <- kA 2 ha, <- kA 5 ha, <- kA 6 ha, <- kA 14 ha] at hL
 exact (acO _ g1 w1 (fun _ _ _ _ _ nY w => X nY w) k10 R (fun _ _ h => h) h10 hr hL)
def Lx (kn : K2) (R : K1) (cB b2 iB b6 dB nY : aNY) (w : aNX) : Prop :=
 Kc kn R cB b2 iB b6 dB nY w
def KH (kn : K6) (cB b2 iB b6 dB : aNY) (w : aNX) : Prop :=
 kn cB b2 iB b6 dB (aNZ 0) w
theorem aaJ (kn : K6) (hn : N6 Q kn 1 2 5 6 14 15) (h : KH kn (g 1) (g 2) (g 5) (g 6) (g 14) w) : bD pg bE (aF 1 (aF 1 (aB 1 (aB 1 (aB 1 (aB 1 (aB 1 (aB 1 (aB 5 bA))))))))) Q g w :=
 eK (kr := no) (l := []) h hn gR trivial
def KS (kn : K2) (R : K1) (cB b2 iB b6 dB : aNY) (w : aNX) : Prop :=
 KH (fun cB b2 iB b6 dB nY w => Lx kn R cB b2 iB b6 dB nY w) cB b2 iB b6 dB w
def J7 (R : K1) (cB b2 iB b6 dB : aNY) (w : aNX) : Prop :=
 KS (fun b2 b6 w => Gk R b2 b6 w) R cB b2 iB b6 dB w
theorem ZV (kn : K2) (R : K1) (hn : N2 Q kn 2 6) (hr : HR rK R Q) (h : KS kn R (g 1) (g 2) (g 5) (g 6) (g 14) w) : bD pg bE (aF 1 (aB 1 (aB 1 (aB 1 (aB 1 (aB 1 (aB 1 (aB 5 bA)))))))) Q g w :=
 jA 1 (aaJ _ g w (Lx kn R) (fun g w h => aJ (xC 10 (aaR _ g w kn R hn hr h))) h)
def Lv (kn : K5) (cB b2 iB b6 : aNY) (w : aNX) : Prop :=
 aD pg (fW 183) w fun dB w =>
 kn cB b2 iB b6 dB w
theorem Z1 (kn : K5) (hn : N5 Q kn 1 2 5 6 14) (h : Lv kn (g 1) (g 2) (g 5) (g 6) w) : bD pg bE (aF 1 (aB 1 (aB 1 (aB 1 (aB 1 (aB 1 (aB 5 bA))))))) Q g w :=
 eK (kr := no) (l := []) h hn gR trivial
def Dw (R : K1) (cB b2 iB b6 : aNY) (w : aNX) : Prop :=
 Lv (fun cB b2 iB b6 dB w => J7 R cB b2 iB b6 dB w) cB b2 iB b6 w
def De (kn : K7) (cB b2 iB b6 b8 gD nM : aNY) (w : aNX) : Prop :=
 aD pg (aI .add 3 aM aM nM (aNZ 1)) w fun l1 w =>
 kn cB b2 iB b6 b8 gD l1 w
theorem aeI (kn : K7) (hn : N7 Q kn 1 2 5 6 8 10 11) (h : De kn (g 1) (g 2) (g 5) (g 6) (g 8) (g 10) (g 11) w) : bD pg bE (aB 1 (aB 1 (bI (bI (aB 1 (aF 1 (aB 1 (aB 1 (aB 1 (aB 1 (aB 5 bA))))))))))) Q g w :=
 eK (kr := no) (l := []) h hn gR trivial
def Dc (kn : K8) (cB b2 iB b6 b8 gD nM vA : aNY) (w : aNX) : Prop :=
 aD pg (aI .add 3 aM aM vA (aNZ 1)) w fun m0 w =>
 kn cB b2 iB b6 b8 gD nM m0 w
theorem abD (kn : K8) (hn : N8 Q kn 1 2 5 6 8 10 11 12) (h : Dc kn (g 1) (g 2) (g 5) (g 6) (g 8) (g 10) (g 11) (g 12) w) : bD pg bE (aB 1 (aB 1 (bI (bI (aB 1 (bI (aF 1 (aB 1 (bI (bI (aB 1 (aF 1 (aB 1 (aB 1 (aB 1 (aB 1 (aB 5 bA))))))))))))))))) Q g w :=
 eK (kr := no) (l := []) h hn gR trivial
def Dv (kn : K9) (k8 : K8) (cB b2 iB b6 b8 gD nM vA YH : aNY) (w : aNX) : Prop :=
 aD pg (aI .lss 3 aM aM YH iB) w fun n9 w =>
 Gd (gQ n9 true) (fun K => K gD w) w fun o1 w =>
 Gd (gQ n9 true) (fun K => K b8 w) w fun o2 w =>
 Gd (gQ n9 true) (fun K => aD pg (aI .gtr 3 aM aM o1 o2) w K) w fun o3 w =>
 aD pg (iO n9 o3 (.bool false)) w fun o4 w =>
 gU o4
  (aD pg (aI .quo 3 aM aM iB (aNZ 2)) w fun o9 w =>
  aD pg (aI .add 3 aM aM gD o9) w fun p0 w =>
  aD pg (aI .quo 3 aM aM iB (aNZ 8)) w fun p2 w =>
  aD pg (aI .add 3 aM aM p0 p2) w fun p3 w =>
  aD pg (aI .add 3 aM aM p3 (aNZ 3)) w fun p4 w =>
  aD pg (aI .rem 3 aM aM p4 iB) w fun p6 w =>
  aD pg (aI .add 3 aM aM YH (aNZ 1)) w fun o6 w =>
  kn cB b2 iB b6 b8 p6 nM vA o6 w)
  (k8 cB b2 iB b6 b8 gD nM vA w)
theorem aeS (kn : K9) (k8 : K8) (hn : N9 Q kn 1 2 5 6 8 10 11 12 13) (h8 : E8 Q k8 8 1 2 5 6 8 10 11 12) (h : Dv kn k8 (g 1) (g 2) (g 5) (g 6) (g 8) (g 10) (g 11) (g 12) (g 13) w) : bD pg bE (bI (bI (aB 3 (bI (aF 1 (aB 1 (bI (bI (aB 1 (bI (aF 1 (aB 1 (bI (bI (aB 1 (aF 1 (aB 1 (aB 1 (aB 1 (aB 1 (aB 5 bA))))))))))))))))))))) Q g w :=
 eK (kr := no) (l := [(8, fun g w => k8 (g 1) (g 2) (g 5) (g 6) (g 8) (g 10) (g 11) (g 12) w)]) h hn gR ⟨h8, trivial⟩
def Dt (k8 : K8) (cB b2 iB b6 b8 gD nM vA YH : aNY) (w : aNX) : Prop :=
 cR (fun (X : (aNY × aNY) -> K0) (t : aNY × aNY) (w : aNX) => Dv (fun _ _ _ _ _ gD _ _ YH w => X (gD, YH) w) k8 cB b2 iB b6 b8 t.1 nM vA t.2 w) (gD, YH) w
theorem adU (k8 : K8) (h8 : E8 Q k8 8 1 2 5 6 8 10 11 12) (h : Dt k8 (g 1) (g 2) (g 5) (g 6) (g 8) (g 10) (g 11) (g 12) (g 13) w) : bD pg bE (bI (aB 3 (bI (aF 1 (aB 1 (bI (bI (aB 1 (bI (aF 1 (aB 1 (bI (bI (aB 1 (aF 1 (aB 1 (aB 1 (aB 1 (aB 1 (aB 5 bA)))))))))))))))))))) Q g w := by
 refine CX (fun g : Env => (g 10, g 13)) (fun X t w => Dv (fun _ _ _ _ _ gD _ _ YH w => X (gD, YH) w) k8 (g 1) (g 2) (g 5) (g 6) (g 8) t.1 (g 11) (g 12) t.2 w) h (fun X g1 w1 ha hL => ?_)
 rw [<- kA 1 ha, <- kA 2 ha, <- kA 5 ha, <- kA 6 ha, <- kA 8 ha, <- kA 11 ha, <- kA 12 ha] at hL
 exact (aeS _ g1 w1 (fun _ _ _ _ _ gD _ _ YH w => X (gD, YH) w) k8 (fun _ _ h => h) h8 hL)
def KX (kn : K8) (cB b2 iB b6 b8 gD nM vA YH : aNY) (w : aNX) : Prop :=
 Dt kn cB b2 iB b6 b8 gD nM vA YH w
def LB (kn : K9) (cB b2 iB b6 b8 gD nM vA : aNY) (w : aNX) : Prop :=
 aD pg (aK 138 b6 1) w fun m1 w =>
 aD pg (aL 136 m1) w fun m2 w =>
 aD pg (cI 136 m2 gD) w fun m5 w =>
 aD pg (aK 145 m5 0) w fun m6 w =>
 aD pg (aT 3 m6 nM) w fun _u w =>
 aD pg (aI .quo 3 aM aM iB (aNZ 2)) w fun m9 w =>
 aD pg (aI .add 3 aM aM gD m9) w fun n0 w =>
 aD pg (aI .quo 3 aM aM iB (aNZ 8)) w fun n2 w =>
 aD pg (aI .add 3 aM aM n0 n2) w fun n3 w =>
 aD pg (aI .add 3 aM aM n3 (aNZ 3)) w fun n4 w =>
 aD pg (aI .rem 3 aM aM n4 iB) w fun n6 w =>
 kn cB b2 iB b6 b8 n6 nM vA (aNZ 0) w
theorem acV (kn : K9) (hn : N9 Q kn 1 2 5 6 8 10 11 12 13) (h : LB kn (g 1) (g 2) (g 5) (g 6) (g 8) (g 10) (g 11) (g 12) w) : bD pg bE (aF 3 (bI (aF 1 (aB 1 (bI (bI (aB 1 (bI (aF 1 (aB 1 (bI (bI (aB 1 (aF 1 (aB 1 (aB 1 (aB 1 (aB 1 (aB 5 bA))))))))))))))))))) Q g w :=
 eK (kr := no) (l := []) h hn gR trivial
def UM (kn : K8) (cB b2 iB b6 b8 gD nM vA : aNY) (w : aNX) : Prop :=
 LB (fun cB b2 iB b6 b8 gD nM vA YH w => KX kn cB b2 iB b6 b8 gD nM vA YH w) cB b2 iB b6 b8 gD nM vA w
def JE (kn : K8) (cB b2 iB b6 b8 gD nM vA : aNY) (w : aNX) : Prop :=
 UM kn cB b2 iB b6 b8 gD nM vA w
def KP (kn : K8) (cB b2 iB b6 b8 gD nM vA : aNY) (w : aNX) : Prop :=
 JE (fun cB b2 iB b6 b8 gD nM vA w => Dc kn cB b2 iB b6 b8 gD nM vA w) cB b2 iB b6 b8 gD nM vA w
theorem adK (kn : K8) (hn : N8 Q kn 1 2 5 6 8 10 11 12) (h : JE kn (g 1) (g 2) (g 5) (g 6) (g 8) (g 10) (g 11) (g 12) w) : bD pg bE (aF 1 (aB 1 (bI (bI (aB 1 (bI (aF 1 (aB 1 (bI (bI (aB 1 (aF 1 (aB 1 (aB 1 (aB 1 (aB 1 (aB 5 bA))))))))))))))))) Q g w :=
 xC 7 (jA 3 (acV _ g w (KX kn) (fun g w h => aJ (xC 8 (adU _ g w kn hn h))) h))
def Lm (kn : K8) (k6 : K7) (cB b2 iB b6 b8 gD nM vA : aNY) (w : aNX) : Prop :=
 aD pg (aK 128 cB 1) w fun l3 w =>
 aD pg (aL 42 l3) w fun l4 w =>
 aD pg (cI 42 l4 nM) w fun l6 w =>
 aD pg (aL 3 l6) w fun l7 w =>
 aD pg (aI .lss 3 aM aM vA l7) w fun l8 w =>
 gU l8
  (kn cB b2 iB b6 b8 gD nM vA w)
  (k6 cB b2 iB b6 b8 gD nM w)
theorem abQ (kn : K8) (k6 : K7) (hn : N8 Q kn 1 2 5 6 8 10 11 12) (h6 : E7 Q k6 6 1 2 5 6 8 10 11) (h : Lm kn k6 (g 1) (g 2) (g 5) (g 6) (g 8) (g 10) (g 11) (g 12) w) : bD pg bE (aF 1 (bI (bI (aB 1 (bI (aF 1 (aB 1 (bI (bI (aB 1 (aF 1 (aB 1 (aB 1 (aB 1 (aB 1 (aB 5 bA)))))))))))))))) Q g w :=
 eK (kr := no) (l := [(6, fun g w => k6 (g 1) (g 2) (g 5) (g 6) (g 8) (g 10) (g 11) w)]) h hn gR ⟨h6, trivial⟩
def C2 (kn : K8) (k6 : K7) (cB b2 iB b6 b8 gD nM vA : aNY) (w : aNX) : Prop :=
 Lm (fun cB b2 iB b6 b8 gD nM vA w => KP kn cB b2 iB b6 b8 gD nM vA w) k6 cB b2 iB b6 b8 gD nM vA w
def J6 (k6 : K7) (cB b2 iB b6 b8 gD nM vA : aNY) (w : aNX) : Prop :=
 cR (fun (X : (aNY × aNY) -> K0) (t : aNY × aNY) (w : aNX) => C2 (fun _ _ _ _ _ gD _ vA w => X (gD, vA) w) k6 cB b2 iB b6 b8 t.1 nM t.2 w) (gD, vA) w
theorem acF (kn : K8) (k6 : K7) (hn : N8 Q kn 1 2 5 6 8 10 11 12) (h6 : E7 Q k6 6 1 2 5 6 8 10 11) (h : C2 kn k6 (g 1) (g 2) (g 5) (g 6) (g 8) (g 10) (g 11) (g 12) w) : bD pg bE (bI (bI (aB 1 (bI (aF 1 (aB 1 (bI (bI (aB 1 (aF 1 (aB 1 (aB 1 (aB 1 (aB 1 (aB 5 bA))))))))))))))) Q g w :=
 jA 1 (abQ _ g w (KP kn) k6 (fun g w h => aJ (jA 1 (adK _ g w (Dc kn) (fun g w h => aJ (abD _ g w kn hn h)) h))) h6 h)
theorem abJ (k6 : K7) (h6 : E7 Q k6 6 1 2 5 6 8 10 11) (h : J6 k6 (g 1) (g 2) (g 5) (g 6) (g 8) (g 10) (g 11) (g 12) w) : bD pg bE (bI (aB 1 (bI (aF 1 (aB 1 (bI (bI (aB 1 (aF 1 (aB 1 (aB 1 (aB 1 (aB 1 (aB 5 bA)))))))))))))) Q g w := by
 refine CX (fun g : Env => (g 10, g 12)) (fun X t w => C2 (fun _ _ _ _ _ gD _ vA w => X (gD, vA) w) k6 (g 1) (g 2) (g 5) (g 6) (g 8) t.1 (g 11) t.2 w) h (fun X g1 w1 ha hL => ?_)
 rw [<- kA 1 ha, <- kA 2 ha, <- kA 5 ha, <- kA 6 ha, <- kA 8 ha, <- kA 11 ha] at hL
 exact (acF _ g1 w1 (fun _ _ _ _ _ gD _ vA w => X (gD, vA) w) k6 (fun _ _ h => h) h6 hL)
def Kd (kn : K7) (cB b2 iB b6 b8 gD nM vA : aNY) (w : aNX) : Prop :=
 J6 kn cB b2 iB b6 b8 gD nM vA w
def JM (kn : K8) (cB b2 iB b6 b8 gD nM : aNY) (w : aNX) : Prop :=
 kn cB b2 iB b6 b8 gD nM (aNZ 0) w
theorem aaC (kn : K8) (hn : N8 Q kn 1 2 5 6 8 10 11 12) (h : JM kn (g 1) (g 2) (g 5) (g 6) (g 8) (g 10) (g 11) w) : bD pg bE (aF 1 (bI (aF 1 (aB 1 (bI (bI (aB 1 (aF 1 (aB 1 (aB 1 (aB 1 (aB 1 (aB 5 bA))))))))))))) Q g w :=
 eK (kr := no) (l := []) h hn gR trivial
def Uu (kn : K7) (cB b2 iB b6 b8 gD nM : aNY) (w : aNX) : Prop :=
 JM (fun cB b2 iB b6 b8 gD nM vA w => Kd kn cB b2 iB b6 b8 gD nM vA w) cB b2 iB b6 b8 gD nM w
def JO (kn : K7) (cB b2 iB b6 b8 gD nM : aNY) (w : aNX) : Prop :=
 Uu kn cB b2 iB b6 b8 gD nM w
def LS (kn : K7) (cB b2 iB b6 b8 gD nM : aNY) (w : aNX) : Prop :=
 JO (fun cB b2 iB b6 b8 gD nM w => De kn cB b2 iB b6 b8 gD nM w) cB b2 iB b6 b8 gD nM w
theorem adH (kn : K7) (hn : N7 Q kn 1 2 5 6 8 10 11) (h : JO kn (g 1) (g 2) (g 5) (g 6) (g 8) (g 10) (g 11) w) : bD pg bE (aF 1 (aB 1 (bI (bI (aB 1 (aF 1 (aB 1 (aB 1 (aB 1 (aB 1 (aB 5 bA))))))))))) Q g w :=
 xC 5 (jA 1 (aaC _ g w (Kd kn) (fun g w h => aJ (xC 6 (abJ _ g w kn hn h))) h))
def KY (kn : K7) (k4 : K4) (cB b2 iB b6 b8 gD nM : aNY) (w : aNX) : Prop :=
 aD pg (aK 128 cB 1) w fun j6 w =>
 aD pg (aL 42 j6) w fun j7 w =>
 aD pg (lI .len #[42] 3 [j7]) w fun j8 w =>
 aD pg (aI .lss 3 aM aM nM j8) w fun j9 w =>
 gU j9
  (kn cB b2 iB b6 b8 gD nM w)
  (k4 cB b2 iB b6 w)
theorem ZZ (kn : K7) (k4 : K4) (hn : N7 Q kn 1 2 5 6 8 10 11) (h4 : E4 Q k4 4 1 2 5 6) (h : KY kn k4 (g 1) (g 2) (g 5) (g 6) (g 8) (g 10) (g 11) w) : bD pg bE (aF 1 (bI (bI (aB 1 (aF 1 (aB 1 (aB 1 (aB 1 (aB 1 (aB 5 bA)))))))))) Q g w :=
 eK (kr := no) (l := [(4, fun g w => k4 (g 1) (g 2) (g 5) (g 6) w)]) h hn gR ⟨h4, trivial⟩
def DB (kn : K7) (k4 : K4) (cB b2 iB b6 b8 gD nM : aNY) (w : aNX) : Prop :=
 KY (fun cB b2 iB b6 b8 gD nM w => LS kn cB b2 iB b6 b8 gD nM w) k4 cB b2 iB b6 b8 gD nM w
def DH (k4 : K4) (cB b2 iB b6 b8 gD nM : aNY) (w : aNX) : Prop :=
 cR (fun (X : (aNY × aNY) -> K0) (t : aNY × aNY) (w : aNX) => DB (fun _ _ _ _ _ gD nM w => X (gD, nM) w) k4 cB b2 iB b6 b8 t.1 t.2 w) (gD, nM) w
theorem Z2 (kn : K7) (k4 : K4) (hn : N7 Q kn 1 2 5 6 8 10 11) (h4 : E4 Q k4 4 1 2 5 6) (h : DB kn k4 (g 1) (g 2) (g 5) (g 6) (g 8) (g 10) (g 11) w) : bD pg bE (bI (bI (aB 1 (aF 1 (aB 1 (aB 1 (aB 1 (aB 1 (aB 5 bA))))))))) Q g w :=
 jA 1 (ZZ _ g w (LS kn) k4 (fun g w h => aJ (jA 1 (adH _ g w (De kn) (fun g w h => aJ (aeI _ g w kn hn h)) h))) h4 h)
theorem acG (k4 : K4) (h4 : E4 Q k4 4 1 2 5 6) (h : DH k4 (g 1) (g 2) (g 5) (g 6) (g 8) (g 10) (g 11) w) : bD pg bE (bI (aB 1 (aF 1 (aB 1 (aB 1 (aB 1 (aB 1 (aB 5 bA)))))))) Q g w := by
 refine CX (fun g : Env => (g 10, g 11)) (fun X t w => DB (fun _ _ _ _ _ gD nM w => X (gD, nM) w) k4 (g 1) (g 2) (g 5) (g 6) (g 8) t.1 t.2 w) h (fun X g1 w1 ha hL => ?_)
 rw [<- kA 1 ha, <- kA 2 ha, <- kA 5 ha, <- kA 6 ha, <- kA 8 ha] at hL
 exact (Z2 _ g1 w1 (fun _ _ _ _ _ gD nM w => X (gD, nM) w) k4 (fun _ _ h => h) h4 hL)
def Kq (kn : K4) (cB b2 iB b6 b8 gD nM : aNY) (w : aNX) : Prop :=
 DH kn cB b2 iB b6 b8 gD nM w
def Ko (kn : K7) (cB b2 iB b6 b8 gD : aNY) (w : aNX) : Prop :=
 kn cB b2 iB b6 b8 gD (aNZ 0) w
theorem Z5 (kn : K7) (hn : N7 Q kn 1 2 5 6 8 10 11) (h : Ko kn (g 1) (g 2) (g 5) (g 6) (g 8) (g 10) w) : bD pg bE (aF 1 (aF 1 (aB 1 (aB 1 (aB 1 (aB 1 (aB 5 bA))))))) Q g w :=
 eK (kr := no) (l := []) h hn gR trivial
def LD (kn : K4) (cB b2 iB b6 b8 gD : aNY) (w : aNX) : Prop :=
 Ko (fun cB b2 iB b6 b8 gD nM w => Kq kn cB b2 iB b6 b8 gD nM w) cB b2 iB b6 b8 gD w
def Lr (R : K1) (cB b2 iB b6 b8 gD : aNY) (w : aNX) : Prop :=
 LD (fun cB b2 iB b6 w => Dw R cB b2 iB b6 w) cB b2 iB b6 b8 gD w
theorem abR (kn : K4) (hn : N4 Q kn 1 2 5 6) (h : LD kn (g 1) (g 2) (g 5) (g 6) (g 8) (g 10) w) : bD pg bE (aF 1 (aB 1 (aB 1 (aB 1 (aB 1 (aB 5 bA)))))) Q g w :=
 jA 1 (Z5 _ g w (Kq kn) (fun g w h => aJ (xC 4 (acG _ g w kn hn h))) h)
def LG (kn : K6) (cB b2 iB b6 b8 : aNY) (w : aNX) : Prop :=
 kn cB b2 iB b6 b8 (aNZ 0) w
theorem adJ (kn : K6) (hn : N6 Q kn 1 2 5 6 8 10) (h : LG kn (g 1) (g 2) (g 5) (g 6) (g 8) w) : bD pg bE (aF 1 (aB 1 (aB 1 (aB 1 (aB 5 bA))))) Q g w :=
 eK (kr := no) (l := []) h hn gR trivial
def J9 (R : K1) (cB b2 iB b6 b8 : aNY) (w : aNX) : Prop :=
 LG (fun cB b2 iB b6 b8 gD w => Lr R cB b2 iB b6 b8 gD w) cB b2 iB b6 b8 w
def Ae (kn : K6) (cB b2 iB b6 b8 wE : aNY) (w : aNX) : Prop :=
 aD pg (aI .add 3 aM aM wE (aNZ 1)) w fun i0 w =>
 kn cB b2 iB b6 b8 i0 w
theorem aeH (kn : K6) (hn : N6 Q kn 1 2 5 6 8 9) (h : Ae kn (g 1) (g 2) (g 5) (g 6) (g 8) (g 9) w) : bD pg bE (aB 2 (bI (bI (aB 1 (aF 1 (aB 1 (aB 1 (aB 5 bA)))))))) Q g w :=
 eK (kr := no) (l := []) h hn gR trivial
def La (kn : K6) (k2 : K5) (cB b2 iB b6 b8 wE : aNY) (w : aNX) : Prop :=
 aD pg (aK 128 cB 1) w fun f5 w =>
 aD pg (aL 42 f5) w fun f6 w =>
 aD pg (lI .len #[42] 3 [f6]) w fun f7 w =>
 aD pg (aI .lss 3 aM aM wE f7) w fun f8 w =>
 gU f8
  (aD pg (aK 128 cB 1) w fun i1 w =>
  aD pg (aL 42 i1) w fun i2 w =>
  aD pg (cI 42 i2 wE) w fun i4 w =>
  aD pg (aL 3 i4) w fun i5 w =>
  aD pg (aI .lss 3 aM aM i5 (aNZ 0)) w fun i6 w =>
  gU i6
   (aD pg (aK 138 b6 1) w fun i7 w =>
   aD pg (aL 136 i7) w fun i8 w =>
   aD pg (cI 136 i8 b8) w fun j1 w =>
   aD pg (aK 145 j1 0) w fun j2 w =>
   aD pg (aT 3 j2 wE) w fun _u w =>
   aD pg (aI .sub 3 aM aM b8 (aNZ 1)) w fun j4 w =>
   kn cB b2 iB b6 j4 wE w)
   (kn cB b2 iB b6 b8 wE w))
  (k2 cB b2 iB b6 b8 w)
theorem acM (kn : K6) (k2 : K5) (hn : N6 Q kn 1 2 5 6 8 9) (h2 : E5 Q k2 2 1 2 5 6 8) (h : La kn k2 (g 1) (g 2) (g 5) (g 6) (g 8) (g 9) w) : bD pg bE (aF 2 (bI (bI (aB 1 (aF 1 (aB 1 (aB 1 (aB 5 bA)))))))) Q g w :=
 eK (kr := no) (l := [(2, fun g w => k2 (g 1) (g 2) (g 5) (g 6) (g 8) w)]) h hn gR ⟨h2, trivial⟩
def Di (kn : K6) (k2 : K5) (cB b2 iB b6 b8 wE : aNY) (w : aNX) : Prop :=
 La (fun cB b2 iB b6 b8 wE w => Ae kn cB b2 iB b6 b8 wE w) k2 cB b2 iB b6 b8 wE w
def DG (k2 : K5) (cB b2 iB b6 b8 wE : aNY) (w : aNX) : Prop :=
 cR (fun (X : (aNY × aNY) -> K0) (t : aNY × aNY) (w : aNX) => Di (fun _ _ _ _ b8 wE w => X (b8, wE) w) k2 cB b2 iB b6 t.1 t.2 w) (b8, wE) w
theorem Z4 (kn : K6) (k2 : K5) (hn : N6 Q kn 1 2 5 6 8 9) (h2 : E5 Q k2 2 1 2 5 6 8) (h : Di kn k2 (g 1) (g 2) (g 5) (g 6) (g 8) (g 9) w) : bD pg bE (bI (bI (aB 1 (aF 1 (aB 1 (aB 1 (aB 5 bA))))))) Q g w :=
 jA 2 (acM _ g w (Ae kn) k2 (fun g w h => aJ (aeH _ g w kn hn h)) h2 h)
theorem aaZ (k2 : K5) (h2 : E5 Q k2 2 1 2 5 6 8) (h : DG k2 (g 1) (g 2) (g 5) (g 6) (g 8) (g 9) w) : bD pg bE (bI (aB 1 (aF 1 (aB 1 (aB 1 (aB 5 bA)))))) Q g w := by
 refine CX (fun g : Env => (g 8, g 9)) (fun X t w => Di (fun _ _ _ _ b8 wE w => X (b8, wE) w) k2 (g 1) (g 2) (g 5) (g 6) t.1 t.2 w) h (fun X g1 w1 ha hL => ?_)
 rw [<- kA 1 ha, <- kA 2 ha, <- kA 5 ha, <- kA 6 ha] at hL
 exact (Z4 _ g1 w1 (fun _ _ _ _ b8 wE w => X (b8, wE) w) k2 (fun _ _ h => h) h2 hL)
def LL (kn : K5) (cB b2 iB b6 b8 wE : aNY) (w : aNX) : Prop :=
 DG kn cB b2 iB b6 b8 wE w
def KG (kn : K6) (cB b2 iB b6 b8 : aNY) (w : aNX) : Prop :=
 kn cB b2 iB b6 b8 (aNZ 0) w
theorem adZ (kn : K6) (hn : N6 Q kn 1 2 5 6 8 9) (h : KG kn (g 1) (g 2) (g 5) (g 6) (g 8) w) : bD pg bE (aF 1 (aF 1 (aB 1 (aB 1 (aB 5 bA))))) Q g w :=
 eK (kr := no) (l := []) h hn gR trivial
def J0 (kn : K5) (cB b2 iB b6 b8 : aNY) (w : aNX) : Prop :=
 KG (fun cB b2 iB b6 b8 wE w => LL kn cB b2 iB b6 b8 wE w) cB b2 iB b6 b8 w
def J1 (R : K1) (cB b2 iB b6 b8 : aNY) (w : aNX) : Prop :=
 J0 (fun cB b2 iB b6 b8 w => J9 R cB b2 iB b6 b8 w) cB b2 iB b6 b8 w
theorem adF (kn : K5) (hn : N5 Q kn 1 2 5 6 8) (h : J0 kn (g 1) (g 2) (g 5) (g 6) (g 8) w) : bD pg bE (aF 1 (aB 1 (aB 1 (aB 5 bA)))) Q g w :=
 jA 1 (adZ _ g w (LL kn) (fun g w h => aJ (xC 2 (aaZ _ g w kn hn h))) h)
def JY (kn : K5) (cB b2 iB b6 : aNY) (w : aNX) : Prop :=
 aD pg (aI .sub 3 aM aM iB (aNZ 1)) w fun f3 w =>
 kn cB b2 iB b6 f3 w
theorem acC (kn : K5) (hn : N5 Q kn 1 2 5 6 8) (h : JY kn (g 1) (g 2) (g 5) (g 6) w) : bD pg bE (aF 1 (aB 1 (aB 5 bA))) Q g w :=
 eK (kr := no) (l := []) h hn gR trivial
def LU (R : K1) (cB b2 iB b6 : aNY) (w : aNX) : Prop :=
 JY (fun cB b2 iB b6 b8 w => J1 R cB b2 iB b6 b8 w) cB b2 iB b6 w
def Dx (kn : K5) (k0 : K4) (cB b2 iB b6 PX : aNY) (w : aNX) : Prop :=
 aD pg (aI .lss 3 aM aM PX iB) w fun e3 w =>
 gU e3
  (aD pg (aK 138 b6 1) w fun e6 w =>
  aD pg (aL 136 e6) w fun e7 w =>
  aD pg (fX 145 [(0, (aNZ (-1)))]) w fun e8 w =>
  aD pg (cU 136 1 [(0, e8)]) w fun e9 w =>
  aD pg (lI .append #[136, 136] 136 [e7, e9]) w fun f0 w =>
  aD pg (aK 138 b6 1) w fun f1 w =>
  aD pg (aT 136 f1 f0) w fun _u w =>
  aD pg (aI .add 3 aM aM PX (aNZ 1)) w fun e5 w =>
  kn cB b2 iB b6 e5 w)
  (k0 cB b2 iB b6 w)
theorem abN (kn : K5) (k0 : K4) (hn : N5 Q kn 1 2 5 6 7) (h0 : E4 Q k0 0 1 2 5 6) (h : Dx kn k0 (g 1) (g 2) (g 5) (g 6) (g 7) w) : bD pg bE (bI (bI (aB 1 (aF 1 (aB 5 bA))))) Q g w :=
 eK (kr := no) (l := [(0, fun g w => k0 (g 1) (g 2) (g 5) (g 6) w)]) h hn gR ⟨h0, trivial⟩
def Dp (k0 : K4) (cB b2 iB b6 PX : aNY) (w : aNX) : Prop :=
 cR (fun (X : aNY -> K0) (t : aNY) (w : aNX) => Dx (fun _ _ _ _ PX w => X PX w) k0 cB b2 iB b6 t w) PX w
theorem afB (k0 : K4) (h0 : E4 Q k0 0 1 2 5 6) (h : Dp k0 (g 1) (g 2) (g 5) (g 6) (g 7) w) : bD pg bE (bI (aB 1 (aF 1 (aB 5 bA)))) Q g w := by
 refine CX (fun g : Env => g 7) (fun X t w => Dx (fun _ _ _ _ PX w => X PX w) k0 (g 1) (g 2) (g 5) (g 6) t w) h (fun X g1 w1 ha hL => ?_)
 rw [<- kA 1 ha, <- kA 2 ha, <- kA 5 ha, <- kA 6 ha] at hL
 exact (abN _ g1 w1 (fun _ _ _ _ PX w => X PX w) k0 (fun _ _ h => h) h0 hL)
def JX (kn : K4) (cB b2 iB b6 PX : aNY) (w : aNX) : Prop :=
 Dp kn cB b2 iB b6 PX w
def Lz (kn : K5) (cB b2 iB b6 : aNY) (w : aNX) : Prop :=
 kn cB b2 iB b6 (aNZ 0) w
theorem afC (kn : K5) (hn : N5 Q kn 1 2 5 6 7) (h : Lz kn (g 1) (g 2) (g 5) (g 6) w) : bD pg bE (aF 1 (aF 1 (aB 5 bA))) Q g w :=
 eK (kr := no) (l := []) h hn gR trivial
def Lb (kn : K4) (cB b2 iB b6 : aNY) (w : aNX) : Prop :=
 Lz (fun cB b2 iB b6 PX w => JX kn cB b2 iB b6 PX w) cB b2 iB b6 w
def KV (R : K1) (cB b2 iB b6 : aNY) (w : aNX) : Prop :=
 Lb (fun cB b2 iB b6 w => LU R cB b2 iB b6 w) cB b2 iB b6 w
theorem acP (kn : K4) (hn : N4 Q kn 1 2 5 6) (h : Lb kn (g 1) (g 2) (g 5) (g 6) w) : bD pg bE (aF 1 (aB 5 bA)) Q g w :=
 jA 1 (afC _ g w (JX kn) (fun g w h => aJ (xC 0 (afB _ g w kn hn h))) h)
def Lj (kn : K4) (R : K1) (Ma : aNY) (w : aNX) : Prop :=
 aD pg (B4 128 Ma) w fun cB w =>
 aD pg (fW 138) w fun b2 w =>
 aD pg (aL 128 cB) w fun d0 w =>
 aS pg Je #[d0, (aNZ 15)] w fun d1 w =>
 aD pg (aI .neq 27 (.tmp 22) (.const (aNZ 0)) d1 (aNZ 0)) w fun d3 w =>
 gU d3
  (aD pg (fX 138 []) w fun d4 w =>
  aD pg (aT 138 b2 d4) w fun _u w =>
  Ac pg 138 b2 w fun r0 => R (.tuple #[r0, (aNZ 1)]) w)
  (aD pg (aK 128 cB 0) w fun d5 w =>
  aD pg (aL 3 d5) w fun d6 w =>
  aS pg oD #[d6] w fun d7 w =>
  aD pg (aK 128 cB 0) w fun d8 w =>
  aD pg (aL 3 d8) w fun d9 w =>
  aD pg (fX 138 [(0, d9)]) w fun e0 w =>
  aD pg (fW 138) w fun b6 w =>
  aD pg (aT 138 b6 e0) w fun _u w =>
  kn cB b2 d7 b6 w)
theorem aeJ (kn : K4) (R : K1) (hn : N4 Q kn 1 2 5 6) (hr : HR rK R Q) (h : Lj kn R (g 0) w) : bD pg bE (aF 5 bA) Q g w :=
 eK (l := []) h hn hr trivial
def LK (R : K1) (Ma : aNY) (w : aNX) : Prop :=
 Lj (fun cB b2 iB b6 w => KV R cB b2 iB b6 w) R Ma w
theorem Z6 (R : K1) (hr : HR rK R Q) (h : LK R (g 0) w) : bD pg bE bA Q g w :=
 jA 5 (aeJ _ g w (KV R) R (fun g w h => aJ (jA 1 (acP _ g w (LU R) (fun g w h => aJ (jA 1 (acC _ g w (J1 R) (fun g w h => aJ (jA 1 (adF _ g w (J9 R) (fun g w h => aJ (jA 1 (adJ _ g w (Lr R) (fun g w h => aJ (jA 1 (abR _ g w (Dw R) (fun g w h => aJ (jA 1 (Z1 _ g w (J7 R) (fun g w h => aJ (jA 1 (ZV _ g w (Gk R) R (fun g w h => aJ (aiB _ g w R hr h)) hr h))) h))) h))) h))) h))) h))) h))) hr h)
def atE (a0 : aNY) (w : aNX) (R : K1) : Prop :=
 LK R a0 w
theorem arR {a0 : aNY} {w : aNX} {R : K1} (h : atE a0 w R) : aS pg I6 #[a0] w R := by
 refine uP (ann := bE) Tryz.f70 bA [a0] rK 185 TryzM.mixed Tryz.func70 ?_
 exact (Z6 _ _ _ R (fun _ _ h => h) h)
def UQ : FA := ⟨CV, fun i => .leaf ([], []) []⟩
def V0 : List ResultVar := [.cell 4 133, .tmp 5]
noncomputable def To : Code := dH Tryz.f71
def Np (R : K1) (b0 b_1 : aNY) (w : aNX) : Prop :=
 aD pg (B4 138 b0) w fun b2 w =>
 aD pg (B4 133 b_1) w fun CI w =>
 aD pg (fW 133) w fun b4 w =>
 aD pg (aL 133 CI) w fun b8 w =>
 aD pg (aK 138 b2 0) w fun b9 w =>
 aD pg (aL 3 b9) w fun c0 w =>
 aS pg zE #[b8, c0] w fun c1 w =>
 aD pg (bP c1 0) w fun c2 w =>
 aD pg (bP c1 1) w fun c3 w =>
 aD pg (aT 133 CI c2) w fun _u w =>
 aD pg (aL 133 CI) w fun c4 w =>
 aD pg (jP 24 3 c3) w fun c6 w =>
 aD pg (aT 133 b4 c4) w fun _u w =>
 Ac pg 133 b4 w fun r0 => R (.tuple #[r0, c6]) w
theorem ajG (R : K1) (hr : HR V0 R Q) (h : Np R (g 0) (g 1) w) : bD pg UQ To Q g w :=
 eK (kn := no) (l := []) h gR hr trivial
def atG (a0 a1 : aNY) (w : aNX) (R : K1) : Prop :=
 Np R a0 a1 w
theorem arC {a0 a1 : aNY} {w : aNX} {R : K1} (h : atG a0 a1 w R) : aS pg CV #[a0, a1] w R := by
 refine uP (ann := UQ) Tryz.f71 To [a0, a1] V0 17 TryzM.mixed Tryz.func71 ?_
 exact (ajG _ _ _ R (fun _ _ h => h) h)
def Wc : FA := ⟨Ci, fun i => .leaf ([], []) []⟩
def ZQ : List ResultVar := [.tmp 2]
noncomputable def UD : Code := dH Tryz.f72
def Q0 (R : K1) (eX : aNY) (w : aNX) : Prop :=
 aD pg (B4 133 eX) w fun b_1 w =>
 aD pg (aK 133 b_1 0) w fun b3 w =>
 aD pg (aL 131 b3) w fun b4 w =>
 aD pg (lI .len #[131] 3 [b4]) w fun b5 w =>
 aD pg (aK 133 b_1 1) w fun b6 w =>
 aD pg (aL 3 b6) w fun b7 w =>
 aD pg (aI .sub 3 aM aM b5 b7) w fun b8 w =>
 R b8 w
theorem aqS (R : K1) (hr : HR ZQ R Q) (h : Q0 R (g 0) w) : bD pg Wc UD Q g w :=
 eK (kn := no) (l := []) h gR hr trivial
def ayT (a0 : aNY) (w : aNX) (R : K1) : Prop :=
 Q0 R a0 w
theorem auF {a0 : aNY} {w : aNX} {R : K1} (h : ayT a0 w R) : aS pg Ci #[a0] w R := by
 refine uP (ann := Wc) Tryz.f72 UD [a0] ZQ 9 TryzM.mixed Tryz.func72 ?_
 exact (aqS _ _ _ R (fun _ _ h => h) h)
def Wn : FA := ⟨Mv, fun i => match Nat.beq i 3 with | true => .leaf ([7, 11], [(10, 11)]) [(false, []), (false, []), (false, []), (false, []), (false, []), (false, []), (false, []), (true, []), (false, []), (false, []), (false, []), (true, [0]), (false, [])] | false => match Nat.beq i 4 with | true => .leaf ([10], [(1, 10), (2, 10), (4, 10), (5, 10), (6, 10), (8, 10), (9, 10)]) [(false, []), (false, []), (false, []), (false, []), (false, []), (false, []), (false, []), (false, []), (false, []), (false, []), (true, [0, 1, 3, 4, 5, 7, 8]), (false, [])] | false => .leaf ([], []) []⟩
def Zt : List ResultVar := [.cell 6 133, .tmp 7]
noncomputable def UI : Code := dH Tryz.f73
def QR (R : K1) (b0 MA JC : aNY) (w : aNX) : Prop :=
 aD pg (B4 138 b0) w fun b3 w =>
 aD pg (B4 133 JC) w fun ZH w =>
 aD pg (fW 133) w fun b6 w =>
 aD pg (aI .lss 3 aM aM MA (aNZ 0)) w fun c0 w =>
 Gd (gQ c0 false) (fun K => K MA w) w fun c2 w =>
 Gd (gQ c0 false) (fun K => aD pg (aK 138 b3 1) w K) w fun c3 w =>
 Gd (gQ c0 false) (fun K => aD pg (aL 136 c3) w K) w fun c4 w =>
 Gd (gQ c0 false) (fun K => aD pg (lI .len #[136] 3 [c4]) w K) w fun c5 w =>
 Gd (gQ c0 false) (fun K => aD pg (aI .geq 3 aM aM c2 c5) w K) w fun c6 w =>
 aD pg (iO c0 (.bool true) c6) w fun c7 w =>
 gU c7
  (aD pg (aL 133 ZH) w fun c8 w =>
  aD pg (aT 133 b6 c8) w fun _u w =>
  Ac pg 133 b6 w fun r0 => R (.tuple #[r0, (aNZ 0)]) w)
  (aD pg (aL 133 ZH) (dr w) fun d0 w_ => w_ = (dr w) /\
  aD pg (aK 138 b3 1) (dr w) fun d1 w_ => w_ = (dr w) /\
  aD pg (aL 136 d1) (dr w) fun d2 w_ => w_ = (dr w) /\
  (dr w) = (dr w) /\
  aD pg (cI 136 d2 MA) (dr w) fun d4 w_ => w_ = (dr w) /\
  aD pg (aK 145 d4 1) (dr w) fun d5 w_ => w_ = (dr w) /\
  aD pg (aL 3 d5) (dr w) fun d6 w_ => w_ = (dr w) /\
  aS pg zE #[d0, d6] (dr w) fun d7 aD7 =>
  aD7 = aD7 /\
  aD pg (bP d7 0) aD7 fun d8 w_ => w_ = aD7 /\
  aD pg (bP d7 1) aD7 fun d9 w_ => w_ = aD7 /\
  aD pg (aT 133 ZH d8) aD7 fun _u11 A8 =>
  (jH pg (bP d7 1) d9 A8 /\ True) /\
  A8 = A8 /\
  aD pg (aL 133 ZH) (dr A8) fun e0 w_ => w_ = (dr A8) /\
  aD pg (aK 138 b3 1) (dr A8) fun e1 w_ => w_ = (dr A8) /\
  aD pg (aL 136 e1) (dr A8) fun e2 w_ => w_ = (dr A8) /\
  (dr A8) = (dr A8) /\
  aD pg (cI 136 e2 MA) (dr A8) fun e4 w_ => w_ = (dr A8) /\
  aD pg (aK 145 e4 2) (dr A8) fun e5 w_ => w_ = (dr A8) /\
  aD pg (aL 3 e5) (dr A8) fun e6 w_ => w_ = (dr A8) /\
  (dr A8) = (dr A8) /\
  aD pg (jP 24 3 d9) (dr A8) fun e8 w_ => w_ = (dr A8) /\
  aD pg (aI .add 3 aM aM e6 e8) (dr A8) fun e9 w_ => w_ = (dr A8) /\
  aD pg (aT 133 b6 e0) (dr A8) fun _u10 Xh =>
  (jH pg (aI .add 3 aM aM e6 e8) e9 Xh /\ jH pg (jP 24 3 d9) e8 Xh /\ jH pg (aL 3 e5) e6 Xh /\ jH pg (aK 145 e4 2) e5 Xh /\ jH pg (cI 136 e2 MA) e4 Xh /\ jH pg (aL 136 e1) e2 Xh /\ jH pg (aK 138 b3 1) e1 Xh /\ True) /\
  Xh = Xh /\
  Ac pg 133 b6 Xh fun r0 => R (.tuple #[r0, e9]) Xh)
theorem apT (R : K1) (hr : HR Zt R Q) (h : QR R (g 0) (g 1) (g 2) w) : bD pg Wn UI Q g w :=
 eK (kn := no) (l := []) h gR hr trivial
def ayJ (a0 a1 a2 : aNY) (w : aNX) (R : K1) : Prop :=
 QR R a0 a1 a2 w
theorem atX {a0 a1 a2 : aNY} {w : aNX} {R : K1} (h : ayJ a0 a1 a2 w R) : aS pg Mv #[a0, a1, a2] w R := by
 refine uP (ann := Wn) Tryz.f73 UI [a0, a1, a2] Zt 40 TryzM.mixed Tryz.func73 ?_
 exact (apT _ _ _ R (fun _ _ h => h) h)
def nH : FA := ⟨Qw, fun i => .leaf ([], []) []⟩
def uE : List ResultVar := [.cell 4 133, .tmp 5]
noncomputable def mL : Code := dH Tryz.f74
def TZ (R : K1) (CI b4 : aNY) (w : aNX) : Prop :=
 aD pg (aL 133 CI) w fun i1 w =>
 aD pg (aT 133 b4 i1) w fun _u w =>
 Ac pg 133 b4 w fun r0 => R (.tuple #[r0, (.int .u8 0)]) w
theorem atQ (R : K1) (hr : HR uE R Q) (h : TZ R (g 3) (g 4) w) : bD pg nH (aB 1 (aB 2 mL)) Q g w :=
 eK (kn := no) (l := []) h gR hr trivial
def MI (kn : K5) (cQ CI b4 jW lS : aNY) (w : aNX) : Prop :=
 aD pg (aI .add 3 aM aM lS (aNZ 1)) w fun c4 w =>
 kn cQ CI b4 jW c4 w
theorem avT (kn : K5) (hn : N5 Q kn 0 3 4 6 7) (h : MI kn (g 0) (g 3) (g 4) (g 6) (g 7) w) : bD pg nH (aB 1 (aB 1 (bI (bI (aB 1 (aF 1 (aB 2 mL))))))) Q g w :=
 eK (kr := no) (l := []) h hn gR trivial
def Ms (kn : K6) (k2 : K5) (R : K1) (cQ CI b4 jW lS mY : aNY) (w : aNX) : Prop :=
 aD pg (lI .len #[84] 3 [cQ]) w fun d8 w =>
 aD pg (aI .lss 3 aM aM mY d8) w fun d9 w =>
 gU d9
  (aD pg (cI 84 cQ mY) w fun e4 w =>
  aD pg (aK 148 e4 0) w fun e5 w =>
  aD pg (aL 3 e5) w fun e6 w =>
  aD pg (aI .eql 3 (.tmp 36) (.tmp 37) e6 lS) w fun e8 w =>
  Gd (gQ e8 true) (fun K => K cQ w) w fun f0 w =>
  Gd (gQ e8 true) (fun K => K mY w) w fun f1 w =>
  Gd (gQ e8 true) (fun K => aD pg (cI 84 f0 f1) w K) w fun f2 w =>
  Gd (gQ e8 true) (fun K => aD pg (aK 148 f2 1) w K) w fun f3 w =>
  Gd (gQ e8 true) (fun K => aD pg (aL 3 f3) w K) w fun f4 w =>
  Gd (gQ e8 true) (fun K => K jW w) w fun f5 w =>
  Gd (gQ e8 true) (fun K => aD pg (aI .eql 3 (.tmp 44) (.tmp 45) f4 f5) w K) w fun f6 w =>
  aD pg (iO e8 f6 (.bool false)) w fun f7 w =>
  gU f7
   (aD pg (aL 133 CI) w fun f8 w =>
   aD pg (jP 3 5 mY) w fun i0 w =>
   aD pg (aT 133 b4 f8) w fun _u w =>
   Ac pg 133 b4 w fun r0 => R (.tuple #[r0, i0]) w)
   (aD pg (aI .add 3 aM aM mY (aNZ 1)) w fun e1 w =>
   kn cQ CI b4 jW lS e1 w))
  (k2 cQ CI b4 jW lS w)
theorem avE (kn : K6) (k2 : K5) (R : K1) (hn : N6 Q kn 0 3 4 6 7 10) (h2 : E5 Q k2 2 0 3 4 6 7) (hr : HR uE R Q) (h : Ms kn k2 R (g 0) (g 3) (g 4) (g 6) (g 7) (g 10) w) : bD pg nH (bI (bI (aB 4 (bI (aF 1 (aB 1 (bI (bI (aB 1 (aF 1 (aB 2 mL))))))))))) Q g w :=
 eK (l := [(2, fun g w => k2 (g 0) (g 3) (g 4) (g 6) (g 7) w)]) h hn hr ⟨h2, trivial⟩
def Up (k2 : K5) (R : K1) (cQ CI b4 jW lS mY : aNY) (w : aNX) : Prop :=
 cR (fun (X : aNY -> K0) (t : aNY) (w : aNX) => Ms (fun _ _ _ _ _ mY w => X mY w) k2 R cQ CI b4 jW lS t w) mY w
theorem avX (k2 : K5) (R : K1) (h2 : E5 Q k2 2 0 3 4 6 7) (hr : HR uE R Q) (h : Up k2 R (g 0) (g 3) (g 4) (g 6) (g 7) (g 10) w) : bD pg nH (bI (aB 4 (bI (aF 1 (aB 1 (bI (bI (aB 1 (aF 1 (aB 2 mL)))))))))) Q g w := by
 refine CX (fun g : Env => g 10) (fun X t w => Ms (fun _ _ _ _ _ mY w => X mY w) k2 R (g 0) (g 3) (g 4) (g 6) (g 7) t w) h (fun X g1 w1 ha hL => ?_)
 rw [<- kA 0 ha, <- kA 3 ha, <- kA 4 ha, <- kA 6 ha, <- kA 7 ha] at hL
 exact (avE _ g1 w1 (fun _ _ _ _ _ mY w => X mY w) k2 R (fun _ _ h => h) h2 hr hL)
def TJ (kn : K5) (R : K1) (cQ CI b4 jW lS mY : aNY) (w : aNX) : Prop :=
 Up kn R cQ CI b4 jW lS mY w
def TC (kn : K6) (cQ CI b4 jW lS : aNY) (w : aNX) : Prop :=
 aD pg (aL 133 CI) w fun c6 w =>
 aS pg zE #[c6, (aNZ 1)] w fun c7 w =>
 aD pg (bP c7 0) w fun c8 w =>
 aD pg (bP c7 1) w fun c9 w =>
 aD pg (fW 133) w fun v_8 w =>
 aD pg (aT 133 v_8 c8) w fun _u w =>
 aD pg (aL 133 v_8) w fun d0 w =>
 aD pg (aT 133 CI d0) w fun _u w =>
 aD pg (aI .mul 3 aM aM jW (aNZ 2)) w fun d2 w =>
 aD pg (jP 24 3 c9) w fun d4 w =>
 aD pg (aI .add 3 aM aM d2 d4) w fun d5 w =>
 kn cQ CI b4 d5 lS (aNZ 0) w
theorem avJ (kn : K6) (hn : N6 Q kn 0 3 4 6 7 10) (h : TC kn (g 0) (g 3) (g 4) (g 6) (g 7) w) : bD pg nH (aF 4 (bI (aF 1 (aB 1 (bI (bI (aB 1 (aF 1 (aB 2 mL))))))))) Q g w :=
 eK (kr := no) (l := []) h hn gR trivial
def alU (kn : K5) (R : K1) (cQ CI b4 jW lS : aNY) (w : aNX) : Prop :=
 TC (fun cQ CI b4 jW lS mY w => TJ kn R cQ CI b4 jW lS mY w) cQ CI b4 jW lS w
def Ua (kn : K5) (R : K1) (cQ CI b4 jW lS : aNY) (w : aNX) : Prop :=
 alU kn R cQ CI b4 jW lS w
def TA (kn : K5) (R : K1) (cQ CI b4 jW lS : aNY) (w : aNX) : Prop :=
 Ua (fun cQ CI b4 jW lS w => MI kn cQ CI b4 jW lS w) R cQ CI b4 jW lS w
theorem auT (kn : K5) (R : K1) (hn : N5 Q kn 0 3 4 6 7) (hr : HR uE R Q) (h : Ua kn R (g 0) (g 3) (g 4) (g 6) (g 7) w) : bD pg nH (aF 1 (aB 1 (bI (bI (aB 1 (aF 1 (aB 2 mL))))))) Q g w :=
 xC 1 (jA 4 (avJ _ g w (TJ kn R) (fun g w h => aJ (xC 2 (avX _ g w kn R hn hr h))) h))
def Rx (kn : K5) (k0 : K2) (cQ CI b4 jW lS : aNY) (w : aNX) : Prop :=
 aD pg (aI .leq 3 aM aM lS (aNZ 11)) w fun c2 w =>
 gU c2
  (kn cQ CI b4 jW lS w)
  (k0 CI b4 w)
theorem anW (kn : K5) (k0 : K2) (hn : N5 Q kn 0 3 4 6 7) (h0 : E2 Q k0 0 3 4) (h : Rx kn k0 (g 0) (g 3) (g 4) (g 6) (g 7) w) : bD pg nH (aF 1 (bI (bI (aB 1 (aF 1 (aB 2 mL)))))) Q g w :=
 eK (kr := no) (l := [(0, fun g w => k0 (g 3) (g 4) w)]) h hn gR ⟨h0, trivial⟩
def Jd (kn : K5) (k0 : K2) (R : K1) (cQ CI b4 jW lS : aNY) (w : aNX) : Prop :=
 Rx (fun cQ CI b4 jW lS w => TA kn R cQ CI b4 jW lS w) k0 cQ CI b4 jW lS w
def Ry (k0 : K2) (R : K1) (cQ CI b4 jW lS : aNY) (w : aNX) : Prop :=
 cR (fun (X : (aNY × aNY) -> K0) (t : aNY × aNY) (w : aNX) => Jd (fun _ _ _ jW lS w => X (jW, lS) w) k0 R cQ CI b4 t.1 t.2 w) (jW, lS) w
theorem aoK (kn : K5) (k0 : K2) (R : K1) (hn : N5 Q kn 0 3 4 6 7) (h0 : E2 Q k0 0 3 4) (hr : HR uE R Q) (h : Jd kn k0 R (g 0) (g 3) (g 4) (g 6) (g 7) w) : bD pg nH (bI (bI (aB 1 (aF 1 (aB 2 mL))))) Q g w :=
 jA 1 (anW _ g w (TA kn R) k0 (fun g w h => aJ (jA 1 (auT _ g w (MI kn) R (fun g w h => aJ (avT _ g w kn hn h)) hr h))) h0 h)
theorem arM (k0 : K2) (R : K1) (h0 : E2 Q k0 0 3 4) (hr : HR uE R Q) (h : Ry k0 R (g 0) (g 3) (g 4) (g 6) (g 7) w) : bD pg nH (bI (aB 1 (aF 1 (aB 2 mL)))) Q g w := by
 refine CX (fun g : Env => (g 6, g 7)) (fun X t w => Jd (fun _ _ _ jW lS w => X (jW, lS) w) k0 R (g 0) (g 3) (g 4) t.1 t.2 w) h (fun X g1 w1 ha hL => ?_)
 rw [<- kA 0 ha, <- kA 3 ha, <- kA 4 ha] at hL
 exact (aoK _ g1 w1 (fun _ _ _ jW lS w => X (jW, lS) w) k0 R (fun _ _ h => h) h0 hr hL)
def Q4 (kn : K2) (R : K1) (cQ CI b4 jW lS : aNY) (w : aNX) : Prop :=
 Ry kn R cQ CI b4 jW lS w
def Sc (kn : K5) (cQ CI b4 jW : aNY) (w : aNX) : Prop :=
 kn cQ CI b4 jW (aNZ 1) w
theorem aoI (kn : K5) (hn : N5 Q kn 0 3 4 6 7) (h : Sc kn (g 0) (g 3) (g 4) (g 6) w) : bD pg nH (aF 1 (aF 1 (aB 2 mL))) Q g w :=
 eK (kr := no) (l := []) h hn gR trivial
def RV (kn : K2) (R : K1) (cQ CI b4 jW : aNY) (w : aNX) : Prop :=
 Sc (fun cQ CI b4 jW lS w => Q4 kn R cQ CI b4 jW lS w) cQ CI b4 jW w
def Rb (R : K1) (cQ CI b4 jW : aNY) (w : aNX) : Prop :=
 RV (fun CI b4 w => TZ R CI b4 w) R cQ CI b4 jW w
theorem amR (kn : K2) (R : K1) (hn : N2 Q kn 3 4) (hr : HR uE R Q) (h : RV kn R (g 0) (g 3) (g 4) (g 6) w) : bD pg nH (aF 1 (aB 2 mL)) Q g w :=
 jA 1 (aoI _ g w (Q4 kn R) (fun g w h => aJ (xC 0 (arM _ g w kn R hn hr h))) h)
def QN (kn : K4) (cQ b_1 : aNY) (w : aNX) : Prop :=
 aD pg (B4 133 b_1) w fun CI w =>
 aD pg (fW 133) w fun b4 w =>
 kn cQ CI b4 (aNZ 0) w
theorem arN (kn : K4) (hn : N4 Q kn 0 3 4 6) (h : QN kn (g 0) (g 1) w) : bD pg nH (aF 2 mL) Q g w :=
 eK (kr := no) (l := []) h hn gR trivial
def Rg (R : K1) (cQ b_1 : aNY) (w : aNX) : Prop :=
 QN (fun cQ CI b4 jW w => Rb R cQ CI b4 jW w) cQ b_1 w
theorem apZ (R : K1) (hr : HR uE R Q) (h : Rg R (g 0) (g 1) w) : bD pg nH mL Q g w :=
 jA 2 (arN _ g w (Rb R) (fun g w h => aJ (jA 1 (amR _ g w (TZ R) R (fun g w h => aJ (atQ _ g w R hr h)) hr h))) h)
def aAQ (a0 a1 : aNY) (w : aNX) (R : K1) : Prop :=
 Rg R a0 a1 w
theorem ayK {a0 a1 : aNY} {w : aNX} {R : K1} (h : aAQ a0 a1 w R) : aS pg Qw #[a0, a1] w R := by
 refine uP (ann := nH) Tryz.f74 mL [a0, a1] uE 52 TryzM.mixed Tryz.func74 ?_
 exact (apZ _ _ _ R (fun _ _ h => h) h)
def mV : FA := ⟨Bc, fun i => .leaf ([], []) []⟩
def D9 : List ResultVar := [.tmp 2]
noncomputable def mM : Code := dH Tryz.f75
def zU (R : K1) (ZS : aNY) (w : aNX) : Prop :=
 R ZS w
theorem VN (R : K1) (hr : HR D9 R Q) (h : zU R (g 3) w) : bD pg mV (aB 1 (aB 1 (aB 2 mM))) Q g w :=
 eK (kn := no) (l := []) h gR hr trivial
def zJ (kn : K3) (k0 : K1) (oL ZS lG : aNY) (w : aNX) : Prop :=
 aD pg (lI .len #[22] 3 [oL]) w fun c4 w =>
 aD pg (aI .lss 3 aM aM lG c4) w fun c5 w =>
 gU c5
  (aD pg (cI 22 oL lG) w fun d1 w =>
  aD pg (aL 5 d1) w fun d2 w =>
  aD pg (lI .max #[5, 5] 5 [ZS, d2]) w fun d3 w =>
  aD pg (aI .add 3 aM aM lG (aNZ 1)) w fun c7 w =>
  kn oL d3 c7 w)
  (k0 ZS w)
theorem VG (kn : K3) (k0 : K1) (hn : N3 Q kn 0 3 4) (h0 : E1 Q k0 0 3) (h : zJ kn k0 (g 0) (g 3) (g 4) w) : bD pg mV (bI (bI (aB 1 (aF 1 (aB 1 (aB 2 mM)))))) Q g w :=
 eK (kr := no) (l := [(0, fun g w => k0 (g 3) w)]) h hn gR ⟨h0, trivial⟩
def Ed (k0 : K1) (oL ZS lG : aNY) (w : aNX) : Prop :=
 cR (fun (X : (aNY × aNY) -> K0) (t : aNY × aNY) (w : aNX) => zJ (fun _ ZS lG w => X (ZS, lG) w) k0 oL t.1 t.2 w) (ZS, lG) w
theorem Vp (k0 : K1) (h0 : E1 Q k0 0 3) (h : Ed k0 (g 0) (g 3) (g 4) w) : bD pg mV (bI (aB 1 (aF 1 (aB 1 (aB 2 mM))))) Q g w := by
 refine CX (fun g : Env => (g 3, g 4)) (fun X t w => zJ (fun _ ZS lG w => X (ZS, lG) w) k0 (g 0) t.1 t.2 w) h (fun X g1 w1 ha hL => ?_)
 rw [<- kA 0 ha] at hL
 exact (VG _ g1 w1 (fun _ ZS lG w => X (ZS, lG) w) k0 (fun _ _ h => h) h0 hL)
def D5 (kn : K1) (oL ZS lG : aNY) (w : aNX) : Prop :=
 Ed kn oL ZS lG w
def Ex (kn : K3) (oL ZS : aNY) (w : aNX) : Prop :=
 kn oL ZS (aNZ 1) w
theorem VF (kn : K3) (hn : N3 Q kn 0 3 4) (h : Ex kn (g 0) (g 3) w) : bD pg mV (aF 1 (aF 1 (aB 1 (aB 2 mM)))) Q g w :=
 eK (kr := no) (l := []) h hn gR trivial
def Ef (kn : K1) (oL ZS : aNY) (w : aNX) : Prop :=
 Ex (fun oL ZS lG w => D5 kn oL ZS lG w) oL ZS w
def DT (R : K1) (oL ZS : aNY) (w : aNX) : Prop :=
 Ef (fun ZS w => zU R ZS w) oL ZS w
theorem U3 (kn : K1) (hn : N1 Q kn 3) (h : Ef kn (g 0) (g 3) w) : bD pg mV (aF 1 (aB 1 (aB 2 mM))) Q g w :=
 jA 1 (VF _ g w (D5 kn) (fun g w h => aJ (xC 0 (Vp _ g w kn hn h))) h)
def Eh (kn : K2) (oL : aNY) (w : aNX) : Prop :=
 aD pg (cI 22 oL (aNZ 0)) w fun c0 w =>
 aD pg (aL 5 c0) w fun c1 w =>
 kn oL c1 w
theorem VL (kn : K2) (hn : N2 Q kn 0 3) (h : Eh kn (g 0) w) : bD pg mV (aF 1 (aB 2 mM)) Q g w :=
 eK (kr := no) (l := []) h hn gR trivial
def Eu (R : K1) (oL : aNY) (w : aNX) : Prop :=
 Eh (fun oL ZS w => DT R oL ZS w) oL w
def CG (kn : K1) (oL : aNY) (w : aNX) : Prop :=
 aD pg (lI .len #[22] 3 [oL]) w fun b6 w =>
 aD pg (aI .lss 3 aM aM b6 (aNZ 1)) w fun b7 w =>
 gU b7
  (aD pg (aEr 9 (.string ⟨#[115, 108, 105, 99, 101, 115, 46, 77, 97, 120, 58, 32, 101, 109, 112, 116, 121, 32, 108, 105, 115, 116]⟩)) w fun b8 w =>
  aD pg (V (Instr.panic b8)) w fun _u w =>
  kn oL w)
  (kn oL w)
theorem Ub (kn : K1) (hn : N1 Q kn 0) (h : CG kn (g 0) w) : bD pg mV (aF 2 mM) Q g w :=
 eK (kr := no) (l := []) h hn gR trivial
def CH (R : K1) (oL : aNY) (w : aNX) : Prop :=
 CG (fun oL w => Eu R oL w) oL w
theorem T6 (R : K1) (hr : HR D9 R Q) (h : CH R (g 0) w) : bD pg mV mM Q g w :=
 jA 2 (Ub _ g w (Eu R) (fun g w h => aJ (jA 1 (VL _ g w (DT R) (fun g w h => aJ (jA 1 (U3 _ g w (zU R) (fun g w h => aJ (VN _ g w R hr h)) h))) h))) h)
def Uy (a0 : aNY) (w : aNX) (R : K1) : Prop :=
 CH R a0 w
theorem WD {a0 : aNY} {w : aNX} {R : K1} (h : Uy a0 w R) : aS pg Bc #[a0] w R := by
 refine uP (ann := mV) Tryz.f75 mM [a0] D9 25 TryzM.mixed Tryz.func75 ?_
 exact (T6 _ _ _ R (fun _ _ h => h) h)
def iY : FA := ⟨tS, fun i => .leaf ([], []) []⟩
def B3 : List ResultVar := [.tmp 2, .tmp 3]
noncomputable def iF : Code := dH Tryz.f76
def Ce (R : K1) (aU : aNY) (w : aNX) : Prop :=
 R (.tuple #[aU, (aNZ 0)]) w
theorem Yg (R : K1) (hr : HR B3 R Q) (h : Ce R (g 5) w) : bD pg iY (aB 1 (aB 5 iF)) Q g w :=
 eK (kn := no) (l := []) h gR hr trivial
def Ck (kn : K5) (cS mG aU oZ EN : aNY) (w : aNX) : Prop :=
 aD pg (aI .add 3 aM aM EN (aNZ 1)) w fun d0 w =>
 kn cS mG aU oZ d0 w
theorem Zh (kn : K5) (hn : N5 Q kn 0 4 5 6 7) (h : Ck kn (g 0) (g 4) (g 5) (g 6) (g 7) w) : bD pg iY (aB 1 (aB 1 (bI (bI (aB 1 (aF 1 (aB 5 iF))))))) Q g w :=
 eK (kr := no) (l := []) h hn gR trivial
def Cq (kn : K7) (cS mG aU oZ EN d2 d3 : aNY) (w : aNX) : Prop :=
 aD pg (aI .add 3 aM aM d3 (aNZ 1)) w fun i0 w =>
 kn cS mG aU oZ EN d2 i0 w
theorem Zi (kn : K7) (hn : N7 Q kn 0 4 5 6 7 22 23) (h : Cq kn (g 0) (g 4) (g 5) (g 6) (g 7) (g 22) (g 23) w) : bD pg iY (aB 3 (bI (bI (aB 1 (bI (aF 1 (aB 1 (bI (bI (aB 1 (aF 1 (aB 5 iF)))))))))))) Q g w :=
 eK (kr := no) (l := []) h hn gR trivial
def HS (kn : K7) (k2 : K5) (cS mG aU oZ EN d2 d3 : aNY) (w : aNX) : Prop :=
 aD pg (aI .lss 3 aM aM d3 d2) w fun d4 w =>
 gU d4
  (aD pg (cI 22 cS d3) w fun d8 w =>
  aD pg (aL 5 d8) w fun d9 w =>
  aD pg (jP 5 3 d9) w fun e0 w =>
  aD pg (aI .neq 3 (.tmp 30) (.tmp 31) e0 EN) w fun e2 w =>
  gU e2
   (kn cS mG aU oZ EN d2 d3 w)
   (aD pg (aI .add 3 aM aM mG (aNZ 1)) w fun e6 w =>
   aD pg (aI .sub 3 aM aM e6 EN) w fun e8 w =>
   aD pg (aI .sub 3 aM aM EN (aNZ 1)) w fun f1 w =>
   aD pg (aI .shr 3 aM aM oZ f1) w fun f2 w =>
   aD pg (fX 171 [(0, e8), (1, f2)]) w fun f3 w =>
   aD pg (cI 152 aU d3) w fun f4 w =>
   aD pg (aT 171 f4 f3) w fun _u w =>
   aD pg (aI .sub 3 aM aM EN (aNZ 1)) w fun f7 w =>
   aD pg (aI .shl 3 aM aM (aNZ 1) f7) w fun f8 w =>
   aD pg (aI .add 3 aM aM oZ f8) w fun f9 w =>
   kn cS mG aU f9 EN d2 d3 w))
  (k2 cS mG aU oZ EN w)
theorem Yi (kn : K7) (k2 : K5) (hn : N7 Q kn 0 4 5 6 7 22 23) (h2 : E5 Q k2 2 0 4 5 6 7) (h : HS kn k2 (g 0) (g 4) (g 5) (g 6) (g 7) (g 22) (g 23) w) : bD pg iY (aF 3 (bI (bI (aB 1 (bI (aF 1 (aB 1 (bI (bI (aB 1 (aF 1 (aB 5 iF)))))))))))) Q g w :=
 eK (kr := no) (l := [(2, fun g w => k2 (g 0) (g 4) (g 5) (g 6) (g 7) w)]) h hn gR ⟨h2, trivial⟩
def Ca (kn : K7) (k2 : K5) (cS mG aU oZ EN d2 d3 : aNY) (w : aNX) : Prop :=
 HS (fun cS mG aU oZ EN d2 d3 w => Cq kn cS mG aU oZ EN d2 d3 w) k2 cS mG aU oZ EN d2 d3 w
def HF (k2 : K5) (cS mG aU oZ EN d2 d3 : aNY) (w : aNX) : Prop :=
 cR (fun (X : (aNY × aNY) -> K0) (t : aNY × aNY) (w : aNX) => Ca (fun _ _ _ oZ _ _ d3 w => X (oZ, d3) w) k2 cS mG aU t.1 EN d2 t.2 w) (oZ, d3) w
theorem YE (kn : K7) (k2 : K5) (hn : N7 Q kn 0 4 5 6 7 22 23) (h2 : E5 Q k2 2 0 4 5 6 7) (h : Ca kn k2 (g 0) (g 4) (g 5) (g 6) (g 7) (g 22) (g 23) w) : bD pg iY (bI (bI (aB 1 (bI (aF 1 (aB 1 (bI (bI (aB 1 (aF 1 (aB 5 iF))))))))))) Q g w :=
 jA 3 (Yi _ g w (Cq kn) k2 (fun g w h => aJ (Zi _ g w kn hn h)) h2 h)
theorem Za (k2 : K5) (h2 : E5 Q k2 2 0 4 5 6 7) (h : HF k2 (g 0) (g 4) (g 5) (g 6) (g 7) (g 22) (g 23) w) : bD pg iY (bI (aB 1 (bI (aF 1 (aB 1 (bI (bI (aB 1 (aF 1 (aB 5 iF)))))))))) Q g w := by
 refine CX (fun g : Env => (g 6, g 23)) (fun X t w => Ca (fun _ _ _ oZ _ _ d3 w => X (oZ, d3) w) k2 (g 0) (g 4) (g 5) t.1 (g 7) (g 22) t.2 w) h (fun X g1 w1 ha hL => ?_)
 rw [<- kA 0 ha, <- kA 4 ha, <- kA 5 ha, <- kA 7 ha, <- kA 22 ha] at hL
 exact (YE _ g1 w1 (fun _ _ _ oZ _ _ d3 w => X (oZ, d3) w) k2 (fun _ _ h => h) h2 hL)
def HG (kn : K5) (cS mG aU oZ EN d2 d3 : aNY) (w : aNX) : Prop :=
 HF kn cS mG aU oZ EN d2 d3 w
def Is (kn : K7) (cS mG aU oZ EN : aNY) (w : aNX) : Prop :=
 aD pg (lI .len #[22] 3 [cS]) w fun d2 w =>
 kn cS mG aU oZ EN d2 (aNZ 0) w
theorem YL (kn : K7) (hn : N7 Q kn 0 4 5 6 7 22 23) (h : Is kn (g 0) (g 4) (g 5) (g 6) (g 7) w) : bD pg iY (aF 1 (bI (aF 1 (aB 1 (bI (bI (aB 1 (aF 1 (aB 5 iF))))))))) Q g w :=
 eK (kr := no) (l := []) h hn gR trivial
def Tp (kn : K5) (cS mG aU oZ EN : aNY) (w : aNX) : Prop :=
 Is (fun cS mG aU oZ EN d2 d3 w => HG kn cS mG aU oZ EN d2 d3 w) cS mG aU oZ EN w
def Gh (kn : K5) (cS mG aU oZ EN : aNY) (w : aNX) : Prop :=
 Tp kn cS mG aU oZ EN w
def Gb (kn : K5) (cS mG aU oZ EN : aNY) (w : aNX) : Prop :=
 Gh (fun cS mG aU oZ EN w => Ck kn cS mG aU oZ EN w) cS mG aU oZ EN w
theorem WG (kn : K5) (hn : N5 Q kn 0 4 5 6 7) (h : Gh kn (g 0) (g 4) (g 5) (g 6) (g 7) w) : bD pg iY (aF 1 (aB 1 (bI (bI (aB 1 (aF 1 (aB 5 iF))))))) Q g w :=
 xC 1 (jA 1 (YL _ g w (HG kn) (fun g w h => aJ (xC 2 (Za _ g w kn hn h))) h))
def GM (kn : K5) (k0 : K1) (cS mG aU oZ EN : aNY) (w : aNX) : Prop :=
 aD pg (aI .leq 3 aM aM EN mG) w fun c8 w =>
 gU c8
  (kn cS mG aU oZ EN w)
  (k0 aU w)
theorem Wv (kn : K5) (k0 : K1) (hn : N5 Q kn 0 4 5 6 7) (h0 : E1 Q k0 0 5) (h : GM kn k0 (g 0) (g 4) (g 5) (g 6) (g 7) w) : bD pg iY (aF 1 (bI (bI (aB 1 (aF 1 (aB 5 iF)))))) Q g w :=
 eK (kr := no) (l := [(0, fun g w => k0 (g 5) w)]) h hn gR ⟨h0, trivial⟩
def AV (kn : K5) (k0 : K1) (cS mG aU oZ EN : aNY) (w : aNX) : Prop :=
 GM (fun cS mG aU oZ EN w => Gb kn cS mG aU oZ EN w) k0 cS mG aU oZ EN w
def ET (k0 : K1) (cS mG aU oZ EN : aNY) (w : aNX) : Prop :=
 cR (fun (X : (aNY × aNY) -> K0) (t : aNY × aNY) (w : aNX) => AV (fun _ _ _ oZ EN w => X (oZ, EN) w) k0 cS mG aU t.1 t.2 w) (oZ, EN) w
theorem Wy (kn : K5) (k0 : K1) (hn : N5 Q kn 0 4 5 6 7) (h0 : E1 Q k0 0 5) (h : AV kn k0 (g 0) (g 4) (g 5) (g 6) (g 7) w) : bD pg iY (bI (bI (aB 1 (aF 1 (aB 5 iF))))) Q g w :=
 jA 1 (Wv _ g w (Gb kn) k0 (fun g w h => aJ (jA 1 (WG _ g w (Ck kn) (fun g w h => aJ (Zh _ g w kn hn h)) h))) h0 h)
theorem WA (k0 : K1) (h0 : E1 Q k0 0 5) (h : ET k0 (g 0) (g 4) (g 5) (g 6) (g 7) w) : bD pg iY (bI (aB 1 (aF 1 (aB 5 iF)))) Q g w := by
 refine CX (fun g : Env => (g 6, g 7)) (fun X t w => AV (fun _ _ _ oZ EN w => X (oZ, EN) w) k0 (g 0) (g 4) (g 5) t.1 t.2 w) h (fun X g1 w1 ha hL => ?_)
 rw [<- kA 0 ha, <- kA 4 ha, <- kA 5 ha] at hL
 exact (Wy _ g1 w1 (fun _ _ _ oZ EN w => X (oZ, EN) w) k0 (fun _ _ h => h) h0 hL)
def Fy (kn : K1) (cS mG aU oZ EN : aNY) (w : aNX) : Prop :=
 ET kn cS mG aU oZ EN w
def G1 (kn : K5) (cS mG aU oZ : aNY) (w : aNX) : Prop :=
 kn cS mG aU oZ (aNZ 1) w
theorem Wz (kn : K5) (hn : N5 Q kn 0 4 5 6 7) (h : G1 kn (g 0) (g 4) (g 5) (g 6) w) : bD pg iY (aF 1 (aF 1 (aB 5 iF))) Q g w :=
 eK (kr := no) (l := []) h hn gR trivial
def Fc (kn : K1) (cS mG aU oZ : aNY) (w : aNX) : Prop :=
 G1 (fun cS mG aU oZ EN w => Fy kn cS mG aU oZ EN w) cS mG aU oZ w
def GF (R : K1) (cS mG aU oZ : aNY) (w : aNX) : Prop :=
 Fc (fun aU w => Ce R aU w) cS mG aU oZ w
theorem WN (kn : K1) (hn : N1 Q kn 5) (h : Fc kn (g 0) (g 4) (g 5) (g 6) w) : bD pg iY (aF 1 (aB 5 iF)) Q g w :=
 jA 1 (Wz _ g w (Fy kn) (fun g w h => aJ (xC 0 (WA _ g w kn hn h))) h)
def A9 (kn : K4) (R : K1) (cS : aNY) (w : aNX) : Prop :=
 aS pg Af #[cS] w fun c0 w =>
 aD pg (aI .eql 3 (.tmp 11) (.const (aNZ 0)) c0 (aNZ 0)) w fun c2 w =>
 gU c2
  (R (.tuple #[(.slice none 0 0), (aNZ 1)]) w)
  (aD pg (lI .len #[22] 3 [cS]) w fun c4 w =>
  aD pg (qG 152 c4 c4) w fun c5 w =>
  kn cS c0 c5 (aNZ 0) w)
theorem Xv (kn : K4) (R : K1) (hn : N4 Q kn 0 4 5 6) (hr : HR B3 R Q) (h : A9 kn R (g 0) w) : bD pg iY (aF 5 iF) Q g w :=
 eK (l := []) h hn hr trivial
def Bh (R : K1) (cS : aNY) (w : aNX) : Prop :=
 A9 (fun cS mG aU oZ w => GF R cS mG aU oZ w) R cS w
theorem XT (R : K1) (hr : HR B3 R Q) (h : Bh R (g 0) w) : bD pg iY iF Q g w :=
 jA 5 (Xv _ g w (GF R) R (fun g w h => aJ (jA 1 (WN _ g w (Ce R) (fun g w h => aJ (Yg _ g w R hr h)) h))) hr h)
def Rn (a0 : aNY) (w : aNX) (R : K1) : Prop :=
 Bh R a0 w
theorem Ph {a0 : aNY} {w : aNX} {R : K1} (h : Rn a0 w R) : aS pg tS #[a0] w R := by
 refine uP (ann := iY) Tryz.f76 iF [a0] B3 52 TryzM.mixed Tryz.func76 ?_
 exact (XT _ _ _ R (fun _ _ h => h) h)
def nW : FA := ⟨nF, fun i => match Nat.beq i 6 with | true => .leaf ([12], []) [(false, []), (false, []), (false, []), (false, []), (false, []), (false, []), (false, []), (false, []), (false, []), (false, []), (false, []), (false, []), (true, [])] | false => .leaf ([], []) []⟩
def BU : List ResultVar := [.cell 4 22, .cell 5 27]
noncomputable def dX : Code := dH Tryz.f77
def Bf (kn : K0) (R : K1) (nI b4 b5 VP s_8 : aNY) (w : aNX) : Prop :=
 aD pg (jP 5 3 s_8) w fun c5 w =>
 aD pg (aL 152 nI) w fun c6 w =>
 aD pg (lI .len #[152] 3 [c6]) w fun c7 w =>
 aD pg (aI .geq 3 aM aM c5 c7) w fun c8 w =>
 Gd (gQ c8 false) (fun K => aD pg (aL 152 nI) w K) w fun d0 w =>
 Gd (gQ c8 false) (fun K => K s_8 w) w fun d1 w =>
 Gd (gQ c8 false) (fun K => aD pg (cI 152 d0 d1) w K) w fun d2 w =>
 Gd (gQ c8 false) (fun K => aD pg (aK 171 d2 0) w K) w fun d3 w =>
 Gd (gQ c8 false) (fun K => aD pg (aL 3 d3) w K) w fun d4 w =>
 Gd (gQ c8 false) (fun K => aD pg (aI .eql 3 (.tmp 24) (.const (aNZ 0)) d4 (aNZ 0)) w K) w fun d5 w =>
 aD pg (iO c8 (.bool true) d5) w fun d6 w =>
 gU d6
  (aD pg (aT 22 b4 (.slice none 0 0)) w fun _u w =>
  aD pg (aT 27 b5 (aNZ 1)) w fun _u w =>
  R (.tuple #[]) w)
  (aD pg (aL 186 VP) (dr w) fun d7 w_ => w_ = (dr w) /\
  aD pg (aL 152 nI) (dr w) fun d8 w_ => w_ = (dr w) /\
  (dr w) = (dr w) /\
  aD pg (cI 152 d8 s_8) (dr w) fun e0 w_ => w_ = (dr w) /\
  aD pg (aK 171 e0 1) (dr w) fun e1 w_ => w_ = (dr w) /\
  aD pg (aL 3 e1) (dr w) fun e2 w_ => w_ = (dr w) /\
  aD pg (jP 3 24 e2) (dr w) fun e3 w_ => w_ = (dr w) /\
  aD pg (aL 152 nI) (dr w) fun e4 w_ => w_ = (dr w) /\
  (dr w) = (dr w) /\
  aD pg (cI 152 e4 s_8) (dr w) fun e6 w_ => w_ = (dr w) /\
  aD pg (aK 171 e6 0) (dr w) fun e7 w_ => w_ = (dr w) /\
  aD pg (aL 3 e7) (dr w) fun e8 w_ => w_ = (dr w) /\
  aS pg rP #[d7, e3, e8] (dr w) fun e9 aKB =>
  kn aKB)
theorem Xc (kn : K0) (R : K1) (hn : N0 Q kn) (hr : HR aJR R Q) (h : Bf kn R (g 2) (g 4) (g 5) (g 6) (g 8) w) : bD pg nW (aEq dX) Q g w :=
 eK (l := []) h hn hr trivial
def GL (kn : K5) (nI b4 b5 VP c3 : aNY) (w : aNX) : Prop :=
 kn nI b4 b5 VP c3 w
theorem WX (kn : K5) (hn : N5 Q kn 2 4 5 6 8) (h : GL kn (g 2) (g 4) (g 5) (g 6) (g 13) w) : bD pg nW (aFV dX) Q g w :=
 eK (kr := no) (l := []) h hn gR trivial
def UY (l : Nat) (R : K1) (nI b4 b5 VP c3 : aNY) (w : aNX) : Prop :=
 GL (fun nI b4 b5 VP s_8 w => Rdy l w fun w => Bf (fun w => aDe l none R w) (fun _ w => aDe l (some .ret) R w) nI b4 b5 VP s_8 w) nI b4 b5 VP c3 w
theorem amL {l : Nat} {tmps : Array aNY} {w : aNX} {R : K1} (hsz : tmps.size = 42) (h : UY l R (Vc tmps 2) (Vc tmps 4) (Vc tmps 5) (Vc tmps 6) (Vc tmps 13) w) : aBn pg l nF tmps (aFV dX) (aEq dX) w R :=
 dsR (ann := nW) 42 TryzM.mixed hsz (WX (asQ pg nW l (aEq dX) R) (Vc tmps) w (fun nI b4 b5 VP s_8 w => Rdy l w fun w => Bf (aDe l none R) (fun _ w => aDe l (some .ret) R w) nI b4 b5 VP s_8 w) (fun g w h => let ⟨r, h1, h2, h3⟩ := h; ⟨r, h1, h2, (Xc (aB1 l R) g _ (aDe l none R) (fun _ w => aDe l (some .ret) R w) (fun _ _ h => h) (fun _ _ h => h) h3)⟩) h) (by kernel_rfl) (by kernel_rfl) (by kernel_rfl)
def BE (R : K1) (b4 b5 VP t1000003 : aNY) (w : aNX) : Prop :=
 aD pg (aL 186 VP) w fun f0 w =>
 aS pg wM #[f0] w fun f1 w =>
 aD pg (aT 22 b4 f1) w fun _u w =>
 aD pg (aT 27 b5 (aNZ 0)) w fun _u w =>
 Hh t1000003 w fun w => Ac pg 22 b4 w fun r0 => Ac pg 27 b5 w fun r1 => R (.tuple #[r0, r1]) w
theorem afT (R : K1) (hr : HRF BU R Q) (h : BE R (g 4) (g 5) (g 6) (g 1000003) w) : bD pg nW (aB 1 (aB 2 dX)) Q g w :=
 eK (kn := no) (l := []) h gR hr trivial
def Pl (kn : K4) (R : K1) (nI b4 b5 VP c1 t1000003 : aNY) (w : aNX) : Prop :=
 ∀ g : Env, g 2 = nI -> g 4 = b4 -> g 5 = b5 -> g 6 = VP -> g 11 = c1 -> g 1000003 = t1000003 -> RF pg nF (.tmp 11) (aHB dX) (aFV dX) (aEq dX) (exQ (fun g w => kn (g 4) (g 5) (g 6) (g 1000003) w) (fun g w => Hh (g 1000003) w fun w => Ac pg 22 (g 4) w fun r0 => Ac pg 27 (g 5) w fun r1 => R (.tuple #[r0, r1]) w) []) g w
theorem akH (kn : K4) (R : K1) (hn : N4 Q kn 4 5 6 1000003) (hr : HRF BU R Q) (h : Pl kn R (g 2) (g 4) (g 5) (g 6) (g 11) (g 1000003) w) : bD pg nW (bI (aB 1 (aF 1 (aB 2 dX)))) Q g w :=
 eK (l := []) (h g rfl rfl rfl rfl rfl rfl) hn hr trivial
def M9 (kn : K4) (R : K1) (nI b4 b5 VP c1 t1000003 : aNY) (w : aNX) : Prop :=
 Pl kn R nI b4 b5 VP c1 t1000003 w
def NK (kn : K6) (l_1 nI b4 b5 VP t1000003 : aNY) (w : aNX) : Prop :=
 aS pg zY #[l_1] w fun c1 w =>
 kn nI b4 b5 VP c1 t1000003 w
theorem alJ (kn : K6) (hn : N6 Q kn 2 4 5 6 11 1000003) (h : NK kn (g 1) (g 2) (g 4) (g 5) (g 6) (g 1000003) w) : bD pg nW (aF 1 (aF 1 (aB 2 dX))) Q g w :=
 eK (kr := no) (l := []) h hn gR trivial
def Nb (kn : K4) (R : K1) (l_1 nI b4 b5 VP t1000003 : aNY) (w : aNX) : Prop :=
 NK (fun nI b4 b5 VP c1 t1000003 w => M9 kn R nI b4 b5 VP c1 t1000003 w) l_1 nI b4 b5 VP t1000003 w
def M3 (R : K1) (l_1 nI b4 b5 VP t1000003 : aNY) (w : aNX) : Prop :=
 Nb (fun b4 b5 VP t1000003 w => BE R b4 b5 VP t1000003 w) R l_1 nI b4 b5 VP t1000003 w
theorem agY (kn : K4) (R : K1) (hn : N4 Q kn 4 5 6 1000003) (hr : HRF BU R Q) (h : Nb kn R (g 1) (g 2) (g 4) (g 5) (g 6) (g 1000003) w) : bD pg nW (aF 1 (aB 2 dX)) Q g w :=
 jA 1 (alJ _ g w (M9 kn R) (fun g w h => aJ (xC 0 (akH _ g w kn R hn hr h))) h)
def Pf (kn : K6) (cQ l_1 t1000003 : aNY) (w : aNX) : Prop :=
 aD pg (B4 152 cQ) w fun nI w =>
 aD pg (fW 22) w fun b4 w =>
 aD pg (fW 27) w fun b5 w =>
 aS pg BZ #[] w fun b9 w =>
 aD pg (fW 186) w fun VP w =>
 aD pg (aT 186 VP b9) w fun _u w =>
 kn l_1 nI b4 b5 VP t1000003 w
theorem akW (kn : K6) (hn : N6 Q kn 1 2 4 5 6 1000003) (h : Pf kn (g 0) (g 1) (g 1000003) w) : bD pg nW (aF 2 dX) Q g w :=
 eK (kr := no) (l := []) h hn gR trivial
def O0 (R : K1) (cQ l_1 t1000003 : aNY) (w : aNX) : Prop :=
 Pf (fun l_1 nI b4 b5 VP t1000003 w => M3 R l_1 nI b4 b5 VP t1000003 w) cQ l_1 t1000003 w
theorem ajK (R : K1) (hr : HRF BU R Q) (h : O0 R (g 0) (g 1) (g 1000003) w) : bD pg nW dX Q g w :=
 jA 2 (akW _ g w (M3 R) (fun g w h => aJ (jA 1 (agY _ g w (BE R) R (fun g w h => aJ (afT _ g w R hr h)) hr h))) h)
def asJ (a0 a1 : aNY) (w : aNX) (R : K1) : Prop :=
 O0 R a0 a1 undef w
theorem anD {a0 a1 : aNY} {w : aNX} {R : K1} (h : asJ a0 a1 w R) : aS pg nF #[a0, a1] w R := by
 refine dsF (ann := nW) Tryz.f77 dX [a0, a1] BU 42 TryzM.mixed Tryz.func77 ?_
 exact (ajK _ _ _ R (fun _ _ h => h) h)
def LW : FA := ⟨AR, fun i => .leaf ([], []) []⟩
def NP : List ResultVar := [.tmp 2]
noncomputable def Jn : Code := dH Tryz.f78
def Ev (R : K1) (eX : aNY) (w : aNX) : Prop :=
 aS pg jS #[eX] w fun b4 w =>
 aD pg (fX 192 [(0, b4)]) w fun b5 w =>
 aD pg (B4 192 b5) w fun b6 w =>
 R b6 w
theorem Vn (R : K1) (hr : HR NP R Q) (h : Ev R (g 0) w) : bD pg LW Jn Q g w :=
 eK (kn := no) (l := []) h gR hr trivial
def UC (a0 : aNY) (w : aNX) (R : K1) : Prop :=
 Ev R a0 w
theorem V9 {a0 : aNY} {w : aNX} {R : K1} (h : UC a0 w R) : aS pg AR #[a0] w R := by
 refine uP (ann := LW) Tryz.f78 Jn [a0] NP 7 TryzM.mixed Tryz.func78 ?_
 exact (Vn _ _ _ R (fun _ _ h => h) h)
def Hp : FA := ⟨pV, fun i => match Nat.beq i 3 with | true => .leaf ([], []) [(false, []), (false, []), (false, []), (false, []), (false, []), (false, []), (false, []), (false, []), (false, []), (false, []), (false, []), (false, []), (false, []), (false, [])] | false => match Nat.beq i 5 with | true => .leaf ([9], []) [(false, []), (false, []), (false, []), (false, []), (false, []), (false, []), (false, []), (false, []), (false, []), (true, []), (false, [])] | false => .leaf ([], []) []⟩
def Jy : List ResultVar := [.tmp 4, .tmp 5]
noncomputable def EP : Code := dH Tryz.f79
def BP (R : K1) (PV kN : aNY) (w : aNX) : Prop :=
 aD pg (aI .eql 156 (.tmp 8) (.const (.pointer none)) PV (.pointer none)) w fun b9 w =>
 Gd (gQ b9 false) (fun K => K kN w) w fun c1 w =>
 Gd (gQ b9 false) (fun K => aD pg (aI .lss 3 aM aM c1 (aNZ 0)) w K) w fun c2 w =>
 aD pg (iO b9 (.bool true) c2) w fun c3 w =>
 Gd (gQ c3 false) (fun K => K kN w) w fun c5 w =>
 Gd (gQ c3 false) (fun K => aD pg (aI .gtr 3 aM aM c5 (aNZ 32)) w K) w fun c6 w =>
 aD pg (iO c3 (.bool true) c6) w fun c7 w =>
 gU c7
  (R (.tuple #[(.int .u64 0), (aNZ 1)]) w)
  ((dr w) = (dr w) /\
  aD pg (wA PV) (dr w) fun d0 w_ => w_ = (dr w) /\
  aD pg (aK 192 d0 0) (dr w) fun d1 w_ => w_ = (dr w) /\
  aD pg (aL 22 d1) (dr w) fun d2 w_ => w_ = (dr w) /\
  aD pg (lI .len #[22] 3 [d2]) (dr w) fun d3 w_ => w_ = (dr w) /\
  aD pg (aI .mul 3 aM aM (aNZ 8) d3) (dr w) fun d4 w_ => w_ = (dr w) /\
  (dr w) = (dr w) /\
  aD pg (wA PV) (dr w) fun d6 w_ => w_ = (dr w) /\
  aD pg (aK 192 d6 1) (dr w) fun d7 w_ => w_ = (dr w) /\
  aD pg (aL 3 d7) (dr w) fun d8 w_ => w_ = (dr w) /\
  aD pg (aI .sub 3 aM aM d4 d8) (dr w) fun d9 w_ => w_ = (dr w) /\
  (dr w) = (dr w) /\
  aD pg (aI .lss 3 aM aM d9 kN) (dr w) fun e1 w_ => w_ = (dr w) /\
  (dr w) = (dr w) /\
  gU e1
   (R (.tuple #[(.int .u64 0), (aNZ 10)]) (dr w))
   ((dr (dr w)) = (dr (dr w)) /\
   aD pg (wA PV) (dr (dr w)) fun e3 w_ => w_ = (dr (dr w)) /\
   aD pg (aK 192 e3 0) (dr (dr w)) fun e4 w_ => w_ = (dr (dr w)) /\
   aD pg (aL 22 e4) (dr (dr w)) fun e5 w_ => w_ = (dr (dr w)) /\
   (dr (dr w)) = (dr (dr w)) /\
   aD pg (wA PV) (dr (dr w)) fun e7 w_ => w_ = (dr (dr w)) /\
   aD pg (aK 192 e7 1) (dr (dr w)) fun e8 w_ => w_ = (dr (dr w)) /\
   aD pg (aL 3 e8) (dr (dr w)) fun e9 w_ => w_ = (dr (dr w)) /\
   (dr (dr w)) = (dr (dr w)) /\
   aS pg Jh #[e5, e9, kN] (dr (dr w)) fun f1 aJX =>
   aJX = aJX /\
   aD pg (wA PV) aJX fun f3 w =>
   aD pg (aK 192 f3 1) w fun f4 w =>
   aD pg (aL 3 f4) w fun f5 w =>
   aD pg (aI .add 3 aM aM f5 kN) w fun f7 w =>
   aD pg (wA PV) w fun f8 w =>
   aD pg (aK 192 f8 1) w fun f9 w =>
   aD pg (aT 3 f9 f7) w fun _u w =>
   R (.tuple #[f1, (aNZ 0)]) w))
theorem Te (R : K1) (hr : HR Jy R Q) (h : BP R (g 0) (g 1) w) : bD pg Hp EP Q g w :=
 eK (kn := no) (l := []) h gR hr trivial
def QG (a0 a1 : aNY) (w : aNX) (R : K1) : Prop :=
 BP R a0 a1 w
theorem Uk {a0 a1 : aNY} {w : aNX} {R : K1} (h : QG a0 a1 w R) : aS pg pV #[a0, a1] w R := by
 refine uP (ann := Hp) Tryz.f79 EP [a0, a1] Jy 51 TryzM.mixed Tryz.func79 ?_
 exact (Te _ _ _ R (fun _ _ h => h) h)
def So : FA := ⟨GC, fun i => .leaf ([], []) []⟩
def UN : List ResultVar := [.tmp 4, .tmp 5]
noncomputable def Qt : Code := dH Tryz.f80
def Kw (R : K1) (PV azY : aNY) (w : aNX) : Prop :=
 aD pg (aI .add 3 aM aM azY (aNZ 1)) w fun c2 w =>
 aD pg (jP 3 67 c2) w fun c3 w =>
 aS pg rT #[c3] w fun c4 w =>
 aD pg (aI .sub 3 aM aM c4 (aNZ 1)) w fun c8 w =>
 aS pg pV #[PV, c8] w fun c9 w =>
 aD pg (bP c9 0) w fun d0 w =>
 aD pg (bP c9 1) w fun d1 w =>
 aD pg (aI .neq 27 (.tmp 22) (.const (aNZ 0)) d1 (aNZ 0)) w fun d3 w =>
 gU d3
  (R (.tuple #[(aNZ 0), d1]) w)
  (aD pg (aI .shl 3 aM aM (aNZ 1) c4) w fun d6 w =>
  aD pg (aI .sub 3 aM aM d6 (aNZ 2)) w fun d7 w =>
  aD pg (aI .sub 3 aM aM d7 azY) w fun d9 w =>
  aD pg (jP 24 3 d0) w fun e1 w =>
  aD pg (aI .lss 3 aM aM e1 d9) w fun e3 w =>
  gU e3
   (aD pg (jP 24 3 d0) w fun e5 w =>
   R (.tuple #[e5, (aNZ 0)]) w)
   (aS pg pV #[PV, (aNZ 1)] w fun e8 w =>
   aD pg (bP e8 0) w fun e9 w =>
   aD pg (bP e8 1) w fun f0 w =>
   aD pg (aI .neq 27 (.tmp 42) (.const (aNZ 0)) f0 (aNZ 0)) w fun f3 w =>
   gU f3
    (R (.tuple #[(aNZ 0), f0]) w)
    (aD pg (aI .eql 24 (.tmp 46) (.const (.int .u64 0)) e9 (.int .u64 0)) w fun f7 w =>
    gU f7
     (aD pg (jP 24 3 d0) w fun f9 w =>
     R (.tuple #[f9, (aNZ 0)]) w)
     (aD pg (jP 24 3 d0) w fun i1 w =>
     aD pg (aI .sub 3 aM aM c4 (aNZ 1)) w fun i3 w =>
     aD pg (aI .shl 3 aM aM (aNZ 1) i3) w fun i4 w =>
     aD pg (aI .add 3 aM aM i1 i4) w fun i5 w =>
     aD pg (aI .sub 3 aM aM i5 d9) w fun i7 w =>
     R (.tuple #[i7, (aNZ 0)]) w))))
theorem abT (R : K1) (hr : HR UN R Q) (h : Kw R (g 0) (g 1) w) : bD pg So Qt Q g w :=
 eK (kn := no) (l := []) h gR hr trivial
def amJ (a0 a1 : aNY) (w : aNX) (R : K1) : Prop :=
 Kw R a0 a1 w
theorem agN {a0 a1 : aNY} {w : aNX} {R : K1} (h : amJ a0 a1 w R) : aS pg GC #[a0, a1] w R := by
 refine uP (ann := So) Tryz.f80 Qt [a0, a1] UN 58 TryzM.mixed Tryz.func80 ?_
 exact (abT _ _ _ R (fun _ _ h => h) h)
def SQ : FA := ⟨yF, fun i => .leaf ([], []) []⟩
def UK : List ResultVar := [.tmp 2]
noncomputable def Qe : Code := dH Tryz.f81
def Df (R : K1) (p_0 : aNY) (w : aNX) : Prop :=
 aD pg (aI .lss 3 aM aM p_0 (aNZ 0)) w fun b4 w =>
 gU b4
  (R (aNZ 1) w)
  (R p_0 w)
theorem aeB (R : K1) (hr : HR UK R Q) (h : Df R (g 0) w) : bD pg SQ Qe Q g w :=
 eK (kn := no) (l := []) h gR hr trivial
def TU (a0 : aNY) (w : aNX) (R : K1) : Prop :=
 Df R a0 w
theorem aiJ {a0 : aNY} {w : aNX} {R : K1} (h : TU a0 w R) : aS pg yF #[a0] w R := by
 refine uP (ann := SQ) Tryz.f81 Qe [a0] UK 6 TryzM.mixed Tryz.func81 ?_
 exact (aeB _ _ _ R (fun _ _ h => h) h)
def pF : FA := ⟨Ct, fun i => .leaf ([], []) []⟩
def tN : List ResultVar := [.tmp 2, .tmp 3]
noncomputable def oJ : Code := dH Tryz.f82
def AU (R : K1) (Bm : aNY) (w : aNX) : Prop :=
 R (.tuple #[Bm, (aNZ 0)]) w
theorem WK (R : K1) (hr : HR tN R Q) (h : AU R (g 4) w) : bD pg pF (aB 1 (aB 2 (bI (aB 1 oJ)))) Q g w :=
 eK (kn := no) (l := []) h gR hr trivial
def AY (kn : K2) (k0 : K1) (R : K1) (PV Bm : aNY) (w : aNX) : Prop :=
 aS pg pV #[PV, (aNZ 2)] w fun b9 w =>
 aD pg (bP b9 0) w fun c0 w =>
 aD pg (bP b9 1) w fun c1 w =>
 aD pg (aI .neq 27 (.tmp 12) (.const (aNZ 0)) c1 (aNZ 0)) w fun c3 w =>
 gU c3
  (R (.tuple #[(aNZ 0), c1]) w)
  (aD pg (jP 24 3 c0) w fun c7 w =>
  aD pg (aI .add 3 aM aM Bm c7) w fun c8 w =>
  aD pg (aI .lss 24 aM aM c0 (.int .u64 3)) w fun d0 w =>
  gU d0
   (k0 c8 w)
   (kn PV c8 w))
theorem WO (kn : K2) (k0 : K1) (R : K1) (hn : N2 Q kn 0 4) (h0 : E1 Q k0 0 4) (hr : HR tN R Q) (h : AY kn k0 R (g 0) (g 4) w) : bD pg pF (bI (bI (aF 1 (aB 2 (bI (aB 1 oJ)))))) Q g w :=
 eK (l := [(0, fun g w => k0 (g 4) w)]) h hn hr ⟨h0, trivial⟩
def Gq (k0 : K1) (R : K1) (PV Bm : aNY) (w : aNX) : Prop :=
 cR (fun (X : aNY -> K0) (t : aNY) (w : aNX) => AY (fun _ Bm w => X Bm w) k0 R PV t w) Bm w
theorem W9 (k0 : K1) (R : K1) (h0 : E1 Q k0 0 4) (hr : HR tN R Q) (h : Gq k0 R (g 0) (g 4) w) : bD pg pF (bI (aF 1 (aB 2 (bI (aB 1 oJ))))) Q g w := by
 refine CX (fun g : Env => g 4) (fun X t w => AY (fun _ Bm w => X Bm w) k0 R (g 0) t w) h (fun X g1 w1 ha hL => ?_)
 rw [<- kA 0 ha] at hL
 exact (WO _ g1 w1 (fun _ Bm w => X Bm w) k0 R (fun _ _ h => h) h0 hr hL)
def G3 (kn : K1) (R : K1) (PV Bm : aNY) (w : aNX) : Prop :=
 Gq kn R PV Bm w
def GD (R : K1) (PV Bm : aNY) (w : aNX) : Prop :=
 G3 (fun Bm w => AU R Bm w) R PV Bm w
theorem Xg (kn : K1) (R : K1) (hn : N1 Q kn 4) (hr : HR tN R Q) (h : G3 kn R (g 0) (g 4) w) : bD pg pF (aF 1 (aB 2 (bI (aB 1 oJ)))) Q g w :=
 xC 0 (W9 _ g w kn R hn hr h)
def GP (kn : K2) (PV : aNY) (w : aNX) : Prop :=
 kn PV (aNZ 0) w
theorem XR (kn : K2) (hn : N2 Q kn 0 4) (h : GP kn (g 0) w) : bD pg pF (aF 2 (bI (aB 1 oJ))) Q g w :=
 eK (kr := no) (l := []) h hn gR trivial
def QH (R : K1) (PV : aNY) (w : aNX) : Prop :=
 GP (fun PV Bm w => GD R PV Bm w) PV w
def GX (R : K1) (PV : aNY) (w : aNX) : Prop :=
 QH R PV w
def GS (kn : K1) (PV : aNY) (w : aNX) : Prop :=
 kn PV w
theorem Xj (kn : K1) (hn : N1 Q kn 0) (h : GS kn (g 0) w) : bD pg pF (aF 1 oJ) Q g w :=
 eK (kr := no) (l := []) h hn gR trivial
def D2 (R : K1) (PV : aNY) (w : aNX) : Prop :=
 GS (fun PV w => GX R PV w) PV w
theorem Vr (R : K1) (hr : HR tN R Q) (h : D2 R (g 0) w) : bD pg pF oJ Q g w :=
 jA 1 (Xj _ g w (GX R) (fun g w h => aJ (scD (jA 2 (XR _ g w (GD R) (fun g w h => aJ (jA 1 (Xg _ g w (AU R) R (fun g w h => aJ (WK _ g w R hr h)) hr h))) h)))) h)
def VY (a0 : aNY) (w : aNX) (R : K1) : Prop :=
 D2 R a0 w
theorem YY {a0 : aNY} {w : aNX} {R : K1} (h : VY a0 w R) : aS pg Ct #[a0] w R := by
 refine uP (ann := pF) Tryz.f82 oJ [a0] tN 22 TryzM.mixed Tryz.func82 ?_
 exact (Vr _ _ _ R (fun _ _ h => h) h)
def Hb : FA := ⟨xQ, fun i => .leaf ([], []) []⟩
def Jr : List ResultVar := [.tmp 2]
noncomputable def Gw : Code := dH Tryz.f83
def BQ (R : K1) (PV : aNY) (w : aNX) : Prop :=
 aD pg (aI .eql 156 (.tmp 3) (.const (.pointer none)) PV (.pointer none)) w fun b4 w =>
 gU b4
  (R (aNZ 0) w)
  (aD pg (wA PV) w fun b6 w =>
  aD pg (aK 192 b6 1) w fun b7 w =>
  aD pg (aL 3 b7) w fun b8 w =>
  aD pg (aI .add 3 aM aM b8 (aNZ 7)) w fun b9 w =>
  aD pg (aI .quo 3 aM aM b9 (aNZ 8)) w fun c0 w =>
  R c0 w)
theorem S6 (R : K1) (hr : HR Jr R Q) (h : BQ R (g 0) w) : bD pg Hb Gw Q g w :=
 eK (kn := no) (l := []) h gR hr trivial
def QC (a0 : aNY) (w : aNX) (R : K1) : Prop :=
 BQ R a0 w
theorem Tx {a0 : aNY} {w : aNX} {R : K1} (h : QC a0 w R) : aS pg xQ #[a0] w R := by
 refine uP (ann := Hb) Tryz.f83 Gw [a0] Jr 11 TryzM.mixed Tryz.func83 ?_
 exact (S6 _ _ _ R (fun _ _ h => h) h)
def Pn : FA := ⟨B9, fun i => .leaf ([], []) []⟩
def QD : List ResultVar := [.tmp 2]
noncomputable def L6 : Code := dH Tryz.f84
def Gy (R : K1) (oL : aNY) (w : aNX) : Prop :=
 aD pg (CN 9 (.string ⟨#[0, 1, 2, 2, 3, 3, 3, 3, 4, 4, 4, 4, 4, 4, 4, 4, 5, 5, 5, 5, 5, 5, 5, 5, 5, 5, 5, 5, 5, 5, 5, 5, 6, 6, 6, 6, 6, 6, 6, 6, 6, 6, 6, 6, 6, 6, 6, 6, 6, 6, 6, 6, 6, 6, 6, 6, 6, 6, 6, 6, 6, 6, 6, 6, 7, 7, 7, 7, 7, 7, 7, 7, 7, 7, 7, 7, 7, 7, 7, 7, 7, 7, 7, 7, 7, 7, 7, 7, 7, 7, 7, 7, 7, 7, 7, 7, 7, 7, 7, 7, 7, 7, 7, 7, 7, 7, 7, 7, 7, 7, 7, 7, 7, 7, 7, 7, 7, 7, 7, 7, 7, 7, 7, 7, 7, 7, 7, 7, 8, 8, 8, 8, 8, 8, 8, 8, 8, 8, 8, 8, 8, 8, 8, 8, 8, 8, 8, 8, 8, 8, 8, 8, 8, 8, 8, 8, 8, 8, 8, 8, 8, 8, 8, 8, 8, 8, 8, 8, 8, 8, 8, 8, 8, 8, 8, 8, 8, 8, 8, 8, 8, 8, 8, 8, 8, 8, 8, 8, 8, 8, 8, 8, 8, 8, 8, 8, 8, 8, 8, 8, 8, 8, 8, 8, 8, 8, 8, 8, 8, 8, 8, 8, 8, 8, 8, 8, 8, 8, 8, 8, 8, 8, 8, 8, 8, 8, 8, 8, 8, 8, 8, 8, 8, 8, 8, 8, 8, 8, 8, 8, 8, 8, 8, 8, 8, 8, 8, 8, 8, 8, 8, 8, 8, 8, 8, 8]⟩) oL) w fun b4 w =>
 aD pg (jP 5 3 b4) w fun b5 w =>
 R b5 w
theorem Xs (R : K1) (hr : HR QD R Q) (h : Gy R (g 0) w) : bD pg Pn L6 Q g w :=
 eK (kn := no) (l := []) h gR hr trivial
def Wq (a0 : aNY) (w : aNX) (R : K1) : Prop :=
 Gy R a0 w
theorem YS {a0 : aNY} {w : aNX} {R : K1} (h : Wq a0 w R) : aS pg B9 #[a0] w R := by
 refine uP (ann := Pn) Tryz.f84 L6 [a0] QD 6 TryzM.mixed Tryz.func84 ?_
 exact (Xs _ _ _ R (fun _ _ h => h) h)
def SX : FA := ⟨Fk, fun i => .leaf ([], []) []⟩
def UX : List ResultVar := [.tmp 4]
noncomputable def Qz : Code := dH Tryz.f85
def Ls (R : K1) (Ma PE : aNY) (w : aNX) : Prop :=
 aD pg (B4 100 Ma) w fun Mt w =>
 aD pg (aL 100 Mt) w fun b6 w =>
 aS pg Mn #[b6] w fun b7 w =>
 aD pg (sUn .not b7) w fun b8 w =>
 gU b8
  (R (aNZ 1) w)
  (aD pg (aK 100 Mt 0) w fun c0 w =>
  aD pg (aL 3 c0) w fun c1 w =>
  aD pg (aI .gtr 3 aM aM c1 PE) w fun c3 w =>
  gU c3
   (R (aNZ 12) w)
   (R (aNZ 0) w))
theorem aeL (R : K1) (hr : HR UX R Q) (h : Ls R (g 0) (g 1) w) : bD pg SX Qz Q g w :=
 eK (kn := no) (l := []) h gR hr trivial
def amK (a0 a1 : aNY) (w : aNX) (R : K1) : Prop :=
 Ls R a0 a1 w
theorem ahX {a0 a1 : aNY} {w : aNX} {R : K1} (h : amK a0 a1 w R) : aS pg Fk #[a0, a1] w R := by
 refine uP (ann := SX) Tryz.f85 Qz [a0, a1] UX 14 TryzM.mixed Tryz.func85 ?_
 exact (aeL _ _ _ R (fun _ _ h => h) h)
def eT : FA := ⟨G0, fun i => .leaf ([], []) []⟩
def Rf : List ResultVar := [.tmp 2]
noncomputable def dP : Code := dH Tryz.f86
def I7 (R : K1) (dA : aNY) (w : aNX) : Prop :=
 R dA w
theorem apH (R : K1) (hr : HR Rf R Q) (h : I7 R (g 4) w) : bD pg eT (aB 1 (aB 1 (aB 1 (aB 4 dP)))) Q g w :=
 eK (kn := no) (l := []) h gR hr trivial
def I4 (kn : K7) (nV dA bS kM e7 e8 e9 : aNY) (w : aNX) : Prop :=
 aD pg (aI .add 3 aM aM e9 (aNZ 1)) w fun j8 w =>
 kn nV dA bS kM e7 e8 j8 w
theorem aqB (kn : K7) (hn : N7 Q kn 3 4 5 8 37 38 39) (h : I4 kn (g 3) (g 4) (g 5) (g 8) (g 37) (g 38) (g 39) w) : bD pg eT (aB 1 (aB 2 (bI (bI (aB 1 (aF 1 (aB 1 (aB 1 (aB 4 dP))))))))) Q g w :=
 eK (kr := no) (l := []) h hn gR trivial
def IN (kn : K10) (nV dA bS kM wE e7 e8 e9 f5 f6 : aNY) (w : aNX) : Prop :=
 aD pg (aI .add 3 aM aM f6 (aNZ 1)) w fun j7 w =>
 kn nV dA bS kM wE e7 e8 e9 f5 j7 w
theorem arO (kn : K10) (hn : N10 Q kn 3 4 5 8 9 37 38 39 45 46) (h : IN kn (g 3) (g 4) (g 5) (g 8) (g 9) (g 37) (g 38) (g 39) (g 45) (g 46) w) : bD pg eT (aB 1 (aB 2 (bI (bI (aB 2 (bI (aB 1 (bI (aF 1 (aB 2 (bI (bI (aB 1 (aF 1 (aB 1 (aB 1 (aB 4 dP))))))))))))))))) Q g w :=
 eK (kr := no) (l := []) h hn gR trivial
def IU (kn : K10) (k5 : K10) (nV dA bS kM wE e7 e8 e9 f5 f6 : aNY) (w : aNX) : Prop :=
 aD pg (aI .shr 3 aM aM nV (.int .u64 1)) w fun i6 w =>
 aD pg (aI .add 3 aM aM kM i6) w fun i7 w =>
 aD pg (aI .shr 3 aM aM nV (.int .u64 3)) w fun i9 w =>
 aD pg (aI .add 3 aM aM i7 i9) w fun j0 w =>
 aD pg (aI .add 3 aM aM j0 (aNZ 3)) w fun j1 w =>
 aD pg (aI .rem 3 aM aM j1 nV) w fun j3 w =>
 aD pg (aI .lss 3 aM aM j3 bS) w fun j6 w =>
 gU j6
  (k5 nV dA bS j3 wE e7 e8 e9 f5 f6 w)
  (kn nV dA bS j3 wE e7 e8 e9 f5 f6 w)
theorem aqT (kn : K10) (k5 : K10) (hn : N10 Q kn 3 4 5 8 9 37 38 39 45 46) (h5 : E10 Q k5 5 3 4 5 8 9 37 38 39 45 46) (h : IU kn k5 (g 3) (g 4) (g 5) (g 8) (g 9) (g 37) (g 38) (g 39) (g 45) (g 46) w) : bD pg eT (bI (bI (aB 1 (bI (aF 1 (aB 2 (bI (bI (aB 2 (bI (aB 1 (bI (aF 1 (aB 2 (bI (bI (aB 1 (aF 1 (aB 1 (aB 1 (aB 4 dP))))))))))))))))))))) Q g w :=
 eK (kr := no) (l := [(5, fun g w => k5 (g 3) (g 4) (g 5) (g 8) (g 9) (g 37) (g 38) (g 39) (g 45) (g 46) w)]) h hn gR ⟨h5, trivial⟩
def IP (k5 : K10) (nV dA bS kM wE e7 e8 e9 f5 f6 : aNY) (w : aNX) : Prop :=
 cR (fun (X : aNY -> K0) (t : aNY) (w : aNX) => IU (fun _ _ _ kM _ _ _ _ _ _ w => X kM w) k5 nV dA bS t wE e7 e8 e9 f5 f6 w) kM w
theorem arF (k5 : K10) (h5 : E10 Q k5 5 3 4 5 8 9 37 38 39 45 46) (h : IP k5 (g 3) (g 4) (g 5) (g 8) (g 9) (g 37) (g 38) (g 39) (g 45) (g 46) w) : bD pg eT (bI (aB 1 (bI (aF 1 (aB 2 (bI (bI (aB 2 (bI (aB 1 (bI (aF 1 (aB 2 (bI (bI (aB 1 (aF 1 (aB 1 (aB 1 (aB 4 dP)))))))))))))))))))) Q g w := by
 refine CX (fun g : Env => g 8) (fun X t w => IU (fun _ _ _ kM _ _ _ _ _ _ w => X kM w) k5 (g 3) (g 4) (g 5) t (g 9) (g 37) (g 38) (g 39) (g 45) (g 46) w) h (fun X g1 w1 ha hL => ?_)
 rw [<- kA 3 ha, <- kA 4 ha, <- kA 5 ha, <- kA 9 ha, <- kA 37 ha, <- kA 38 ha, <- kA 39 ha, <- kA 45 ha, <- kA 46 ha] at hL
 exact (aqT _ g1 w1 (fun _ _ _ kM _ _ _ _ _ _ w => X kM w) k5 (fun _ _ h => h) h5 hL)
def RM (k5 : K10) (nV dA bS kM wE e7 e8 e9 f5 f6 : aNY) (w : aNX) : Prop :=
 IP k5 nV dA bS kM wE e7 e8 e9 f5 f6 w
def Se (kn : K10) (nV dA bS kM wE e7 e8 e9 f5 f6 : aNY) (w : aNX) : Prop :=
 aD pg (jP 3 5 wE) w fun i1 w =>
 aD pg (cI 106 dA kM) w fun i2 w =>
 aD pg (aK 115 i2 0) w fun i3 w =>
 aD pg (aT 5 i3 i1) w fun _u w =>
 kn nV dA bS kM wE e7 e8 e9 f5 f6 w
theorem apS (kn : K10) (hn : N10 Q kn 3 4 5 8 9 37 38 39 45 46) (h : Se kn (g 3) (g 4) (g 5) (g 8) (g 9) (g 37) (g 38) (g 39) (g 45) (g 46) w) : bD pg eT (aF 1 (bI (aF 1 (aB 2 (bI (bI (aB 2 (bI (aB 1 (bI (aF 1 (aB 2 (bI (bI (aB 1 (aF 1 (aB 1 (aB 1 (aB 4 dP))))))))))))))))))) Q g w :=
 eK (kr := no) (l := []) h hn gR trivial
def ZT (k5 : K10) (nV dA bS kM wE e7 e8 e9 f5 f6 : aNY) (w : aNX) : Prop :=
 Se (fun nV dA bS kM wE e7 e8 e9 f5 f6 w => RM k5 nV dA bS kM wE e7 e8 e9 f5 f6 w) nV dA bS kM wE e7 e8 e9 f5 f6 w
def RZ (kn : K10) (nV dA bS kM wE e7 e8 e9 f5 f6 : aNY) (w : aNX) : Prop :=
 ZT kn nV dA bS kM wE e7 e8 e9 f5 f6 w
def NN (kn : K10) (nV dA bS kM wE e7 e8 e9 f5 f6 : aNY) (w : aNX) : Prop :=
 RZ (fun nV dA bS kM wE e7 e8 e9 f5 f6 w => IN kn nV dA bS kM wE e7 e8 e9 f5 f6 w) nV dA bS kM wE e7 e8 e9 f5 f6 w
theorem aoP (kn : K10) (hn : N10 Q kn 3 4 5 8 9 37 38 39 45 46) (h : RZ kn (g 3) (g 4) (g 5) (g 8) (g 9) (g 37) (g 38) (g 39) (g 45) (g 46) w) : bD pg eT (aF 1 (aB 2 (bI (bI (aB 2 (bI (aB 1 (bI (aF 1 (aB 2 (bI (bI (aB 1 (aF 1 (aB 1 (aB 1 (aB 4 dP))))))))))))))))) Q g w :=
 xC 5 (jA 1 (apS _ g w (RM kn) (fun g w h => aJ (xC 6 (arF _ g w kn hn h))) h))
def FL (kn : K10) (k4 : K7) (nV dA bS kM wE e7 e8 e9 f5 f6 : aNY) (w : aNX) : Prop :=
 aD pg (aI .lss 3 aM aM f6 f5) w fun f7 w =>
 gU f7
  (kn nV dA bS kM wE e7 e8 e9 f5 f6 w)
  (k4 nV dA bS kM e7 e8 e9 w)
theorem afJ (kn : K10) (k4 : K7) (hn : N10 Q kn 3 4 5 8 9 37 38 39 45 46) (h4 : E7 Q k4 4 3 4 5 8 37 38 39) (h : FL kn k4 (g 3) (g 4) (g 5) (g 8) (g 9) (g 37) (g 38) (g 39) (g 45) (g 46) w) : bD pg eT (aF 2 (bI (bI (aB 2 (bI (aB 1 (bI (aF 1 (aB 2 (bI (bI (aB 1 (aF 1 (aB 1 (aB 1 (aB 4 dP)))))))))))))))) Q g w :=
 eK (kr := no) (l := [(4, fun g w => k4 (g 3) (g 4) (g 5) (g 8) (g 37) (g 38) (g 39) w)]) h hn gR ⟨h4, trivial⟩
def BS (kn : K10) (k4 : K7) (nV dA bS kM wE e7 e8 e9 f5 f6 : aNY) (w : aNX) : Prop :=
 FL (fun nV dA bS kM wE e7 e8 e9 f5 f6 w => NN kn nV dA bS kM wE e7 e8 e9 f5 f6 w) k4 nV dA bS kM wE e7 e8 e9 f5 f6 w
def Pb (k4 : K7) (nV dA bS kM wE e7 e8 e9 f5 f6 : aNY) (w : aNX) : Prop :=
 cR (fun (X : (aNY × aNY) -> K0) (t : aNY × aNY) (w : aNX) => BS (fun _ _ _ kM _ _ _ _ _ f6 w => X (kM, f6) w) k4 nV dA bS t.1 wE e7 e8 e9 f5 t.2 w) (kM, f6) w
theorem agM (kn : K10) (k4 : K7) (hn : N10 Q kn 3 4 5 8 9 37 38 39 45 46) (h4 : E7 Q k4 4 3 4 5 8 37 38 39) (h : BS kn k4 (g 3) (g 4) (g 5) (g 8) (g 9) (g 37) (g 38) (g 39) (g 45) (g 46) w) : bD pg eT (bI (bI (aB 2 (bI (aB 1 (bI (aF 1 (aB 2 (bI (bI (aB 1 (aF 1 (aB 1 (aB 1 (aB 4 dP))))))))))))))) Q g w :=
 jA 2 (afJ _ g w (NN kn) k4 (fun g w h => aJ (jA 1 (aoP _ g w (IN kn) (fun g w h => aJ (arO _ g w kn hn h)) h))) h4 h)
theorem aiY (k4 : K7) (h4 : E7 Q k4 4 3 4 5 8 37 38 39) (h : Pb k4 (g 3) (g 4) (g 5) (g 8) (g 9) (g 37) (g 38) (g 39) (g 45) (g 46) w) : bD pg eT (bI (aB 2 (bI (aB 1 (bI (aF 1 (aB 2 (bI (bI (aB 1 (aF 1 (aB 1 (aB 1 (aB 4 dP)))))))))))))) Q g w := by
 refine CX (fun g : Env => (g 8, g 46)) (fun X t w => BS (fun _ _ _ kM _ _ _ _ _ f6 w => X (kM, f6) w) k4 (g 3) (g 4) (g 5) t.1 (g 9) (g 37) (g 38) (g 39) (g 45) t.2 w) h (fun X g1 w1 ha hL => ?_)
 rw [<- kA 3 ha, <- kA 4 ha, <- kA 5 ha, <- kA 9 ha, <- kA 37 ha, <- kA 38 ha, <- kA 39 ha, <- kA 45 ha] at hL
 exact (agM _ g1 w1 (fun _ _ _ kM _ _ _ _ _ f6 w => X (kM, f6) w) k4 (fun _ _ h => h) h4 hL)
def OI (kn : K7) (nV dA bS kM wE e7 e8 e9 f5 f6 : aNY) (w : aNX) : Prop :=
 Pb kn nV dA bS kM wE e7 e8 e9 f5 f6 w
def Ns (kn : K10) (nV dA bS kM wE aBA e7 e8 e9 : aNY) (w : aNX) : Prop :=
 aD pg (lI .max #[3, 3] 3 [aBA, (aNZ 0)]) w fun f5 w =>
 kn nV dA bS kM wE e7 e8 e9 f5 (aNZ 0) w
theorem ahR (kn : K10) (hn : N10 Q kn 3 4 5 8 9 37 38 39 45 46) (h : Ns kn (g 3) (g 4) (g 5) (g 8) (g 9) (g 10) (g 37) (g 38) (g 39) w) : bD pg eT (aF 2 (bI (aB 1 (bI (aF 1 (aB 2 (bI (bI (aB 1 (aF 1 (aB 1 (aB 1 (aB 4 dP))))))))))))) Q g w :=
 eK (kr := no) (l := []) h hn gR trivial
def WQ (kn : K7) (nV dA bS kM wE aBA e7 e8 e9 : aNY) (w : aNX) : Prop :=
 Ns (fun nV dA bS kM wE e7 e8 e9 f5 f6 w => OI kn nV dA bS kM wE e7 e8 e9 f5 f6 w) nV dA bS kM wE aBA e7 e8 e9 w
def NX (kn : K7) (nV dA bS kM wE aBA e7 e8 e9 : aNY) (w : aNX) : Prop :=
 WQ kn nV dA bS kM wE aBA e7 e8 e9 w
def OJ (kn : K9) (nV dA bS kM e7 e8 e9 : aNY) (w : aNX) : Prop :=
 aD pg (cI 42 e7 e9) w fun f2 w =>
 aD pg (aL 3 f2) w fun f3 w =>
 kn nV dA bS kM e9 f3 e7 e8 e9 w
theorem ajC (kn : K9) (hn : N9 Q kn 3 4 5 8 9 10 37 38 39) (h : OJ kn (g 3) (g 4) (g 5) (g 8) (g 37) (g 38) (g 39) w) : bD pg eT (aF 1 (bI (aF 1 (aB 2 (bI (bI (aB 1 (aF 1 (aB 1 (aB 1 (aB 4 dP))))))))))) Q g w :=
 eK (kr := no) (l := []) h hn gR trivial
def We (kn : K7) (nV dA bS kM e7 e8 e9 : aNY) (w : aNX) : Prop :=
 OJ (fun nV dA bS kM wE aBA e7 e8 e9 w => NX kn nV dA bS kM wE aBA e7 e8 e9 w) nV dA bS kM e7 e8 e9 w
def Pp (kn : K7) (nV dA bS kM e7 e8 e9 : aNY) (w : aNX) : Prop :=
 We kn nV dA bS kM e7 e8 e9 w
def MT (kn : K7) (nV dA bS kM e7 e8 e9 : aNY) (w : aNX) : Prop :=
 Pp (fun nV dA bS kM e7 e8 e9 w => I4 kn nV dA bS kM e7 e8 e9 w) nV dA bS kM e7 e8 e9 w
theorem aiE (kn : K7) (hn : N7 Q kn 3 4 5 8 37 38 39) (h : Pp kn (g 3) (g 4) (g 5) (g 8) (g 37) (g 38) (g 39) w) : bD pg eT (aF 1 (aB 2 (bI (bI (aB 1 (aF 1 (aB 1 (aB 1 (aB 4 dP))))))))) Q g w :=
 xC 3 (jA 1 (ajC _ g w (NX kn) (fun g w h => aJ (scD (jA 2 (ahR _ g w (OI kn) (fun g w h => aJ (xC 4 (aiY _ g w kn hn h))) h)))) h))
def GO (kn : K7) (k2 : K1) (nV dA bS kM e7 e8 e9 : aNY) (w : aNX) : Prop :=
 aD pg (aI .lss 3 aM aM e9 e8) w fun f0 w =>
 gU f0
  (kn nV dA bS kM e7 e8 e9 w)
  (k2 dA w)
theorem ajF (kn : K7) (k2 : K1) (hn : N7 Q kn 3 4 5 8 37 38 39) (h2 : E1 Q k2 2 4) (h : GO kn k2 (g 3) (g 4) (g 5) (g 8) (g 37) (g 38) (g 39) w) : bD pg eT (aF 2 (bI (bI (aB 1 (aF 1 (aB 1 (aB 1 (aB 4 dP)))))))) Q g w :=
 eK (kr := no) (l := [(2, fun g w => k2 (g 4) w)]) h hn gR ⟨h2, trivial⟩
def BR (kn : K7) (k2 : K1) (nV dA bS kM e7 e8 e9 : aNY) (w : aNX) : Prop :=
 GO (fun nV dA bS kM e7 e8 e9 w => MT kn nV dA bS kM e7 e8 e9 w) k2 nV dA bS kM e7 e8 e9 w
def OZ (k2 : K1) (nV dA bS kM e7 e8 e9 : aNY) (w : aNX) : Prop :=
 cR (fun (X : (aNY × aNY) -> K0) (t : aNY × aNY) (w : aNX) => BR (fun _ _ _ kM _ _ e9 w => X (kM, e9) w) k2 nV dA bS t.1 e7 e8 t.2 w) (kM, e9) w
theorem ajJ (kn : K7) (k2 : K1) (hn : N7 Q kn 3 4 5 8 37 38 39) (h2 : E1 Q k2 2 4) (h : BR kn k2 (g 3) (g 4) (g 5) (g 8) (g 37) (g 38) (g 39) w) : bD pg eT (bI (bI (aB 1 (aF 1 (aB 1 (aB 1 (aB 4 dP))))))) Q g w :=
 jA 2 (ajF _ g w (MT kn) k2 (fun g w h => aJ (jA 1 (aiE _ g w (I4 kn) (fun g w h => aJ (aqB _ g w kn hn h)) h))) h2 h)
theorem ahU (k2 : K1) (h2 : E1 Q k2 2 4) (h : OZ k2 (g 3) (g 4) (g 5) (g 8) (g 37) (g 38) (g 39) w) : bD pg eT (bI (aB 1 (aF 1 (aB 1 (aB 1 (aB 4 dP)))))) Q g w := by
 refine CX (fun g : Env => (g 8, g 39)) (fun X t w => BR (fun _ _ _ kM _ _ e9 w => X (kM, e9) w) k2 (g 3) (g 4) (g 5) t.1 (g 37) (g 38) t.2 w) h (fun X g1 w1 ha hL => ?_)
 rw [<- kA 3 ha, <- kA 4 ha, <- kA 5 ha, <- kA 37 ha, <- kA 38 ha] at hL
 exact (ajJ _ g1 w1 (fun _ _ _ kM _ _ e9 w => X (kM, e9) w) k2 (fun _ _ h => h) h2 hL)
def M6 (kn : K1) (nV dA bS kM e7 e8 e9 : aNY) (w : aNX) : Prop :=
 OZ kn nV dA bS kM e7 e8 e9 w
def Ov (kn : K7) (cB nV dA bS kM : aNY) (w : aNX) : Prop :=
 aD pg (aK 100 cB 1) w fun e6 w =>
 aD pg (aL 42 e6) w fun e7 w =>
 aD pg (lI .len #[42] 3 [e7]) w fun e8 w =>
 kn nV dA bS kM e7 e8 (aNZ 0) w
theorem ahL (kn : K7) (hn : N7 Q kn 3 4 5 8 37 38 39) (h : Ov kn (g 1) (g 3) (g 4) (g 5) (g 8) w) : bD pg eT (aF 1 (aF 1 (aB 1 (aB 1 (aB 4 dP))))) Q g w :=
 eK (kr := no) (l := []) h hn gR trivial
def OG (kn : K1) (cB nV dA bS kM : aNY) (w : aNX) : Prop :=
 Ov (fun nV dA bS kM e7 e8 e9 w => M6 kn nV dA bS kM e7 e8 e9 w) cB nV dA bS kM w
def PA (R : K1) (cB nV dA bS kM : aNY) (w : aNX) : Prop :=
 OG (fun dA w => I7 R dA w) cB nV dA bS kM w
theorem agE (kn : K1) (hn : N1 Q kn 4) (h : OG kn (g 1) (g 3) (g 4) (g 5) (g 8) w) : bD pg eT (aF 1 (aB 1 (aB 1 (aB 4 dP)))) Q g w :=
 jA 1 (ahL _ g w (M6 kn) (fun g w h => aJ (xC 2 (ahU _ g w kn hn h))) h)
def NY (kn : K5) (cB nV dA bS : aNY) (w : aNX) : Prop :=
 kn cB nV dA bS (aNZ 0) w
theorem amA (kn : K5) (hn : N5 Q kn 1 3 4 5 8) (h : NY kn (g 1) (g 3) (g 4) (g 5) w) : bD pg eT (aF 1 (aB 1 (aB 4 dP))) Q g w :=
 eK (kr := no) (l := []) h hn gR trivial
def Nq (R : K1) (cB nV dA bS : aNY) (w : aNX) : Prop :=
 NY (fun cB nV dA bS kM w => PA R cB nV dA bS kM w) cB nV dA bS w
def Fz (kn : K7) (cB nV dA bS c8 c9 d0 : aNY) (w : aNX) : Prop :=
 aD pg (aI .add 3 aM aM d0 (aNZ 1)) w fun e5 w =>
 kn cB nV dA bS c8 c9 e5 w
theorem afK (kn : K7) (hn : N7 Q kn 1 3 4 5 18 19 20) (h : Fz kn (g 1) (g 3) (g 4) (g 5) (g 18) (g 19) (g 20) w) : bD pg eT (aB 3 (bI (bI (aB 1 (aF 1 (aB 4 dP)))))) Q g w :=
 eK (kr := no) (l := []) h hn gR trivial
def F2 (kn : K7) (k0 : K4) (cB nV dA bS c8 c9 d0 : aNY) (w : aNX) : Prop :=
 aD pg (aI .lss 3 aM aM d0 c9) w fun d1 w =>
 gU d1
  (aD pg (cI 42 c8 d0) w fun d3 w =>
  aD pg (aL 3 d3) w fun d4 w =>
  aD pg (aI .eql 3 (.tmp 25) (.const (aNZ (-1))) d4 (aNZ (-1))) w fun d6 w =>
  gU d6
   (aD pg (aI .sub 3 aM aM bS (aNZ 1)) w fun d8 w =>
   aD pg (jP 3 5 d0) w fun e2 w =>
   aD pg (cI 106 dA d8) w fun e3 w =>
   aD pg (aK 115 e3 0) w fun e4 w =>
   aD pg (aT 5 e4 e2) w fun _u w =>
   kn cB nV dA d8 c8 c9 d0 w)
   (kn cB nV dA bS c8 c9 d0 w))
  (k0 cB nV dA bS w)
theorem alD (kn : K7) (k0 : K4) (hn : N7 Q kn 1 3 4 5 18 19 20) (h0 : E4 Q k0 0 1 3 4 5) (h : F2 kn k0 (g 1) (g 3) (g 4) (g 5) (g 18) (g 19) (g 20) w) : bD pg eT (aF 3 (bI (bI (aB 1 (aF 1 (aB 4 dP)))))) Q g w :=
 eK (kr := no) (l := [(0, fun g w => k0 (g 1) (g 3) (g 4) (g 5) w)]) h hn gR ⟨h0, trivial⟩
def Bz (kn : K7) (k0 : K4) (cB nV dA bS c8 c9 d0 : aNY) (w : aNX) : Prop :=
 F2 (fun cB nV dA bS c8 c9 d0 w => Fz kn cB nV dA bS c8 c9 d0 w) k0 cB nV dA bS c8 c9 d0 w
def NI (k0 : K4) (cB nV dA bS c8 c9 d0 : aNY) (w : aNX) : Prop :=
 cR (fun (X : (aNY × aNY) -> K0) (t : aNY × aNY) (w : aNX) => Bz (fun _ _ _ bS _ _ d0 w => X (bS, d0) w) k0 cB nV dA t.1 c8 c9 t.2 w) (bS, d0) w
theorem ajD (kn : K7) (k0 : K4) (hn : N7 Q kn 1 3 4 5 18 19 20) (h0 : E4 Q k0 0 1 3 4 5) (h : Bz kn k0 (g 1) (g 3) (g 4) (g 5) (g 18) (g 19) (g 20) w) : bD pg eT (bI (bI (aB 1 (aF 1 (aB 4 dP))))) Q g w :=
 jA 3 (alD _ g w (Fz kn) k0 (fun g w h => aJ (afK _ g w kn hn h)) h0 h)
theorem ajH (k0 : K4) (h0 : E4 Q k0 0 1 3 4 5) (h : NI k0 (g 1) (g 3) (g 4) (g 5) (g 18) (g 19) (g 20) w) : bD pg eT (bI (aB 1 (aF 1 (aB 4 dP)))) Q g w := by
 refine CX (fun g : Env => (g 5, g 20)) (fun X t w => Bz (fun _ _ _ bS _ _ d0 w => X (bS, d0) w) k0 (g 1) (g 3) (g 4) t.1 (g 18) (g 19) t.2 w) h (fun X g1 w1 ha hL => ?_)
 rw [<- kA 1 ha, <- kA 3 ha, <- kA 4 ha, <- kA 18 ha, <- kA 19 ha] at hL
 exact (ajD _ g1 w1 (fun _ _ _ bS _ _ d0 w => X (bS, d0) w) k0 (fun _ _ h => h) h0 hL)
def Nr (kn : K4) (cB nV dA bS c8 c9 d0 : aNY) (w : aNX) : Prop :=
 NI kn cB nV dA bS c8 c9 d0 w
def O4 (kn : K7) (cB nV dA bS : aNY) (w : aNX) : Prop :=
 aD pg (aK 100 cB 1) w fun c7 w =>
 aD pg (aL 42 c7) w fun c8 w =>
 aD pg (lI .len #[42] 3 [c8]) w fun c9 w =>
 kn cB nV dA bS c8 c9 (aNZ 0) w
theorem aiF (kn : K7) (hn : N7 Q kn 1 3 4 5 18 19 20) (h : O4 kn (g 1) (g 3) (g 4) (g 5) w) : bD pg eT (aF 1 (aF 1 (aB 4 dP))) Q g w :=
 eK (kr := no) (l := []) h hn gR trivial
def Pt (kn : K4) (cB nV dA bS : aNY) (w : aNX) : Prop :=
 O4 (fun cB nV dA bS c8 c9 d0 w => Nr kn cB nV dA bS c8 c9 d0 w) cB nV dA bS w
def Ox (R : K1) (cB nV dA bS : aNY) (w : aNX) : Prop :=
 Pt (fun cB nV dA bS w => Nq R cB nV dA bS w) cB nV dA bS w
theorem agR (kn : K4) (hn : N4 Q kn 1 3 4 5) (h : Pt kn (g 1) (g 3) (g 4) (g 5) w) : bD pg eT (aF 1 (aB 4 dP)) Q g w :=
 jA 1 (aiF _ g w (Nr kn) (fun g w h => aJ (xC 0 (ajH _ g w kn hn h))) h)
def Oh (kn : K4) (Ma : aNY) (w : aNX) : Prop :=
 aD pg (B4 100 Ma) w fun cB w =>
 aD pg (aK 100 cB 0) w fun c1 w =>
 aD pg (aL 3 c1) w fun c2 w =>
 aD pg (aI .shl 3 aM aM (aNZ 1) c2) w fun c3 w =>
 aD pg (qG 106 c3 c3) w fun c5 w =>
 kn cB c3 c5 c3 w
theorem akD (kn : K4) (hn : N4 Q kn 1 3 4 5) (h : Oh kn (g 0) w) : bD pg eT (aF 4 dP) Q g w :=
 eK (kr := no) (l := []) h hn gR trivial
def MS (R : K1) (Ma : aNY) (w : aNX) : Prop :=
 Oh (fun cB nV dA bS w => Ox R cB nV dA bS w) Ma w
theorem agL (R : K1) (hr : HR Rf R Q) (h : MS R (g 0) w) : bD pg eT dP Q g w :=
 jA 4 (akD _ g w (Ox R) (fun g w h => aJ (jA 1 (agR _ g w (Nq R) (fun g w h => aJ (jA 1 (amA _ g w (PA R) (fun g w h => aJ (jA 1 (agE _ g w (I7 R) (fun g w h => aJ (apH _ g w R hr h)) h))) h))) h))) h)
def axV (a0 : aNY) (w : aNX) (R : K1) : Prop :=
 MS R a0 w
theorem atP {a0 : aNY} {w : aNX} {R : K1} (h : axV a0 w R) : aS pg G0 #[a0] w R := by
 refine uP (ann := eT) Tryz.f86 dP [a0] Rf 70 TryzM.mixed Tryz.func86 ?_
 exact (agL _ _ _ R (fun _ _ h => h) h)
def Ft : FA := ⟨qV, fun i => match Nat.beq i 4 with | true => .leaf ([12], [(12, 15), (12, 16)]) [(false, []), (false, []), (false, []), (false, []), (false, []), (false, []), (false, []), (false, []), (false, []), (false, []), (false, []), (false, []), (true, []), (false, []), (false, []), (false, [2]), (false, [3]), (false, []), (false, [])] | false => .leaf ([], []) []⟩
def Hf : List ResultVar := [.tmp 4]
noncomputable def Ey : Code := dH Tryz.f87
def AM (R : K1) (OB kN : aNY) (w : aNX) : Prop :=
 aD pg (aI .eql 103 (.tmp 7) (.const (.pointer none)) OB (.pointer none)) w fun b8 w =>
 Gd (gQ b8 false) (fun K => K kN w) w fun c0 w =>
 Gd (gQ b8 false) (fun K => aD pg (aI .lss 3 aM aM c0 (aNZ 1)) w K) w fun c1 w =>
 aD pg (iO b8 (.bool true) c1) w fun c2 w =>
 Gd (gQ c2 false) (fun K => K kN w) w fun c4 w =>
 Gd (gQ c2 false) (fun K => aD pg (aI .gtr 3 aM aM c4 (aNZ 56)) w K) w fun c5 w =>
 aD pg (iO c2 (.bool true) c5) w fun c6 w =>
 gU c6
  (R (.int .u64 0) w)
  (aD pg (wA OB) w fun c8 w =>
  aD pg (aK 165 c8 1) w fun c9 w =>
  aD pg (aL 3 c9) w fun d0 w =>
  aD pg (lI .max #[3, 3] 3 [d0, (aNZ 0)]) w fun d1 w =>
  aD pg (lI .min #[3, 3] 3 [d1, kN]) w fun d3 w =>
  (dr w) = (dr w) /\
  aD pg (wA OB) (dr w) fun d5 w_ => w_ = (dr w) /\
  aD pg (aK 165 d5 0) (dr w) fun d6 w_ => w_ = (dr w) /\
  aD pg (aL 22 d6) (dr w) fun d7 w_ => w_ = (dr w) /\
  (dr w) = (dr w) /\
  aD pg (wA OB) (dr w) fun d9 w_ => w_ = (dr w) /\
  aD pg (aK 165 d9 1) (dr w) fun e0 w_ => w_ = (dr w) /\
  aD pg (aL 3 e0) (dr w) fun e1 w_ => w_ = (dr w) /\
  aD pg (lI .max #[3, 3] 3 [e1, (aNZ 0)]) (dr w) fun e2 w_ => w_ = (dr w) /\
  (dr w) = (dr w) /\
  aD pg (aI .sub 3 aM aM e2 d3) (dr w) fun e4 w_ => w_ = (dr w) /\
  (dr w) = (dr w) /\
  aS pg Jh #[d7, e4, d3] (dr w) fun e6 SV =>
  SV = SV /\
  SV = SV /\
  aD pg (aI .sub 3 aM aM kN d3) SV fun e9 w_ => w_ = SV /\
  (jH pg (aI .sub 3 aM aM kN d3) e9 (dr w) /\ True) /\
  aD pg (jP 3 67 e9) SV fun f0 w_ => w_ = SV /\
  (jH pg (jP 3 67 e9) f0 (dr w) /\ True) /\
  aD pg (aI .shl 24 aM aM e6 f0) SV fun f1 w_ => w_ = SV /\
  SV = SV /\
  aD pg (wA OB) SV fun f3 w =>
  aD pg (aK 165 f3 1) w fun f4 w =>
  aD pg (aL 3 f4) w fun f5 w =>
  aD pg (aI .sub 3 aM aM f5 kN) w fun f7 w =>
  aD pg (wA OB) w fun f8 w =>
  aD pg (aK 165 f8 1) w fun f9 w =>
  aD pg (aT 3 f9 f7) w fun _u w =>
  R f1 w)
theorem QM (R : K1) (hr : HR Hf R Q) (h : AM R (g 0) (g 1) w) : bD pg Ft Ey Q g w :=
 eK (kn := no) (l := []) h gR hr trivial
def Pd (a0 a1 : aNY) (w : aNX) (R : K1) : Prop :=
 AM R a0 a1 w
theorem Tr {a0 a1 : aNY} {w : aNX} {R : K1} (h : Pd a0 a1 w R) : aS pg qV #[a0, a1] w R := by
 refine uP (ann := Ft) Tryz.f87 Ey [a0, a1] Hf 51 TryzM.mixed Tryz.func87 ?_
 exact (QM _ _ _ R (fun _ _ h => h) h)
def rR : FA := ⟨AZ, fun i => .leaf ([], []) []⟩
def DZ : List ResultVar := [.tmp 2]
noncomputable def qY : Code := dH Tryz.f89
def vN (R : K1) (oL nU : aNY) (w : aNX) : Prop :=
 aD pg (jP 24 5 oL) w fun d1 w =>
 aD pg (CN 9 (.string ⟨#[0, 1, 2, 2, 3, 3, 3, 3, 4, 4, 4, 4, 4, 4, 4, 4, 5, 5, 5, 5, 5, 5, 5, 5, 5, 5, 5, 5, 5, 5, 5, 5, 6, 6, 6, 6, 6, 6, 6, 6, 6, 6, 6, 6, 6, 6, 6, 6, 6, 6, 6, 6, 6, 6, 6, 6, 6, 6, 6, 6, 6, 6, 6, 6, 7, 7, 7, 7, 7, 7, 7, 7, 7, 7, 7, 7, 7, 7, 7, 7, 7, 7, 7, 7, 7, 7, 7, 7, 7, 7, 7, 7, 7, 7, 7, 7, 7, 7, 7, 7, 7, 7, 7, 7, 7, 7, 7, 7, 7, 7, 7, 7, 7, 7, 7, 7, 7, 7, 7, 7, 7, 7, 7, 7, 7, 7, 7, 7, 8, 8, 8, 8, 8, 8, 8, 8, 8, 8, 8, 8, 8, 8, 8, 8, 8, 8, 8, 8, 8, 8, 8, 8, 8, 8, 8, 8, 8, 8, 8, 8, 8, 8, 8, 8, 8, 8, 8, 8, 8, 8, 8, 8, 8, 8, 8, 8, 8, 8, 8, 8, 8, 8, 8, 8, 8, 8, 8, 8, 8, 8, 8, 8, 8, 8, 8, 8, 8, 8, 8, 8, 8, 8, 8, 8, 8, 8, 8, 8, 8, 8, 8, 8, 8, 8, 8, 8, 8, 8, 8, 8, 8, 8, 8, 8, 8, 8, 8, 8, 8, 8, 8, 8, 8, 8, 8, 8, 8, 8, 8, 8, 8, 8, 8, 8, 8, 8, 8, 8, 8, 8, 8, 8, 8, 8, 8, 8]⟩) d1) w fun d2 w =>
 aD pg (jP 5 3 d2) w fun d3 w =>
 aD pg (aI .add 3 aM aM nU d3) w fun d4 w =>
 R d4 w
theorem Vv (R : K1) (hr : HR DZ R Q) (h : vN R (g 0) (g 2) w) : bD pg rR (aB 1 (aB 1 (aB 2 qY))) Q g w :=
 eK (kn := no) (l := []) h gR hr trivial
def Eg (kn : K2) (oL nU : aNY) (w : aNX) : Prop :=
 aD pg (aI .geq 24 aM aM oL (.int .u64 256)) w fun c4 w =>
 gU c4
  (aD pg (aI .shr 24 aM aM oL (.int .u64 8)) w fun c6 w =>
  aD pg (aI .add 3 aM aM nU (aNZ 8)) w fun c8 w =>
  kn c6 c8 w)
  (kn oL nU w)
theorem U5 (kn : K2) (hn : N2 Q kn 0 2) (h : Eg kn (g 0) (g 2) w) : bD pg rR (aF 1 (aB 1 (aB 2 qY))) Q g w :=
 eK (kr := no) (l := []) h hn gR trivial
def zP (R : K1) (oL nU : aNY) (w : aNX) : Prop :=
 Eg (fun oL nU w => vN R oL nU w) oL nU w
def D8 (kn : K2) (oL nU : aNY) (w : aNX) : Prop :=
 aD pg (aI .geq 24 aM aM oL (.int .u64 65536)) w fun b8 w =>
 gU b8
  (aD pg (aI .shr 24 aM aM oL (.int .u64 16)) w fun c0 w =>
  aD pg (aI .add 3 aM aM nU (aNZ 16)) w fun c2 w =>
  kn c0 c2 w)
  (kn oL nU w)
theorem VB (kn : K2) (hn : N2 Q kn 0 2) (h : D8 kn (g 0) (g 2) w) : bD pg rR (aF 1 (aB 2 qY)) Q g w :=
 eK (kr := no) (l := []) h hn gR trivial
def Aa (R : K1) (oL nU : aNY) (w : aNX) : Prop :=
 D8 (fun oL nU w => zP R oL nU w) oL nU w
def DQ (kn : K2) (oL : aNY) (w : aNX) : Prop :=
 aD pg (aI .geq 24 aM aM oL (.int .u64 4294967296)) w fun b4 w =>
 gU b4
  (aD pg (aI .shr 24 aM aM oL (.int .u64 32)) w fun b6 w =>
  kn b6 (aNZ 32) w)
  (kn oL (aNZ 0) w)
theorem Vi (kn : K2) (hn : N2 Q kn 0 2) (h : DQ kn (g 0) w) : bD pg rR (aF 2 qY) Q g w :=
 eK (kr := no) (l := []) h hn gR trivial
def D4 (R : K1) (oL : aNY) (w : aNX) : Prop :=
 DQ (fun oL nU w => Aa R oL nU w) oL w
theorem VK (R : K1) (hr : HR DZ R Q) (h : D4 R (g 0) w) : bD pg rR qY Q g w :=
 jA 2 (Vi _ g w (Aa R) (fun g w h => aJ (jA 1 (VB _ g w (zP R) (fun g w h => aJ (jA 1 (U5 _ g w (vN R) (fun g w h => aJ (Vv _ g w R hr h)) h))) h))) h)
def US (a0 : aNY) (w : aNX) (R : K1) : Prop :=
 D4 R a0 w
theorem Xe {a0 : aNY} {w : aNX} {R : K1} (h : US a0 w R) : aS pg AZ #[a0] w R := by
 refine uP (ann := rR) Tryz.f89 qY [a0] DZ 25 TryzM.mixed Tryz.func89 ?_
 exact (VK _ _ _ R (fun _ _ h => h) h)
def mI : FA := ⟨GI, fun i => .leaf ([], []) []⟩
def QJ : List ResultVar := [.tmp 2]
noncomputable def lT : Code := dH Tryz.f90
def IF (R : K1) (kW : aNY) (w : aNX) : Prop :=
 R kW w
theorem apI (R : K1) (hr : HR QJ R Q) (h : IF R (g 3) w) : bD pg mI (aB 1 (aB 2 lT)) Q g w :=
 eK (kn := no) (l := []) h gR hr trivial
def IS (kn : K3) (Cz kW lG : aNY) (w : aNX) : Prop :=
 aD pg (aI .add 3 aM aM lG (aNZ 1)) w fun c2 w =>
 kn Cz kW c2 w
theorem arE (kn : K3) (hn : N3 Q kn 0 3 4) (h : IS kn (g 0) (g 3) (g 4) w) : bD pg mI (aB 1 (aB 1 (bI (bI (aB 1 (aF 1 (aB 2 lT))))))) Q g w :=
 eK (kr := no) (l := []) h hn gR trivial
def I2 (kn : K5) (k2 : K3) (Cz kW lG c_5 Jm : aNY) (w : aNX) : Prop :=
 aD pg (aI .lss 3 aM aM Jm (aNZ 8)) w fun c7 w =>
 gU c7
  (aD pg (aI .rem 5 aM aM c_5 (.int .u8 2)) w fun d2 w =>
  aD pg (aI .eql 5 (.tmp 22) (.const (.int .u8 1)) d2 (.int .u8 1)) w fun d3 w =>
  aD pg (cU 131 1 [(0, d3)]) w fun d4 w =>
  aD pg (lI .append #[131, 131] 131 [kW, d4]) w fun d5 w =>
  aD pg (aI .quo 5 aM aM c_5 (.int .u8 2)) w fun d7 w =>
  aD pg (aI .add 3 aM aM Jm (aNZ 1)) w fun c9 w =>
  kn Cz d5 lG d7 c9 w)
  (k2 Cz kW lG w)
theorem arJ (kn : K5) (k2 : K3) (hn : N5 Q kn 0 3 4 5 6) (h2 : E3 Q k2 2 0 3 4) (h : I2 kn k2 (g 0) (g 3) (g 4) (g 5) (g 6) w) : bD pg mI (bI (bI (aB 2 (bI (aF 1 (aB 1 (bI (bI (aB 1 (aF 1 (aB 2 lT))))))))))) Q g w :=
 eK (kr := no) (l := [(2, fun g w => k2 (g 0) (g 3) (g 4) w)]) h hn gR ⟨h2, trivial⟩
def Sm (k2 : K3) (Cz kW lG c_5 Jm : aNY) (w : aNX) : Prop :=
 cR (fun (X : (aNY × aNY × aNY) -> K0) (t : aNY × aNY × aNY) (w : aNX) => I2 (fun _ kW _ c_5 Jm w => X (kW, c_5, Jm) w) k2 Cz t.1 lG t.2.1 t.2.2 w) (kW, c_5, Jm) w
theorem aoY (k2 : K3) (h2 : E3 Q k2 2 0 3 4) (h : Sm k2 (g 0) (g 3) (g 4) (g 5) (g 6) w) : bD pg mI (bI (aB 2 (bI (aF 1 (aB 1 (bI (bI (aB 1 (aF 1 (aB 2 lT)))))))))) Q g w := by
 refine CX (fun g : Env => (g 3, g 5, g 6)) (fun X t w => I2 (fun _ kW _ c_5 Jm w => X (kW, c_5, Jm) w) k2 (g 0) t.1 (g 4) t.2.1 t.2.2 w) h (fun X g1 w1 ha hL => ?_)
 rw [<- kA 0 ha, <- kA 4 ha] at hL
 exact (arJ _ g1 w1 (fun _ kW _ c_5 Jm w => X (kW, c_5, Jm) w) k2 (fun _ _ h => h) h2 hL)
def Q5 (kn : K3) (Cz kW lG c_5 Jm : aNY) (w : aNX) : Prop :=
 Sm kn Cz kW lG c_5 Jm w
def QZ (kn : K5) (Cz kW lG : aNY) (w : aNX) : Prop :=
 aD pg (CN 9 Cz lG) w fun c5 w =>
 kn Cz kW lG c5 (aNZ 0) w
theorem anE (kn : K5) (hn : N5 Q kn 0 3 4 5 6) (h : QZ kn (g 0) (g 3) (g 4) w) : bD pg mI (aF 2 (bI (aF 1 (aB 1 (bI (bI (aB 1 (aF 1 (aB 2 lT))))))))) Q g w :=
 eK (kr := no) (l := []) h hn gR trivial
def ZO (kn : K3) (Cz kW lG : aNY) (w : aNX) : Prop :=
 QZ (fun Cz kW lG c_5 Jm w => Q5 kn Cz kW lG c_5 Jm w) Cz kW lG w
def RJ (kn : K3) (Cz kW lG : aNY) (w : aNX) : Prop :=
 ZO kn Cz kW lG w
def Ro (kn : K3) (Cz kW lG : aNY) (w : aNX) : Prop :=
 RJ (fun Cz kW lG w => IS kn Cz kW lG w) Cz kW lG w
theorem aqM (kn : K3) (hn : N3 Q kn 0 3 4) (h : RJ kn (g 0) (g 3) (g 4) w) : bD pg mI (aF 1 (aB 1 (bI (bI (aB 1 (aF 1 (aB 2 lT))))))) Q g w :=
 xC 1 (jA 2 (anE _ g w (Q5 kn) (fun g w h => aJ (xC 2 (aoY _ g w kn hn h))) h))
def PB (kn : K3) (k0 : K1) (Cz kW lG : aNY) (w : aNX) : Prop :=
 aD pg (lI .len #[9] 3 [Cz]) w fun b9 w =>
 aD pg (aI .lss 3 aM aM lG b9) w fun c0 w =>
 gU c0
  (kn Cz kW lG w)
  (k0 kW w)
theorem aiI (kn : K3) (k0 : K1) (hn : N3 Q kn 0 3 4) (h0 : E1 Q k0 0 3) (h : PB kn k0 (g 0) (g 3) (g 4) w) : bD pg mI (aF 1 (bI (bI (aB 1 (aF 1 (aB 2 lT)))))) Q g w :=
 eK (kr := no) (l := [(0, fun g w => k0 (g 3) w)]) h hn gR ⟨h0, trivial⟩
def Gf (kn : K3) (k0 : K1) (Cz kW lG : aNY) (w : aNX) : Prop :=
 PB (fun Cz kW lG w => Ro kn Cz kW lG w) k0 Cz kW lG w
def M7 (k0 : K1) (Cz kW lG : aNY) (w : aNX) : Prop :=
 cR (fun (X : (aNY × aNY) -> K0) (t : aNY × aNY) (w : aNX) => Gf (fun _ kW lG w => X (kW, lG) w) k0 Cz t.1 t.2 w) (kW, lG) w
theorem akT (kn : K3) (k0 : K1) (hn : N3 Q kn 0 3 4) (h0 : E1 Q k0 0 3) (h : Gf kn k0 (g 0) (g 3) (g 4) w) : bD pg mI (bI (bI (aB 1 (aF 1 (aB 2 lT))))) Q g w :=
 jA 1 (aiI _ g w (Ro kn) k0 (fun g w h => aJ (jA 1 (aqM _ g w (IS kn) (fun g w h => aJ (arE _ g w kn hn h)) h))) h0 h)
theorem aiS (k0 : K1) (h0 : E1 Q k0 0 3) (h : M7 k0 (g 0) (g 3) (g 4) w) : bD pg mI (bI (aB 1 (aF 1 (aB 2 lT)))) Q g w := by
 refine CX (fun g : Env => (g 3, g 4)) (fun X t w => Gf (fun _ kW lG w => X (kW, lG) w) k0 (g 0) t.1 t.2 w) h (fun X g1 w1 ha hL => ?_)
 rw [<- kA 0 ha] at hL
 exact (akT _ g1 w1 (fun _ kW lG w => X (kW, lG) w) k0 (fun _ _ h => h) h0 hL)
def Nz (kn : K1) (Cz kW lG : aNY) (w : aNX) : Prop :=
 M7 kn Cz kW lG w
def Nt (kn : K3) (Cz kW : aNY) (w : aNX) : Prop :=
 kn Cz kW (aNZ 0) w
theorem alL (kn : K3) (hn : N3 Q kn 0 3 4) (h : Nt kn (g 0) (g 3) w) : bD pg mI (aF 1 (aF 1 (aB 2 lT))) Q g w :=
 eK (kr := no) (l := []) h hn gR trivial
def Pm (kn : K1) (Cz kW : aNY) (w : aNX) : Prop :=
 Nt (fun Cz kW lG w => Nz kn Cz kW lG w) Cz kW w
def NO (R : K1) (Cz kW : aNY) (w : aNX) : Prop :=
 Pm (fun kW w => IF R kW w) Cz kW w
theorem aiC (kn : K1) (hn : N1 Q kn 3) (h : Pm kn (g 0) (g 3) w) : bD pg mI (aF 1 (aB 2 lT)) Q g w :=
 jA 1 (alL _ g w (Nz kn) (fun g w h => aJ (xC 0 (aiS _ g w kn hn h))) h)
def ND (kn : K2) (Cz : aNY) (w : aNX) : Prop :=
 kn Cz (.slice none 0 0) w
theorem afY (kn : K2) (hn : N2 Q kn 0 3) (h : ND kn (g 0) w) : bD pg mI (aF 2 lT) Q g w :=
 eK (kr := no) (l := []) h hn gR trivial
def M5 (R : K1) (Cz : aNY) (w : aNX) : Prop :=
 ND (fun Cz kW w => NO R Cz kW w) Cz w
theorem ahI (R : K1) (hr : HR QJ R Q) (h : M5 R (g 0) w) : bD pg mI lT Q g w :=
 jA 2 (afY _ g w (NO R) (fun g w h => aJ (jA 1 (aiC _ g w (IF R) (fun g w h => aJ (apI _ g w R hr h)) h))) h)
def ayF (a0 : aNY) (w : aNX) (R : K1) : Prop :=
 M5 R a0 w
theorem avP {a0 : aNY} {w : aNX} {R : K1} (h : ayF a0 w R) : aS pg GI #[a0] w R := by
 refine uP (ann := mI) Tryz.f90 lT [a0] QJ 29 TryzM.mixed Tryz.func90 ?_
 exact (ahI _ _ _ R (fun _ _ h => h) h)
def WT : FA := ⟨zS, fun i => .leaf ([], []) []⟩
def ZD : List ResultVar := [.cell 4 176, .tmp 5, .tmp 6]
noncomputable def UO : Code := dH Tryz.f91
def Rz (R : K1) (PV kN : aNY) (w : aNX) : Prop :=
 aD pg (B4 176 PV) w fun f_2 w =>
 aD pg (fW 176) w fun b4 w =>
 aD pg (aI .lss 3 aM aM kN (aNZ 0)) w fun b9 w =>
 Gd (gQ b9 false) (fun K => K kN w) w fun c1 w =>
 Gd (gQ b9 false) (fun K => aD pg (aI .gtr 3 aM aM c1 (aNZ 32)) w K) w fun c2 w =>
 aD pg (iO b9 (.bool true) c2) w fun c3 w =>
 gU c3
  (aD pg (aL 176 f_2) w fun c4 w =>
  aD pg (aT 176 b4 c4) w fun _u w =>
  Ac pg 176 b4 w fun r0 => R (.tuple #[r0, (.int .u64 0), (aNZ 1)]) w)
  (aD pg (aK 176 f_2 0) w fun c5 w =>
  aD pg (aL 131 c5) w fun c6 w =>
  aD pg (lI .len #[131] 3 [c6]) w fun c7 w =>
  aD pg (aK 176 f_2 1) w fun c8 w =>
  aD pg (aL 3 c8) w fun c9 w =>
  aD pg (aI .sub 3 aM aM c7 c9) w fun d0 w =>
  aD pg (aI .lss 3 aM aM d0 kN) w fun d2 w =>
  gU d2
   (aD pg (aL 176 f_2) w fun d3 w =>
   aD pg (aT 176 b4 d3) w fun _u w =>
   Ac pg 176 b4 w fun r0 => R (.tuple #[r0, (.int .u64 0), (aNZ 10)]) w)
   (aD pg (aK 176 f_2 0) w fun d4 w =>
   aD pg (aL 131 d4) w fun d5 w =>
   aD pg (aK 176 f_2 1) w fun d6 w =>
   aD pg (aL 3 d6) w fun d7 w =>
   aD pg (aK 176 f_2 1) w fun d8 w =>
   aD pg (aL 3 d8) w fun d9 w =>
   aD pg (aI .add 3 aM aM d9 kN) w fun e1 w =>
   aD pg (mD 131 d5 (some d7) (some e1) none) w fun e2 w =>
   aS pg BA #[e2] w fun e3 w =>
   aD pg (aK 176 f_2 1) w fun e4 w =>
   aD pg (aL 3 e4) w fun e5 w =>
   aD pg (aI .add 3 aM aM e5 kN) w fun e7 w =>
   aD pg (aK 176 f_2 1) w fun e8 w =>
   aD pg (aT 3 e8 e7) w fun _u w =>
   aD pg (aL 176 f_2) w fun e9 w =>
   aD pg (aT 176 b4 e9) w fun _u w =>
   Ac pg 176 b4 w fun r0 => R (.tuple #[r0, e3, (aNZ 0)]) w))
theorem apX (R : K1) (hr : HR ZD R Q) (h : Rz R (g 0) (g 1) w) : bD pg WT UO Q g w :=
 eK (kn := no) (l := []) h gR hr trivial
def ayB (a0 a1 : aNY) (w : aNX) (R : K1) : Prop :=
 Rz R a0 a1 w
theorem auL {a0 a1 : aNY} {w : aNX} {R : K1} (h : ayB a0 a1 w R) : aS pg zS #[a0, a1] w R := by
 refine uP (ann := WT) Tryz.f91 UO [a0, a1] ZD 41 TryzM.mixed Tryz.func91 ?_
 exact (apX _ _ _ R (fun _ _ h => h) h)
def XF : FA := ⟨Mz, fun i => .leaf ([], []) []⟩
def ZG : List ResultVar := [.cell 4 176, .tmp 5, .tmp 6]
noncomputable def Uz : Code := dH Tryz.f92
def RQ (R : K1) (PV azY : aNY) (w : aNX) : Prop :=
 aD pg (B4 176 PV) w fun f_2 w =>
 aD pg (fW 176) w fun b4 w =>
 aD pg (aI .add 3 aM aM azY (aNZ 1)) w fun c4 w =>
 aS pg I9 #[c4] w fun c5 w =>
 aD pg (aL 176 f_2) w fun c7 w =>
 aD pg (aI .sub 3 aM aM c5 (aNZ 1)) w fun c9 w =>
 aS pg zS #[c7, c9] w fun d0 w =>
 aD pg (bP d0 0) w fun d1 w =>
 aD pg (bP d0 1) w fun d2 w =>
 aD pg (bP d0 2) w fun d3 w =>
 aD pg (aT 176 f_2 d1) w fun _u w =>
 aD pg (aI .neq 27 (.tmp 24) (.const (aNZ 0)) d3 (aNZ 0)) w fun d5 w =>
 gU d5
  (aD pg (aL 176 f_2) w fun d6 w =>
  aD pg (aT 176 b4 d6) w fun _u w =>
  Ac pg 176 b4 w fun r0 => R (.tuple #[r0, (aNZ 0), d3]) w)
  (aD pg (aI .sub 3 aM aM c5 (aNZ 1)) w fun d9 w =>
  aS pg oD #[d9] w fun e0 w =>
  aD pg (aI .mul 3 aM aM (aNZ 2) e0) w fun e2 w =>
  aD pg (aI .sub 3 aM aM e2 (aNZ 2)) w fun e3 w =>
  aD pg (aI .sub 3 aM aM e3 azY) w fun e5 w =>
  aD pg (jP 24 3 d2) w fun e7 w =>
  aD pg (aI .lss 3 aM aM e7 e5) w fun e9 w =>
  gU e9
   (aD pg (aL 176 f_2) w fun f0 w =>
   aD pg (jP 24 3 d2) w fun f2 w =>
   aD pg (aT 176 b4 f0) w fun _u w =>
   Ac pg 176 b4 w fun r0 => R (.tuple #[r0, f2, (aNZ 0)]) w)
   (aD pg (aL 176 f_2) w fun f4 w =>
   aS pg zS #[f4, (aNZ 1)] w fun f5 w =>
   aD pg (bP f5 0) w fun f6 w =>
   aD pg (bP f5 1) w fun f7 w =>
   aD pg (bP f5 2) w fun f8 w =>
   aD pg (aT 176 f_2 f6) w fun _u w =>
   aD pg (aI .neq 27 (.tmp 49) (.const (aNZ 0)) f8 (aNZ 0)) w fun i0 w =>
   gU i0
    (aD pg (aL 176 f_2) w fun i1 w =>
    aD pg (aT 176 b4 i1) w fun _u w =>
    Ac pg 176 b4 w fun r0 => R (.tuple #[r0, (aNZ 0), f8]) w)
    (aD pg (aI .eql 24 (.tmp 53) (.const (.int .u64 1)) f7 (.int .u64 1)) w fun i4 w =>
    gU i4
     (aD pg (aL 176 f_2) w fun i5 w =>
     aD pg (jP 24 3 d2) w fun i7 w =>
     aD pg (aI .add 3 aM aM i7 e0) w fun i9 w =>
     aD pg (aI .sub 3 aM aM i9 e5) w fun j1 w =>
     aD pg (aT 176 b4 i5) w fun _u w =>
     Ac pg 176 b4 w fun r0 => R (.tuple #[r0, j1, (aNZ 0)]) w)
     (aD pg (aL 176 f_2) w fun j2 w =>
     aD pg (jP 24 3 d2) w fun j4 w =>
     aD pg (aT 176 b4 j2) w fun _u w =>
     Ac pg 176 b4 w fun r0 => R (.tuple #[r0, j4, (aNZ 0)]) w))))
theorem anZ (R : K1) (hr : HR ZG R Q) (h : RQ R (g 0) (g 1) w) : bD pg XF Uz Q g w :=
 eK (kn := no) (l := []) h gR hr trivial
def ayN (a0 a1 : aNY) (w : aNX) (R : K1) : Prop :=
 RQ R a0 a1 w
theorem auO {a0 a1 : aNY} {w : aNX} {R : K1} (h : ayN a0 a1 w R) : aS pg Mz #[a0, a1] w R := by
 refine uP (ann := XF) Tryz.f92 Uz [a0, a1] ZG 65 TryzM.mixed Tryz.func92 ?_
 exact (anZ _ _ _ R (fun _ _ h => h) h)
def Xz : FA := ⟨MH, fun i => .leaf ([], []) []⟩
def ZR : List ResultVar := [.tmp 2]
noncomputable def U1 : Code := dH Tryz.f93
def RW (R : K1) (PV : aNY) (w : aNX) : Prop :=
 aD pg (B4 176 PV) w fun f_1 w =>
 aD pg (aK 176 f_1 1) w fun b3 w =>
 aD pg (aL 3 b3) w fun b4 w =>
 aD pg (aI .add 3 aM aM b4 (aNZ 7)) w fun b5 w =>
 aD pg (aI .quo 3 aM aM b5 (aNZ 8)) w fun b6 w =>
 R b6 w
theorem aoV (R : K1) (hr : HR ZR R Q) (h : RW R (g 0) w) : bD pg Xz U1 Q g w :=
 eK (kn := no) (l := []) h gR hr trivial
def azH (a0 : aNY) (w : aNX) (R : K1) : Prop :=
 RW R a0 w
theorem auH {a0 : aNY} {w : aNX} {R : K1} (h : azH a0 w R) : aS pg MH #[a0] w R := by
 refine uP (ann := Xz) Tryz.f93 U1 [a0] ZR 7 TryzM.mixed Tryz.func93 ?_
 exact (aoV _ _ _ R (fun _ _ h => h) h)
def UB : FA := ⟨Je, fun i => .leaf ([], []) []⟩
def WY : List ResultVar := [.tmp 4]
noncomputable def Tf : Code := dH Tryz.f94
def Pr (R : K1) (Ma PE : aNY) (w : aNX) : Prop :=
 aD pg (B4 128 Ma) w fun Mt w =>
 aD pg (aL 128 Mt) w fun b6 w =>
 aS pg Qv #[b6] w fun b7 w =>
 aD pg (sUn .not b7) w fun b9 w =>
 gU b9
  (R (aNZ 1) w)
  (aD pg (aK 128 Mt 0) w fun c0 w =>
  aD pg (aL 3 c0) w fun c1 w =>
  aD pg (aI .gtr 3 aM aM c1 PE) w fun c3 w =>
  gU c3
   (R (aNZ 12) w)
   (R (aNZ 0) w))
theorem aiW (R : K1) (hr : HR WY R Q) (h : Pr R (g 0) (g 1) w) : bD pg UB Tf Q g w :=
 eK (kn := no) (l := []) h gR hr trivial
def arY (a0 a1 : aNY) (w : aNX) (R : K1) : Prop :=
 Pr R a0 a1 w
theorem apV {a0 a1 : aNY} {w : aNX} {R : K1} (h : arY a0 a1 w R) : aS pg Je #[a0, a1] w R := by
 refine uP (ann := UB) Tryz.f94 Tf [a0, a1] WY 14 TryzM.mixed Tryz.func94 ?_
 exact (aiW _ _ _ R (fun _ _ h => h) h)
end Go.Proofs.YtgpimhlgaokobaaGreat

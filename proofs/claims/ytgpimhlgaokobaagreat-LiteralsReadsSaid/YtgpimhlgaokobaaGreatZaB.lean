/- Parts of the proof of LiteralsReads: merged and given short names by a program of ours. -/
import Derived.Test.YtgpimhlgaokobaaGreatZaA
set_option linter.unusedVariables false
set_option linter.unusedSimpArgs false
namespace Go.Proofs.YtgpimhlgaokobaaGreat
open Go Go.En
set_option maxRecDepth 20000
attribute [local irreducible] Go.En.bD
variable (Q : Exit -> Env -> aNj -> Prop) (g : Env) (w : aNj)
def jL : FA := ⟨B6, fun i => match Nat.beq i 22 with | true => .leaf ([8, 9], [(0, 8), (1, 8), (3, 8), (4, 8), (5, 8), (6, 8), (7, 8)]) [(false, []), (false, []), (false, []), (false, []), (false, []), (false, []), (false, []), (false, []), (true, [0, 1, 2, 3, 4, 6, 7]), (true, [])] | false => match Nat.beq i 24 with | true => .leaf ([1], [(1, 2), (1, 3)]) [(false, []), (true, []), (false, [0]), (false, [1]), (false, [])] | false => match Nat.beq i 25 with | true => .leaf ([11, 12], []) [(false, []), (false, []), (false, []), (false, []), (false, []), (false, []), (false, []), (false, []), (false, []), (false, []), (false, []), (true, []), (true, []), (false, [])] | false => match Nat.beq i 26 with | true => .leaf ([8, 10], [(1, 8)]) [(false, []), (false, []), (false, []), (false, []), (false, []), (false, []), (false, []), (false, []), (true, [6]), (false, []), (true, [])] | false => .leaf ([], []) []⟩
def wR : List ResultVar := [.tmp 2, .tmp 3]
noncomputable def iS : Code := dE Tryz.f39
def wG (R : K1) (kL : aNk) (w : aNj) : Prop :=
 aD pg (lO .len #[22] 3 [kL]) w fun o0 w =>
 aD pg (aI .geq 3 aM aM o0 (aNl 256)) w fun o1 w =>
 gX o1
  (R (.tuple #[(.slice none 0 0), (aNl 11)]) w)
  (R (.tuple #[kL, (aNl 0)]) w)
theorem VB (R : K1) (hr : HR wR R Q) (h : wG R (g 11) w) : bD pg jL (aB 1 (aB 3 (aB 1 (aB 7 (bI (aB 1 iS)))))) Q g w :=
 eP (kn := no) (l := []) h gS hr trivial
def A1 (kn : K5) (k2 : K1) (Jq b8 b9 kL i4 : aNk) (w : aNj) : Prop :=
 aD pg (aI .lss 3 aM aM i4 (aNl 256)) w fun i5 w =>
 gX i5
  (aD pg (aJ 108 b8 1) (dr w) fun i7 w_ => w_ = (dr w) /\
  aD pg (aL 106 i7) (dr w) fun i8 w_ => w_ = (dr w) /\
  (dr w) = (dr w) /\
  aD pg (aI .rem 3 aM aM i4 (aNl 2)) (dr w) fun j0 w_ => w_ = (dr w) /\
  aD pg (cI 111 b9 j0) (dr w) fun j1 w_ => w_ = (dr w) /\
  aD pg (aL 3 j1) (dr w) fun j2 w_ => w_ = (dr w) /\
  aD pg (cI 106 i8 j2) (dr w) fun j3 w_ => w_ = (dr w) /\
  aD pg (aL 115 j3) (dr w) fun j4 w_ => w_ = (dr w) /\
  aD pg (fP 115) (dr w) fun aHZ asA =>
  (jF pg (aL 115 j3) j4 asA /\ jF pg (cI 106 i8 j2) j3 asA /\ jF pg (aL 3 j1) j2 asA /\ jF pg (cI 111 b9 j0) j1 asA /\ jF pg (aI .rem 3 aM aM i4 (aNl 2)) j0 asA /\ jF pg (aL 106 i7) i8 asA /\ jF pg (aJ 108 b8 1) i7 asA /\ True) /\
  aD pg (aR 115 aHZ j4) asA fun _u9 aJ4 =>
  aD pg (aJ 115 aHZ 0) aJ4 fun j6 w =>
  aD pg (aL 5 j6) w fun j7 w =>
  aD pg (cT 22 1 [(0, j7)]) w fun j8 w =>
  aD pg (lO .append #[22, 22] 22 [kL, j8]) w fun j9 w =>
  (dr w) = (dr w) /\
  aS pg qO #[Jq] (dr w) fun l1 pF =>
  aD pg (aJ 115 aHZ 1) pF fun l2 w_ => w_ = pF /\
  (jF pg (aJ 115 aHZ 1) l2 (dr w) /\ True) /\
  aD pg (aL 3 l2) pF fun l3 w_ => w_ = pF /\
  (jF pg (aL 3 l2) l3 (dr w) /\ True) /\
  aD pg (aI .lss 3 aM aM l1 l3) pF fun l4 w_ => w_ = pF /\
  gX l4
   ((dr pF) = (dr pF) /\
   aD pg (aJ 108 b8 1) (dr pF) fun l6 w_ => w_ = (dr pF) /\
   aD pg (aL 106 l6) (dr pF) fun l7 w_ => w_ = (dr pF) /\
   (dr pF) = (dr pF) /\
   aD pg (aI .add 3 aM aM i4 (aNl 1)) (dr pF) fun l9 w_ => w_ = (dr pF) /\
   aD pg (aI .rem 3 aM aM l9 (aNl 2)) (dr pF) fun m0 w_ => w_ = (dr pF) /\
   aD pg (cI 111 b9 m0) (dr pF) fun m1 w_ => w_ = (dr pF) /\
   aD pg (aL 3 m1) (dr pF) fun m2 w_ => w_ = (dr pF) /\
   aD pg (cI 106 l7 m2) (dr pF) fun m3 w_ => w_ = (dr pF) /\
   aD pg (aJ 115 m3 0) (dr pF) fun m4 w_ => w_ = (dr pF) /\
   aD pg (aL 5 m4) (dr pF) fun m5 w_ => w_ = (dr pF) /\
   aD pg (cT 22 1 [(0, m5)]) (dr pF) fun m6 aJq =>
   aD pg (lO .append #[22, 22] 22 [j9, m6]) aJq fun m7 aEa =>
   aEa = aEa /\
   k2 m7 aEa)
   ((dr pF) = (dr pF) /\
   aD pg (aI .rem 3 aM aM i4 (aNl 2)) (dr pF) fun m9 w_ => w_ = (dr pF) /\
   aD pg (aL 108 b8) (dr pF) fun n0 w_ => w_ = (dr pF) /\
   (dr pF) = (dr pF) /\
   aD pg (aI .rem 3 aM aM i4 (aNl 2)) (dr pF) fun n2 w_ => w_ = (dr pF) /\
   aD pg (cI 111 b9 n2) (dr pF) fun n3 w_ => w_ = (dr pF) /\
   aD pg (aL 3 n3) (dr pF) fun n4 w_ => w_ = (dr pF) /\
   (dr pF) = (dr pF) /\
   aS pg Tb #[n0, n4, Jq] (dr pF) fun n6 aE1 =>
   (jF pg (aI .rem 3 aM aM i4 (aNl 2)) m9 aE1 /\ True) /\
   aD pg (cI 111 b9 m9) aE1 fun n7 w_ => w_ = aE1 /\
   aD pg (aR 3 n7 n6) aE1 fun _u10 aIT =>
   aD pg (aI .add 3 aM aM i4 (aNl 1)) aIT fun n8 w =>
   kn Jq b8 b9 j9 n8 w))
  (k2 kL w)
theorem Xf (kn : K5) (k2 : K1) (hn : N5 Q kn 7 8 9 11 54) (h2 : E1 Q k2 2 11) (h : A1 kn k2 (g 7) (g 8) (g 9) (g 11) (g 54) w) : bD pg jL (bI (bI (aB 1 (aF 1 (aB 3 (aB 1 (aB 7 (bI (aB 1 iS))))))))) Q g w :=
 eP (kr := no) (l := [(2, fun g w => k2 (g 11) w)]) h hn gS ⟨h2, trivial⟩
def Gg (k2 : K1) (Jq b8 b9 kL i4 : aNk) (w : aNj) : Prop :=
 cU (fun (X : (aNk × aNk) -> K0) (t : aNk × aNk) (w : aNj) => A1 (fun _ _ _ kL i4 w => X (kL, i4) w) k2 Jq b8 b9 t.1 t.2 w) (kL, i4) w
theorem V8 (k2 : K1) (h2 : E1 Q k2 2 11) (h : Gg k2 (g 7) (g 8) (g 9) (g 11) (g 54) w) : bD pg jL (bI (aB 1 (aF 1 (aB 3 (aB 1 (aB 7 (bI (aB 1 iS)))))))) Q g w := by
 refine Dt (fun g : Env => (g 11, g 54)) (fun X t w => A1 (fun _ _ _ kL i4 w => X (kL, i4) w) k2 (g 7) (g 8) (g 9) t.1 t.2 w) h (fun X g1 w1 ha hL => ?_)
 rw [<- jX 7 ha, <- jX 8 ha, <- jX 9 ha] at hL
 exact (Xf _ g1 w1 (fun _ _ _ kL i4 w => X (kL, i4) w) k2 (fun _ _ h => h) h2 hL)
def GD (kn : K1) (Jq b8 b9 kL i4 : aNk) (w : aNj) : Prop :=
 Gg kn Jq b8 b9 kL i4 w
def EL (kn : K5) (Jq b8 b9 kL : aNk) (w : aNj) : Prop :=
 kn Jq b8 b9 kL (aNl 0) w
theorem Xl (kn : K5) (hn : N5 Q kn 7 8 9 11 54) (h : EL kn (g 7) (g 8) (g 9) (g 11) w) : bD pg jL (aF 1 (aF 1 (aB 3 (aB 1 (aB 7 (bI (aB 1 iS))))))) Q g w :=
 eP (kr := no) (l := []) h hn gS trivial
def FC (kn : K1) (Jq b8 b9 kL : aNk) (w : aNj) : Prop :=
 EL (fun Jq b8 b9 kL i4 w => GD kn Jq b8 b9 kL i4 w) Jq b8 b9 kL w
def AJ (R : K1) (Jq b8 b9 kL : aNk) (w : aNj) : Prop :=
 FC (fun kL w => wG R kL w) Jq b8 b9 kL w
theorem Vw (kn : K1) (hn : N1 Q kn 11) (h : FC kn (g 7) (g 8) (g 9) (g 11) w) : bD pg jL (aF 1 (aB 3 (aB 1 (aB 7 (bI (aB 1 iS)))))) Q g w :=
 jE 1 (Xl _ g w (GD kn) (fun g w h => aK (wT 2 (V8 _ g w kn hn h))) h)
def EX (kn : K4) (R : K1) (Jq b8 b9 : aNk) (w : aNj) : Prop :=
 aS pg qO #[Jq] w fun i2 w =>
 aD pg (aI .lss 3 aM aM i2 (aNl 0)) w fun i3 w =>
 gX i3
  (R (.tuple #[(.slice none 0 0), (aNl 11)]) w)
  (kn Jq b8 b9 (.slice none 0 0) w)
theorem WN (kn : K4) (R : K1) (hn : N4 Q kn 7 8 9 11) (hr : HR wR R Q) (h : EX kn R (g 7) (g 8) (g 9) w) : bD pg jL (aF 3 (aB 1 (aB 7 (bI (aB 1 iS))))) Q g w :=
 eP (l := []) h hn hr trivial
def AL (R : K1) (Jq b8 b9 : aNk) (w : aNj) : Prop :=
 EX (fun Jq b8 b9 kL w => AJ R Jq b8 b9 kL w) R Jq b8 b9 w
def yQ (kn : K4) (k0 : K3) (Jq b8 b9 f2 : aNk) (w : aNj) : Prop :=
 aD pg (aI .lss 3 aM aM f2 (aNl 2)) w fun f3 w =>
 gX f3
  (aD pg (aL 108 b8) w fun f6 w =>
  aS pg P4 #[f6, Jq] w fun f8 w =>
  aD pg (cI 111 b9 f2) w fun f9 w =>
  aD pg (aR 3 f9 f8) w fun _u w =>
  aD pg (aI .add 3 aM aM f2 (aNl 1)) w fun i0 w =>
  kn Jq b8 b9 i0 w)
  (k0 Jq b8 b9 w)
theorem Vl (kn : K4) (k0 : K3) (hn : N4 Q kn 7 8 9 42) (h0 : E3 Q k0 0 7 8 9) (h : yQ kn k0 (g 7) (g 8) (g 9) (g 42) w) : bD pg jL (bI (bI (aB 1 (aF 1 (aB 7 (bI (aB 1 iS))))))) Q g w :=
 eP (kr := no) (l := [(0, fun g w => k0 (g 7) (g 8) (g 9) w)]) h hn gS ⟨h0, trivial⟩
def D9 (k0 : K3) (Jq b8 b9 f2 : aNk) (w : aNj) : Prop :=
 cU (fun (X : aNk -> K0) (t : aNk) (w : aNj) => yQ (fun _ _ _ f2 w => X f2 w) k0 Jq b8 b9 t w) f2 w
theorem Ve (k0 : K3) (h0 : E3 Q k0 0 7 8 9) (h : D9 k0 (g 7) (g 8) (g 9) (g 42) w) : bD pg jL (bI (aB 1 (aF 1 (aB 7 (bI (aB 1 iS)))))) Q g w := by
 refine Dt (fun g : Env => g 42) (fun X t w => yQ (fun _ _ _ f2 w => X f2 w) k0 (g 7) (g 8) (g 9) t w) h (fun X g1 w1 ha hL => ?_)
 rw [<- jX 7 ha, <- jX 8 ha, <- jX 9 ha] at hL
 exact (Vl _ g1 w1 (fun _ _ _ f2 w => X f2 w) k0 (fun _ _ h => h) h0 hL)
def DR (kn : K3) (Jq b8 b9 f2 : aNk) (w : aNj) : Prop :=
 D9 kn Jq b8 b9 f2 w
def DP (kn : K4) (Jq b8 b9 : aNk) (w : aNj) : Prop :=
 kn Jq b8 b9 (aNl 0) w
theorem Vf (kn : K4) (hn : N4 Q kn 7 8 9 42) (h : DP kn (g 7) (g 8) (g 9) w) : bD pg jL (aF 1 (aF 1 (aB 7 (bI (aB 1 iS))))) Q g w :=
 eP (kr := no) (l := []) h hn gS trivial
def DT (kn : K3) (Jq b8 b9 : aNk) (w : aNj) : Prop :=
 DP (fun Jq b8 b9 f2 w => DR kn Jq b8 b9 f2 w) Jq b8 b9 w
def yX (R : K1) (Jq b8 b9 : aNk) (w : aNj) : Prop :=
 DT (fun Jq b8 b9 w => AL R Jq b8 b9 w) Jq b8 b9 w
theorem UE (kn : K3) (hn : N3 Q kn 7 8 9) (h : DT kn (g 7) (g 8) (g 9) w) : bD pg jL (aF 1 (aB 7 (bI (aB 1 iS)))) Q g w :=
 jE 1 (Vf _ g w (DR kn) (fun g w h => aK (wT 0 (Ve _ g w kn hn h))) h)
def DX (kn : K3) (R : K1) (fO : aNk) (w : aNj) : Prop :=
 aS pg IV #[fO, (aNl 6), (aNl 12)] w fun c6 w =>
 aD pg (bQ c6 0) w fun c7 w =>
 aD pg (bQ c6 1) w fun c8 w =>
 aD pg (bQ c6 2) w fun c9 w =>
 aD pg (fP 100) w fun c_4 w =>
 aD pg (aR 100 c_4 c7) w fun _u w =>
 aD pg (aI .neq 27 (.tmp 20) (.const (aNl 0)) c9 (aNl 0)) w fun d1 w =>
 gX d1
  (R (.tuple #[(.slice none 0 0), c9]) w)
  (aD pg (lX 22 fO (some c8) none none) w fun d6 w =>
  aS pg sD #[d6] w fun d7 w =>
  aD pg (bQ d7 0) w fun d8 w =>
  aD pg (bQ d7 1) w fun d9 w =>
  aD pg (aI .neq 27 (.tmp 30) (.const (aNl 0)) d9 (aNl 0)) w fun e1 w =>
  gX e1
   (R (.tuple #[(.slice none 0 0), d9]) w)
   (aD pg (aL 100 c_4) w fun e4 w =>
   aS pg I7 #[e4] w fun e5 w =>
   aD pg (bQ e5 0) w fun e6 w =>
   aD pg (bQ e5 1) w fun e7 w =>
   aD pg (fP 108) w fun b8 w =>
   aD pg (aR 108 b8 e6) w fun _u w =>
   aD pg (aI .neq 27 (.tmp 38) (.const (aNl 0)) e7 (aNl 0)) w fun e9 w =>
   gX e9
    (R (.tuple #[(.slice none 0 0), e7]) w)
    (aD pg (fV 111 []) w fun f1 w =>
    aD pg (fP 111) w fun b9 w =>
    aD pg (aR 111 b9 f1) w fun _u w =>
    kn d8 b8 b9 w)))
theorem UO (kn : K3) (R : K1) (hn : N3 Q kn 7 8 9) (hr : HR wR R Q) (h : DX kn R (g 0) w) : bD pg jL (aF 7 (bI (aB 1 iS))) Q g w :=
 eP (l := []) h hn hr trivial
def Nq (R : K1) (fO : aNk) (w : aNj) : Prop :=
 DX (fun Jq b8 b9 w => yX R Jq b8 b9 w) R fO w
def DV (R : K1) (fO : aNk) (w : aNj) : Prop :=
 Nq R fO w
def DJ (kn : K1) (fO : aNk) (w : aNj) : Prop :=
 kn fO w
theorem U7 (kn : K1) (hn : N1 Q kn 0) (h : DJ kn (g 0) w) : bD pg jL (aF 1 iS) Q g w :=
 eP (kr := no) (l := []) h hn gS trivial
def D8 (R : K1) (fO : aNk) (w : aNj) : Prop :=
 DJ (fun fO w => DV R fO w) fO w
theorem US (R : K1) (hr : HR wR R Q) (h : D8 R (g 0) w) : bD pg jL iS Q g w :=
 jE 1 (U7 _ g w (DV R) (fun g w h => aK (scD (jE 7 (UO _ g w (yX R) R (fun g w h => aK (jE 1 (UE _ g w (AL R) (fun g w h => aK (jE 3 (WN _ g w (AJ R) R (fun g w h => aK (jE 1 (Vw _ g w (wG R) (fun g w h => aK (VB _ g w R hr h)) h))) hr h))) h))) hr h)))) h)
def VK (a0 : aNk) (w : aNj) (R : K1) : Prop :=
 D8 R a0 w
theorem XZ {a0 : aNk} {w : aNj} {R : K1} (h : VK a0 w R) : aS pg B6 #[a0] w R := by
 refine uE (ann := jL) Tryz.f39 iS [a0] wR 103 TryzM.mixed Tryz.func39 ?_
 exact (US _ _ _ R (fun _ _ h => h) h)
def PX : FA := ⟨Dm, fun i => .leaf ([], []) []⟩
def R4 : List ResultVar := [.tmp 2, .tmp 3]
noncomputable def MD : Code := dE Tryz.f40
def Ii (R : K1) (cR : aNk) (w : aNj) : Prop :=
 aS pg zY #[cR] w fun c0 w =>
 aD pg (bQ c0 0) w fun c1 w =>
 aD pg (bQ c0 1) w fun c2 w =>
 aD pg (sUn .not c2) w fun c4 w =>
 Gd (iM c4 false) (fun K => K cR w) w fun c6 w =>
 Gd (iM c4 false) (fun K => aD pg (lO .len #[22] 3 [c6]) w K) w fun c7 w =>
 Gd (iM c4 false) (fun K => aD pg (aI .eql 3 (.tmp 17) (.const (aNl 0)) c7 (aNl 0)) w K) w fun c8 w =>
 aD pg (jR c4 (.bool true) c8) w fun c9 w =>
 Gd (iM c9 false) (fun K => K cR w) w fun d1 w =>
 Gd (iM c9 false) (fun K => aD pg (lO .len #[22] 3 [d1]) w K) w fun d2 w =>
 Gd (iM c9 false) (fun K => aD pg (aI .geq 3 aM aM d2 (aNl 256)) w K) w fun d3 w =>
 aD pg (jR c9 (.bool true) d3) w fun d4 w =>
 Gd (iM d4 false) (fun K => K c1 w) w fun d6 w =>
 Gd (iM d4 false) (fun K => aD pg (aI .eql 3 (.tmp 26) (.const (aNl 0)) d6 (aNl 0)) w K) w fun d7 w =>
 aD pg (jR d4 (.bool true) d7) w fun d8 w =>
 gX d8
  (R (.tuple #[(.slice none 0 0), (aNl 11)]) w)
  (aD pg (jO 3 67 c1) w fun e0 w =>
  aS pg rU #[e0] w fun e1 w =>
  aD pg (aI .shl 3 aM aM (aNl 1) e1) w fun e3 w =>
  aD pg (aI .sub 3 aM aM e3 c1) w fun e5 w =>
  aD pg (aI .gtr 3 aM aM e1 (aNl 11)) w fun e7 w =>
  Gd (iM e7 false) (fun K => K e5 w) w fun e9 w =>
  Gd (iM e7 false) (fun K => K e5 w) w fun f0 w =>
  Gd (iM e7 false) (fun K => aD pg (aI .sub 3 aM aM f0 (aNl 1)) w K) w fun f1 w =>
  Gd (iM e7 false) (fun K => aD pg (aI .and 3 aM aM e9 f1) w K) w fun f2 w =>
  Gd (iM e7 false) (fun K => aD pg (aI .neq 3 (.tmp 42) (.const (aNl 0)) f2 (aNl 0)) w K) w fun f3 w =>
  aD pg (jR e7 (.bool true) f3) w fun f4 w =>
  gX f4
   (R (.tuple #[(.slice none 0 0), (aNl 11)]) w)
   (aS pg jQ #[cR] w fun f6 w =>
   aD pg (jO 3 67 e5) w fun f8 w =>
   aS pg rU #[f8] w fun f9 w =>
   aD pg (jO 3 5 f9) w fun i0 w =>
   aD pg (cT 22 1 [(0, i0)]) w fun i1 w =>
   aD pg (lO .append #[22, 22] 22 [f6, i1]) w fun i2 w =>
   R (.tuple #[i2, (aNl 0)]) w))
theorem Yk (R : K1) (hr : HR R4 R Q) (h : Ii R (g 0) w) : bD pg PX MD Q g w :=
 eP (kn := no) (l := []) h gS hr trivial
def YV (a0 : aNk) (w : aNj) (R : K1) : Prop :=
 Ii R a0 w
theorem aaQ {a0 : aNk} {w : aNj} {R : K1} (h : YV a0 w R) : aS pg Dm #[a0] w R := by
 refine uE (ann := PX) Tryz.f40 MD [a0] R4 53 TryzM.mixed Tryz.func40 ?_
 exact (Yk _ _ _ R (fun _ _ h => h) h)
def Ud : FA := ⟨Ip, fun i => .leaf ([], []) []⟩
def We : List ResultVar := [.tmp 6, .tmp 7]
noncomputable def Sq : Code := dE Tryz.f41
def Mz (R : K1) (cR b_1 nM : aNk) (w : aNj) : Prop :=
 aS pg Aj #[cR] w fun c2 w =>
 aD pg (bQ c2 0) w fun c3 w =>
 aD pg (bQ c2 1) w fun c4 w =>
 aD pg (fP 122) w fun b8 w =>
 aD pg (aR 122 b8 c3) w fun _u w =>
 aD pg (aI .neq 27 (.tmp 16) (.const (aNl 0)) c4 (aNl 0)) w fun c7 w =>
 gX c7
  (R (.tuple #[(.slice none 0 0), c4]) w)
  (aD pg (aI .lss 3 aM aM nM (aNl 0)) w fun d1 w =>
  Gd (iM d1 false) (fun K => K nM w) w fun d3 w =>
  Gd (iM d1 false) (fun K => aD pg (aI .gtr 3 aM aM d3 (aNl 131072)) w K) w fun d4 w =>
  aD pg (jR d1 (.bool true) d4) w fun d5 w =>
  gX d5
   (R (.tuple #[(.slice none 0 0), (aNl 1)]) w)
   (aD pg (aL 122 b8) w fun d6 w =>
   aS pg tP #[d6, b_1, nM] w fun d9 w =>
   aD pg (bQ d9 0) w fun e0 w =>
   aD pg (bQ d9 1) w fun e1 w =>
   R (.tuple #[e0, e1]) w))
theorem agP (R : K1) (hr : HR We R Q) (h : Mz R (g 0) (g 1) (g 2) w) : bD pg Ud Sq Q g w :=
 eP (kn := no) (l := []) h gS hr trivial
def arL (a0 a1 a2 : aNk) (w : aNj) (R : K1) : Prop :=
 Mz R a0 a1 a2 w
theorem aqI {a0 a1 a2 : aNk} {w : aNj} {R : K1} (h : arL a0 a1 a2 w R) : aS pg Ip #[a0, a1, a2] w R := by
 refine uE (ann := Ud) Tryz.f41 Sq [a0, a1, a2] We 32 TryzM.mixed Tryz.func41 ?_
 exact (agP _ _ _ R (fun _ _ h => h) h)
def lL : FA := ⟨FE, fun i => match Nat.beq i 16 with | true => .leaf ([1, 12], [(1, 2), (1, 3), (1, 5), (1, 6), (1, 8), (1, 9)]) [(false, []), (true, []), (false, [0]), (false, [1]), (false, []), (false, [3]), (false, [4]), (false, []), (false, [6]), (false, [7]), (false, []), (false, []), (true, [])] | false => match Nat.beq i 23 with | true => .leaf ([5, 9], [(0, 5), (5, 7), (5, 8)]) [(false, []), (false, []), (false, []), (false, []), (false, []), (true, [4]), (false, []), (false, [1]), (false, [2]), (true, []), (false, []), (false, []), (false, []), (false, []), (false, [])] | false => .leaf ([], []) []⟩
def rO : List ResultVar := [.tmp 6, .tmp 7]
noncomputable def kO : Code := dE Tryz.f42
def CS (R : K1) (dQ : aNk) (w : aNj) : Prop :=
 R (.tuple #[dQ, (aNl 0)]) w
theorem ZM (R : K1) (hr : HR rO R Q) (h : CS R (g 15) w) : bD pg lL (aB 1 (aB 3 (aB 1 (aB 8 kO)))) Q g w :=
 eP (kn := no) (l := []) h gS hr trivial
def CH (kn : K6) (k2 : K1) (R : K1) (b8 iI sZ gL dQ l1 : aNk) (w : aNj) : Prop :=
 aD pg (aI .lss 3 aM aM l1 (aNl 4)) w fun l2 w =>
 gX l2
  (aD pg (aL 122 b8) (dr w) fun l5 w_ => w_ = (dr w) /\
  (dr w) = (dr w) /\
  (dr w) = (dr w) /\
  aD pg (cI 73 gL l1) (dr w) fun l8 w_ => w_ = (dr w) /\
  aD pg (aL 3 l8) (dr w) fun l9 w_ => w_ = (dr w) /\
  aS pg vJ #[sZ, l9] (dr w) fun m0 arG =>
  (jF pg (aL 122 b8) l5 arG /\ True) /\
  arG = arG /\
  aD pg (cI 73 iI l1) arG fun m2 w_ => w_ = arG /\
  (jF pg (cI 73 iI l1) m2 (dr w) /\ True) /\
  aD pg (aL 3 m2) arG fun m3 w_ => w_ = arG /\
  (jF pg (aL 3 m2) m3 (dr w) /\ True) /\
  aS pg tP #[l5, m0, m3] arG fun m4 VL =>
  VL = VL /\
  aD pg (bQ m4 0) VL fun m5 w_ => w_ = VL /\
  aD pg (bQ m4 1) VL fun m6 w_ => w_ = VL /\
  VL = VL /\
  VL = VL /\
  aD pg (aI .neq 27 (.tmp 87) (.const (aNl 0)) m6 (aNl 0)) VL fun m8 w =>
  gX m8
   (R (.tuple #[(.slice none 0 0), m6]) w)
   (aD pg (lO .append #[22, 22] 22 [dQ, m5]) w fun n2 w =>
   aD pg (aI .add 3 aM aM l1 (aNl 1)) w fun n3 w =>
   kn b8 iI sZ gL n2 n3 w))
  (k2 dQ w)
theorem Zw (kn : K6) (k2 : K1) (R : K1) (hn : N6 Q kn 8 10 12 13 15 71) (h2 : E1 Q k2 2 15) (hr : HR rO R Q) (h : CH kn k2 R (g 8) (g 10) (g 12) (g 13) (g 15) (g 71) w) : bD pg lL (bI (bI (aB 1 (aF 1 (aB 3 (aB 1 (aB 8 kO))))))) Q g w :=
 eP (l := [(2, fun g w => k2 (g 15) w)]) h hn hr ⟨h2, trivial⟩
def KY (k2 : K1) (R : K1) (b8 iI sZ gL dQ l1 : aNk) (w : aNj) : Prop :=
 cU (fun (X : (aNk × aNk) -> K0) (t : aNk × aNk) (w : aNj) => CH (fun _ _ _ _ dQ l1 w => X (dQ, l1) w) k2 R b8 iI sZ gL t.1 t.2 w) (dQ, l1) w
theorem ZN (k2 : K1) (R : K1) (h2 : E1 Q k2 2 15) (hr : HR rO R Q) (h : KY k2 R (g 8) (g 10) (g 12) (g 13) (g 15) (g 71) w) : bD pg lL (bI (aB 1 (aF 1 (aB 3 (aB 1 (aB 8 kO)))))) Q g w := by
 refine Dt (fun g : Env => (g 15, g 71)) (fun X t w => CH (fun _ _ _ _ dQ l1 w => X (dQ, l1) w) k2 R (g 8) (g 10) (g 12) (g 13) t.1 t.2 w) h (fun X g1 w1 ha hL => ?_)
 rw [<- jX 8 ha, <- jX 10 ha, <- jX 12 ha, <- jX 13 ha] at hL
 exact (Zw _ g1 w1 (fun _ _ _ _ dQ l1 w => X (dQ, l1) w) k2 R (fun _ _ h => h) h2 hr hL)
def Li (kn : K1) (R : K1) (b8 iI sZ gL dQ l1 : aNk) (w : aNj) : Prop :=
 KY kn R b8 iI sZ gL dQ l1 w
def KV (kn : K6) (b8 iI sZ gL dQ : aNk) (w : aNj) : Prop :=
 kn b8 iI sZ gL dQ (aNl 0) w
theorem abZ (kn : K6) (hn : N6 Q kn 8 10 12 13 15 71) (h : KV kn (g 8) (g 10) (g 12) (g 13) (g 15) w) : bD pg lL (aF 1 (aF 1 (aB 3 (aB 1 (aB 8 kO))))) Q g w :=
 eP (kr := no) (l := []) h hn gS trivial
def JL (kn : K1) (R : K1) (b8 iI sZ gL dQ : aNk) (w : aNj) : Prop :=
 KV (fun b8 iI sZ gL dQ l1 w => Li kn R b8 iI sZ gL dQ l1 w) b8 iI sZ gL dQ w
def KH (R : K1) (b8 iI sZ gL dQ : aNk) (w : aNj) : Prop :=
 JL (fun dQ w => CS R dQ w) R b8 iI sZ gL dQ w
theorem Zo (kn : K1) (R : K1) (hn : N1 Q kn 15) (hr : HR rO R Q) (h : JL kn R (g 8) (g 10) (g 12) (g 13) (g 15) w) : bD pg lL (aF 1 (aB 3 (aB 1 (aB 8 kO)))) Q g w :=
 jE 1 (abZ _ g w (Li kn R) (fun g w h => aK (wT 2 (ZN _ g w kn R hn hr h))) h)
def Lx (kn : K5) (R : K1) (b8 iI sZ gL : aNk) (w : aNj) : Prop :=
 (dr w) = (dr w) /\
 aS pg wJ #[sZ] (dr w) fun i2 CE =>
 aD pg (cI 73 gL (aNl 0)) CE fun i3 w_ => w_ = CE /\
 (jF pg (cI 73 gL (aNl 0)) i3 (dr w) /\ True) /\
 aD pg (aL 3 i3) CE fun i4 w_ => w_ = CE /\
 (jF pg (aL 3 i3) i4 (dr w) /\ True) /\
 aD pg (aI .sub 3 aM aM i2 i4) CE fun i5 w_ => w_ = CE /\
 aD pg (cI 73 gL (aNl 1)) CE fun i6 w_ => w_ = CE /\
 (jF pg (cI 73 gL (aNl 1)) i6 (dr w) /\ True) /\
 aD pg (aL 3 i6) CE fun i7 w_ => w_ = CE /\
 (jF pg (aL 3 i6) i7 (dr w) /\ True) /\
 aD pg (aI .sub 3 aM aM i5 i7) CE fun i8 w_ => w_ = CE /\
 aD pg (cI 73 gL (aNl 2)) CE fun i9 w_ => w_ = CE /\
 (jF pg (cI 73 gL (aNl 2)) i9 (dr w) /\ True) /\
 aD pg (aL 3 i9) CE fun j0 w_ => w_ = CE /\
 (jF pg (aL 3 i9) j0 (dr w) /\ True) /\
 aD pg (aI .sub 3 aM aM i8 j0) CE fun j1 w_ => w_ = CE /\
 aD pg (cI 73 gL (aNl 3)) CE fun j2 w_ => w_ = CE /\
 aD pg (aR 3 j2 j1) CE fun _u12 aJp =>
 aS pg rM #[sZ] aJp fun j4 w =>
 aD pg (aI .neq 27 (.tmp 64) (.const (aNl 0)) j4 (aNl 0)) w fun j5 w =>
 Gd (iM j5 false) (fun K => aD pg (cI 73 gL (aNl 3)) w K) w fun j7 w =>
 Gd (iM j5 false) (fun K => aD pg (aL 3 j7) w K) w fun j8 w =>
 Gd (iM j5 false) (fun K => aD pg (aI .lss 3 aM aM j8 (aNl 0)) w K) w fun j9 w =>
 aD pg (jR j5 (.bool true) j9) w fun l0 w =>
 gX l0
  (R (.tuple #[(.slice none 0 0), (aNl 10)]) w)
  (kn b8 iI sZ gL (.slice none 0 0) w)
theorem ZP (kn : K5) (R : K1) (hn : N5 Q kn 8 10 12 13 15) (hr : HR rO R Q) (h : Lx kn R (g 8) (g 10) (g 12) (g 13) w) : bD pg lL (aF 3 (aB 1 (aB 8 kO))) Q g w :=
 eP (l := []) h hn hr trivial
def JY (R : K1) (b8 iI sZ gL : aNk) (w : aNj) : Prop :=
 Lx (fun b8 iI sZ gL dQ w => KH R b8 iI sZ gL dQ w) R b8 iI sZ gL w
def B0 (kn : K5) (k0 : K4) (b8 iI sZ gL f2 : aNk) (w : aNj) : Prop :=
 aD pg (aI .lss 3 aM aM f2 (aNl 3)) w fun f3 w =>
 gX f3
  (aS pg rE #[sZ, (aNl 2)] w fun f7 w =>
  aD pg (jO 24 3 f7) w fun f8 w =>
  aD pg (cI 73 gL f2) w fun f9 w =>
  aD pg (aR 3 f9 f8) w fun _u w =>
  aD pg (aI .add 3 aM aM f2 (aNl 1)) w fun i0 w =>
  kn b8 iI sZ gL i0 w)
  (k0 b8 iI sZ gL w)
theorem XR (kn : K5) (k0 : K4) (hn : N5 Q kn 8 10 12 13 42) (h0 : E4 Q k0 0 8 10 12 13) (h : B0 kn k0 (g 8) (g 10) (g 12) (g 13) (g 42) w) : bD pg lL (bI (bI (aB 1 (aF 1 (aB 8 kO))))) Q g w :=
 eP (kr := no) (l := [(0, fun g w => k0 (g 8) (g 10) (g 12) (g 13) w)]) h hn gS ⟨h0, trivial⟩
def Hn (k0 : K4) (b8 iI sZ gL f2 : aNk) (w : aNj) : Prop :=
 cU (fun (X : aNk -> K0) (t : aNk) (w : aNj) => B0 (fun _ _ _ _ f2 w => X f2 w) k0 b8 iI sZ gL t w) f2 w
theorem YI (k0 : K4) (h0 : E4 Q k0 0 8 10 12 13) (h : Hn k0 (g 8) (g 10) (g 12) (g 13) (g 42) w) : bD pg lL (bI (aB 1 (aF 1 (aB 8 kO)))) Q g w := by
 refine Dt (fun g : Env => g 42) (fun X t w => B0 (fun _ _ _ _ f2 w => X f2 w) k0 (g 8) (g 10) (g 12) (g 13) t w) h (fun X g1 w1 ha hL => ?_)
 rw [<- jX 8 ha, <- jX 10 ha, <- jX 12 ha, <- jX 13 ha] at hL
 exact (XR _ g1 w1 (fun _ _ _ _ f2 w => X f2 w) k0 (fun _ _ h => h) h0 hL)
def HB (kn : K4) (b8 iI sZ gL f2 : aNk) (w : aNj) : Prop :=
 Hn kn b8 iI sZ gL f2 w
def HX (kn : K5) (b8 iI sZ gL : aNk) (w : aNj) : Prop :=
 kn b8 iI sZ gL (aNl 0) w
theorem X1 (kn : K5) (hn : N5 Q kn 8 10 12 13 42) (h : HX kn (g 8) (g 10) (g 12) (g 13) w) : bD pg lL (aF 1 (aF 1 (aB 8 kO))) Q g w :=
 eP (kr := no) (l := []) h hn gS trivial
def Ho (kn : K4) (b8 iI sZ gL : aNk) (w : aNj) : Prop :=
 HX (fun b8 iI sZ gL f2 w => HB kn b8 iI sZ gL f2 w) b8 iI sZ gL w
def HY (R : K1) (b8 iI sZ gL : aNk) (w : aNj) : Prop :=
 Ho (fun b8 iI sZ gL w => JY R b8 iI sZ gL w) b8 iI sZ gL w
theorem Yp (kn : K4) (hn : N4 Q kn 8 10 12 13) (h : Ho kn (g 8) (g 10) (g 12) (g 13) w) : bD pg lL (aF 1 (aB 8 kO)) Q g w :=
 jE 1 (X1 _ g w (HB kn) (fun g w h => aK (wT 0 (YI _ g w kn hn h))) h)
def Hk (kn : K4) (R : K1) (cR b_1 nM : aNk) (w : aNj) : Prop :=
 aS pg Aj #[cR] w fun d1 w =>
 aD pg (bQ d1 0) w fun d2 w =>
 aD pg (bQ d1 1) w fun d3 w =>
 aD pg (fP 122) w fun b8 w =>
 aD pg (aR 122 b8 d2) w fun _u w =>
 aD pg (aI .neq 27 (.tmp 24) (.const (aNl 0)) d3 (aNl 0)) w fun d5 w =>
 gX d5
  (R (.tuple #[(.slice none 0 0), d3]) w)
  (aD pg (aI .lss 3 aM aM nM (aNl 0)) w fun d8 w =>
  Gd (iM d8 false) (fun K => K nM w) w fun e0 w =>
  Gd (iM d8 false) (fun K => aD pg (aI .gtr 3 aM aM e0 (aNl 131072)) w K) w fun e1 w =>
  aD pg (jR d8 (.bool true) e1) w fun e2 w =>
  gX e2
   (R (.tuple #[(.slice none 0 0), (aNl 1)]) w)
   (aS pg Fb #[nM] w fun e5 w =>
   aD pg (bQ e5 0) w fun e6 w =>
   aD pg (bQ e5 1) w fun e7 w =>
   aD pg (fP 73) w fun iI w =>
   aD pg (aR 73 iI e6) w fun _u w =>
   aD pg (sUn .not e7) w fun e9 w =>
   gX e9
    (R (.tuple #[(.slice none 0 0), (aNl 11)]) w)
    (aS pg uN #[b_1] w fun f1 w =>
    aD pg (fP 73) w fun gL w =>
    kn b8 iI f1 gL w)))
theorem XA (kn : K4) (R : K1) (hn : N4 Q kn 8 10 12 13) (hr : HR rO R Q) (h : Hk kn R (g 0) (g 1) (g 2) w) : bD pg lL (aF 8 kO) Q g w :=
 eP (l := []) h hn hr trivial
def H0 (R : K1) (cR b_1 nM : aNk) (w : aNj) : Prop :=
 Hk (fun b8 iI sZ gL w => HY R b8 iI sZ gL w) R cR b_1 nM w
theorem XY (R : K1) (hr : HR rO R Q) (h : H0 R (g 0) (g 1) (g 2) w) : bD pg lL kO Q g w :=
 jE 8 (XA _ g w (HY R) R (fun g w h => aK (jE 1 (Yp _ g w (JY R) (fun g w h => aK (jE 3 (ZP _ g w (KH R) R (fun g w h => aK (jE 1 (Zo _ g w (CS R) R (fun g w h => aK (ZM _ g w R hr h)) hr h))) hr h))) h))) hr h)
def ahT (a0 a1 a2 : aNk) (w : aNj) (R : K1) : Prop :=
 H0 R a0 a1 a2 w
theorem aiT {a0 a1 a2 : aNk} {w : aNj} {R : K1} (h : ahT a0 a1 a2 w R) : aS pg FE #[a0, a1, a2] w R := by
 refine uE (ann := lL) Tryz.f42 kO [a0, a1, a2] rO 95 TryzM.mixed Tryz.func42 ?_
 exact (XY _ _ _ R (fun _ _ h => h) h)
def nX : FA := ⟨EN, fun i => .leaf ([], []) []⟩
def Dg : List ResultVar := [.tmp 4, .tmp 5]
noncomputable def mV : Code := dE Tryz.f43
def CJ (R : K1) (gI : aNk) (w : aNj) : Prop :=
 aD pg (jO 22 9 gI) w fun e8 w =>
 R (.tuple #[e8, (aNl 0)]) w
theorem Zm (R : K1) (hr : HR Dg R Q) (h : CJ R (g 6) w) : bD pg nX (aB 1 (aB 3 mV)) Q g w :=
 eP (kn := no) (l := []) h gS hr trivial
def zX (kn : K4) (fO lU gI PE : aNk) (w : aNj) : Prop :=
 aD pg (aI .add 3 aM aM PE (aNl 1)) w fun c7 w =>
 kn fO lU gI c7 w
theorem Zl (kn : K4) (hn : N4 Q kn 0 1 6 7) (h : zX kn (g 0) (g 1) (g 6) (g 7) w) : bD pg nX (aB 2 (bI (bI (aB 1 (aF 1 (aB 3 mV)))))) Q g w :=
 eP (kr := no) (l := []) h hn gS trivial
def Kp (kn : K4) (k0 : K1) (fO lU gI PE : aNk) (w : aNj) : Prop :=
 aD pg (aI .lss 3 aM aM PE lU) w fun c5 w =>
 gX c5
  (aD pg (aI .rem 3 aM aM PE (aNl 2)) w fun c9 w =>
  aD pg (aI .eql 3 (.tmp 19) (.const (aNl 0)) c9 (aNl 0)) w fun d0 w =>
  gX d0
   (aD pg (aI .quo 3 aM aM PE (aNl 2)) w fun d4 w =>
   aD pg (D6 9 fO d4) w fun d5 w =>
   aD pg (aI .quo 5 aM aM d5 (.int .u8 16)) w fun d6 w =>
   aD pg (cT 22 1 [(0, d6)]) w fun d7 w =>
   aD pg (lO .append #[22, 22] 22 [gI, d7]) w fun d8 w =>
   kn fO lU d8 PE w)
   (aD pg (aI .quo 3 aM aM PE (aNl 2)) w fun e2 w =>
   aD pg (D6 9 fO e2) w fun e3 w =>
   aD pg (aI .rem 5 aM aM e3 (.int .u8 16)) w fun e4 w =>
   aD pg (cT 22 1 [(0, e4)]) w fun e5 w =>
   aD pg (lO .append #[22, 22] 22 [gI, e5]) w fun e6 w =>
   kn fO lU e6 PE w))
  (k0 gI w)
theorem abF (kn : K4) (k0 : K1) (hn : N4 Q kn 0 1 6 7) (h0 : E1 Q k0 0 6) (h : Kp kn k0 (g 0) (g 1) (g 6) (g 7) w) : bD pg nX (aF 2 (bI (bI (aB 1 (aF 1 (aB 3 mV)))))) Q g w :=
 eP (kr := no) (l := [(0, fun g w => k0 (g 6) w)]) h hn gS ⟨h0, trivial⟩
def CM (kn : K4) (k0 : K1) (fO lU gI PE : aNk) (w : aNj) : Prop :=
 Kp (fun fO lU gI PE w => zX kn fO lU gI PE w) k0 fO lU gI PE w
def JB (k0 : K1) (fO lU gI PE : aNk) (w : aNj) : Prop :=
 cU (fun (X : (aNk × aNk) -> K0) (t : aNk × aNk) (w : aNj) => CM (fun _ _ gI PE w => X (gI, PE) w) k0 fO lU t.1 t.2 w) (gI, PE) w
theorem abE (kn : K4) (k0 : K1) (hn : N4 Q kn 0 1 6 7) (h0 : E1 Q k0 0 6) (h : CM kn k0 (g 0) (g 1) (g 6) (g 7) w) : bD pg nX (bI (bI (aB 1 (aF 1 (aB 3 mV))))) Q g w :=
 jE 2 (abF _ g w (zX kn) k0 (fun g w h => aK (Zl _ g w kn hn h)) h0 h)
theorem abH (k0 : K1) (h0 : E1 Q k0 0 6) (h : JB k0 (g 0) (g 1) (g 6) (g 7) w) : bD pg nX (bI (aB 1 (aF 1 (aB 3 mV)))) Q g w := by
 refine Dt (fun g : Env => (g 6, g 7)) (fun X t w => CM (fun _ _ gI PE w => X (gI, PE) w) k0 (g 0) (g 1) t.1 t.2 w) h (fun X g1 w1 ha hL => ?_)
 rw [<- jX 0 ha, <- jX 1 ha] at hL
 exact (abE _ g1 w1 (fun _ _ gI PE w => X (gI, PE) w) k0 (fun _ _ h => h) h0 hL)
def Kl (kn : K1) (fO lU gI PE : aNk) (w : aNj) : Prop :=
 JB kn fO lU gI PE w
def Lb (kn : K4) (fO lU gI : aNk) (w : aNj) : Prop :=
 kn fO lU gI (aNl 0) w
theorem aaF (kn : K4) (hn : N4 Q kn 0 1 6 7) (h : Lb kn (g 0) (g 1) (g 6) w) : bD pg nX (aF 1 (aF 1 (aB 3 mV))) Q g w :=
 eP (kr := no) (l := []) h hn gS trivial
def Kq (kn : K1) (fO lU gI : aNk) (w : aNj) : Prop :=
 Lb (fun fO lU gI PE w => Kl kn fO lU gI PE w) fO lU gI w
def JW (R : K1) (fO lU gI : aNk) (w : aNj) : Prop :=
 Kq (fun gI w => CJ R gI w) fO lU gI w
theorem acR (kn : K1) (hn : N1 Q kn 6) (h : Kq kn (g 0) (g 1) (g 6) w) : bD pg nX (aF 1 (aB 3 mV)) Q g w :=
 jE 1 (aaF _ g w (Kl kn) (fun g w h => aK (wT 0 (abH _ g w kn hn h))) h)
def HD (kn : K3) (R : K1) (fO lU : aNk) (w : aNj) : Prop :=
 aD pg (lO .len #[9] 3 [fO]) w fun b9 w =>
 aD pg (aI .mul 3 aM aM (aNl 2) b9) w fun c0 w =>
 aD pg (aI .lss 3 aM aM c0 lU) w fun c2 w =>
 gX c2
  (R (.tuple #[(.string ⟨#[]⟩), (aNl 10)]) w)
  (kn fO lU (.slice none 0 0) w)
theorem YF (kn : K3) (R : K1) (hn : N3 Q kn 0 1 6) (hr : HR Dg R Q) (h : HD kn R (g 0) (g 1) w) : bD pg nX (aF 3 mV) Q g w :=
 eP (l := []) h hn hr trivial
def HC (R : K1) (fO lU : aNk) (w : aNj) : Prop :=
 HD (fun fO lU gI w => JW R fO lU gI w) R fO lU w
theorem Ys (R : K1) (hr : HR Dg R Q) (h : HC R (g 0) (g 1) w) : bD pg nX mV Q g w :=
 jE 3 (YF _ g w (JW R) R (fun g w h => aK (jE 1 (acR _ g w (CJ R) (fun g w h => aK (Zm _ g w R hr h)) h))) hr h)
def aeO (a0 a1 : aNk) (w : aNj) (R : K1) : Prop :=
 HC R a0 a1 w
theorem ahI {a0 a1 : aNk} {w : aNj} {R : K1} (h : aeO a0 a1 w R) : aS pg EN #[a0, a1] w R := by
 refine uE (ann := nX) Tryz.f43 mV [a0, a1] Dg 39 TryzM.mixed Tryz.func43 ?_
 exact (Ys _ _ _ R (fun _ _ h => h) h)
def sB : FA := ⟨FB, fun i => match Nat.beq i 18 with | true => .leaf ([1], [(1, 2), (1, 3)]) [(false, []), (true, []), (false, [0]), (false, [1]), (false, [])] | false => .leaf ([], []) []⟩
def tH : List ResultVar := [.tmp 2, .tmp 3]
noncomputable def qY : Code := dE Tryz.f44
def Ds (R : K1)  (w : aNj) : Prop :=
 R (.tuple #[(.string ⟨#[]⟩), (aNl 11)]) w
theorem aaW (R : K1) (hr : HR tH R Q) (h : Ds R w) : bD pg sB (aB 1 (aB 11 qY)) Q g w :=
 eP (kn := no) (l := []) h gS hr trivial
def Dv (kn : K5) (k0 : K0) (R : K1) (v_7 b8 Hd c0 kL : aNk) (w : aNj) : Prop :=
 aD pg (lO .len #[22] 3 [kL]) w fun i7 w =>
 aD pg (aI .lss 3 aM aM i7 (aNl 256)) w fun i8 w =>
 gX i8
  (aD pg (aJ 138 b8 1) w fun i9 w =>
  aD pg (aL 136 i9) w fun j0 w =>
  aD pg (cI 136 j0 Hd) w fun j2 w =>
  aD pg (aL 145 j2) w fun j3 w =>
  aD pg (fP 145) w fun aIf w =>
  aD pg (aR 145 aIf j3) w fun _u w =>
  aD pg (aJ 145 aIf 0) w fun j5 w =>
  aD pg (aL 3 j5) w fun j6 w =>
  aD pg (jO 3 5 j6) w fun j7 w =>
  aD pg (cT 22 1 [(0, j7)]) w fun j8 w =>
  aD pg (lO .append #[22, 22] 22 [kL, j8]) w fun j9 w =>
  aD pg (aL 133 v_7) (dr w) fun l0 w_ => w_ = (dr w) /\
  aS pg BQ #[l0] (dr w) fun l1 arR =>
  aD pg (aJ 145 aIf 1) arR fun l2 w_ => w_ = arR /\
  (jF pg (aJ 145 aIf 1) l2 (dr w) /\ True) /\
  aD pg (aL 3 l2) arR fun l3 w_ => w_ = arR /\
  (jF pg (aL 3 l2) l3 (dr w) /\ True) /\
  aD pg (aI .lss 3 aM aM l1 l3) arR fun l4 w_ => w_ = arR /\
  gX l4
   (aD pg (aJ 138 b8 1) arR fun l6 w =>
   aD pg (aL 136 l6) w fun l7 w =>
   aD pg (cI 136 l7 c0) w fun l9 w =>
   aD pg (aJ 145 l9 0) w fun m0 w =>
   aD pg (aL 3 m0) w fun m1 w =>
   aD pg (jO 3 5 m1) w fun m2 w =>
   aD pg (cT 22 1 [(0, m2)]) w fun m3 w =>
   aD pg (lO .append #[22, 22] 22 [j9, m3]) w fun m4 w =>
   aD pg (lO .len #[22] 3 [m4]) w fun m6 w =>
   aD pg (aI .gtr 3 aM aM m6 (aNl 255)) w fun m7 w =>
   gX m7
    (R (.tuple #[(.string ⟨#[]⟩), (aNl 11)]) w)
    (aD pg (jO 22 9 m4) w fun m9 w =>
    R (.tuple #[m9, (aNl 0)]) w))
   (aD pg (aL 138 b8) arR fun n1 w =>
   aD pg (aL 133 v_7) w fun n3 w =>
   aS pg L6 #[n1, Hd, n3] w fun n4 w =>
   aD pg (bQ n4 0) w fun n5 w =>
   aD pg (bQ n4 1) w fun n6 w =>
   aD pg (aR 133 v_7 n5) w fun _u w =>
   kn v_7 b8 c0 n6 j9 w))
  (k0 w)
theorem abQ (kn : K5) (k0 : K0) (R : K1) (hn : N5 Q kn 7 8 9 10 11) (h0 : E0 Q k0 0) (hr : HR tH R Q) (h : Dv kn k0 R (g 7) (g 8) (g 9) (g 10) (g 11) w) : bD pg sB (bI (bI (aF 1 (aB 11 qY)))) Q g w :=
 eP (l := [(0, fun g w => k0 w)]) h hn hr ⟨h0, trivial⟩
def J2 (k0 : K0) (R : K1) (v_7 b8 Hd c0 kL : aNk) (w : aNj) : Prop :=
 cU (fun (X : (aNk × aNk × aNk) -> K0) (t : aNk × aNk × aNk) (w : aNj) => Dv (fun _ _ Hd c0 kL w => X (Hd, c0, kL) w) k0 R v_7 b8 t.1 t.2.1 t.2.2 w) (Hd, c0, kL) w
theorem abV (k0 : K0) (R : K1) (h0 : E0 Q k0 0) (hr : HR tH R Q) (h : J2 k0 R (g 7) (g 8) (g 9) (g 10) (g 11) w) : bD pg sB (bI (aF 1 (aB 11 qY))) Q g w := by
 refine Dt (fun g : Env => (g 9, g 10, g 11)) (fun X t w => Dv (fun _ _ Hd c0 kL w => X (Hd, c0, kL) w) k0 R (g 7) (g 8) t.1 t.2.1 t.2.2 w) h (fun X g1 w1 ha hL => ?_)
 rw [<- jX 7 ha, <- jX 8 ha] at hL
 exact (abQ _ g1 w1 (fun _ _ Hd c0 kL w => X (Hd, c0, kL) w) k0 R (fun _ _ h => h) h0 hr hL)
def Lr (kn : K0) (R : K1) (v_7 b8 Hd c0 kL : aNk) (w : aNj) : Prop :=
 J2 kn R v_7 b8 Hd c0 kL w
def C7 (R : K1) (v_7 b8 Hd c0 kL : aNk) (w : aNj) : Prop :=
 Lr (fun  w => Ds R w) R v_7 b8 Hd c0 kL w
theorem aaG (kn : K0) (R : K1) (hn : N0 Q kn) (hr : HR tH R Q) (h : Lr kn R (g 7) (g 8) (g 9) (g 10) (g 11) w) : bD pg sB (aF 1 (aB 11 qY)) Q g w :=
 wT 0 (abV _ g w kn R hn hr h)
def J1 (kn : K5) (R : K1) (fO : aNk) (w : aNj) : Prop :=
 aS pg Mj #[fO, (aNl 6), (aNl 12)] w fun c6 w =>
 aD pg (bQ c6 0) w fun c7 w =>
 aD pg (bQ c6 1) w fun c8 w =>
 aD pg (bQ c6 2) w fun c9 w =>
 aD pg (fP 128) w fun c_4 w =>
 aD pg (aR 128 c_4 c7) w fun _u w =>
 aD pg (aI .neq 27 (.tmp 20) (.const (aNl 0)) c9 (aNl 0)) w fun d1 w =>
 gX d1
  (R (.tuple #[(.string ⟨#[]⟩), c9]) w)
  (aD pg (lX 9 fO (some c8) none none) w fun d6 w =>
  aS pg El #[d6] w fun d7 w =>
  aD pg (bQ d7 0) w fun d8 w =>
  aD pg (bQ d7 1) w fun d9 w =>
  aD pg (fP 133) w fun v_7 w =>
  aD pg (aR 133 v_7 d8) w fun _u w =>
  aD pg (aI .neq 27 (.tmp 30) (.const (aNl 0)) d9 (aNl 0)) w fun e1 w =>
  gX e1
   (R (.tuple #[(.string ⟨#[]⟩), d9]) w)
   (aD pg (aL 128 c_4) w fun e4 w =>
   aS pg IL #[e4] w fun e5 w =>
   aD pg (bQ e5 0) w fun e6 w =>
   aD pg (bQ e5 1) w fun e7 w =>
   aD pg (fP 138) w fun b8 w =>
   aD pg (aR 138 b8 e6) w fun _u w =>
   aD pg (aI .neq 27 (.tmp 38) (.const (aNl 0)) e7 (aNl 0)) w fun e9 w =>
   gX e9
    (R (.tuple #[(.string ⟨#[]⟩), e7]) w)
    (aD pg (aL 138 b8) w fun f2 w =>
    aD pg (aL 133 v_7) w fun f3 w =>
    aS pg Cx #[f2, f3] w fun f4 w =>
    aD pg (bQ f4 0) w fun f5 w =>
    aD pg (bQ f4 1) w fun f6 w =>
    aD pg (aR 133 v_7 f5) w fun _u w =>
    aD pg (aL 138 b8) w fun f8 w =>
    aD pg (aL 133 v_7) w fun f9 w =>
    aS pg Cx #[f8, f9] w fun i0 w =>
    aD pg (bQ i0 0) w fun i1 w =>
    aD pg (bQ i0 1) w fun i2 w =>
    aD pg (aR 133 v_7 i1) w fun _u w =>
    aD pg (aL 133 v_7) w fun i3 w =>
    aS pg BQ #[i3] w fun i4 w =>
    aD pg (aI .lss 3 aM aM i4 (aNl 0)) w fun i5 w =>
    gX i5
     (R (.tuple #[(.string ⟨#[]⟩), (aNl 11)]) w)
     (kn v_7 b8 f6 i2 (.slice none 0 0) w))))
theorem Zx (kn : K5) (R : K1) (hn : N5 Q kn 7 8 9 10 11) (hr : HR tH R Q) (h : J1 kn R (g 0) w) : bD pg sB (aF 11 qY) Q g w :=
 eP (l := []) h hn hr trivial
def LG (R : K1) (fO : aNk) (w : aNj) : Prop :=
 J1 (fun v_7 b8 Hd c0 kL w => C7 R v_7 b8 Hd c0 kL w) R fO w
theorem aaM (R : K1) (hr : HR tH R Q) (h : LG R (g 0) w) : bD pg sB qY Q g w :=
 jE 11 (Zx _ g w (C7 R) R (fun g w h => aK (jE 1 (aaG _ g w (fun  w => Ds R w) R (fun g w h => aK (aaW _ g w R hr h)) hr h))) hr h)
def ahF (a0 : aNk) (w : aNj) (R : K1) : Prop :=
 LG R a0 w
theorem ahC {a0 : aNk} {w : aNj} {R : K1} (h : ahF a0 w R) : aS pg FB #[a0] w R := by
 refine uE (ann := sB) Tryz.f44 qY [a0] tH 99 TryzM.mixed Tryz.func44 ?_
 exact (aaM _ _ _ R (fun _ _ h => h) h)
def tK : FA := ⟨IC, fun i => .leaf ([], []) []⟩
def F4 : List ResultVar := [.tmp 2, .tmp 3]
noncomputable def sJ : Code := dE Tryz.f45
def Gk (R : K1) (cR w_4 d_5 : aNk) (w : aNj) : Prop :=
 aS pg nU #[d_5] w fun d7 w =>
 aD pg (aI .sub 3 aM aM d7 w_4) w fun d9 w =>
 aS pg Jm #[d9] w fun e0 w =>
 aD pg (aI .gtr 3 aM aM d_5 (aNl 11)) w fun e2 w =>
 Gd (iM e2 false) (fun K => K e0 w) w fun e4 w =>
 Gd (iM e2 false) (fun K => aD pg (aI .lss 3 aM aM e4 (aNl 0)) w K) w fun e5 w =>
 aD pg (jR e2 (.bool true) e5) w fun e6 w =>
 gX e6
  (R (.tuple #[(.string ⟨#[]⟩), (aNl 11)]) w)
  (aD pg (aI .add 3 aM aM e0 (aNl 1)) w fun e9 w =>
  aD pg (jO 3 5 e9) w fun f0 w =>
  aD pg (cT 22 1 [(0, f0)]) w fun f1 w =>
  aD pg (jO 22 9 f1) w fun f2 w =>
  aD pg (aI .add 9 aM aM cR f2) w fun f3 w =>
  R (.tuple #[f3, (aNl 0)]) w)
theorem afZ (R : K1) (hr : HR F4 R Q) (h : Gk R (g 0) (g 4) (g 5) w) : bD pg tK (aB 1 (aB 4 sJ)) Q g w :=
 eP (kn := no) (l := []) h gS hr trivial
def Fu (kn : K3) (k0 : K3) (cR w_4 d_5 : aNk) (w : aNj) : Prop :=
 aS pg nU #[d_5] w fun d1 w =>
 aD pg (aI .leq 3 aM aM d1 w_4) w fun d3 w =>
 gX d3
  (aD pg (aI .add 3 aM aM d_5 (aNl 1)) w fun d5 w =>
  kn cR w_4 d5 w)
  (k0 cR w_4 d_5 w)
theorem afO (kn : K3) (k0 : K3) (hn : N3 Q kn 0 4 5) (h0 : E3 Q k0 0 0 4 5) (h : Fu kn k0 (g 0) (g 4) (g 5) w) : bD pg tK (bI (bI (aF 1 (aB 4 sJ)))) Q g w :=
 eP (kr := no) (l := [(0, fun g w => k0 (g 0) (g 4) (g 5) w)]) h hn gS ⟨h0, trivial⟩
def O0 (k0 : K3) (cR w_4 d_5 : aNk) (w : aNj) : Prop :=
 cU (fun (X : aNk -> K0) (t : aNk) (w : aNj) => Fu (fun _ _ d_5 w => X d_5 w) k0 cR w_4 t w) d_5 w
theorem aeE (k0 : K3) (h0 : E3 Q k0 0 0 4 5) (h : O0 k0 (g 0) (g 4) (g 5) w) : bD pg tK (bI (aF 1 (aB 4 sJ))) Q g w := by
 refine Dt (fun g : Env => g 5) (fun X t w => Fu (fun _ _ d_5 w => X d_5 w) k0 (g 0) (g 4) t w) h (fun X g1 w1 ha hL => ?_)
 rw [<- jX 0 ha, <- jX 4 ha] at hL
 exact (afO _ g1 w1 (fun _ _ d_5 w => X d_5 w) k0 (fun _ _ h => h) h0 hL)
def Np (kn : K3) (cR w_4 d_5 : aNk) (w : aNj) : Prop :=
 O0 kn cR w_4 d_5 w
def Nf (R : K1) (cR w_4 d_5 : aNk) (w : aNj) : Prop :=
 Np (fun cR w_4 d_5 w => Gk R cR w_4 d_5 w) cR w_4 d_5 w
theorem agL (kn : K3) (hn : N3 Q kn 0 4 5) (h : Np kn (g 0) (g 4) (g 5) w) : bD pg tK (aF 1 (aB 4 sJ)) Q g w :=
 wT 0 (aeE _ g w kn hn h)
def O3 (kn : K3) (R : K1) (cR : aNk) (w : aNj) : Prop :=
 aS pg CC #[cR] w fun b8 w =>
 aD pg (aI .eql 9 (.tmp 9) (.const (.string ⟨#[]⟩)) cR (.string ⟨#[]⟩)) w fun c0 w =>
 Gd (iM c0 false) (fun K => K cR w) w fun c2 w =>
 Gd (iM c0 false) (fun K => aD pg (lO .len #[9] 3 [c2]) w K) w fun c3 w =>
 Gd (iM c0 false) (fun K => aD pg (aI .gtr 3 aM aM c3 (aNl 255)) w K) w fun c4 w =>
 aD pg (jR c0 (.bool true) c4) w fun c5 w =>
 Gd (iM c5 false) (fun K => K b8 w) w fun c7 w =>
 Gd (iM c5 false) (fun K => aD pg (aI .lss 3 aM aM c7 (aNl 1)) w K) w fun c8 w =>
 aD pg (jR c5 (.bool true) c8) w fun c9 w =>
 gX c9
  (R (.tuple #[(.string ⟨#[]⟩), (aNl 11)]) w)
  (kn cR b8 (aNl 1) w)
theorem agB (kn : K3) (R : K1) (hn : N3 Q kn 0 4 5) (hr : HR F4 R Q) (h : O3 kn R (g 0) w) : bD pg tK (aF 4 sJ) Q g w :=
 eP (l := []) h hn hr trivial
def Nt (R : K1) (cR : aNk) (w : aNj) : Prop :=
 O3 (fun cR w_4 d_5 w => Nf R cR w_4 d_5 w) R cR w
theorem afE (R : K1) (hr : HR F4 R Q) (h : Nt R (g 0) w) : bD pg tK sJ Q g w :=
 jE 4 (agB _ g w (Nf R) R (fun g w h => aK (jE 1 (agL _ g w (Gk R) (fun g w h => aK (afZ _ g w R hr h)) h))) hr h)
def arK (a0 : aNk) (w : aNj) (R : K1) : Prop :=
 Nt R a0 w
theorem amK {a0 : aNk} {w : aNj} {R : K1} (h : arK a0 w R) : aS pg IC #[a0] w R := by
 refine uE (ann := tK) Tryz.f45 sJ [a0] F4 44 TryzM.mixed Tryz.func45 ?_
 exact (afE _ _ _ R (fun _ _ h => h) h)
def dY : FA := ⟨Ac, fun i => .leaf ([], []) []⟩
def FK : List ResultVar := [.tmp 2, .tmp 3]
noncomputable def dL : Code := dE Tryz.f46
def Fw (R : K1) (aT : aNk) (w : aNj) : Prop :=
 R (.tuple #[aT, (aNl 0)]) w
theorem ahK (R : K1) (hr : HR FK R Q) (h : Fw R (g 5) w) : bD pg dY (aB 1 (aB 2 (aB 1 (aB 4 dL)))) Q g w :=
 eP (kn := no) (l := []) h gS hr trivial
def Ga (kn : K6) (cR mA aT cH cP vN : aNk) (w : aNj) : Prop :=
 aD pg (aI .add 3 aM aM vN (aNl 1)) w fun e0 w =>
 kn cR mA aT cH cP e0 w
theorem akP (kn : K6) (hn : N6 Q kn 0 4 5 7 8 9) (h : Ga kn (g 0) (g 4) (g 5) (g 7) (g 8) (g 9) w) : bD pg dY (aB 1 (aB 1 (bI (bI (aB 1 (aF 1 (aB 2 (aB 1 (aB 4 dL))))))))) Q g w :=
 eP (kr := no) (l := []) h hn gS trivial
def yD (kn : K7) (cR mA aT cH cP vN mR : aNk) (w : aNj) : Prop :=
 aD pg (aI .add 3 aM aM mR (aNl 1)) w fun e6 w =>
 kn cR mA aT cH cP vN e6 w
theorem agX (kn : K7) (hn : N7 Q kn 0 4 5 7 8 9 10) (h : yD kn (g 0) (g 4) (g 5) (g 7) (g 8) (g 9) (g 10) w) : bD pg dY (aB 1 (aB 1 (bI (bI (aB 1 (bI (aF 1 (aB 1 (bI (bI (aB 1 (aF 1 (aB 2 (aB 1 (aB 4 dL))))))))))))))) Q g w :=
 eP (kr := no) (l := []) h hn gS trivial
def yG (kn : K7) (cR mA aT cH vN mR xV : aNk) (w : aNj) : Prop :=
 aD pg (fV 148 [(0, xV), (1, cH)]) w fun j3 w =>
 aD pg (cI 84 aT mR) w fun j4 w =>
 aD pg (aR 148 j4 j3) w fun _u w =>
 kn cR mA aT cH xV vN mR w
theorem aeX (kn : K7) (hn : N7 Q kn 0 4 5 7 8 9 10) (h : yG kn (g 0) (g 4) (g 5) (g 7) (g 9) (g 10) (g 11) w) : bD pg dY (aB 1 (aB 3 (bI (aF 1 (aB 1 (bI (bI (aB 1 (bI (aF 1 (aB 1 (bI (bI (aB 1 (aF 1 (aB 2 (aB 1 (aB 4 dL)))))))))))))))))) Q g w :=
 eP (kr := no) (l := []) h hn gS trivial
def EH (kn : K8) (k6 : K7) (cR mA aT cH cP vN mR xV : aNk) (w : aNj) : Prop :=
 aD pg (aI .gtr 3 aM aM cP xV) w fun i3 w =>
 gX i3
  (aD pg (aI .quo 3 aM aM cH (aNl 2)) w fun i5 w =>
  aD pg (aI .sub 3 aM aM cP (aNl 1)) w fun i7 w =>
  kn cR mA aT i5 i7 vN mR xV w)
  (k6 cR mA aT cH vN mR xV w)
theorem agW (kn : K8) (k6 : K7) (hn : N8 Q kn 0 4 5 7 8 9 10 11) (h6 : E7 Q k6 6 0 4 5 7 9 10 11) (h : EH kn k6 (g 0) (g 4) (g 5) (g 7) (g 8) (g 9) (g 10) (g 11) w) : bD pg dY (bI (bI (aF 1 (aB 3 (bI (aF 1 (aB 1 (bI (bI (aB 1 (bI (aF 1 (aB 1 (bI (bI (aB 1 (aF 1 (aB 2 (aB 1 (aB 4 dL)))))))))))))))))))) Q g w :=
 eP (kr := no) (l := [(6, fun g w => k6 (g 0) (g 4) (g 5) (g 7) (g 9) (g 10) (g 11) w)]) h hn gS ⟨h6, trivial⟩
def OI (k6 : K7) (cR mA aT cH cP vN mR xV : aNk) (w : aNj) : Prop :=
 cU (fun (X : (aNk × aNk) -> K0) (t : aNk × aNk) (w : aNj) => EH (fun _ _ _ cH cP _ _ _ w => X (cH, cP) w) k6 cR mA aT t.1 t.2 vN mR xV w) (cH, cP) w
theorem aeS (k6 : K7) (h6 : E7 Q k6 6 0 4 5 7 9 10 11) (h : OI k6 (g 0) (g 4) (g 5) (g 7) (g 8) (g 9) (g 10) (g 11) w) : bD pg dY (bI (aF 1 (aB 3 (bI (aF 1 (aB 1 (bI (bI (aB 1 (bI (aF 1 (aB 1 (bI (bI (aB 1 (aF 1 (aB 2 (aB 1 (aB 4 dL))))))))))))))))))) Q g w := by
 refine Dt (fun g : Env => (g 7, g 8)) (fun X t w => EH (fun _ _ _ cH cP _ _ _ w => X (cH, cP) w) k6 (g 0) (g 4) (g 5) t.1 t.2 (g 9) (g 10) (g 11) w) h (fun X g1 w1 ha hL => ?_)
 rw [<- jX 0 ha, <- jX 4 ha, <- jX 5 ha, <- jX 9 ha, <- jX 10 ha, <- jX 11 ha] at hL
 exact (agW _ g1 w1 (fun _ _ _ cH cP _ _ _ w => X (cH, cP) w) k6 (fun _ _ h => h) h6 hL)
def Ox (kn : K7) (cR mA aT cH cP vN mR xV : aNk) (w : aNj) : Prop :=
 OI kn cR mA aT cH cP vN mR xV w
def EF (kn : K7) (cR mA aT cH cP vN mR xV : aNk) (w : aNj) : Prop :=
 Ox (fun cR mA aT cH vN mR xV w => yG kn cR mA aT cH vN mR xV w) cR mA aT cH cP vN mR xV w
theorem aiY (kn : K7) (hn : N7 Q kn 0 4 5 7 9 10 11) (h : Ox kn (g 0) (g 4) (g 5) (g 7) (g 8) (g 9) (g 10) (g 11) w) : bD pg dY (aF 1 (aB 3 (bI (aF 1 (aB 1 (bI (bI (aB 1 (bI (aF 1 (aB 1 (bI (bI (aB 1 (aF 1 (aB 2 (aB 1 (aB 4 dL)))))))))))))))))) Q g w :=
 wT 6 (aeS _ g w kn hn h)
def NT (kn : K8) (k5 : K7) (cR mA aT cH cP vN mR : aNk) (w : aNj) : Prop :=
 aD pg (D6 9 cR mR) w fun e9 w =>
 aD pg (jO 5 3 e9) w fun f0 w =>
 aD pg (aI .neq 3 (.tmp 40) (.tmp 41) f0 vN) w fun f2 w =>
 gX f2
  (k5 cR mA aT cH cP vN mR w)
  (aD pg (aI .add 3 aM aM mA (aNl 1)) w fun f4 w =>
  aD pg (aI .sub 3 aM aM f4 vN) w fun f6 w =>
  aD pg (aI .gtr 3 aM aM cP (aNl 0)) w fun f8 w =>
  gX f8
   (aD pg (aI .add 3 aM aM cH (aNl 1)) w fun i0 w =>
   kn cR mA aT i0 cP vN mR f6 w)
   (kn cR mA aT cH cP vN mR f6 w))
theorem ajU (kn : K8) (k5 : K7) (hn : N8 Q kn 0 4 5 7 8 9 10 11) (h5 : E7 Q k5 5 0 4 5 7 8 9 10) (h : NT kn k5 (g 0) (g 4) (g 5) (g 7) (g 8) (g 9) (g 10) w) : bD pg dY (aF 3 (bI (aF 1 (aB 1 (bI (bI (aB 1 (bI (aF 1 (aB 1 (bI (bI (aB 1 (aF 1 (aB 2 (aB 1 (aB 4 dL))))))))))))))))) Q g w :=
 eP (kr := no) (l := [(5, fun g w => k5 (g 0) (g 4) (g 5) (g 7) (g 8) (g 9) (g 10) w)]) h hn gS ⟨h5, trivial⟩
def Uv (kn : K7) (k5 : K7) (cR mA aT cH cP vN mR : aNk) (w : aNj) : Prop :=
 NT (fun cR mA aT cH cP vN mR xV w => EF kn cR mA aT cH cP vN mR xV w) k5 cR mA aT cH cP vN mR w
def JP (kn : K7) (cR mA aT cH cP vN mR : aNk) (w : aNj) : Prop :=
 Uv kn kn cR mA aT cH cP vN mR w
def KR (kn : K7) (cR mA aT cH cP vN mR : aNk) (w : aNj) : Prop :=
 JP (fun cR mA aT cH cP vN mR w => yD kn cR mA aT cH cP vN mR w) cR mA aT cH cP vN mR w
theorem acH (kn : K7) (hn : N7 Q kn 0 4 5 7 8 9 10) (h : JP kn (g 0) (g 4) (g 5) (g 7) (g 8) (g 9) (g 10) w) : bD pg dY (aF 1 (aB 1 (bI (bI (aB 1 (bI (aF 1 (aB 1 (bI (bI (aB 1 (aF 1 (aB 2 (aB 1 (aB 4 dL))))))))))))))) Q g w :=
 wT 5 (jE 3 (ajU _ g w (EF kn) kn (fun g w h => aK (jE 1 (aiY _ g w (yG kn) (fun g w h => aK (aeX _ g w kn hn h)) h))) hn h))
def J7 (kn : K7) (k4 : K6) (cR mA aT cH cP vN mR : aNk) (w : aNj) : Prop :=
 aD pg (lO .len #[9] 3 [cR]) w fun e3 w =>
 aD pg (aI .lss 3 aM aM mR e3) w fun e4 w =>
 gX e4
  (kn cR mA aT cH cP vN mR w)
  (k4 cR mA aT cH cP vN w)
theorem ZY (kn : K7) (k4 : K6) (hn : N7 Q kn 0 4 5 7 8 9 10) (h4 : E6 Q k4 4 0 4 5 7 8 9) (h : J7 kn k4 (g 0) (g 4) (g 5) (g 7) (g 8) (g 9) (g 10) w) : bD pg dY (aF 1 (bI (bI (aB 1 (bI (aF 1 (aB 1 (bI (bI (aB 1 (aF 1 (aB 2 (aB 1 (aB 4 dL)))))))))))))) Q g w :=
 eP (kr := no) (l := [(4, fun g w => k4 (g 0) (g 4) (g 5) (g 7) (g 8) (g 9) w)]) h hn gS ⟨h4, trivial⟩
def CR (kn : K7) (k4 : K6) (cR mA aT cH cP vN mR : aNk) (w : aNj) : Prop :=
 J7 (fun cR mA aT cH cP vN mR w => KR kn cR mA aT cH cP vN mR w) k4 cR mA aT cH cP vN mR w
def Lg (k4 : K6) (cR mA aT cH cP vN mR : aNk) (w : aNj) : Prop :=
 cU (fun (X : (aNk × aNk × aNk) -> K0) (t : aNk × aNk × aNk) (w : aNj) => CR (fun _ _ _ cH cP _ mR w => X (cH, cP, mR) w) k4 cR mA aT t.1 t.2.1 vN t.2.2 w) (cH, cP, mR) w
theorem aaU (kn : K7) (k4 : K6) (hn : N7 Q kn 0 4 5 7 8 9 10) (h4 : E6 Q k4 4 0 4 5 7 8 9) (h : CR kn k4 (g 0) (g 4) (g 5) (g 7) (g 8) (g 9) (g 10) w) : bD pg dY (bI (bI (aB 1 (bI (aF 1 (aB 1 (bI (bI (aB 1 (aF 1 (aB 2 (aB 1 (aB 4 dL))))))))))))) Q g w :=
 jE 1 (ZY _ g w (KR kn) k4 (fun g w h => aK (jE 1 (acH _ g w (yD kn) (fun g w h => aK (agX _ g w kn hn h)) h))) h4 h)
theorem Zp (k4 : K6) (h4 : E6 Q k4 4 0 4 5 7 8 9) (h : Lg k4 (g 0) (g 4) (g 5) (g 7) (g 8) (g 9) (g 10) w) : bD pg dY (bI (aB 1 (bI (aF 1 (aB 1 (bI (bI (aB 1 (aF 1 (aB 2 (aB 1 (aB 4 dL)))))))))))) Q g w := by
 refine Dt (fun g : Env => (g 7, g 8, g 10)) (fun X t w => CR (fun _ _ _ cH cP _ mR w => X (cH, cP, mR) w) k4 (g 0) (g 4) (g 5) t.1 t.2.1 (g 9) t.2.2 w) h (fun X g1 w1 ha hL => ?_)
 rw [<- jX 0 ha, <- jX 4 ha, <- jX 5 ha, <- jX 9 ha] at hL
 exact (aaU _ g1 w1 (fun _ _ _ cH cP _ mR w => X (cH, cP, mR) w) k4 (fun _ _ h => h) h4 hL)
def J5 (kn : K6) (cR mA aT cH cP vN mR : aNk) (w : aNj) : Prop :=
 Lg kn cR mA aT cH cP vN mR w
def Jv (kn : K7) (cR mA aT cH cP vN : aNk) (w : aNj) : Prop :=
 kn cR mA aT cH cP vN (aNl 0) w
theorem ZO (kn : K7) (hn : N7 Q kn 0 4 5 7 8 9 10) (h : Jv kn (g 0) (g 4) (g 5) (g 7) (g 8) (g 9) w) : bD pg dY (aF 1 (bI (aF 1 (aB 1 (bI (bI (aB 1 (aF 1 (aB 2 (aB 1 (aB 4 dL))))))))))) Q g w :=
 eP (kr := no) (l := []) h hn gS trivial
def T9 (kn : K6) (cR mA aT cH cP vN : aNk) (w : aNj) : Prop :=
 Jv (fun cR mA aT cH cP vN mR w => J5 kn cR mA aT cH cP vN mR w) cR mA aT cH cP vN w
def Kj (kn : K6) (cR mA aT cH cP vN : aNk) (w : aNj) : Prop :=
 T9 kn cR mA aT cH cP vN w
def KF (kn : K6) (cR mA aT cH cP vN : aNk) (w : aNj) : Prop :=
 Kj (fun cR mA aT cH cP vN w => Ga kn cR mA aT cH cP vN w) cR mA aT cH cP vN w
theorem acD (kn : K6) (hn : N6 Q kn 0 4 5 7 8 9) (h : Kj kn (g 0) (g 4) (g 5) (g 7) (g 8) (g 9) w) : bD pg dY (aF 1 (aB 1 (bI (bI (aB 1 (aF 1 (aB 2 (aB 1 (aB 4 dL))))))))) Q g w :=
 wT 3 (jE 1 (ZO _ g w (J5 kn) (fun g w h => aK (wT 4 (Zp _ g w kn hn h))) h))
def Lo (kn : K6) (k2 : K1) (cR mA aT cH cP vN : aNk) (w : aNj) : Prop :=
 aD pg (aI .leq 3 aM aM vN mA) w fun d8 w =>
 gX d8
  (kn cR mA aT cH cP vN w)
  (k2 aT w)
theorem abD (kn : K6) (k2 : K1) (hn : N6 Q kn 0 4 5 7 8 9) (h2 : E1 Q k2 2 5) (h : Lo kn k2 (g 0) (g 4) (g 5) (g 7) (g 8) (g 9) w) : bD pg dY (aF 1 (bI (bI (aB 1 (aF 1 (aB 2 (aB 1 (aB 4 dL)))))))) Q g w :=
 eP (kr := no) (l := [(2, fun g w => k2 (g 5) w)]) h hn gS ⟨h2, trivial⟩
def Dh (kn : K6) (k2 : K1) (cR mA aT cH cP vN : aNk) (w : aNj) : Prop :=
 Lo (fun cR mA aT cH cP vN w => KF kn cR mA aT cH cP vN w) k2 cR mA aT cH cP vN w
def Kr (k2 : K1) (cR mA aT cH cP vN : aNk) (w : aNj) : Prop :=
 cU (fun (X : (aNk × aNk × aNk) -> K0) (t : aNk × aNk × aNk) (w : aNj) => Dh (fun _ _ _ cH cP vN w => X (cH, cP, vN) w) k2 cR mA aT t.1 t.2.1 t.2.2 w) (cH, cP, vN) w
theorem aaK (kn : K6) (k2 : K1) (hn : N6 Q kn 0 4 5 7 8 9) (h2 : E1 Q k2 2 5) (h : Dh kn k2 (g 0) (g 4) (g 5) (g 7) (g 8) (g 9) w) : bD pg dY (bI (bI (aB 1 (aF 1 (aB 2 (aB 1 (aB 4 dL))))))) Q g w :=
 jE 1 (abD _ g w (KF kn) k2 (fun g w h => aK (jE 1 (acD _ g w (Ga kn) (fun g w h => aK (akP _ g w kn hn h)) h))) h2 h)
theorem ZI (k2 : K1) (h2 : E1 Q k2 2 5) (h : Kr k2 (g 0) (g 4) (g 5) (g 7) (g 8) (g 9) w) : bD pg dY (bI (aB 1 (aF 1 (aB 2 (aB 1 (aB 4 dL)))))) Q g w := by
 refine Dt (fun g : Env => (g 7, g 8, g 9)) (fun X t w => Dh (fun _ _ _ cH cP vN w => X (cH, cP, vN) w) k2 (g 0) (g 4) (g 5) t.1 t.2.1 t.2.2 w) h (fun X g1 w1 ha hL => ?_)
 rw [<- jX 0 ha, <- jX 4 ha, <- jX 5 ha] at hL
 exact (aaK _ g1 w1 (fun _ _ _ cH cP vN w => X (cH, cP, vN) w) k2 (fun _ _ h => h) h2 hL)
def Lq (kn : K1) (cR mA aT cH cP vN : aNk) (w : aNj) : Prop :=
 Kr kn cR mA aT cH cP vN w
def KD (kn : K6) (cR mA aT cH cP : aNk) (w : aNj) : Prop :=
 kn cR mA aT cH cP (aNl 1) w
theorem adK (kn : K6) (hn : N6 Q kn 0 4 5 7 8 9) (h : KD kn (g 0) (g 4) (g 5) (g 7) (g 8) w) : bD pg dY (aF 1 (aF 1 (aB 2 (aB 1 (aB 4 dL))))) Q g w :=
 eP (kr := no) (l := []) h hn gS trivial
def Kc (kn : K1) (cR mA aT cH cP : aNk) (w : aNj) : Prop :=
 KD (fun cR mA aT cH cP vN w => Lq kn cR mA aT cH cP vN w) cR mA aT cH cP w
def Ke (R : K1) (cR mA aT cH cP : aNk) (w : aNj) : Prop :=
 Kc (fun aT w => Fw R aT w) cR mA aT cH cP w
theorem acC (kn : K1) (hn : N1 Q kn 5) (h : Kc kn (g 0) (g 4) (g 5) (g 7) (g 8) w) : bD pg dY (aF 1 (aB 2 (aB 1 (aB 4 dL)))) Q g w :=
 jE 1 (adK _ g w (Lq kn) (fun g w h => aK (wT 2 (ZI _ g w kn hn h))) h)
def KT (kn : K5) (cR mA aT : aNk) (w : aNj) : Prop :=
 kn cR mA aT (aNl 0) (aNl 0) w
theorem adC (kn : K5) (hn : N5 Q kn 0 4 5 7 8) (h : KT kn (g 0) (g 4) (g 5) w) : bD pg dY (aF 2 (aB 1 (aB 4 dL))) Q g w :=
 eP (kr := no) (l := []) h hn gS trivial
def LF (R : K1) (cR mA aT : aNk) (w : aNj) : Prop :=
 KT (fun cR mA aT cH cP w => Ke R cR mA aT cH cP w) cR mA aT w
def C3 (kn : K4) (k0 : K3) (cR mA aT wV : aNk) (w : aNj) : Prop :=
 aD pg (lO .len #[9] 3 [cR]) w fun c8 w =>
 aD pg (aI .lss 3 aM aM wV c8) w fun c9 w =>
 gX c9
  (aD pg (fV 148 []) w fun d3 w =>
  aD pg (cT 84 1 [(0, d3)]) w fun d4 w =>
  aD pg (lO .append #[84, 84] 84 [aT, d4]) w fun d5 w =>
  aD pg (aI .add 3 aM aM wV (aNl 1)) w fun d1 w =>
  kn cR mA d5 d1 w)
  (k0 cR mA aT w)
theorem adG (kn : K4) (k0 : K3) (hn : N4 Q kn 0 4 5 6) (h0 : E3 Q k0 0 0 4 5) (h : C3 kn k0 (g 0) (g 4) (g 5) (g 6) w) : bD pg dY (bI (bI (aB 1 (aF 1 (aB 4 dL))))) Q g w :=
 eP (kr := no) (l := [(0, fun g w => k0 (g 0) (g 4) (g 5) w)]) h hn gS ⟨h0, trivial⟩
def Kg (k0 : K3) (cR mA aT wV : aNk) (w : aNj) : Prop :=
 cU (fun (X : (aNk × aNk) -> K0) (t : aNk × aNk) (w : aNj) => C3 (fun _ _ aT wV w => X (aT, wV) w) k0 cR mA t.1 t.2 w) (aT, wV) w
theorem aaX (k0 : K3) (h0 : E3 Q k0 0 0 4 5) (h : Kg k0 (g 0) (g 4) (g 5) (g 6) w) : bD pg dY (bI (aB 1 (aF 1 (aB 4 dL)))) Q g w := by
 refine Dt (fun g : Env => (g 5, g 6)) (fun X t w => C3 (fun _ _ aT wV w => X (aT, wV) w) k0 (g 0) (g 4) t.1 t.2 w) h (fun X g1 w1 ha hL => ?_)
 rw [<- jX 0 ha, <- jX 4 ha] at hL
 exact (adG _ g1 w1 (fun _ _ aT wV w => X (aT, wV) w) k0 (fun _ _ h => h) h0 hL)
def KS (kn : K3) (cR mA aT wV : aNk) (w : aNj) : Prop :=
 Kg kn cR mA aT wV w
def KM (kn : K4) (cR mA aT : aNk) (w : aNj) : Prop :=
 kn cR mA aT (aNl 0) w
theorem Zj (kn : K4) (hn : N4 Q kn 0 4 5 6) (h : KM kn (g 0) (g 4) (g 5) w) : bD pg dY (aF 1 (aF 1 (aB 4 dL))) Q g w :=
 eP (kr := no) (l := []) h hn gS trivial
def Kn (kn : K3) (cR mA aT : aNk) (w : aNj) : Prop :=
 KM (fun cR mA aT wV w => KS kn cR mA aT wV w) cR mA aT w
def J8 (R : K1) (cR mA aT : aNk) (w : aNj) : Prop :=
 Kn (fun cR mA aT w => LF R cR mA aT w) cR mA aT w
theorem abO (kn : K3) (hn : N3 Q kn 0 4 5) (h : Kn kn (g 0) (g 4) (g 5) w) : bD pg dY (aF 1 (aB 4 dL)) Q g w :=
 jE 1 (Zj _ g w (KS kn) (fun g w h => aK (wT 0 (aaX _ g w kn hn h))) h)
def CV (kn : K3) (R : K1) (cR : aNk) (w : aNj) : Prop :=
 aS pg IU #[cR] w fun c3 w =>
 aD pg (aI .eql 3 (.tmp 14) (.const (aNl 0)) c3 (aNl 0)) w fun c5 w =>
 gX c5
  (R (.tuple #[(.slice none 0 0), (aNl 1)]) w)
  (kn cR c3 (.slice none 0 0) w)
theorem ZH (kn : K3) (R : K1) (hn : N3 Q kn 0 4 5) (hr : HR FK R Q) (h : CV kn R (g 0) w) : bD pg dY (aF 4 dL) Q g w :=
 eP (l := []) h hn hr trivial
def CQ (R : K1) (cR : aNk) (w : aNj) : Prop :=
 CV (fun cR mA aT w => J8 R cR mA aT w) R cR w
theorem aaN (R : K1) (hr : HR FK R Q) (h : CQ R (g 0) w) : bD pg dY dL Q g w :=
 jE 4 (ZH _ g w (J8 R) R (fun g w h => aK (jE 1 (abO _ g w (LF R) (fun g w h => aK (jE 2 (adC _ g w (Ke R) (fun g w h => aK (jE 1 (acC _ g w (Fw R) (fun g w h => aK (ahK _ g w R hr h)) h))) h))) h))) hr h)
def WR (a0 : aNk) (w : aNj) (R : K1) : Prop :=
 CQ R a0 w
theorem Su {a0 : aNk} {w : aNj} {R : K1} (h : WR a0 w R) : aS pg Ac #[a0] w R := by
 refine uE (ann := dY) Tryz.f46 dL [a0] FK 66 TryzM.mixed Tryz.func46 ?_
 exact (aaN _ _ _ R (fun _ _ h => h) h)
def qL : FA := ⟨Bj, fun i => .leaf ([], []) []⟩
def CO : List ResultVar := [.tmp 6, .tmp 7]
noncomputable def pO : Code := dE Tryz.f47
def De (R : K1) (b_8 iL : aNk) (w : aNj) : Prop :=
 aD pg (aL 133 b_8) w fun e9 w =>
 aS pg BQ #[e9] w fun f0 w =>
 aD pg (aI .lss 3 aM aM f0 (aNl 0)) w fun f2 w =>
 gX f2
  (R (.tuple #[(.string ⟨#[]⟩), (aNl 11)]) w)
  (aD pg (aI .gtr 3 aM aM f0 (aNl 0)) w fun f4 w =>
  gX f4
   (R (.tuple #[(.string ⟨#[]⟩), (aNl 15)]) w)
   (aD pg (jO 22 9 iL) w fun f6 w =>
   R (.tuple #[f6, (aNl 0)]) w))
theorem aaT (R : K1) (hr : HR CO R Q) (h : De R (g 8) (g 10) w) : bD pg qL (aB 1 (aB 4 pO)) Q g w :=
 eP (kn := no) (l := []) h gS hr trivial
def C2 (kn : K5) (k0 : K2) (cQ nM b_8 iL XE : aNk) (w : aNj) : Prop :=
 aD pg (aI .lss 3 aM aM XE nM) w fun d5 w =>
 gX d5
  (aD pg (aL 133 b_8) w fun e0 w =>
  aS pg P0 #[cQ, e0] w fun e1 w =>
  aD pg (bQ e1 0) w fun e2 w =>
  aD pg (bQ e1 1) w fun e3 w =>
  aD pg (fP 133) w fun aJ0 w =>
  aD pg (aR 133 aJ0 e2) w fun _u w =>
  aD pg (aL 133 aJ0) w fun e4 w =>
  aD pg (aR 133 b_8 e4) w fun _u w =>
  aD pg (cT 22 1 [(0, e3)]) w fun e7 w =>
  aD pg (lO .append #[22, 22] 22 [iL, e7]) w fun e8 w =>
  aD pg (aI .add 3 aM aM XE (aNl 1)) w fun d7 w =>
  kn cQ nM b_8 e8 d7 w)
  (k0 b_8 iL w)
theorem Zk (kn : K5) (k0 : K2) (hn : N5 Q kn 0 2 8 10 11) (h0 : E2 Q k0 0 8 10) (h : C2 kn k0 (g 0) (g 2) (g 8) (g 10) (g 11) w) : bD pg qL (bI (bI (aB 1 (aF 1 (aB 4 pO))))) Q g w :=
 eP (kr := no) (l := [(0, fun g w => k0 (g 8) (g 10) w)]) h hn gS ⟨h0, trivial⟩
def Lj (k0 : K2) (cQ nM b_8 iL XE : aNk) (w : aNj) : Prop :=
 cU (fun (X : (aNk × aNk) -> K0) (t : aNk × aNk) (w : aNj) => C2 (fun _ _ _ iL XE w => X (iL, XE) w) k0 cQ nM b_8 t.1 t.2 w) (iL, XE) w
theorem acI (k0 : K2) (h0 : E2 Q k0 0 8 10) (h : Lj k0 (g 0) (g 2) (g 8) (g 10) (g 11) w) : bD pg qL (bI (aB 1 (aF 1 (aB 4 pO)))) Q g w := by
 refine Dt (fun g : Env => (g 10, g 11)) (fun X t w => C2 (fun _ _ _ iL XE w => X (iL, XE) w) k0 (g 0) (g 2) (g 8) t.1 t.2 w) h (fun X g1 w1 ha hL => ?_)
 rw [<- jX 0 ha, <- jX 2 ha, <- jX 8 ha] at hL
 exact (Zk _ g1 w1 (fun _ _ _ iL XE w => X (iL, XE) w) k0 (fun _ _ h => h) h0 hL)
def JU (kn : K2) (cQ nM b_8 iL XE : aNk) (w : aNj) : Prop :=
 Lj kn cQ nM b_8 iL XE w
def Ka (kn : K5) (cQ nM b_8 iL : aNk) (w : aNj) : Prop :=
 kn cQ nM b_8 iL (aNl 0) w
theorem ZE (kn : K5) (hn : N5 Q kn 0 2 8 10 11) (h : Ka kn (g 0) (g 2) (g 8) (g 10) w) : bD pg qL (aF 1 (aF 1 (aB 4 pO))) Q g w :=
 eP (kr := no) (l := []) h hn gS trivial
def Js (kn : K2) (cQ nM b_8 iL : aNk) (w : aNj) : Prop :=
 Ka (fun cQ nM b_8 iL XE w => JU kn cQ nM b_8 iL XE w) cQ nM b_8 iL w
def JX (R : K1) (cQ nM b_8 iL : aNk) (w : aNj) : Prop :=
 Js (fun b_8 iL w => De R b_8 iL w) cQ nM b_8 iL w
theorem Zy (kn : K2) (hn : N2 Q kn 8 10) (h : Js kn (g 0) (g 2) (g 8) (g 10) w) : bD pg qL (aF 1 (aB 4 pO)) Q g w :=
 jE 1 (ZE _ g w (JU kn) (fun g w h => aK (wT 0 (acI _ g w kn hn h))) h)
def JR (kn : K4) (R : K1) (cQ s_1 nM : aNk) (w : aNj) : Prop :=
 aS pg El #[s_1] w fun c7 w =>
 aD pg (bQ c7 0) w fun c8 w =>
 aD pg (bQ c7 1) w fun c9 w =>
 aD pg (fP 133) w fun b_8 w =>
 aD pg (aR 133 b_8 c8) w fun _u w =>
 aD pg (aI .neq 27 (.tmp 20) (.const (aNl 0)) c9 (aNl 0)) w fun d1 w =>
 gX d1
  (R (.tuple #[(.string ⟨#[]⟩), c9]) w)
  (kn cQ nM b_8 (.slice none 0 0) w)
theorem ZX (kn : K4) (R : K1) (hn : N4 Q kn 0 2 8 10) (hr : HR CO R Q) (h : JR kn R (g 0) (g 1) (g 2) w) : bD pg qL (aF 4 pO) Q g w :=
 eP (l := []) h hn hr trivial
def Jr (R : K1) (cQ s_1 nM : aNk) (w : aNj) : Prop :=
 JR (fun cQ nM b_8 iL w => JX R cQ nM b_8 iL w) R cQ s_1 nM w
theorem abM (R : K1) (hr : HR CO R Q) (h : Jr R (g 0) (g 1) (g 2) w) : bD pg qL pO Q g w :=
 jE 4 (ZX _ g w (JX R) R (fun g w h => aK (jE 1 (Zy _ g w (De R) (fun g w h => aK (aaT _ g w R hr h)) h))) hr h)
def aeP (a0 a1 a2 : aNk) (w : aNj) (R : K1) : Prop :=
 Jr R a0 a1 a2 w
theorem ajP {a0 a1 a2 : aNk} {w : aNj} {R : K1} (h : aeP a0 a1 a2 w R) : aS pg Bj #[a0, a1, a2] w R := by
 refine uE (ann := qL) Tryz.f47 pO [a0, a1, a2] CO 47 TryzM.mixed Tryz.func47 ?_
 exact (abM _ _ _ R (fun _ _ h => h) h)
def P8 : FA := ⟨zV, fun i => .leaf ([], []) []⟩
def SE : List ResultVar := [.tmp 2]
noncomputable def NQ : Code := dE Tryz.f48
def HM (R : K1) (cR : aNk) (w : aNj) : Prop :=
 aS pg zY #[cR] w fun b8 w =>
 aD pg (bQ b8 0) w fun b9 w =>
 aD pg (bQ b8 1) w fun c0 w =>
 aD pg (sUn .not c0) w fun c2 w =>
 Gd (iM c2 false) (fun K => K cR w) w fun c4 w =>
 Gd (iM c2 false) (fun K => aD pg (lO .len #[22] 3 [c4]) w K) w fun c5 w =>
 Gd (iM c2 false) (fun K => aD pg (aI .lss 3 aM aM c5 (aNl 2)) w K) w fun c6 w =>
 aD pg (jR c2 (.bool true) c6) w fun c7 w =>
 Gd (iM c7 false) (fun K => K cR w) w fun c9 w =>
 Gd (iM c7 false) (fun K => aD pg (lO .len #[22] 3 [c9]) w K) w fun d0 w =>
 Gd (iM c7 false) (fun K => aD pg (aI .gtr 3 aM aM d0 (aNl 256)) w K) w fun d1 w =>
 aD pg (jR c7 (.bool true) d1) w fun d2 w =>
 Gd (iM d2 false) (fun K => K cR w) w fun d4 w =>
 Gd (iM d2 false) (fun K => K cR w) w fun d5 w =>
 Gd (iM d2 false) (fun K => aD pg (lO .len #[22] 3 [d5]) w K) w fun d6 w =>
 Gd (iM d2 false) (fun K => aD pg (aI .sub 3 aM aM d6 (aNl 1)) w K) w fun d7 w =>
 Gd (iM d2 false) (fun K => aD pg (cI 22 d4 d7) w K) w fun d8 w =>
 Gd (iM d2 false) (fun K => aD pg (aL 5 d8) w K) w fun d9 w =>
 Gd (iM d2 false) (fun K => aD pg (aI .eql 5 (.tmp 29) (.const (.int .u8 0)) d9 (.int .u8 0)) w K) w fun e0 w =>
 aD pg (jR d2 (.bool true) e0) w fun e1 w =>
 Gd (iM e1 false) (fun K => K b9 w) w fun e3 w =>
 Gd (iM e1 false) (fun K => K b9 w) w fun e4 w =>
 Gd (iM e1 false) (fun K => aD pg (aI .sub 3 aM aM e4 (aNl 1)) w K) w fun e5 w =>
 Gd (iM e1 false) (fun K => aD pg (aI .and 3 aM aM e3 e5) w K) w fun e6 w =>
 Gd (iM e1 false) (fun K => aD pg (aI .neq 3 (.tmp 36) (.const (aNl 0)) e6 (aNl 0)) w K) w fun e7 w =>
 aD pg (jR e1 (.bool true) e7) w fun e8 w =>
 gX e8
  (R (aNl 0) w)
  (aD pg (jO 3 67 b9) w fun f0 w =>
  aS pg rU #[f0] w fun f1 w =>
  aD pg (aI .sub 3 aM aM f1 (aNl 1)) w fun f2 w =>
  aD pg (aI .gtr 3 aM aM f2 (aNl 11)) w fun f4 w =>
  Gd (iM f4 false) (fun K => K cR w) w fun f6 w =>
  Gd (iM f4 false) (fun K => aS pg AH #[f6] w K) w fun f7 w =>
  Gd (iM f4 false) (fun K => aD pg (jO 5 3 f7) w K) w fun f8 w =>
  Gd (iM f4 false) (fun K => K f2 w) w fun f9 w =>
  Gd (iM f4 false) (fun K => aD pg (aI .gtr 3 aM aM f8 f9) w K) w fun i0 w =>
  aD pg (jR f4 (.bool true) i0) w fun i1 w =>
  gX i1
   (R (aNl 0) w)
   (R f2 w))
theorem YJ (R : K1) (hr : HR SE R Q) (h : HM R (g 0) w) : bD pg P8 NQ Q g w :=
 eP (kn := no) (l := []) h gS hr trivial
def YP (a0 : aNk) (w : aNj) (R : K1) : Prop :=
 HM R a0 w
theorem Zr {a0 : aNk} {w : aNj} {R : K1} (h : YP a0 w R) : aS pg zV #[a0] w R := by
 refine uE (ann := P8) Tryz.f48 NQ [a0] SE 53 TryzM.mixed Tryz.func48 ?_
 exact (YJ _ _ _ R (fun _ _ h => h) h)
def Ut : FA := ⟨Iq, fun i => .leaf ([], []) []⟩
def W9 : List ResultVar := [.tmp 4, .tmp 5]
noncomputable def SL : Code := dE Tryz.f49
def MP (R : K1) (cR cG : aNk) (w : aNj) : Prop :=
 aS pg tI #[cR] w fun c0 w =>
 aD pg (bQ c0 0) w fun c1 w =>
 aD pg (bQ c0 1) w fun c2 w =>
 aD pg (aI .neq 27 (.tmp 14) (.const (aNl 0)) c2 (aNl 0)) w fun c5 w =>
 gX c5
  (R (.tuple #[(.slice none 0 0), c2]) w)
  (aD pg (lO .len #[22] 3 [cG]) w fun c9 w =>
  aD pg (aI .gtr 3 aM aM c9 (aNl 131072)) w fun d0 w =>
  gX d0
   (R (.tuple #[(.slice none 0 0), (aNl 1)]) w)
   (aS pg mX #[c1, cG] w fun d3 w =>
   aD pg (bQ d3 0) w fun d4 w =>
   aD pg (bQ d3 1) w fun d5 w =>
   R (.tuple #[d4, d5]) w))
theorem ajD (R : K1) (hr : HR W9 R Q) (h : MP R (g 0) (g 1) w) : bD pg Ut SL Q g w :=
 eP (kn := no) (l := []) h gS hr trivial
def arT (a0 a1 : aNk) (w : aNj) (R : K1) : Prop :=
 MP R a0 a1 w
theorem alH {a0 a1 : aNk} {w : aNj} {R : K1} (h : arT a0 a1 w R) : aS pg Iq #[a0, a1] w R := by
 refine uE (ann := Ut) Tryz.f49 SL [a0, a1] W9 26 TryzM.mixed Tryz.func49 ?_
 exact (ajD _ _ _ R (fun _ _ h => h) h)
def lM : FA := ⟨FZ, fun i => .leaf ([], []) []⟩
def qE : List ResultVar := [.tmp 4, .tmp 5]
noncomputable def kT : Code := dE Tryz.f50
def zQ (R : K1) (rX jG : aNk) (w : aNj) : Prop :=
 aS pg rZ #[rX, jG] w fun l3 w =>
 aS pg rK #[rX] w fun l5 w =>
 R (.tuple #[l5, (aNl 0)]) w
theorem Zq (R : K1) (hr : HR qE R Q) (h : zQ R (g 10) (g 11) w) : bD pg lM (aB 1 (aB 7 kT)) Q g w :=
 eP (kn := no) (l := []) h gS hr trivial
def zP (kn : K6) (cG jK rX jG e8 e9 : aNk) (w : aNj) : Prop :=
 aD pg (aI .add 3 aM aM e9 (aNl 1)) w fun l0 w =>
 kn cG jK rX jG e8 l0 w
theorem abP (kn : K6) (hn : N6 Q kn 1 6 10 11 38 39) (h : zP kn (g 1) (g 6) (g 10) (g 11) (g 38) (g 39) w) : bD pg lM (aB 1 (aB 2 (bI (bI (aB 1 (aF 1 (aB 7 kT))))))) Q g w :=
 eP (kr := no) (l := []) h hn gS trivial
def zO (kn : K6) (cG jK rX jG aHq e8 e9 : aNk) (w : aNj) : Prop :=
 aD pg (lO .append #[22, 22] 22 [jG, aHq]) w fun j9 w =>
 kn cG jK rX j9 e8 e9 w
theorem abC (kn : K6) (hn : N6 Q kn 1 6 10 11 38 39) (h : zO kn (g 1) (g 6) (g 10) (g 11) (g 14) (g 38) (g 39) w) : bD pg lM (aB 5 (bI (aF 1 (aB 2 (bI (bI (aB 1 (aF 1 (aB 7 kT))))))))) Q g w :=
 eP (kr := no) (l := []) h hn gS trivial
def Ks (kn : K7) (R : K1) (cG jK rX jG e8 e9 : aNk) (w : aNj) : Prop :=
 aD pg (D6 73 e8 e9) w fun f2 w =>
 aD pg (lX 22 cG none (some f2) none) w fun f7 w =>
 aS pg mX #[jK, f7] w fun f8 w =>
 aD pg (bQ f8 0) w fun f9 w =>
 aD pg (bQ f8 1) w fun i0 w =>
 aD pg (aI .neq 27 (.tmp 51) (.const (aNl 0)) i0 (aNl 0)) w fun i2 w =>
 gX i2
  (R (.tuple #[(.slice none 0 0), i0]) w)
  (aD pg (lX 22 cG (some f2) none none) w fun i6 w =>
  aD pg (aI .lss 3 aM aM e9 (aNl 3)) w fun i8 w =>
  gX i8
   (aD pg (lO .len #[22] 3 [f9]) w fun j0 w =>
   aD pg (aI .geq 3 aM aM j0 (aNl 65536)) w fun j1 w =>
   gX j1
    (R (.tuple #[(.slice none 0 0), (aNl 1)]) w)
    (aD pg (lO .len #[22] 3 [f9]) w fun j4 w =>
    aD pg (jO 3 24 j4) w fun j5 w =>
    aS pg lF #[rX, j5, (aNl 2)] w fun j6 w =>
    kn i6 jK rX jG f9 e8 e9 w))
   (kn i6 jK rX jG f9 e8 e9 w))
theorem aaE (kn : K7) (R : K1) (hn : N7 Q kn 1 6 10 11 14 38 39) (hr : HR qE R Q) (h : Ks kn R (g 1) (g 6) (g 10) (g 11) (g 38) (g 39) w) : bD pg lM (aF 5 (bI (aF 1 (aB 2 (bI (bI (aB 1 (aF 1 (aB 7 kT))))))))) Q g w :=
 eP (l := []) h hn hr trivial
def Uh (kn : K6) (R : K1) (cG jK rX jG e8 e9 : aNk) (w : aNj) : Prop :=
 Ks (fun cG jK rX jG aHq e8 e9 w => zO kn cG jK rX jG aHq e8 e9 w) R cG jK rX jG e8 e9 w
def Ls (kn : K6) (R : K1) (cG jK rX jG e8 e9 : aNk) (w : aNj) : Prop :=
 Uh kn R cG jK rX jG e8 e9 w
def JZ (kn : K6) (R : K1) (cG jK rX jG e8 e9 : aNk) (w : aNj) : Prop :=
 Ls (fun cG jK rX jG e8 e9 w => zP kn cG jK rX jG e8 e9 w) R cG jK rX jG e8 e9 w
theorem ZF (kn : K6) (R : K1) (hn : N6 Q kn 1 6 10 11 38 39) (hr : HR qE R Q) (h : Ls kn R (g 1) (g 6) (g 10) (g 11) (g 38) (g 39) w) : bD pg lM (aF 1 (aB 2 (bI (bI (aB 1 (aF 1 (aB 7 kT))))))) Q g w :=
 wT 1 (jE 5 (aaE _ g w (zO kn) R (fun g w h => aK (abC _ g w kn hn h)) hr h))
def J3 (kn : K6) (k0 : K2) (cG jK rX jG e8 e9 : aNk) (w : aNj) : Prop :=
 aD pg (aI .lss 3 aM aM e9 (aNl 4)) w fun f0 w =>
 gX f0
  (kn cG jK rX jG e8 e9 w)
  (k0 rX jG w)
theorem aaR (kn : K6) (k0 : K2) (hn : N6 Q kn 1 6 10 11 38 39) (h0 : E2 Q k0 0 10 11) (h : J3 kn k0 (g 1) (g 6) (g 10) (g 11) (g 38) (g 39) w) : bD pg lM (aF 2 (bI (bI (aB 1 (aF 1 (aB 7 kT)))))) Q g w :=
 eP (kr := no) (l := [(0, fun g w => k0 (g 10) (g 11) w)]) h hn gS ⟨h0, trivial⟩
def C6 (kn : K6) (k0 : K2) (R : K1) (cG jK rX jG e8 e9 : aNk) (w : aNj) : Prop :=
 J3 (fun cG jK rX jG e8 e9 w => JZ kn R cG jK rX jG e8 e9 w) k0 cG jK rX jG e8 e9 w
def HU (k0 : K2) (R : K1) (cG jK rX jG e8 e9 : aNk) (w : aNj) : Prop :=
 cU (fun (X : (aNk × aNk × aNk) -> K0) (t : aNk × aNk × aNk) (w : aNj) => C6 (fun cG _ _ jG _ e9 w => X (cG, jG, e9) w) k0 R t.1 jK rX t.2.1 e8 t.2.2 w) (cG, jG, e9) w
theorem ZL (kn : K6) (k0 : K2) (R : K1) (hn : N6 Q kn 1 6 10 11 38 39) (h0 : E2 Q k0 0 10 11) (hr : HR qE R Q) (h : C6 kn k0 R (g 1) (g 6) (g 10) (g 11) (g 38) (g 39) w) : bD pg lM (bI (bI (aB 1 (aF 1 (aB 7 kT))))) Q g w :=
 jE 2 (aaR _ g w (JZ kn R) k0 (fun g w h => aK (jE 1 (ZF _ g w (zP kn) R (fun g w h => aK (abP _ g w kn hn h)) hr h))) h0 h)
theorem YC (k0 : K2) (R : K1) (h0 : E2 Q k0 0 10 11) (hr : HR qE R Q) (h : HU k0 R (g 1) (g 6) (g 10) (g 11) (g 38) (g 39) w) : bD pg lM (bI (aB 1 (aF 1 (aB 7 kT)))) Q g w := by
 refine Dt (fun g : Env => (g 1, g 11, g 39)) (fun X t w => C6 (fun cG _ _ jG _ e9 w => X (cG, jG, e9) w) k0 R t.1 (g 6) (g 10) t.2.1 (g 38) t.2.2 w) h (fun X g1 w1 ha hL => ?_)
 rw [<- jX 6 ha, <- jX 10 ha, <- jX 38 ha] at hL
 exact (ZL _ g1 w1 (fun cG _ _ jG _ e9 w => X (cG, jG, e9) w) k0 R (fun _ _ h => h) h0 hr hL)
def BF (kn : K2) (R : K1) (cG jK rX jG e8 e9 : aNk) (w : aNj) : Prop :=
 HU kn R cG jK rX jG e8 e9 w
def H5 (kn : K6) (cG jK Kz rX jG : aNk) (w : aNj) : Prop :=
 aD pg (aL 73 Kz) w fun e8 w =>
 kn cG jK rX jG e8 (aNl 0) w
theorem Yj (kn : K6) (hn : N6 Q kn 1 6 10 11 38 39) (h : H5 kn (g 1) (g 6) (g 8) (g 10) (g 11) w) : bD pg lM (aF 1 (aF 1 (aB 7 kT))) Q g w :=
 eP (kr := no) (l := []) h hn gS trivial
def H7 (kn : K2) (R : K1) (cG jK Kz rX jG : aNk) (w : aNj) : Prop :=
 H5 (fun cG jK rX jG e8 e9 w => BF kn R cG jK rX jG e8 e9 w) cG jK Kz rX jG w
def Ik (R : K1) (cG jK Kz rX jG : aNk) (w : aNj) : Prop :=
 H7 (fun rX jG w => zQ R rX jG w) R cG jK Kz rX jG w
theorem YB (kn : K2) (R : K1) (hn : N2 Q kn 10 11) (hr : HR qE R Q) (h : H7 kn R (g 1) (g 6) (g 8) (g 10) (g 11) w) : bD pg lM (aF 1 (aB 7 kT)) Q g w :=
 jE 1 (Yj _ g w (BF kn R) (fun g w h => aK (wT 0 (YC _ g w kn R hn hr h))) h)
def Ic (kn : K5) (R : K1) (cR cG : aNk) (w : aNj) : Prop :=
 aS pg tI #[cR] w fun c8 w =>
 aD pg (bQ c8 0) w fun c9 w =>
 aD pg (bQ c8 1) w fun d0 w =>
 aD pg (aI .neq 27 (.tmp 21) (.const (aNl 0)) d0 (aNl 0)) w fun d2 w =>
 gX d2
  (R (.tuple #[(.slice none 0 0), d0]) w)
  (aD pg (lO .len #[22] 3 [cG]) w fun d6 w =>
  aS pg Fb #[d6] w fun d7 w =>
  aD pg (bQ d7 0) w fun d8 w =>
  aD pg (bQ d7 1) w fun d9 w =>
  aD pg (fP 73) w fun Kz w =>
  aD pg (aR 73 Kz d8) w fun _u w =>
  aD pg (sUn .not d9) w fun e1 w =>
  Gd (iM e1 false) (fun K => K cG w) w fun e3 w =>
  Gd (iM e1 false) (fun K => aD pg (lO .len #[22] 3 [e3]) w K) w fun e4 w =>
  Gd (iM e1 false) (fun K => aD pg (aI .gtr 3 aM aM e4 (aNl 131072)) w K) w fun e5 w =>
  aD pg (jR e1 (.bool true) e5) w fun e6 w =>
  gX e6
   (R (.tuple #[(.slice none 0 0), (aNl 1)]) w)
   (aS pg sG #[] w fun e7 w =>
   kn cG c9 Kz e7 (.slice none 0 0) w))
theorem X5 (kn : K5) (R : K1) (hn : N5 Q kn 1 6 8 10 11) (hr : HR qE R Q) (h : Ic kn R (g 0) (g 1) w) : bD pg lM (aF 7 kT) Q g w :=
 eP (l := []) h hn hr trivial
def Il (R : K1) (cR cG : aNk) (w : aNj) : Prop :=
 Ic (fun cG jK Kz rX jG w => Ik R cG jK Kz rX jG w) R cR cG w
theorem Yf (R : K1) (hr : HR qE R Q) (h : Il R (g 0) (g 1) w) : bD pg lM kT Q g w :=
 jE 7 (X5 _ g w (Ik R) R (fun g w h => aK (jE 1 (YB _ g w (zQ R) R (fun g w h => aK (Zq _ g w R hr h)) hr h))) hr h)
def ahZ (a0 a1 : aNk) (w : aNj) (R : K1) : Prop :=
 Il R a0 a1 w
theorem afC {a0 a1 : aNk} {w : aNj} {R : K1} (h : ahZ a0 a1 w R) : aS pg FZ #[a0, a1] w R := by
 refine uE (ann := lM) Tryz.f50 kT [a0, a1] qE 76 TryzM.mixed Tryz.func50 ?_
 exact (Yf _ _ _ R (fun _ _ h => h) h)
def rR : FA := ⟨nU, fun i => .leaf ([], []) []⟩
def NP : List ResultVar := [.tmp 2]
noncomputable def qT : Code := dE Tryz.f51
def FT (R : K1) (A3 : aNk) (w : aNj) : Prop :=
 R A3 w
theorem afX (R : K1) (hr : HR NP R Q) (h : FT R (g 3) w) : bD pg rR (aB 1 (aB 2 qT)) Q g w :=
 eP (kn := no) (l := []) h gS hr trivial
def A7 (kn : K3) (k0 : K1) (n_0 A3 lC : aNk) (w : aNj) : Prop :=
 aD pg (aI .lss 3 aM aM lC n_0) w fun b7 w =>
 Gd (iM b7 true) (fun K => K lC w) w fun b9 w =>
 Gd (iM b7 true) (fun K => aD pg (aI .lss 3 aM aM b9 (aNl 40)) w K) w fun c0 w =>
 aD pg (jR b7 c0 (.bool false)) w fun c1 w =>
 gX c1
  (aD pg (aI .mul 3 aM aM A3 (aNl 2)) w fun c5 w =>
  aD pg (aI .add 3 aM aM lC (aNl 1)) w fun c3 w =>
  kn n_0 c5 c3 w)
  (k0 A3 w)
theorem ajG (kn : K3) (k0 : K1) (hn : N3 Q kn 0 3 4) (h0 : E1 Q k0 0 3) (h : A7 kn k0 (g 0) (g 3) (g 4) w) : bD pg rR (bI (bI (aB 1 (aF 1 (aB 2 qT))))) Q g w :=
 eP (kr := no) (l := [(0, fun g w => k0 (g 3) w)]) h hn gS ⟨h0, trivial⟩
def Ph (k0 : K1) (n_0 A3 lC : aNk) (w : aNj) : Prop :=
 cU (fun (X : (aNk × aNk) -> K0) (t : aNk × aNk) (w : aNj) => A7 (fun _ A3 lC w => X (A3, lC) w) k0 n_0 t.1 t.2 w) (A3, lC) w
theorem ahM (k0 : K1) (h0 : E1 Q k0 0 3) (h : Ph k0 (g 0) (g 3) (g 4) w) : bD pg rR (bI (aB 1 (aF 1 (aB 2 qT)))) Q g w := by
 refine Dt (fun g : Env => (g 3, g 4)) (fun X t w => A7 (fun _ A3 lC w => X (A3, lC) w) k0 (g 0) t.1 t.2 w) h (fun X g1 w1 ha hL => ?_)
 rw [<- jX 0 ha] at hL
 exact (ajG _ g1 w1 (fun _ A3 lC w => X (A3, lC) w) k0 (fun _ _ h => h) h0 hL)
def Nw (kn : K1) (n_0 A3 lC : aNk) (w : aNj) : Prop :=
 Ph kn n_0 A3 lC w
def Og (kn : K3) (n_0 A3 : aNk) (w : aNj) : Prop :=
 kn n_0 A3 (aNl 0) w
theorem ajB (kn : K3) (hn : N3 Q kn 0 3 4) (h : Og kn (g 0) (g 3) w) : bD pg rR (aF 1 (aF 1 (aB 2 qT))) Q g w :=
 eP (kr := no) (l := []) h hn gS trivial
def NU (kn : K1) (n_0 A3 : aNk) (w : aNj) : Prop :=
 Og (fun n_0 A3 lC w => Nw kn n_0 A3 lC w) n_0 A3 w
def M4 (R : K1) (n_0 A3 : aNk) (w : aNj) : Prop :=
 NU (fun A3 w => FT R A3 w) n_0 A3 w
theorem adY (kn : K1) (hn : N1 Q kn 3) (h : NU kn (g 0) (g 3) w) : bD pg rR (aF 1 (aB 2 qT)) Q g w :=
 jE 1 (ajB _ g w (Nw kn) (fun g w h => aK (wT 0 (ahM _ g w kn hn h))) h)
def OC (kn : K2) (n_0 : aNk) (w : aNj) : Prop :=
 kn n_0 (aNl 1) w
theorem alD (kn : K2) (hn : N2 Q kn 0 3) (h : OC kn (g 0) w) : bD pg rR (aF 2 qT) Q g w :=
 eP (kr := no) (l := []) h hn gS trivial
def Oz (R : K1) (n_0 : aNk) (w : aNj) : Prop :=
 OC (fun n_0 A3 w => M4 R n_0 A3 w) n_0 w
theorem ahB (R : K1) (hr : HR NP R Q) (h : Oz R (g 0) w) : bD pg rR qT Q g w :=
 jE 2 (alD _ g w (M4 R) (fun g w h => aK (jE 1 (adY _ g w (FT R) (fun g w h => aK (afX _ g w R hr h)) h))) h)
def arS (a0 : aNk) (w : aNj) (R : K1) : Prop :=
 Oz R a0 w
theorem aoX {a0 : aNk} {w : aNj} {R : K1} (h : arS a0 w R) : aS pg nU #[a0] w R := by
 refine uE (ann := rR) Tryz.f51 qT [a0] NP 17 TryzM.mixed Tryz.func51 ?_
 exact (ahB _ _ _ R (fun _ _ h => h) h)
def GP : FA := ⟨sP, fun i => .leaf ([], []) []⟩
def G3 : List ResultVar := [.tmp 6]
noncomputable def Eg : Code := dE Tryz.f52
def Ar (R : K1) (M3 lU aJQ : aNk) (w : aNj) : Prop :=
 aD pg (vP M3) w fun c0 w =>
 aD pg (aJ 92 c0 1) w fun c1 w =>
 aD pg (aL 27 c1) w fun c2 w =>
 aD pg (aI .neq 27 (.tmp 12) (.const (aNl 0)) c2 (aNl 0)) w fun c3 w =>
 gX c3
  (R (.slice none 0 0) w)
  (aD pg (sUn .not aJQ) w fun c6 w =>
  gX c6
   (aD pg (vP M3) w fun c8 w =>
   aD pg (aJ 92 c8 1) w fun c9 w =>
   aD pg (aR 27 c9 (aNl 1)) w fun _u w =>
   R (.slice none 0 0) w)
   (aD pg (vP M3) w fun d3 w =>
   aD pg (aJ 92 d3 0) w fun d4 w =>
   aD pg (aL 22 d4) w fun d5 w =>
   aD pg (lO .len #[22] 3 [d5]) w fun d6 w =>
   aD pg (aI .gtr 3 aM aM lU d6) w fun d7 w =>
   gX d7
    (aD pg (vP M3) w fun d9 w =>
    aD pg (aJ 92 d9 1) w fun e0 w =>
    aD pg (aR 27 e0 (aNl 10)) w fun _u w =>
    R (.slice none 0 0) w)
    (aD pg (vP M3) w fun e2 w =>
    aD pg (aJ 92 e2 0) w fun e3 w =>
    aD pg (aL 22 e3) w fun e4 w =>
    aD pg (lX 22 e4 none (some lU) (some lU)) w fun e7 w =>
    aD pg (vP M3) w fun f0 w =>
    aD pg (aJ 92 f0 0) w fun f1 w =>
    aD pg (aL 22 f1) w fun f2 w =>
    aD pg (lX 22 f2 (some lU) none none) w fun f4 w =>
    aD pg (vP M3) w fun f5 w =>
    aD pg (aJ 92 f5 0) w fun f6 w =>
    aD pg (aR 22 f6 f4) w fun _u w =>
    R e7 w)))
theorem Ro (R : K1) (hr : HR G3 R Q) (h : Ar R (g 0) (g 1) (g 2) w) : bD pg GP Eg Q g w :=
 eP (kn := no) (l := []) h gS hr trivial
def OM (a0 a1 a2 : aNk) (w : aNj) (R : K1) : Prop :=
 Ar R a0 a1 a2 w
theorem SO {a0 a1 a2 : aNk} {w : aNj} {R : K1} (h : OM a0 a1 a2 w R) : aS pg sP #[a0, a1, a2] w R := by
 refine uE (ann := GP) Tryz.f52 Eg [a0, a1, a2] G3 48 TryzM.mixed Tryz.func52 ?_
 exact (Ro _ _ _ R (fun _ _ h => h) h)
def LS : FA := ⟨AX, fun i => .leaf ([], []) []⟩
def NG : List ResultVar := [.tmp 4, .tmp 5]
noncomputable def Jl : Code := dE Tryz.f54
def DL (R : K1) (oH y_1 : aNk) (w : aNj) : Prop :=
 aD pg (aI .and 24 aM aM oH (.int .u64 4294967295)) w fun c5 w =>
 aD pg (aI .shr 24 aM aM oH (.int .u64 32)) w fun c7 w =>
 aD pg (aI .and 24 aM aM y_1 (.int .u64 4294967295)) w fun c9 w =>
 aD pg (aI .shr 24 aM aM y_1 (.int .u64 32)) w fun d1 w =>
 aD pg (aI .mul 24 aM aM c5 c9) w fun d4 w =>
 aD pg (aI .mul 24 aM aM c7 c9) w fun d7 w =>
 aD pg (aI .shr 24 aM aM d4 (.int .u64 32)) w fun d9 w =>
 aD pg (aI .add 24 aM aM d7 d9) w fun e0 w =>
 aD pg (aI .and 24 aM aM e0 (.int .u64 4294967295)) w fun e2 w =>
 aD pg (aI .shr 24 aM aM e0 (.int .u64 32)) w fun e4 w =>
 aD pg (aI .mul 24 aM aM c5 d1) w fun e8 w =>
 aD pg (aI .add 24 aM aM e2 e8) w fun e9 w =>
 aD pg (aI .mul 24 aM aM c7 d1) w fun f2 w =>
 aD pg (aI .add 24 aM aM f2 e4) w fun f4 w =>
 aD pg (aI .shr 24 aM aM e9 (.int .u64 32)) w fun f6 w =>
 aD pg (aI .add 24 aM aM f4 f6) w fun f7 w =>
 aD pg (aI .mul 24 aM aM oH y_1) w fun i0 w =>
 R (.tuple #[f7, i0]) w
theorem U1 (R : K1) (hr : HR NG R Q) (h : DL R (g 0) (g 1) w) : bD pg LS Jl Q g w :=
 eP (kn := no) (l := []) h gS hr trivial
def Ur (a0 a1 : aNk) (w : aNj) (R : K1) : Prop :=
 DL R a0 a1 w
theorem Xb {a0 a1 : aNk} {w : aNj} {R : K1} (h : Ur a0 a1 w R) : aS pg AX #[a0, a1] w R := by
 refine uE (ann := LS) Tryz.f54 Jl [a0, a1] NG 51 TryzM.mixed Tryz.func54 ?_
 exact (U1 _ _ _ R (fun _ _ h => h) h)
def pC : FA := ⟨IV, fun i => match Nat.beq i 25 with | true => .leaf ([2, 3], [(0, 2)]) [(false, []), (false, []), (true, [1]), (true, []), (false, []), (false, [])] | false => .leaf ([], []) []⟩
def rA : List ResultVar := [.cell 6 100, .tmp 7, .tmp 8]
noncomputable def nY : Code := dE Tryz.f55
def Fa (R : K1) (b6 oN fS : aNk) (w : aNj) : Prop :=
 aD pg (aL 100 fS) (dr w) fun o1 w_ => w_ = (dr w) /\
 (dr w) = (dr w) /\
 aS pg xE #[oN] (dr w) fun o3 aIL =>
 (jF pg (aL 100 fS) o1 aIL /\ True) /\
 aD pg (aR 100 b6 o1) aIL fun _u3 aAi =>
 aAi = aAi /\
 aAi = aAi /\
 zN pg 100 b6 aAi fun r0 => R (.tuple #[r0, o3, (aNl 0)]) aAi
theorem ajE (R : K1) (hr : HR rA R Q) (h : Fa R (g 6) (g 9) (g 12) w) : bD pg pC (aB 1 (aB 7 nY)) Q g w :=
 eP (kn := no) (l := []) h gS hr trivial
def A8 (kn : K5) (R : K1) (aO b6 oN fS aX : aNk) (w : aNj) : Prop :=
 aD pg (aJ 100 fS 1) w fun n1 w =>
 aD pg (aL 42 n1) w fun n2 w =>
 aD pg (lO .len #[42] 3 [n2]) w fun n3 w =>
 aD pg (aI .gtr 3 aM aM n3 aO) w fun n5 w =>
 Gd (iM n5 false) (fun K => K aX w) w fun n7 w =>
 Gd (iM n5 false) (fun K => aD pg (aI .lss 3 aM aM n7 (aNl 0)) w K) w fun n8 w =>
 aD pg (jR n5 (.bool true) n8) w fun n9 w =>
 gX n9
  (aD pg (fV 100 []) w fun o0 w =>
  aD pg (aR 100 b6 o0) w fun _u w =>
  zN pg 100 b6 w fun r0 => R (.tuple #[r0, (aNl 0), (aNl 11)]) w)
  (kn aO b6 oN fS aX w)
theorem ajA (kn : K5) (R : K1) (hn : N5 Q kn 2 6 9 12 13) (hr : HR rA R Q) (h : A8 kn R (g 2) (g 6) (g 9) (g 12) (g 13) w) : bD pg pC (aB 6 (bI (aB 1 (bI (bI (aF 1 (aB 7 nY))))))) Q g w :=
 eP (l := []) h hn hr trivial
def ML (kn : K5) (R : K1) (aO b6 oN fS aX : aNk) (w : aNj) : Prop :=
 aS pg GL #[oN, aX] w fun i2 w =>
 aD pg (bQ i2 0) w fun i3 w =>
 aD pg (bQ i2 1) w fun i4 w =>
 aD pg (aI .neq 27 (.tmp 55) (.const (aNl 0)) i4 (aNl 0)) w fun i6 w =>
 gX i6
  (aD pg (fV 100 []) w fun i7 w =>
  aD pg (aR 100 b6 i7) w fun _u w =>
  zN pg 100 b6 w fun r0 => R (.tuple #[r0, (aNl 0), i4]) w)
  (aD pg (aI .sub 3 aM aM i3 (aNl 1)) w fun j0 w =>
  aS pg xP #[j0] w fun j3 w =>
  aD pg (aI .sub 3 aM aM aX j3) w fun j4 w =>
  aD pg (aJ 100 fS 1) w fun j5 w =>
  aD pg (aL 42 j5) w fun j6 w =>
  aD pg (cT 42 1 [(0, j0)]) w fun j8 w =>
  aD pg (lO .append #[42, 42] 42 [j6, j8]) w fun j9 w =>
  aD pg (aJ 100 fS 1) w fun l0 w =>
  aD pg (aR 42 l0 j9) w fun _u w =>
  aD pg (aI .eql 3 (.tmp 71) (.const (aNl 0)) j0 (aNl 0)) w fun l2 w =>
  gX l2
   (aS pg BP #[oN] w fun l5 w =>
   aD pg (bQ l5 0) w fun l6 w =>
   aD pg (bQ l5 1) w fun l7 w =>
   aD pg (aI .neq 27 (.tmp 78) (.const (aNl 0)) l7 (aNl 0)) w fun l9 w =>
   gX l9
    (aD pg (fV 100 []) w fun m0 w =>
    aD pg (aR 100 b6 m0) w fun _u w =>
    zN pg 100 b6 w fun r0 => R (.tuple #[r0, (aNl 0), l7]) w)
    (aD pg (aI .gtr 3 aM aM l6 aO) w fun m4 w =>
    gX m4
     (aD pg (fV 100 []) w fun m5 w =>
     aD pg (aR 100 b6 m5) w fun _u w =>
     zN pg 100 b6 w fun r0 => R (.tuple #[r0, (aNl 0), (aNl 11)]) w)
     (aD pg (aJ 100 fS 1) w fun m6 w =>
     aD pg (aL 42 m6) w fun m7 w =>
     aD pg (lO .append #[42, 3] 42 [m7, l6]) w fun m9 w =>
     aD pg (aJ 100 fS 1) w fun n0 w =>
     aD pg (aR 42 n0 m9) w fun _u w =>
     kn aO b6 oN fS j4 w)))
   (kn aO b6 oN fS j4 w))
theorem aiH (kn : K5) (R : K1) (hn : N5 Q kn 2 6 9 12 13) (hr : HR rA R Q) (h : ML kn R (g 2) (g 6) (g 9) (g 12) (g 13) w) : bD pg pC (aF 6 (bI (aB 1 (bI (bI (aF 1 (aB 7 nY))))))) Q g w :=
 eP (l := []) h hn hr trivial
def Wu (kn : K5) (R : K1) (aO b6 oN fS aX : aNk) (w : aNj) : Prop :=
 ML (fun aO b6 oN fS aX w => A8 kn R aO b6 oN fS aX w) R aO b6 oN fS aX w
def Pb (kn : K5) (R : K1) (aO b6 oN fS aX : aNk) (w : aNj) : Prop :=
 Wu kn R aO b6 oN fS aX w
def Oj (kn : K5) (k0 : K3) (aO b6 oN fS aX : aNk) (w : aNj) : Prop :=
 aD pg (aI .gtr 3 aM aM aX (aNl 0)) w fun f8 w =>
 gX f8
  (kn aO b6 oN fS aX w)
  (k0 b6 oN fS w)
theorem ajO (kn : K5) (k0 : K3) (hn : N5 Q kn 2 6 9 12 13) (h0 : E3 Q k0 0 6 9 12) (h : Oj kn k0 (g 2) (g 6) (g 9) (g 12) (g 13) w) : bD pg pC (aF 1 (bI (bI (aF 1 (aB 7 nY))))) Q g w :=
 eP (kr := no) (l := [(0, fun g w => k0 (g 6) (g 9) (g 12) w)]) h hn gS ⟨h0, trivial⟩
def Gp (kn : K5) (k0 : K3) (R : K1) (aO b6 oN fS aX : aNk) (w : aNj) : Prop :=
 Oj (fun aO b6 oN fS aX w => Pb kn R aO b6 oN fS aX w) k0 aO b6 oN fS aX w
def Oe (k0 : K3) (R : K1) (aO b6 oN fS aX : aNk) (w : aNj) : Prop :=
 cU (fun (X : aNk -> K0) (t : aNk) (w : aNj) => Gp (fun _ _ _ _ aX w => X aX w) k0 R aO b6 oN fS t w) aX w
theorem akQ (kn : K5) (k0 : K3) (R : K1) (hn : N5 Q kn 2 6 9 12 13) (h0 : E3 Q k0 0 6 9 12) (hr : HR rA R Q) (h : Gp kn k0 R (g 2) (g 6) (g 9) (g 12) (g 13) w) : bD pg pC (bI (bI (aF 1 (aB 7 nY)))) Q g w :=
 jE 1 (ajO _ g w (Pb kn R) k0 (fun g w h => aK (wT 1 (jE 6 (aiH _ g w (A8 kn R) R (fun g w h => aK (ajA _ g w kn R hn hr h)) hr h)))) h0 h)
theorem agN (k0 : K3) (R : K1) (h0 : E3 Q k0 0 6 9 12) (hr : HR rA R Q) (h : Oe k0 R (g 2) (g 6) (g 9) (g 12) (g 13) w) : bD pg pC (bI (aF 1 (aB 7 nY))) Q g w := by
 refine Dt (fun g : Env => g 13) (fun X t w => Gp (fun _ _ _ _ aX w => X aX w) k0 R (g 2) (g 6) (g 9) (g 12) t w) h (fun X g1 w1 ha hL => ?_)
 rw [<- jX 2 ha, <- jX 6 ha, <- jX 9 ha, <- jX 12 ha] at hL
 exact (akQ _ g1 w1 (fun _ _ _ _ aX w => X aX w) k0 R (fun _ _ h => h) h0 hr hL)
def NK (kn : K3) (R : K1) (aO b6 oN fS aX : aNk) (w : aNj) : Prop :=
 Oe kn R aO b6 oN fS aX w
def CI (R : K1) (aO b6 oN fS aX : aNk) (w : aNj) : Prop :=
 NK (fun b6 oN fS w => Fa R b6 oN fS w) R aO b6 oN fS aX w
theorem ahX (kn : K3) (R : K1) (hn : N3 Q kn 6 9 12) (hr : HR rA R Q) (h : NK kn R (g 2) (g 6) (g 9) (g 12) (g 13) w) : bD pg pC (aF 1 (aB 7 nY)) Q g w :=
 wT 0 (agN _ g w kn R hn hr h)
def Kd (kn : K5) (R : K1) (fO Oo aO : aNk) (w : aNj) : Prop :=
 aD pg (fP 100) w fun b6 w =>
 aS pg AR #[fO] w fun d0 w =>
 aS pg pK #[d0, (aNl 4)] w fun d3 w =>
 aD pg (bQ d3 0) w fun d4 w =>
 aD pg (bQ d3 1) w fun d5 w =>
 aD pg (aI .neq 27 (.tmp 26) (.const (aNl 0)) d5 (aNl 0)) w fun d7 w =>
 gX d7
  (aD pg (fV 100 []) w fun d8 w =>
  aD pg (aR 100 b6 d8) w fun _u w =>
  zN pg 100 b6 w fun r0 => R (.tuple #[r0, (aNl 0), d5]) w)
  (aD pg (jO 24 3 d4) w fun e1 w =>
  aD pg (aI .add 3 aM aM e1 (aNl 5)) w fun e2 w =>
  aD pg (fV 100 [(0, e2)]) w fun e3 w =>
  aD pg (fP 100) w fun fS w =>
  aD pg (aR 100 fS e3) w fun _u w =>
  aD pg (aJ 100 fS 0) w fun e4 w =>
  aD pg (aL 3 e4) w fun e5 w =>
  aD pg (aI .gtr 3 aM aM e5 Oo) w fun e7 w =>
  Gd (iM e7 false) (fun K => aD pg (aJ 100 fS 0) w K) w fun e9 w =>
  Gd (iM e7 false) (fun K => aD pg (aL 3 e9) w K) w fun f0 w =>
  Gd (iM e7 false) (fun K => aD pg (aI .gtr 3 aM aM f0 (aNl 15)) w K) w fun f1 w =>
  aD pg (jR e7 (.bool true) f1) w fun f2 w =>
  gX f2
   (aD pg (fV 100 []) w fun f3 w =>
   aD pg (aR 100 b6 f3) w fun _u w =>
   zN pg 100 b6 w fun r0 => R (.tuple #[r0, (aNl 0), (aNl 12)]) w)
   (aD pg (aJ 100 fS 0) w fun f4 w =>
   aD pg (aL 3 f4) w fun f5 w =>
   aD pg (aI .shl 3 aM aM (aNl 1) f5) w fun f6 w =>
   kn aO b6 d0 fS f6 w))
theorem adL (kn : K5) (R : K1) (hn : N5 Q kn 2 6 9 12 13) (hr : HR rA R Q) (h : Kd kn R (g 0) (g 1) (g 2) w) : bD pg pC (aF 7 nY) Q g w :=
 eP (l := []) h hn hr trivial
def Lm (R : K1) (fO Oo aO : aNk) (w : aNj) : Prop :=
 Kd (fun aO b6 oN fS aX w => CI R aO b6 oN fS aX w) R fO Oo aO w
theorem adP (R : K1) (hr : HR rA R Q) (h : Lm R (g 0) (g 1) (g 2) w) : bD pg pC nY Q g w :=
 jE 7 (adL _ g w (CI R) R (fun g w h => aK (jE 1 (ahX _ g w (Fa R) R (fun g w h => aK (ajE _ g w R hr h)) hr h))) hr h)
def arH (a0 a1 a2 : aNk) (w : aNj) (R : K1) : Prop :=
 Lm R a0 a1 a2 w
theorem alS {a0 a1 a2 : aNk} {w : aNj} {R : K1} (h : arH a0 a1 a2 w R) : aS pg IV #[a0, a1, a2] w R := by
 refine uE (ann := pC) Tryz.f55 nY [a0, a1, a2] rA 104 TryzM.mixed Tryz.func55 ?_
 exact (adP _ _ _ R (fun _ _ h => h) h)
def Jf : FA := ⟨sD, fun i => match Nat.beq i 3 with | true => .leaf ([1, 12, 16], [(1, 3), (1, 4), (1, 5), (1, 8), (1, 9), (1, 10), (1, 11), (3, 12), (4, 12), (5, 12)]) [(false, []), (true, []), (false, []), (false, [1]), (false, [2]), (false, [3]), (false, []), (false, []), (false, [6]), (false, [7]), (false, [8]), (false, [9]), (true, [6, 7, 8]), (false, []), (false, []), (false, []), (true, []), (false, []), (false, [])] | false => .leaf ([], []) []⟩
def LK : List ResultVar := [.tmp 2, .tmp 3]
noncomputable def G0 : Code := dE Tryz.f56
def xG (R : K1) (fO : aNk) (w : aNj) : Prop :=
 aD pg (lO .len #[22] 3 [fO]) w fun b5 w =>
 aD pg (aI .eql 3 (.tmp 5) (.const (aNl 0)) b5 (aNl 0)) w fun b6 w =>
 Gd (iM b6 false) (fun K => K fO w) w fun b8 w =>
 Gd (iM b6 false) (fun K => K fO w) w fun b9 w =>
 Gd (iM b6 false) (fun K => aD pg (lO .len #[22] 3 [b9]) w K) w fun c0 w =>
 Gd (iM b6 false) (fun K => aD pg (aI .sub 3 aM aM c0 (aNl 1)) w K) w fun c1 w =>
 Gd (iM b6 false) (fun K => aD pg (cI 22 b8 c1) w K) w fun c2 w =>
 Gd (iM b6 false) (fun K => aD pg (aL 5 c2) w K) w fun c3 w =>
 Gd (iM b6 false) (fun K => aD pg (aI .eql 5 (.tmp 13) (.const (.int .u8 0)) c3 (.int .u8 0)) w K) w fun c4 w =>
 aD pg (jR b6 (.bool true) c4) w fun c5 w =>
 gX c5
  (R (.tuple #[(.pointer none), (aNl 11)]) w)
  ((dr w) = (dr w) /\
  aS pg jQ #[fO] (dr w) fun c7 RM =>
  RM = RM /\
  aD pg (lO .len #[22] 3 [fO]) RM fun c9 w_ => w_ = RM /\
  (jF pg (lO .len #[22] 3 [fO]) c9 (dr w) /\ True) /\
  aD pg (aI .sub 3 aM aM c9 (aNl 1)) RM fun d0 w_ => w_ = RM /\
  (jF pg (aI .sub 3 aM aM c9 (aNl 1)) d0 (dr w) /\ True) /\
  aD pg (aI .mul 3 aM aM (aNl 8) d0) RM fun d1 w_ => w_ = RM /\
  (jF pg (aI .mul 3 aM aM (aNl 8) d0) d1 (dr w) /\ True) /\
  RM = RM /\
  RM = RM /\
  aD pg (lO .len #[22] 3 [fO]) RM fun d4 w_ => w_ = RM /\
  (jF pg (lO .len #[22] 3 [fO]) d4 (dr w) /\ True) /\
  aD pg (aI .sub 3 aM aM d4 (aNl 1)) RM fun d5 w_ => w_ = RM /\
  (jF pg (aI .sub 3 aM aM d4 (aNl 1)) d5 (dr w) /\ True) /\
  aD pg (cI 22 fO d5) RM fun d6 w_ => w_ = RM /\
  (jF pg (cI 22 fO d5) d6 (dr w) /\ True) /\
  aD pg (aL 5 d6) RM fun d7 w_ => w_ = RM /\
  (jF pg (aL 5 d6) d7 (dr w) /\ True) /\
  aS pg BW #[d7] RM fun d8 Cd =>
  (jF pg (aI .mul 3 aM aM (aNl 8) d0) d1 Cd /\ jF pg (aI .sub 3 aM aM c9 (aNl 1)) d0 Cd /\ jF pg (lO .len #[22] 3 [fO]) c9 Cd /\ True) /\
  aD pg (aI .add 3 aM aM d1 d8) Cd fun d9 w_ => w_ = Cd /\
  aD pg (aI .sub 3 aM aM d9 (aNl 1)) Cd fun e0 w_ => w_ = Cd /\
  aD pg (fV 165 [(0, c7), (1, e0)]) Cd fun e1 w_ => w_ = Cd /\
  aD pg (BG 165 e1) Cd fun e2 aCO =>
  aCO = aCO /\
  aCO = aCO /\
  R (.tuple #[e2, (aNl 0)]) aCO)
theorem Tu (R : K1) (hr : HR LK R Q) (h : xG R (g 0) w) : bD pg Jf G0 Q g w :=
 eP (kn := no) (l := []) h gS hr trivial
def H9 (a0 : aNk) (w : aNj) (R : K1) : Prop :=
 xG R a0 w
theorem Hg {a0 : aNk} {w : aNj} {R : K1} (h : H9 a0 w R) : aS pg sD #[a0] w R := by
 refine uE (ann := Jf) Tryz.f56 G0 [a0] LK 33 TryzM.mixed Tryz.func56 ?_
 exact (Tu _ _ _ R (fun _ _ h => h) h)
def kG : FA := ⟨I7, fun i => match Nat.beq i 3 with | true => .split 3 5 (.perm [0, 1, 2, 3, 4, 5, 6] [(3, 5)] ([3, 5, 6], [(0, 3), (0, 5), (1, 3), (1, 5), (4, 5)]) [(false, []), (false, []), (false, []), (true, [1, 2]), (false, []), (true, [0, 3, 4]), (true, [])]) (.perm [0, 1, 2, 5, 3, 4, 6] [(5, 3)] ([3, 4, 6], [(0, 3), (0, 4), (1, 3), (1, 4), (2, 3)]) [(false, []), (false, []), (false, []), (true, [0, 1, 2]), (true, [2, 3]), (false, []), (true, [])]) | false => match Nat.beq i 16 with | true => .leaf ([5, 10], [(1, 5), (2, 5)]) [(false, []), (false, []), (false, []), (false, []), (false, []), (true, [2, 3]), (false, []), (false, []), (false, []), (false, []), (true, [])] | false => match Nat.beq i 17 with | true => .leaf ([13], []) [(false, []), (false, []), (false, []), (false, []), (false, []), (false, []), (false, []), (false, []), (false, []), (false, []), (false, []), (false, []), (false, []), (true, [])] | false => .leaf ([], []) []⟩
def L3 : List ResultVar := [.cell 2 108, .tmp 3]
noncomputable def jB : Code := dE Tryz.f57
def Mc (R : K1) (b2 b4 : aNk) (w : aNj) : Prop :=
 aD pg (aL 108 b4) w fun n0 w =>
 aD pg (aR 108 b2 n0) w fun _u w =>
 zN pg 108 b2 w fun r0 => R (.tuple #[r0, (aNl 0)]) w
theorem atB (R : K1) (hr : HR L3 R Q) (h : Mc R (g 2) (g 4) w) : bD pg kG (aB 1 (aB 1 (aB 1 (aB 3 jB)))) Q g w :=
 eP (kn := no) (l := []) h gS hr trivial
def L9 (kn : K6) (cB b2 b4 fW f2 f3 : aNk) (w : aNj) : Prop :=
 aD pg (aI .add 3 aM aM f3 (aNl 1)) w fun m9 w =>
 kn cB b2 b4 fW f2 m9 w
theorem auC (kn : K6) (hn : N6 Q kn 1 2 4 5 42 43) (h : L9 kn (g 1) (g 2) (g 4) (g 5) (g 42) (g 43) w) : bD pg kG (aB 1 (aB 2 (bI (bI (aB 1 (aF 1 (aB 1 (aB 1 (aB 3 jB))))))))) Q g w :=
 eP (kr := no) (l := []) h hn gS trivial
def L7 (kn : K6) (cB b2 b4 fW x_9 qG f2 f3 : aNk) (w : aNj) : Prop :=
 (dr w) = (dr w) /\
 (dr w) = (dr w) /\
 (dr w) = (dr w) /\
 aD pg (vP x_9) (dr w) fun l9 w_ => w_ = (dr w) /\
 aD pg (aJ 115 l9 1) (dr w) fun m0 w_ => w_ = (dr w) /\
 aD pg (aL 3 m0) (dr w) fun m1 w_ => w_ = (dr w) /\
 aD pg (aI .shl 3 aM aM qG m1) (dr w) fun m2 w_ => w_ = (dr w) /\
 aD pg (aJ 108 b4 1) (dr w) fun m3 w_ => w_ = (dr w) /\
 aD pg (aL 106 m3) (dr w) fun m4 w_ => w_ = (dr w) /\
 aD pg (lO .len #[106] 3 [m4]) (dr w) fun m5 w_ => w_ = (dr w) /\
 aD pg (aI .sub 3 aM aM m2 m5) (dr w) fun m6 w_ => w_ = (dr w) /\
 aD pg (vP x_9) (dr w) fun m7 w_ => w_ = (dr w) /\
 aD pg (aJ 115 m7 2) (dr w) fun m8 w_ => w_ = (dr w) /\
 aD pg (aR 3 m8 m6) (dr w) fun _u13 aJd =>
 kn cB b2 b4 fW f2 f3 aJd
theorem asX (kn : K6) (hn : N6 Q kn 1 2 4 5 42 43) (h : L7 kn (g 1) (g 2) (g 4) (g 5) (g 9) (g 10) (g 42) (g 43) w) : bD pg kG (aB 1 (aB 4 (bI (aF 1 (aB 2 (bI (bI (aB 1 (aF 1 (aB 1 (aB 1 (aB 3 jB)))))))))))) Q g w :=
 eP (kr := no) (l := []) h hn gS trivial
def TO (kn : K8) (cB b2 b4 fW x_9 qG f2 f3 : aNk) (w : aNj) : Prop :=
 (dr w) = (dr w) /\
 aD pg (aJ 100 cB 0) (dr w) fun j7 w_ => w_ = (dr w) /\
 aD pg (aL 3 j7) (dr w) fun j8 w_ => w_ = (dr w) /\
 (dr w) = (dr w) /\
 aD pg (jO 3 67 qG) (dr w) fun l0 w_ => w_ = (dr w) /\
 aS pg rU #[l0] (dr w) fun l1 zR =>
 (jF pg (aL 3 j7) j8 zR /\ jF pg (aJ 100 cB 0) j7 zR /\ True) /\
 aD pg (aI .sub 3 aM aM j8 l1) zR fun l2 w_ => w_ = zR /\
 aD pg (aI .add 3 aM aM l2 (aNl 1)) zR fun l3 w_ => w_ = zR /\
 aD pg (vP x_9) zR fun l4 w_ => w_ = zR /\
 aD pg (aJ 115 l4 1) zR fun l5 w_ => w_ = zR /\
 aD pg (aR 3 l5 l3) zR fun _u10 aJc =>
 kn cB b2 b4 fW x_9 qG f2 f3 aJc
theorem atA (kn : K8) (hn : N8 Q kn 1 2 4 5 9 10 42 43) (h : TO kn (g 1) (g 2) (g 4) (g 5) (g 9) (g 10) (g 42) (g 43) w) : bD pg kG (aF 1 (aB 4 (bI (aF 1 (aB 2 (bI (bI (aB 1 (aF 1 (aB 1 (aB 1 (aB 3 jB)))))))))))) Q g w :=
 eP (kr := no) (l := []) h hn gS trivial
def TV (kn : K6) (cB b2 b4 fW x_9 qG f2 f3 : aNk) (w : aNj) : Prop :=
 TO (fun cB b2 b4 fW x_9 qG f2 f3 w => L7 kn cB b2 b4 fW x_9 qG f2 f3 w) cB b2 b4 fW x_9 qG f2 f3 w
def Tj (kn : K8) (cB b2 b4 fW f2 f3 : aNk) (w : aNj) : Prop :=
 aD pg (aJ 108 b4 1) w fun f6 w =>
 aD pg (aL 106 f6) w fun f7 w =>
 aD pg (cI 106 f7 f3) w fun f9 w =>
 aD pg (vP f9) w fun i2 w =>
 aD pg (aJ 115 i2 0) w fun i3 w =>
 aD pg (aL 5 i3) w fun i4 w =>
 aD pg (cI 42 fW i4) w fun i5 w =>
 aD pg (aL 3 i5) w fun i6 w =>
 aD pg (vP f9) w fun i9 w =>
 aD pg (aJ 115 i9 0) w fun j0 w =>
 aD pg (aL 5 j0) w fun j1 w =>
 aD pg (cI 42 fW j1) w fun j2 w =>
 aD pg (aL 3 j2) w fun j3 w =>
 aD pg (aI .add 3 aM aM j3 (aNl 1)) w fun j4 w =>
 aD pg (cI 42 fW j1) w fun j5 w =>
 aD pg (aR 3 j5 j4) w fun _u w =>
 kn cB b2 b4 fW f9 i6 f2 f3 w
theorem asR (kn : K8) (hn : N8 Q kn 1 2 4 5 9 10 42 43) (h : Tj kn (g 1) (g 2) (g 4) (g 5) (g 42) (g 43) w) : bD pg kG (aF 4 (bI (aF 1 (aB 2 (bI (bI (aB 1 (aF 1 (aB 1 (aB 1 (aB 3 jB))))))))))) Q g w :=
 eP (kr := no) (l := []) h hn gS trivial
def ajQ (kn : K6) (cB b2 b4 fW f2 f3 : aNk) (w : aNj) : Prop :=
 Tj (fun cB b2 b4 fW x_9 qG f2 f3 w => TV kn cB b2 b4 fW x_9 qG f2 f3 w) cB b2 b4 fW f2 f3 w
def Tl (kn : K6) (cB b2 b4 fW f2 f3 : aNk) (w : aNj) : Prop :=
 ajQ kn cB b2 b4 fW f2 f3 w
def L8 (kn : K6) (cB b2 b4 fW f2 f3 : aNk) (w : aNj) : Prop :=
 Tl (fun cB b2 b4 fW f2 f3 w => L9 kn cB b2 b4 fW f2 f3 w) cB b2 b4 fW f2 f3 w
theorem atF (kn : K6) (hn : N6 Q kn 1 2 4 5 42 43) (h : Tl kn (g 1) (g 2) (g 4) (g 5) (g 42) (g 43) w) : bD pg kG (aF 1 (aB 2 (bI (bI (aB 1 (aF 1 (aB 1 (aB 1 (aB 3 jB))))))))) Q g w :=
 wT 3 (jE 4 (asR _ g w (TV kn) (fun g w h => aK (jE 1 (atA _ g w (L7 kn) (fun g w h => aK (asX _ g w kn hn h)) h))) h))
def Rw (kn : K6) (k2 : K2) (cB b2 b4 fW f2 f3 : aNk) (w : aNj) : Prop :=
 aD pg (aI .lss 3 aM aM f3 f2) w fun f4 w =>
 gX f4
  (kn cB b2 b4 fW f2 f3 w)
  (k2 b2 b4 w)
theorem aqG (kn : K6) (k2 : K2) (hn : N6 Q kn 1 2 4 5 42 43) (h2 : E2 Q k2 2 2 4) (h : Rw kn k2 (g 1) (g 2) (g 4) (g 5) (g 42) (g 43) w) : bD pg kG (aF 2 (bI (bI (aB 1 (aF 1 (aB 1 (aB 1 (aB 3 jB)))))))) Q g w :=
 eP (kr := no) (l := [(2, fun g w => k2 (g 2) (g 4) w)]) h hn gS ⟨h2, trivial⟩
def Iv (kn : K6) (k2 : K2) (cB b2 b4 fW f2 f3 : aNk) (w : aNj) : Prop :=
 Rw (fun cB b2 b4 fW f2 f3 w => L8 kn cB b2 b4 fW f2 f3 w) k2 cB b2 b4 fW f2 f3 w
def RA (k2 : K2) (cB b2 b4 fW f2 f3 : aNk) (w : aNj) : Prop :=
 cU (fun (X : aNk -> K0) (t : aNk) (w : aNj) => Iv (fun _ _ _ _ _ f3 w => X f3 w) k2 cB b2 b4 fW f2 t w) f3 w
theorem amS (kn : K6) (k2 : K2) (hn : N6 Q kn 1 2 4 5 42 43) (h2 : E2 Q k2 2 2 4) (h : Iv kn k2 (g 1) (g 2) (g 4) (g 5) (g 42) (g 43) w) : bD pg kG (bI (bI (aB 1 (aF 1 (aB 1 (aB 1 (aB 3 jB))))))) Q g w :=
 jE 2 (aqG _ g w (L8 kn) k2 (fun g w h => aK (jE 1 (atF _ g w (L9 kn) (fun g w h => aK (auC _ g w kn hn h)) h))) h2 h)
theorem aoZ (k2 : K2) (h2 : E2 Q k2 2 2 4) (h : RA k2 (g 1) (g 2) (g 4) (g 5) (g 42) (g 43) w) : bD pg kG (bI (aB 1 (aF 1 (aB 1 (aB 1 (aB 3 jB)))))) Q g w := by
 refine Dt (fun g : Env => g 43) (fun X t w => Iv (fun _ _ _ _ _ f3 w => X f3 w) k2 (g 1) (g 2) (g 4) (g 5) (g 42) t w) h (fun X g1 w1 ha hL => ?_)
 rw [<- jX 1 ha, <- jX 2 ha, <- jX 4 ha, <- jX 5 ha, <- jX 42 ha] at hL
 exact (amS _ g1 w1 (fun _ _ _ _ _ f3 w => X f3 w) k2 (fun _ _ h => h) h2 hL)
def RJ (kn : K2) (cB b2 b4 fW f2 f3 : aNk) (w : aNj) : Prop :=
 RA kn cB b2 b4 fW f2 f3 w
def Rc (kn : K6) (cB b2 b4 fW : aNk) (w : aNj) : Prop :=
 aD pg (aJ 108 b4 1) w fun f0 w =>
 aD pg (aL 106 f0) w fun f1 w =>
 aD pg (lO .len #[106] 3 [f1]) w fun f2 w =>
 kn cB b2 b4 fW f2 (aNl 0) w
theorem anY (kn : K6) (hn : N6 Q kn 1 2 4 5 42 43) (h : Rc kn (g 1) (g 2) (g 4) (g 5) w) : bD pg kG (aF 1 (aF 1 (aB 1 (aB 1 (aB 3 jB))))) Q g w :=
 eP (kr := no) (l := []) h hn gS trivial
def Qi (kn : K2) (cB b2 b4 fW : aNk) (w : aNj) : Prop :=
 Rc (fun cB b2 b4 fW f2 f3 w => RJ kn cB b2 b4 fW f2 f3 w) cB b2 b4 fW w
def IQ (R : K1) (cB b2 b4 fW : aNk) (w : aNj) : Prop :=
 Qi (fun b2 b4 w => Mc R b2 b4 w) cB b2 b4 fW w
theorem alT (kn : K2) (hn : N2 Q kn 2 4) (h : Qi kn (g 1) (g 2) (g 4) (g 5) w) : bD pg kG (aF 1 (aB 1 (aB 1 (aB 3 jB)))) Q g w :=
 jE 1 (anY _ g w (RJ kn) (fun g w h => aK (wT 2 (aoZ _ g w kn hn h))) h)
def Cz (kn : K7) (k0 : K4) (cB b2 b4 fW d5 d6 d7 : aNk) (w : aNj) : Prop :=
 aD pg (aI .lss 3 aM aM d7 d6) w fun d8 w =>
 gX d8
  (aD pg (cI 42 d5 d7) w fun e0 w =>
  aD pg (aL 3 e0) w fun e1 w =>
  aD pg (sUn .neg e1) w fun e6 w =>
  aD pg (lO .max #[3, 3] 3 [e1, e6]) w fun e7 w =>
  aD pg (cI 42 fW d7) w fun e8 w =>
  aD pg (aR 3 e8 e7) w fun _u w =>
  aD pg (aI .add 3 aM aM d7 (aNl 1)) w fun e9 w =>
  kn cB b2 b4 fW d5 d6 e9 w)
  (k0 cB b2 b4 fW w)
theorem anJ (kn : K7) (k0 : K4) (hn : N7 Q kn 1 2 4 5 25 26 27) (h0 : E4 Q k0 0 1 2 4 5) (h : Cz kn k0 (g 1) (g 2) (g 4) (g 5) (g 25) (g 26) (g 27) w) : bD pg kG (bI (bI (aB 1 (aF 1 (aB 1 (aB 3 jB)))))) Q g w :=
 eP (kr := no) (l := [(0, fun g w => k0 (g 1) (g 2) (g 4) (g 5) w)]) h hn gS ⟨h0, trivial⟩
def Ry (k0 : K4) (cB b2 b4 fW d5 d6 d7 : aNk) (w : aNj) : Prop :=
 cU (fun (X : aNk -> K0) (t : aNk) (w : aNj) => Cz (fun _ _ _ _ _ _ d7 w => X d7 w) k0 cB b2 b4 fW d5 d6 t w) d7 w
theorem aoL (k0 : K4) (h0 : E4 Q k0 0 1 2 4 5) (h : Ry k0 (g 1) (g 2) (g 4) (g 5) (g 25) (g 26) (g 27) w) : bD pg kG (bI (aB 1 (aF 1 (aB 1 (aB 3 jB))))) Q g w := by
 refine Dt (fun g : Env => g 27) (fun X t w => Cz (fun _ _ _ _ _ _ d7 w => X d7 w) k0 (g 1) (g 2) (g 4) (g 5) (g 25) (g 26) t w) h (fun X g1 w1 ha hL => ?_)
 rw [<- jX 1 ha, <- jX 2 ha, <- jX 4 ha, <- jX 5 ha, <- jX 25 ha, <- jX 26 ha] at hL
 exact (anJ _ g1 w1 (fun _ _ _ _ _ _ d7 w => X d7 w) k0 (fun _ _ h => h) h0 hL)
def Ru (kn : K4) (cB b2 b4 fW d5 d6 d7 : aNk) (w : aNj) : Prop :=
 Ry kn cB b2 b4 fW d5 d6 d7 w
def QG (kn : K7) (cB b2 b4 fW : aNk) (w : aNj) : Prop :=
 aD pg (aJ 100 cB 1) w fun d4 w =>
 aD pg (aL 42 d4) w fun d5 w =>
 aD pg (lO .len #[42] 3 [d5]) w fun d6 w =>
 kn cB b2 b4 fW d5 d6 (aNl 0) w
theorem anL (kn : K7) (hn : N7 Q kn 1 2 4 5 25 26 27) (h : QG kn (g 1) (g 2) (g 4) (g 5) w) : bD pg kG (aF 1 (aF 1 (aB 1 (aB 3 jB)))) Q g w :=
 eP (kr := no) (l := []) h hn gS trivial
def QJ (kn : K4) (cB b2 b4 fW : aNk) (w : aNj) : Prop :=
 QG (fun cB b2 b4 fW d5 d6 d7 w => Ru kn cB b2 b4 fW d5 d6 d7 w) cB b2 b4 fW w
def Qm (R : K1) (cB b2 b4 fW : aNk) (w : aNj) : Prop :=
 QJ (fun cB b2 b4 fW w => IQ R cB b2 b4 fW w) cB b2 b4 fW w
theorem apA (kn : K4) (hn : N4 Q kn 1 2 4 5) (h : QJ kn (g 1) (g 2) (g 4) (g 5) w) : bD pg kG (aF 1 (aB 1 (aB 3 jB))) Q g w :=
 jE 1 (anL _ g w (Ru kn) (fun g w h => aK (wT 0 (aoL _ g w kn hn h))) h)
def Qw (kn : K4) (cB b2 b4 : aNk) (w : aNj) : Prop :=
 aD pg (aJ 100 cB 1) w fun d0 w =>
 aD pg (aL 42 d0) w fun d1 w =>
 aD pg (lO .len #[42] 3 [d1]) w fun d2 w =>
 aD pg (qA 42 d2 d2) w fun d3 w =>
 kn cB b2 b4 d3 w
theorem aoY (kn : K4) (hn : N4 Q kn 1 2 4 5) (h : Qw kn (g 1) (g 2) (g 4) w) : bD pg kG (aF 1 (aB 3 jB)) Q g w :=
 eP (kr := no) (l := []) h hn gS trivial
def Ct (R : K1) (cB b2 b4 : aNk) (w : aNj) : Prop :=
 Qw (fun cB b2 b4 fW w => Qm R cB b2 b4 fW w) cB b2 b4 w
def QS (kn : K3) (R : K1) (LP : aNk) (w : aNj) : Prop :=
 aD pg (BG 100 LP) w fun cB w =>
 aD pg (fP 108) w fun b2 w =>
 aD pg (aL 100 cB) w fun c1 w =>
 aS pg FO #[c1, (aNl 15)] w fun c2 w =>
 aD pg (aI .neq 27 (.tmp 12) (.const (aNl 0)) c2 (aNl 0)) w fun c3 w =>
 gX c3
  (aD pg (fV 108 []) w fun c4 w =>
  aD pg (aR 108 b2 c4) w fun _u w =>
  zN pg 108 b2 w fun r0 => R (.tuple #[r0, (aNl 1)]) w)
  (Ord (aIn I7 3 (YU 3 jB) 3 5 w)
   (aD pg (aJ 100 cB 0) (dr w) fun c5 w_ => w_ = (dr w) /\
   aD pg (aL 3 c5) (dr w) fun c6 w_ => w_ = (dr w) /\
   aD pg (aL 100 cB) (dr w) fun c7 w_ => w_ = (dr w) /\
   aS pg GR #[c7] (dr w) fun c8 azE =>
   (jF pg (aL 3 c5) c6 azE /\ jF pg (aJ 100 cB 0) c5 azE /\ True) /\
   aD pg (fV 108 [(0, c6), (1, c8)]) azE fun c9 w_ => w_ = azE /\
   aD pg (fP 108) azE fun b4 aIa =>
   (jF pg (fV 108 [(0, c6), (1, c8)]) c9 aIa /\ jF pg (aL 3 c5) c6 aIa /\ jF pg (aJ 100 cB 0) c5 aIa /\ True) /\
   aD pg (aR 108 b4 c9) aIa fun _u6 aJB =>
   kn cB b2 b4 aJB)
   (aD pg (aJ 100 cB 0) (dr w) fun c5 w_ => w_ = (dr w) /\
   aD pg (aL 3 c5) (dr w) fun c6 w_ => w_ = (dr w) /\
   aD pg (aL 100 cB) (dr w) fun c7 w_ => w_ = (dr w) /\
   aD pg (fP 108) (dr w) fun b4 azE =>
   (jF pg (aL 100 cB) c7 azE /\ jF pg (aL 3 c5) c6 azE /\ jF pg (aJ 100 cB 0) c5 azE /\ True) /\
   aS pg GR #[c7] azE fun c8 VN =>
   (jF pg (aL 3 c5) c6 VN /\ jF pg (aJ 100 cB 0) c5 VN /\ True) /\
   aD pg (fV 108 [(0, c6), (1, c8)]) VN fun c9 w_ => w_ = VN /\
   aD pg (aR 108 b4 c9) VN fun _u6 aJB =>
   kn cB b2 b4 aJB))
theorem apC (kn : K3) (R : K1) (hn : N3 Q kn 1 2 4) (hr : HR L3 R Q) (h : QS kn R (g 0) w) : bD pg kG (aF 3 jB) Q g w :=
 eP (l := []) h hn hr trivial
def Q2 (R : K1) (LP : aNk) (w : aNj) : Prop :=
 QS (fun cB b2 b4 w => Ct R cB b2 b4 w) R LP w
theorem amF (R : K1) (hr : HR L3 R Q) (h : Q2 R (g 0) w) : bD pg kG jB Q g w :=
 jE 3 (apC _ g w (Ct R) R (fun g w h => aK (jE 1 (aoY _ g w (Qm R) (fun g w h => aK (jE 1 (apA _ g w (IQ R) (fun g w h => aK (jE 1 (alT _ g w (Mc R) (fun g w h => aK (atB _ g w R hr h)) h))) h))) h))) hr h)
def aAL (a0 : aNk) (w : aNj) (R : K1) : Prop :=
 Q2 R a0 w
theorem avV {a0 : aNk} {w : aNj} {R : K1} (h : aAL a0 w R) : aS pg I7 #[a0] w R := by
 refine uE (ann := kG) Tryz.f57 jB [a0] L3 91 TryzM.mixed Tryz.func57 ?_
 exact (amF _ _ _ R (fun _ _ h => h) h)
def Y4 : FA := ⟨P4, fun i => .leaf ([], []) []⟩
def afM : List ResultVar := [.tmp 4]
noncomputable def WO : Code := dE Tryz.f58
def Th (R : K1) (b0 r_1 : aNk) (w : aNj) : Prop :=
 aD pg (BG 108 b0) w fun b2 w =>
 aD pg (aJ 108 b2 0) w fun b6 w =>
 aD pg (aL 3 b6) w fun b7 w =>
 aS pg qU #[r_1, b7] w fun b8 w =>
 aD pg (jO 24 3 b8) w fun b9 w =>
 R b9 w
theorem auN (R : K1) (hr : HR afM R Q) (h : Th R (g 0) (g 1) w) : bD pg Y4 WO Q g w :=
 eP (kn := no) (l := []) h gS hr trivial
def aAr (a0 a1 : aNk) (w : aNj) (R : K1) : Prop :=
 Th R a0 a1 w
theorem ayG {a0 a1 : aNk} {w : aNj} {R : K1} (h : aAr a0 a1 w R) : aS pg P4 #[a0, a1] w R := by
 refine uE (ann := Y4) Tryz.f58 WO [a0, a1] afM 10 TryzM.mixed Tryz.func58 ?_
 exact (auN _ _ _ R (fun _ _ h => h) h)
def F7 : FA := ⟨qO, fun i => .leaf ([], []) []⟩
def GZ : List ResultVar := [.tmp 2]
noncomputable def Em : Code := dE Tryz.f59
def Ax (R : K1) (M3 : aNk) (w : aNj) : Prop :=
 aD pg (aI .eql 103 (.tmp 3) (.const (.pointer none)) M3 (.pointer none)) w fun b4 w =>
 gX b4
  (R (aNl 0) w)
  (aD pg (vP M3) w fun b6 w =>
  aD pg (aJ 165 b6 1) w fun b7 w =>
  aD pg (aL 3 b7) w fun b8 w =>
  R b8 w)
theorem QL (R : K1) (hr : HR GZ R Q) (h : Ax R (g 0) w) : bD pg F7 Em Q g w :=
 eP (kn := no) (l := []) h gS hr trivial
def Oq (a0 : aNk) (w : aNj) (R : K1) : Prop :=
 Ax R a0 w
theorem R6 {a0 : aNk} {w : aNj} {R : K1} (h : Oq a0 w R) : aS pg qO #[a0] w R := by
 refine uE (ann := F7) Tryz.f59 Em [a0] GZ 9 TryzM.mixed Tryz.func59 ?_
 exact (QL _ _ _ R (fun _ _ h => h) h)
def akX : FA := ⟨Tb, fun i => match Nat.beq i 4 with | true => .leaf ([5], [(0, 5), (1, 5)]) [(false, []), (false, []), (false, []), (false, []), (false, []), (true, [3, 4]), (false, []), (false, []), (false, [])] | false => .leaf ([], []) []⟩
def aqS : List ResultVar := [.tmp 6]
noncomputable def YZ : Code := dE Tryz.f60
def Vq (R : K1) (b0 Mk Hz : aNk) (w : aNj) : Prop :=
 aD pg (BG 108 b0) w fun b3 w =>
 aD pg (aI .lss 3 aM aM Mk (aNl 0)) w fun b9 w =>
 Gd (iM b9 false) (fun K => K Mk w) w fun c1 w =>
 Gd (iM b9 false) (fun K => aD pg (aJ 108 b3 1) w K) w fun c2 w =>
 Gd (iM b9 false) (fun K => aD pg (aL 106 c2) w K) w fun c3 w =>
 Gd (iM b9 false) (fun K => aD pg (lO .len #[106] 3 [c3]) w K) w fun c4 w =>
 Gd (iM b9 false) (fun K => aD pg (aI .geq 3 aM aM c1 c4) w K) w fun c5 w =>
 aD pg (jR b9 (.bool true) c5) w fun c6 w =>
 gX c6
  (R (aNl 0) w)
  (aD pg (aJ 108 b3 1) w fun c7 w =>
  aD pg (aL 106 c7) w fun c8 w =>
  aD pg (cI 106 c8 Mk) w fun d0 w =>
  aD pg (aL 115 d0) w fun d1 w =>
  aD pg (fP 115) w fun tL w =>
  aD pg (aR 115 tL d1) w fun _u w =>
  aD pg (aJ 115 tL 2) (dr w) fun d2 w_ => w_ = (dr w) /\
  aD pg (aL 3 d2) (dr w) fun d3 w_ => w_ = (dr w) /\
  (dr w) = (dr w) /\
  aD pg (aJ 115 tL 1) (dr w) fun d5 w_ => w_ = (dr w) /\
  aD pg (aL 3 d5) (dr w) fun d6 w_ => w_ = (dr w) /\
  aS pg qU #[Hz, d6] (dr w) fun d7 aBg =>
  (jF pg (aL 3 d2) d3 aBg /\ jF pg (aJ 115 tL 2) d2 aBg /\ True) /\
  aD pg (jO 24 3 d7) aBg fun d8 w_ => w_ = aBg /\
  aD pg (aI .add 3 aM aM d3 d8) aBg fun d9 w_ => w_ = aBg /\
  aBg = aBg /\
  R d9 aBg)
theorem awS (R : K1) (hr : HR aqS R Q) (h : Vq R (g 0) (g 1) (g 2) w) : bD pg akX YZ Q g w :=
 eP (kn := no) (l := []) h gS hr trivial
def aC6 (a0 a1 a2 : aNk) (w : aNj) (R : K1) : Prop :=
 Vq R a0 a1 a2 w
theorem azP {a0 a1 a2 : aNk} {w : aNj} {R : K1} (h : aC6 a0 a1 a2 w R) : aS pg Tb #[a0, a1, a2] w R := by
 refine uE (ann := akX) Tryz.f60 YZ [a0, a1, a2] aqS 30 TryzM.mixed Tryz.func60 ?_
 exact (awS _ _ _ R (fun _ _ h => h) h)
def mW : FA := ⟨zY, fun i => .leaf ([], []) []⟩
def sH : List ResultVar := [.tmp 2, .tmp 3]
noncomputable def mI : Code := dE Tryz.f61
def B5 (R : K1) (qI : aNk) (w : aNj) : Prop :=
 R (.tuple #[qI, (.bool true)]) w
theorem XN (R : K1) (hr : HR sH R Q) (h : B5 R (g 4) w) : bD pg mW (aB 1 (aB 2 mI)) Q g w :=
 eP (kn := no) (l := []) h gS hr trivial
def B1 (kn : K4) (qI b7 b8 b9 : aNk) (w : aNj) : Prop :=
 aD pg (aI .add 3 aM aM b9 (aNl 1)) w fun d2 w =>
 kn qI b7 b8 d2 w
theorem YE (kn : K4) (hn : N4 Q kn 4 7 8 9) (h : B1 kn (g 4) (g 7) (g 8) (g 9) w) : bD pg mW (aB 3 (bI (bI (aB 1 (aF 1 (aB 2 mI)))))) Q g w :=
 eP (kr := no) (l := []) h hn gS trivial
def Hu (kn : K4) (k0 : K1) (R : K1) (qI b7 b8 b9 : aNk) (w : aNj) : Prop :=
 aD pg (aI .lss 3 aM aM b9 b8) w fun c0 w =>
 gX c0
  (aD pg (cI 22 b7 b9) w fun c1 w =>
  aD pg (aL 5 c1) w fun c2 w =>
  aD pg (aI .gtr 5 aM aM c2 (.int .u8 11)) w fun c4 w =>
  gX c4
   (R (.tuple #[(aNl 0), (.bool false)]) w)
   (aD pg (aI .gtr 5 aM aM c2 (.int .u8 0)) w fun c6 w =>
   gX c6
    (aD pg (aI .sub 5 aM aM c2 (.int .u8 1)) w fun c9 w =>
    aD pg (aI .shl 3 aM aM (aNl 1) c9) w fun d0 w =>
    aD pg (aI .add 3 aM aM qI d0) w fun d1 w =>
    kn d1 b7 b8 b9 w)
    (kn qI b7 b8 b9 w)))
  (k0 qI w)
theorem Yy (kn : K4) (k0 : K1) (R : K1) (hn : N4 Q kn 4 7 8 9) (h0 : E1 Q k0 0 4) (hr : HR sH R Q) (h : Hu kn k0 R (g 4) (g 7) (g 8) (g 9) w) : bD pg mW (aF 3 (bI (bI (aB 1 (aF 1 (aB 2 mI)))))) Q g w :=
 eP (l := [(0, fun g w => k0 (g 4) w)]) h hn hr ⟨h0, trivial⟩
def BO (kn : K4) (k0 : K1) (R : K1) (qI b7 b8 b9 : aNk) (w : aNj) : Prop :=
 Hu (fun qI b7 b8 b9 w => B1 kn qI b7 b8 b9 w) k0 R qI b7 b8 b9 w
def Hr (k0 : K1) (R : K1) (qI b7 b8 b9 : aNk) (w : aNj) : Prop :=
 cU (fun (X : (aNk × aNk) -> K0) (t : aNk × aNk) (w : aNj) => BO (fun qI _ _ b9 w => X (qI, b9) w) k0 R t.1 b7 b8 t.2 w) (qI, b9) w
theorem XQ (kn : K4) (k0 : K1) (R : K1) (hn : N4 Q kn 4 7 8 9) (h0 : E1 Q k0 0 4) (hr : HR sH R Q) (h : BO kn k0 R (g 4) (g 7) (g 8) (g 9) w) : bD pg mW (bI (bI (aB 1 (aF 1 (aB 2 mI))))) Q g w :=
 jE 3 (Yy _ g w (B1 kn) k0 R (fun g w h => aK (YE _ g w kn hn h)) h0 hr h)
theorem X9 (k0 : K1) (R : K1) (h0 : E1 Q k0 0 4) (hr : HR sH R Q) (h : Hr k0 R (g 4) (g 7) (g 8) (g 9) w) : bD pg mW (bI (aB 1 (aF 1 (aB 2 mI)))) Q g w := by
 refine Dt (fun g : Env => (g 4, g 9)) (fun X t w => BO (fun qI _ _ b9 w => X (qI, b9) w) k0 R t.1 (g 7) (g 8) t.2 w) h (fun X g1 w1 ha hL => ?_)
 rw [<- jX 7 ha, <- jX 8 ha] at hL
 exact (XQ _ g1 w1 (fun qI _ _ b9 w => X (qI, b9) w) k0 R (fun _ _ h => h) h0 hr hL)
def Ig (kn : K1) (R : K1) (qI b7 b8 b9 : aNk) (w : aNj) : Prop :=
 Hr kn R qI b7 b8 b9 w
def HH (kn : K4) (cR qI : aNk) (w : aNj) : Prop :=
 aD pg (lO .len #[22] 3 [cR]) w fun b8 w =>
 kn qI cR b8 (aNl 0) w
theorem Yg (kn : K4) (hn : N4 Q kn 4 7 8 9) (h : HH kn (g 0) (g 4) w) : bD pg mW (aF 1 (aF 1 (aB 2 mI))) Q g w :=
 eP (kr := no) (l := []) h hn gS trivial
def HA (kn : K1) (R : K1) (cR qI : aNk) (w : aNj) : Prop :=
 HH (fun qI b7 b8 b9 w => Ig kn R qI b7 b8 b9 w) cR qI w
def Ia (R : K1) (cR qI : aNk) (w : aNj) : Prop :=
 HA (fun qI w => B5 R qI w) R cR qI w
theorem Yo (kn : K1) (R : K1) (hn : N1 Q kn 4) (hr : HR sH R Q) (h : HA kn R (g 0) (g 4) w) : bD pg mW (aF 1 (aB 2 mI)) Q g w :=
 jE 1 (Yg _ g w (Ig kn R) (fun g w h => aK (wT 0 (X9 _ g w kn R hn hr h))) h)
def Gm (kn : K2) (cR : aNk) (w : aNj) : Prop :=
 kn cR (aNl 0) w
theorem W5 (kn : K2) (hn : N2 Q kn 0 4) (h : Gm kn (g 0) w) : bD pg mW (aF 2 mI) Q g w :=
 eP (kr := no) (l := []) h hn gS trivial
def FN (R : K1) (cR : aNk) (w : aNj) : Prop :=
 Gm (fun cR qI w => Ia R cR qI w) cR w
theorem Vz (R : K1) (hr : HR sH R Q) (h : FN R (g 0) w) : bD pg mW mI Q g w :=
 jE 2 (W5 _ g w (Ia R) (fun g w h => aK (jE 1 (Yo _ g w (B5 R) R (fun g w h => aK (XN _ g w R hr h)) hr h))) h)
def YO (a0 : aNk) (w : aNj) (R : K1) : Prop :=
 FN R a0 w
theorem acE {a0 : aNk} {w : aNj} {R : K1} (h : YO a0 w R) : aS pg zY #[a0] w R := by
 refine uE (ann := mW) Tryz.f61 mI [a0] sH 24 TryzM.mixed Tryz.func61 ?_
 exact (Vz _ _ _ R (fun _ _ h => h) h)
def PN : FA := ⟨rU, fun i => .leaf ([], []) []⟩
def Sg : List ResultVar := [.tmp 2]
noncomputable def Nj : Code := dE Tryz.f62
def Hl (R : K1) (oH : aNk) (w : aNj) : Prop :=
 gX (.bool false)
  (aD pg (jO 67 94 oH) w fun b4 w =>
  aS pg aeA #[b4] w fun b5 w =>
  R b5 w)
  (aS pg AT #[oH] w fun b7 w =>
  R b7 w)
theorem XK (R : K1) (hr : HR Sg R Q) (h : Hl R (g 0) w) : bD pg PN Nj Q g w :=
 eP (kn := no) (l := []) h gS hr trivial
def Y8 (a0 : aNk) (w : aNj) (R : K1) : Prop :=
 Hl R a0 w
theorem Zz {a0 : aNk} {w : aNj} {R : K1} (h : Y8 a0 w R) : aS pg rU #[a0] w R := by
 refine uE (ann := PN) Tryz.f62 Nj [a0] Sg 8 TryzM.mixed Tryz.func62 ?_
 exact (XK _ _ _ R (fun _ _ h => h) h)
def iQ : FA := ⟨Aj, fun i => .leaf ([], []) []⟩
def ES : List ResultVar := [.cell 2 122, .tmp 3]
noncomputable def gY : Code := dE Tryz.f63
def EO (R : K1) (b2 b6 : aNk) (w : aNj) : Prop :=
 aD pg (aL 122 b6) w fun m1 w =>
 aD pg (aR 122 b2 m1) w fun _u w =>
 zN pg 122 b2 w fun r0 => R (.tuple #[r0, (aNl 0)]) w
theorem afV (R : K1) (hr : HR ES R Q) (h : EO R (g 2) (g 6) w) : bD pg iQ (aB 1 (aB 1 (aB 1 (aB 4 gY)))) Q g w :=
 eP (kn := no) (l := []) h gS hr trivial
def Bn (kn : K5) (b2 b6 f1 f2 f3 : aNk) (w : aNj) : Prop :=
 aD pg (aI .add 3 aM aM f3 (aNl 1)) w fun m0 w =>
 kn b2 b6 f1 f2 m0 w
theorem alC (kn : K5) (hn : N5 Q kn 2 6 41 42 43) (h : Bn kn (g 2) (g 6) (g 41) (g 42) (g 43) w) : bD pg iQ (aB 1 (aB 2 (bI (bI (aB 1 (aF 1 (aB 1 (aB 1 (aB 4 gY))))))))) Q g w :=
 eP (kr := no) (l := []) h hn gS trivial
def EM (kn : K10) (k4 : K5) (b2 b6 vR WU Qq f1 f2 f3 j4 j5 : aNk) (w : aNj) : Prop :=
 aD pg (aI .lss 3 aM aM j5 j4) w fun j6 w =>
 gX j6
  (aD pg (aJ 122 b6 1) w fun j8 w =>
  aD pg (aL 120 j8) w fun j9 w =>
  aD pg (aI .add 3 aM aM Qq j5) w fun l2 w =>
  aD pg (jO 3 5 vR) w fun l4 w =>
  aD pg (aJ 171 WU 0) w fun l5 w =>
  aD pg (aL 3 l5) w fun l6 w =>
  aD pg (fV 173 [(0, l4), (1, l6)]) w fun l7 w =>
  aD pg (cI 120 j9 l2) w fun l8 w =>
  aD pg (aR 173 l8 l7) w fun _u w =>
  aD pg (aI .add 3 aM aM j5 (aNl 1)) w fun l9 w =>
  kn b2 b6 vR WU Qq f1 f2 f3 j4 l9 w)
  (k4 b2 b6 f1 f2 f3 w)
theorem aeC (kn : K10) (k4 : K5) (hn : N10 Q kn 2 6 9 10 11 41 42 43 64 65) (h4 : E5 Q k4 4 2 6 41 42 43) (h : EM kn k4 (g 2) (g 6) (g 9) (g 10) (g 11) (g 41) (g 42) (g 43) (g 64) (g 65) w) : bD pg iQ (bI (bI (aB 4 (bI (aF 1 (aB 2 (bI (bI (aB 1 (aF 1 (aB 1 (aB 1 (aB 4 gY))))))))))))) Q g w :=
 eP (kr := no) (l := [(4, fun g w => k4 (g 2) (g 6) (g 41) (g 42) (g 43) w)]) h hn gS ⟨h4, trivial⟩
def OY (k4 : K5) (b2 b6 vR WU Qq f1 f2 f3 j4 j5 : aNk) (w : aNj) : Prop :=
 cU (fun (X : aNk -> K0) (t : aNk) (w : aNj) => EM (fun _ _ _ _ _ _ _ _ _ j5 w => X j5 w) k4 b2 b6 vR WU Qq f1 f2 f3 j4 t w) j5 w
theorem adZ (k4 : K5) (h4 : E5 Q k4 4 2 6 41 42 43) (h : OY k4 (g 2) (g 6) (g 9) (g 10) (g 11) (g 41) (g 42) (g 43) (g 64) (g 65) w) : bD pg iQ (bI (aB 4 (bI (aF 1 (aB 2 (bI (bI (aB 1 (aF 1 (aB 1 (aB 1 (aB 4 gY)))))))))))) Q g w := by
 refine Dt (fun g : Env => g 65) (fun X t w => EM (fun _ _ _ _ _ _ _ _ _ j5 w => X j5 w) k4 (g 2) (g 6) (g 9) (g 10) (g 11) (g 41) (g 42) (g 43) (g 64) t w) h (fun X g1 w1 ha hL => ?_)
 rw [<- jX 2 ha, <- jX 6 ha, <- jX 9 ha, <- jX 10 ha, <- jX 11 ha, <- jX 41 ha, <- jX 42 ha, <- jX 43 ha, <- jX 64 ha] at hL
 exact (aeC _ g1 w1 (fun _ _ _ _ _ _ _ _ _ j5 w => X j5 w) k4 (fun _ _ h => h) h4 hL)
def NC (kn : K5) (b2 b6 vR WU Qq f1 f2 f3 j4 j5 : aNk) (w : aNj) : Prop :=
 OY kn b2 b6 vR WU Qq f1 f2 f3 j4 j5 w
def NR (kn : K10) (k3 : K5) (b2 b6 f1 f2 f3 : aNk) (w : aNj) : Prop :=
 aD pg (cI 152 f1 f3) w fun f6 w =>
 aD pg (aL 171 f6) w fun f7 w =>
 aD pg (fP 171) w fun WU w =>
 aD pg (aR 171 WU f7) w fun _u w =>
 aD pg (aJ 171 WU 0) w fun f8 w =>
 aD pg (aL 3 f8) w fun f9 w =>
 aD pg (aI .eql 3 (.tmp 49) (.const (aNl 0)) f9 (aNl 0)) w fun i0 w =>
 gX i0
  (k3 b2 b6 f1 f2 f3 w)
  (aD pg (aJ 171 WU 1) w fun i1 w =>
  aD pg (aL 3 i1) w fun i2 w =>
  aD pg (aJ 122 b6 0) w fun i3 w =>
  aD pg (aL 3 i3) w fun i4 w =>
  aD pg (aJ 171 WU 0) w fun i5 w =>
  aD pg (aL 3 i5) w fun i6 w =>
  aD pg (aI .sub 3 aM aM i4 i6) w fun i7 w =>
  aD pg (aI .shl 3 aM aM i2 i7) w fun i8 w =>
  aD pg (aJ 122 b6 0) w fun i9 w =>
  aD pg (aL 3 i9) w fun j0 w =>
  aD pg (aJ 171 WU 0) w fun j1 w =>
  aD pg (aL 3 j1) w fun j2 w =>
  aD pg (aI .sub 3 aM aM j0 j2) w fun j3 w =>
  aD pg (aI .shl 3 aM aM (aNl 1) j3) w fun j4 w =>
  kn b2 b6 f3 WU i8 f1 f2 f3 j4 (aNl 0) w)
theorem agF (kn : K10) (k3 : K5) (hn : N10 Q kn 2 6 9 10 11 41 42 43 64 65) (h3 : E5 Q k3 3 2 6 41 42 43) (h : NR kn k3 (g 2) (g 6) (g 41) (g 42) (g 43) w) : bD pg iQ (aF 4 (bI (aF 1 (aB 2 (bI (bI (aB 1 (aF 1 (aB 1 (aB 1 (aB 4 gY))))))))))) Q g w :=
 eP (kr := no) (l := [(3, fun g w => k3 (g 2) (g 6) (g 41) (g 42) (g 43) w)]) h hn gS ⟨h3, trivial⟩
def WJ (kn : K5) (k3 : K5) (b2 b6 f1 f2 f3 : aNk) (w : aNj) : Prop :=
 NR (fun b2 b6 vR WU Qq f1 f2 f3 j4 j5 w => NC kn b2 b6 vR WU Qq f1 f2 f3 j4 j5 w) k3 b2 b6 f1 f2 f3 w
def Pn (kn : K5) (b2 b6 f1 f2 f3 : aNk) (w : aNj) : Prop :=
 WJ kn kn b2 b6 f1 f2 f3 w
def O2 (kn : K5) (b2 b6 f1 f2 f3 : aNk) (w : aNj) : Prop :=
 Pn (fun b2 b6 f1 f2 f3 w => Bn kn b2 b6 f1 f2 f3 w) b2 b6 f1 f2 f3 w
theorem aiD (kn : K5) (hn : N5 Q kn 2 6 41 42 43) (h : Pn kn (g 2) (g 6) (g 41) (g 42) (g 43) w) : bD pg iQ (aF 1 (aB 2 (bI (bI (aB 1 (aF 1 (aB 1 (aB 1 (aB 4 gY))))))))) Q g w :=
 wT 3 (jE 4 (agF _ g w (NC kn) kn (fun g w h => aK (wT 4 (adZ _ g w kn hn h))) hn h))
def JM (kn : K5) (k2 : K2) (b2 b6 f1 f2 f3 : aNk) (w : aNj) : Prop :=
 aD pg (aI .lss 3 aM aM f3 f2) w fun f4 w =>
 gX f4
  (kn b2 b6 f1 f2 f3 w)
  (k2 b2 b6 w)
theorem Z5 (kn : K5) (k2 : K2) (hn : N5 Q kn 2 6 41 42 43) (h2 : E2 Q k2 2 2 6) (h : JM kn k2 (g 2) (g 6) (g 41) (g 42) (g 43) w) : bD pg iQ (aF 2 (bI (bI (aB 1 (aF 1 (aB 1 (aB 1 (aB 4 gY)))))))) Q g w :=
 eP (kr := no) (l := [(2, fun g w => k2 (g 2) (g 6) w)]) h hn gS ⟨h2, trivial⟩
def Da (kn : K5) (k2 : K2) (b2 b6 f1 f2 f3 : aNk) (w : aNj) : Prop :=
 JM (fun b2 b6 f1 f2 f3 w => O2 kn b2 b6 f1 f2 f3 w) k2 b2 b6 f1 f2 f3 w
def KJ (k2 : K2) (b2 b6 f1 f2 f3 : aNk) (w : aNj) : Prop :=
 cU (fun (X : aNk -> K0) (t : aNk) (w : aNj) => Da (fun _ _ _ _ f3 w => X f3 w) k2 b2 b6 f1 f2 t w) f3 w
theorem acO (kn : K5) (k2 : K2) (hn : N5 Q kn 2 6 41 42 43) (h2 : E2 Q k2 2 2 6) (h : Da kn k2 (g 2) (g 6) (g 41) (g 42) (g 43) w) : bD pg iQ (bI (bI (aB 1 (aF 1 (aB 1 (aB 1 (aB 4 gY))))))) Q g w :=
 jE 2 (Z5 _ g w (O2 kn) k2 (fun g w h => aK (jE 1 (aiD _ g w (Bn kn) (fun g w h => aK (alC _ g w kn hn h)) h))) h2 h)
theorem ZB (k2 : K2) (h2 : E2 Q k2 2 2 6) (h : KJ k2 (g 2) (g 6) (g 41) (g 42) (g 43) w) : bD pg iQ (bI (aB 1 (aF 1 (aB 1 (aB 1 (aB 4 gY)))))) Q g w := by
 refine Dt (fun g : Env => g 43) (fun X t w => Da (fun _ _ _ _ f3 w => X f3 w) k2 (g 2) (g 6) (g 41) (g 42) t w) h (fun X g1 w1 ha hL => ?_)
 rw [<- jX 2 ha, <- jX 6 ha, <- jX 41 ha, <- jX 42 ha] at hL
 exact (acO _ g1 w1 (fun _ _ _ _ f3 w => X f3 w) k2 (fun _ _ h => h) h2 hL)
def Lp (kn : K2) (b2 b6 f1 f2 f3 : aNk) (w : aNj) : Prop :=
 KJ kn b2 b6 f1 f2 f3 w
def JN (kn : K5) (b2 kM b6 : aNk) (w : aNj) : Prop :=
 aD pg (lO .len #[152] 3 [kM]) w fun f2 w =>
 kn b2 b6 kM f2 (aNl 0) w
theorem acG (kn : K5) (hn : N5 Q kn 2 6 41 42 43) (h : JN kn (g 2) (g 4) (g 6) w) : bD pg iQ (aF 1 (aF 1 (aB 1 (aB 1 (aB 4 gY))))) Q g w :=
 eP (kr := no) (l := []) h hn gS trivial
def KP (kn : K2) (b2 kM b6 : aNk) (w : aNj) : Prop :=
 JN (fun b2 b6 f1 f2 f3 w => Lp kn b2 b6 f1 f2 f3 w) b2 kM b6 w
def JG (R : K1) (b2 kM b6 : aNk) (w : aNj) : Prop :=
 KP (fun b2 b6 w => EO R b2 b6 w) b2 kM b6 w
theorem acS (kn : K2) (hn : N2 Q kn 2 6) (h : KP kn (g 2) (g 4) (g 6) w) : bD pg iQ (aF 1 (aB 1 (aB 1 (aB 4 gY)))) Q g w :=
 jE 1 (acG _ g w (Lp kn) (fun g w h => aK (wT 2 (ZB _ g w kn hn h))) h)
def KE (kn : K3) (b2 kM b6 : aNk) (w : aNj) : Prop :=
 aD pg (aJ 122 b6 0) w fun e6 w =>
 aD pg (aL 3 e6) w fun e7 w =>
 aD pg (aI .shl 3 aM aM (aNl 1) e7) w fun e8 w =>
 aD pg (qA 120 e8 e8) w fun e9 w =>
 aD pg (aJ 122 b6 1) w fun f0 w =>
 aD pg (aR 120 f0 e9) w fun _u w =>
 kn b2 kM b6 w
theorem abR (kn : K3) (hn : N3 Q kn 2 4 6) (h : KE kn (g 2) (g 4) (g 6) w) : bD pg iQ (aF 1 (aB 1 (aB 4 gY))) Q g w :=
 eP (kr := no) (l := []) h hn gS trivial
def JD (R : K1) (b2 kM b6 : aNk) (w : aNj) : Prop :=
 KE (fun b2 kM b6 w => JG R b2 kM b6 w) b2 kM b6 w
def Dd (kn : K6) (k0 : K3) (b2 kM b6 d3 d4 d5 : aNk) (w : aNj) : Prop :=
 aD pg (aI .lss 3 aM aM d5 d4) w fun d6 w =>
 gX d6
  (aD pg (cI 152 d3 d5) w fun d7 w =>
  aD pg (aL 171 d7) w fun d8 w =>
  aD pg (fP 171) w fun c_8 w =>
  aD pg (aR 171 c_8 d8) w fun _u w =>
  aD pg (aJ 122 b6 0) w fun d9 w =>
  aD pg (aL 3 d9) w fun e0 w =>
  aD pg (aJ 171 c_8 0) w fun e1 w =>
  aD pg (aL 3 e1) w fun e2 w =>
  aD pg (lO .max #[3, 3] 3 [e0, e2]) w fun e3 w =>
  aD pg (aJ 122 b6 0) w fun e4 w =>
  aD pg (aR 3 e4 e3) w fun _u w =>
  aD pg (aI .add 3 aM aM d5 (aNl 1)) w fun e5 w =>
  kn b2 kM b6 d3 d4 e5 w)
  (k0 b2 kM b6 w)
theorem aaI (kn : K6) (k0 : K3) (hn : N6 Q kn 2 4 6 23 24 25) (h0 : E3 Q k0 0 2 4 6) (h : Dd kn k0 (g 2) (g 4) (g 6) (g 23) (g 24) (g 25) w) : bD pg iQ (bI (bI (aB 1 (aF 1 (aB 4 gY))))) Q g w :=
 eP (kr := no) (l := [(0, fun g w => k0 (g 2) (g 4) (g 6) w)]) h hn gS ⟨h0, trivial⟩
def Ly (k0 : K3) (b2 kM b6 d3 d4 d5 : aNk) (w : aNj) : Prop :=
 cU (fun (X : aNk -> K0) (t : aNk) (w : aNj) => Dd (fun _ _ _ _ _ d5 w => X d5 w) k0 b2 kM b6 d3 d4 t w) d5 w
theorem acM (k0 : K3) (h0 : E3 Q k0 0 2 4 6) (h : Ly k0 (g 2) (g 4) (g 6) (g 23) (g 24) (g 25) w) : bD pg iQ (bI (aB 1 (aF 1 (aB 4 gY)))) Q g w := by
 refine Dt (fun g : Env => g 25) (fun X t w => Dd (fun _ _ _ _ _ d5 w => X d5 w) k0 (g 2) (g 4) (g 6) (g 23) (g 24) t w) h (fun X g1 w1 ha hL => ?_)
 rw [<- jX 2 ha, <- jX 4 ha, <- jX 6 ha, <- jX 23 ha, <- jX 24 ha] at hL
 exact (aaI _ g1 w1 (fun _ _ _ _ _ d5 w => X d5 w) k0 (fun _ _ h => h) h0 hL)
def KK (kn : K3) (b2 kM b6 d3 d4 d5 : aNk) (w : aNj) : Prop :=
 Ly kn b2 kM b6 d3 d4 d5 w
def Ky (kn : K6) (b2 kM b6 : aNk) (w : aNj) : Prop :=
 aD pg (lO .len #[152] 3 [kM]) w fun d4 w =>
 kn b2 kM b6 kM d4 (aNl 0) w
theorem Zt (kn : K6) (hn : N6 Q kn 2 4 6 23 24 25) (h : Ky kn (g 2) (g 4) (g 6) w) : bD pg iQ (aF 1 (aF 1 (aB 4 gY))) Q g w :=
 eP (kr := no) (l := []) h hn gS trivial
def JI (kn : K3) (b2 kM b6 : aNk) (w : aNj) : Prop :=
 Ky (fun b2 kM b6 d3 d4 d5 w => KK kn b2 kM b6 d3 d4 d5 w) b2 kM b6 w
def Km (R : K1) (b2 kM b6 : aNk) (w : aNj) : Prop :=
 JI (fun b2 kM b6 w => JD R b2 kM b6 w) b2 kM b6 w
theorem acY (kn : K3) (hn : N3 Q kn 2 4 6) (h : JI kn (g 2) (g 4) (g 6) w) : bD pg iQ (aF 1 (aB 4 gY)) Q g w :=
 jE 1 (Zt _ g w (KK kn) (fun g w h => aK (wT 0 (acM _ g w kn hn h))) h)
def Dj (kn : K3) (R : K1) (cR : aNk) (w : aNj) : Prop :=
 aD pg (fP 122) w fun b2 w =>
 aS pg tI #[cR] w fun c5 w =>
 aD pg (bQ c5 0) w fun c6 w =>
 aD pg (bQ c5 1) w fun c7 w =>
 aD pg (aI .neq 27 (.tmp 18) (.const (aNl 0)) c7 (aNl 0)) w fun c9 w =>
 gX c9
  (aD pg (fV 122 []) w fun d0 w =>
  aD pg (aR 122 b2 d0) w fun _u w =>
  zN pg 122 b2 w fun r0 => R (.tuple #[r0, c7]) w)
  (aD pg (fV 122 []) w fun d2 w =>
  aD pg (fP 122) w fun b6 w =>
  aD pg (aR 122 b6 d2) w fun _u w =>
  kn b2 c6 b6 w)
theorem adH (kn : K3) (R : K1) (hn : N3 Q kn 2 4 6) (hr : HR ES R Q) (h : Dj kn R (g 0) w) : bD pg iQ (aF 4 gY) Q g w :=
 eP (l := []) h hn hr trivial
def CY (R : K1) (cR : aNk) (w : aNj) : Prop :=
 Dj (fun b2 kM b6 w => Km R b2 kM b6 w) R cR w
theorem adB (R : K1) (hr : HR ES R Q) (h : CY R (g 0) w) : bD pg iQ gY Q g w :=
 jE 4 (adH _ g w (Km R) R (fun g w h => aK (jE 1 (acY _ g w (JD R) (fun g w h => aK (jE 1 (abR _ g w (JG R) (fun g w h => aK (jE 1 (acS _ g w (EO R) (fun g w h => aK (afV _ g w R hr h)) h))) h))) h))) hr h)
def WA (a0 : aNk) (w : aNj) (R : K1) : Prop :=
 CY R a0 w
theorem S1 {a0 : aNk} {w : aNj} {R : K1} (h : WA a0 w R) : aS pg Aj #[a0] w R := by
 refine uE (ann := iQ) Tryz.f63 gY [a0] ES 82 TryzM.mixed Tryz.func63 ?_
 exact (adB _ _ _ R (fun _ _ h => h) h)
def mL : FA := ⟨tP, fun i => match Nat.beq i 9 with | true => .leaf ([5], [(2, 5)]) [(false, []), (false, []), (false, []), (false, []), (false, []), (true, [2]), (false, []), (false, []), (false, [])] | false => .leaf ([], []) []⟩
def vT : List ResultVar := [.tmp 6, .tmp 7]
noncomputable def mC : Code := dE Tryz.f64
def wI (R : K1) (r_8 iL c2 : aNk) (w : aNj) : Prop :=
 aS pg qO #[r_8] w fun j3 w =>
 aD pg (aI .add 3 aM aM j3 c2) w fun j5 w =>
 aD pg (aI .lss 3 aM aM j5 (aNl 0)) w fun j8 w =>
 gX j8
  (R (.tuple #[(.slice none 0 0), (aNl 11)]) w)
  (aD pg (aI .gtr 3 aM aM j5 (aNl 0)) w fun l1 w =>
  gX l1
   (R (.tuple #[(.slice none 0 0), (aNl 15)]) w)
   (R (.tuple #[iL, (aNl 0)]) w))
theorem RX (R : K1) (hr : HR vT R Q) (h : wI R (g 8) (g 10) (g 12) w) : bD pg mL (aB 1 (aB 5 mC)) Q g w :=
 eP (kn := no) (l := []) h gS hr trivial
def wK (kn : K7) (k0 : K3) (b3 r_8 iL nI c2 d6 d7 : aNk) (w : aNj) : Prop :=
 aD pg (aI .lss 3 aM aM d7 d6) w fun d8 w =>
 gX d8
  (aD pg (aJ 122 b3 0) w fun d9 w =>
  aD pg (aL 3 d9) w fun e0 w =>
  aD pg (aI .sub 3 aM aM e0 c2) w fun e2 w =>
  (dr w) = (dr w) /\
  (dr w) = (dr w) /\
  aD pg (aI .shl 3 aM aM nI e2) (dr w) fun e5 w_ => w_ = (dr w) /\
  (dr w) = (dr w) /\
  (dr w) = (dr w) /\
  aS pg qU #[r_8, e2] (dr w) fun e8 aC5 =>
  (jF pg (aI .shl 3 aM aM nI e2) e5 aC5 /\ True) /\
  aD pg (jO 24 3 e8) aC5 fun e9 w_ => w_ = aC5 /\
  aD pg (aI .or 3 aM aM e5 e9) aC5 fun f0 w_ => w_ = aC5 /\
  aC5 = aC5 /\
  aD pg (aJ 122 b3 1) aC5 fun f1 w =>
  aD pg (aL 120 f1) w fun f2 w =>
  aD pg (cI 120 f2 f0) w fun f4 w =>
  aD pg (aL 173 f4) w fun f5 w =>
  aD pg (fP 173) w fun aIS w =>
  aD pg (aR 173 aIS f5) w fun _u w =>
  aD pg (aJ 173 aIS 0) w fun f7 w =>
  aD pg (aL 5 f7) w fun f8 w =>
  aD pg (cT 22 1 [(0, f8)]) w fun f9 w =>
  aD pg (lO .append #[22, 22] 22 [iL, f9]) w fun i0 w =>
  aD pg (aJ 122 b3 0) w fun i1 w =>
  aD pg (aL 3 i1) w fun i2 w =>
  aD pg (aJ 173 aIS 1) w fun i3 w =>
  aD pg (aL 3 i3) w fun i4 w =>
  aD pg (aI .sub 3 aM aM i2 i4) w fun i5 w =>
  aD pg (aI .shl 3 aM aM (aNl 1) i5) w fun i8 w =>
  aD pg (aI .sub 3 aM aM i8 (aNl 1)) w fun i9 w =>
  aD pg (aI .and 3 aM aM f0 i9) w fun j0 w =>
  aD pg (aI .add 3 aM aM d7 (aNl 1)) w fun j1 w =>
  kn b3 r_8 i0 j0 i5 d6 j1 w)
  (k0 r_8 iL c2 w)
theorem Sc (kn : K7) (k0 : K3) (hn : N7 Q kn 3 8 10 11 12 26 27) (h0 : E3 Q k0 0 8 10 12) (h : wK kn k0 (g 3) (g 8) (g 10) (g 11) (g 12) (g 26) (g 27) w) : bD pg mL (bI (bI (aB 1 (aF 1 (aB 5 mC))))) Q g w :=
 eP (kr := no) (l := [(0, fun g w => k0 (g 8) (g 10) (g 12) w)]) h hn gS ⟨h0, trivial⟩
def Bw (k0 : K3) (b3 r_8 iL nI c2 d6 d7 : aNk) (w : aNj) : Prop :=
 cU (fun (X : (aNk × aNk × aNk × aNk) -> K0) (t : aNk × aNk × aNk × aNk) (w : aNj) => wK (fun _ _ iL nI c2 _ d7 w => X (iL, nI, c2, d7) w) k0 b3 r_8 t.1 t.2.1 t.2.2.1 d6 t.2.2.2 w) (iL, nI, c2, d7) w
theorem Ss (k0 : K3) (h0 : E3 Q k0 0 8 10 12) (h : Bw k0 (g 3) (g 8) (g 10) (g 11) (g 12) (g 26) (g 27) w) : bD pg mL (bI (aB 1 (aF 1 (aB 5 mC)))) Q g w := by
 refine Dt (fun g : Env => (g 10, g 11, g 12, g 27)) (fun X t w => wK (fun _ _ iL nI c2 _ d7 w => X (iL, nI, c2, d7) w) k0 (g 3) (g 8) t.1 t.2.1 t.2.2.1 (g 26) t.2.2.2 w) h (fun X g1 w1 ha hL => ?_)
 rw [<- jX 3 ha, <- jX 8 ha, <- jX 26 ha] at hL
 exact (Sc _ g1 w1 (fun _ _ iL nI c2 _ d7 w => X (iL, nI, c2, d7) w) k0 (fun _ _ h => h) h0 hL)
def Bk (kn : K3) (b3 r_8 iL nI c2 d6 d7 : aNk) (w : aNj) : Prop :=
 Bw kn b3 r_8 iL nI c2 d6 d7 w
def Be (kn : K7) (nM b3 r_8 iL nI c2 : aNk) (w : aNj) : Prop :=
 kn b3 r_8 iL nI c2 nM (aNl 0) w
theorem Sp (kn : K7) (hn : N7 Q kn 3 8 10 11 12 26 27) (h : Be kn (g 2) (g 3) (g 8) (g 10) (g 11) (g 12) w) : bD pg mL (aF 1 (aF 1 (aB 5 mC))) Q g w :=
 eP (kr := no) (l := []) h hn gS trivial
def Bh (kn : K3) (nM b3 r_8 iL nI c2 : aNk) (w : aNj) : Prop :=
 Be (fun b3 r_8 iL nI c2 d6 d7 w => Bk kn b3 r_8 iL nI c2 d6 d7 w) nM b3 r_8 iL nI c2 w
def By (R : K1) (nM b3 r_8 iL nI c2 : aNk) (w : aNj) : Prop :=
 Bh (fun r_8 iL c2 w => wI R r_8 iL c2 w) nM b3 r_8 iL nI c2 w
theorem R9 (kn : K3) (hn : N3 Q kn 8 10 12) (h : Bh kn (g 2) (g 3) (g 8) (g 10) (g 11) (g 12) w) : bD pg mL (aF 1 (aB 5 mC)) Q g w :=
 jE 1 (Sp _ g w (Bk kn) (fun g w h => aK (wT 0 (Ss _ g w kn hn h))) h)
def BA (kn : K6) (R : K1) (b0 b_1 nM : aNk) (w : aNj) : Prop :=
 aD pg (BG 122 b0) w fun b3 w =>
 aS pg sD #[b_1] w fun c8 w =>
 aD pg (bQ c8 0) w fun c9 w =>
 aD pg (bQ c8 1) w fun d0 w =>
 aD pg (aI .neq 27 (.tmp 21) (.const (aNl 0)) d0 (aNl 0)) w fun d2 w =>
 gX d2
  (R (.tuple #[(.slice none 0 0), d0]) w)
  (aD pg (qA 22 (aNl 0) nM) w fun d5 w =>
  kn nM b3 c9 d5 (aNl 0) (aNl 0) w)
theorem Sx (kn : K6) (R : K1) (hn : N6 Q kn 2 3 8 10 11 12) (hr : HR vT R Q) (h : BA kn R (g 0) (g 1) (g 2) w) : bD pg mL (aF 5 mC) Q g w :=
 eP (l := []) h hn hr trivial
def Bi (R : K1) (b0 b_1 nM : aNk) (w : aNj) : Prop :=
 BA (fun nM b3 r_8 iL nI c2 w => By R nM b3 r_8 iL nI c2 w) R b0 b_1 nM w
theorem Sz (R : K1) (hr : HR vT R Q) (h : Bi R (g 0) (g 1) (g 2) w) : bD pg mL mC Q g w :=
 jE 5 (Sx _ g w (By R) R (fun g w h => aK (jE 1 (R9 _ g w (wI R) (fun g w h => aK (RX _ g w R hr h)) h))) hr h)
def P7 (a0 a1 a2 : aNk) (w : aNj) (R : K1) : Prop :=
 Bi R a0 a1 a2 w
theorem TX {a0 a1 a2 : aNk} {w : aNj} {R : K1} (h : P7 a0 a1 a2 w R) : aS pg tP #[a0, a1, a2] w R := by
 refine uE (ann := mL) Tryz.f64 mC [a0, a1, a2] vT 73 TryzM.mixed Tryz.func64 ?_
 exact (Sz _ _ _ R (fun _ _ h => h) h)
def Wt : FA := ⟨Fb, fun i => .leaf ([], []) []⟩
def Y2 : List ResultVar := [.cell 2 73, .tmp 3]
noncomputable def Uf : Code := dE Tryz.f65
def QF (R : K1) (n_0 : aNk) (w : aNj) : Prop :=
 aD pg (fP 73) w fun b2 w =>
 aD pg (aI .add 3 aM aM n_0 (aNl 4)) w fun b6 w =>
 aD pg (aI .sub 3 aM aM b6 (aNl 1)) w fun b7 w =>
 aD pg (aI .quo 3 aM aM b7 (aNl 4)) w fun b8 w =>
 aD pg (aI .mul 3 aM aM (aNl 3) b8) w fun c4 w =>
 aD pg (aI .sub 3 aM aM n_0 c4) w fun c5 w =>
 aD pg (fV 73 [(0, b8), (1, b8), (2, b8), (3, c5)]) w fun c6 w =>
 aD pg (aI .mul 3 aM aM (aNl 3) b8) w fun c9 w =>
 aD pg (aI .geq 3 aM aM n_0 c9) w fun d0 w =>
 aD pg (aR 73 b2 c6) w fun _u w =>
 zN pg 73 b2 w fun r0 => R (.tuple #[r0, d0]) w
theorem alW (R : K1) (hr : HR Y2 R Q) (h : QF R (g 0) w) : bD pg Wt Uf Q g w :=
 eP (kn := no) (l := []) h gS hr trivial
def awN (a0 : aNk) (w : aNj) (R : K1) : Prop :=
 QF R a0 w
theorem atS {a0 : aNk} {w : aNj} {R : K1} (h : awN a0 w R) : aS pg Fb #[a0] w R := by
 refine uE (ann := Wt) Tryz.f65 Uf [a0] Y2 21 TryzM.mixed Tryz.func65 ?_
 exact (alW _ _ _ R (fun _ _ h => h) h)
def Gh : FA := ⟨wJ, fun i => .leaf ([], []) []⟩
def Ha : List ResultVar := [.tmp 2]
noncomputable def Ec : Code := dE Tryz.f66
def Al (R : K1) (M3 : aNk) (w : aNj) : Prop :=
 aD pg (aI .eql 74 (.tmp 3) (.const (.pointer none)) M3 (.pointer none)) w fun b4 w =>
 gX b4
  (R (aNl 0) w)
  (aD pg (vP M3) w fun b6 w =>
  aD pg (aJ 92 b6 0) w fun b7 w =>
  aD pg (aL 22 b7) w fun b8 w =>
  aD pg (lO .len #[22] 3 [b8]) w fun b9 w =>
  R b9 w)
theorem QC (R : K1) (hr : HR Ha R Q) (h : Al R (g 0) w) : bD pg Gh Ec Q g w :=
 eP (kn := no) (l := []) h gS hr trivial
def MC (a0 : aNk) (w : aNj) (R : K1) : Prop :=
 Al R a0 w
theorem R0 {a0 : aNk} {w : aNj} {R : K1} (h : MC a0 w R) : aS pg wJ #[a0] w R := by
 refine uE (ann := Gh) Tryz.f66 Ec [a0] Ha 10 TryzM.mixed Tryz.func66 ?_
 exact (QC _ _ _ R (fun _ _ h => h) h)
def Ej : FA := ⟨vJ, fun i => .leaf ([], []) []⟩
def GA : List ResultVar := [.tmp 4]
noncomputable def Cp : Code := dE Tryz.f67
def yW (R : K1) (M3 lU : aNk) (w : aNj) : Prop :=
 aD pg (aI .eql 74 (.tmp 5) (.const (.pointer none)) M3 (.pointer none)) w fun b6 w =>
 gX b6
  (R (.slice none 0 0) w)
  (aD pg (aI .geq 3 aM aM lU (aNl 0)) w fun c0 w =>
  aS pg sP #[M3, lU, c0] w fun c1 w =>
  R c1 w)
theorem PD (R : K1) (hr : HR GA R Q) (h : yW R (g 0) (g 1) w) : bD pg Ej Cp Q g w :=
 eP (kn := no) (l := []) h gS hr trivial
def LV (a0 a1 : aNk) (w : aNj) (R : K1) : Prop :=
 yW R a0 a1 w
theorem Q4 {a0 a1 : aNk} {w : aNj} {R : K1} (h : LV a0 a1 w R) : aS pg vJ #[a0, a1] w R := by
 refine uE (ann := Ej) Tryz.f67 Cp [a0, a1] GA 12 TryzM.mixed Tryz.func67 ?_
 exact (PD _ _ _ R (fun _ _ h => h) h)
def iN : FA := ⟨Mj, fun i => match Nat.beq i 30 with | true => .leaf ([2, 3], [(0, 2)]) [(false, []), (false, []), (true, [1]), (true, []), (false, []), (false, [])] | false => .leaf ([], []) []⟩
def nV : List ResultVar := [.cell 6 128, .tmp 7, .tmp 8]
noncomputable def gV : Code := dE Tryz.f68
def IM (R : K1) (b6 oN fS : aNk) (w : aNj) : Prop :=
 aD pg (aL 128 fS) (dr w) fun p1 w_ => w_ = (dr w) /\
 aD pg (aL 176 oN) (dr w) fun p2 w_ => w_ = (dr w) /\
 aS pg Ml #[p2] (dr w) fun p3 aII =>
 (jF pg (aL 128 fS) p1 aII /\ True) /\
 aD pg (aR 128 b6 p1) aII fun _u3 aAJ =>
 aAJ = aAJ /\
 aAJ = aAJ /\
 zN pg 128 b6 aAJ fun r0 => R (.tuple #[r0, p3, (aNl 0)]) aAJ
theorem amB (R : K1) (hr : HR nV R Q) (h : IM R (g 6) (g 9) (g 12) w) : bD pg iN (aB 1 (aB 7 gV)) Q g w :=
 eP (kn := no) (l := []) h gS hr trivial
def Ir (kn : K5) (R : K1) (aO b6 oN fS aX : aNk) (w : aNj) : Prop :=
 aD pg (aJ 128 fS 1) w fun o1 w =>
 aD pg (aL 42 o1) w fun o2 w =>
 aD pg (lO .len #[42] 3 [o2]) w fun o3 w =>
 aD pg (aI .gtr 3 aM aM o3 aO) w fun o5 w =>
 Gd (iM o5 false) (fun K => K aX w) w fun o7 w =>
 Gd (iM o5 false) (fun K => aD pg (aI .lss 3 aM aM o7 (aNl 0)) w K) w fun o8 w =>
 aD pg (jR o5 (.bool true) o8) w fun o9 w =>
 gX o9
  (aD pg (fV 128 []) w fun p0 w =>
  aD pg (aR 128 b6 p0) w fun _u w =>
  zN pg 128 b6 w fun r0 => R (.tuple #[r0, (aNl 0), (aNl 11)]) w)
  (kn aO b6 oN fS aX w)
theorem aoO (kn : K5) (R : K1) (hn : N5 Q kn 2 6 9 12 13) (hr : HR nV R Q) (h : Ir kn R (g 2) (g 6) (g 9) (g 12) (g 13) w) : bD pg iN (aB 1 (aB 1 (aB 5 (bI (aB 1 (bI (bI (aF 1 (aB 7 gV))))))))) Q g w :=
 eP (l := []) h hn hr trivial
def IF (kn : K6) (aO b6 oN H8 fS aX : aNk) (w : aNj) : Prop :=
 aD pg (aI .eql 24 (.tmp 99) (.const (.int .u64 3)) H8 (.int .u64 3)) w fun o0 w =>
 kn aO b6 oN fS aX o0 w
theorem amM (kn : K6) (hn : N6 Q kn 2 6 9 12 13 15) (h : IF kn (g 2) (g 6) (g 9) (g 10) (g 12) (g 13) w) : bD pg iN (aB 1 (aB 2 (bI (aB 1 (bI (bI (aF 1 (aB 1 (aB 5 (bI (aB 1 (bI (bI (aF 1 (aB 7 gV))))))))))))))) Q g w :=
 eP (kr := no) (l := []) h hn gS trivial
def I0 (kn : K7) (k4 : K6) (aO b6 oN H8 fS aX qJ : aNk) (w : aNj) : Prop :=
 aD pg (jO 24 3 H8) w fun n0 w =>
 aD pg (aI .lss 3 aM aM qJ n0) w fun n1 w =>
 gX n1
  (aD pg (aJ 128 fS 1) w fun n4 w =>
  aD pg (aL 42 n4) w fun n5 w =>
  aD pg (cT 42 1 [(0, (aNl 0))]) w fun n6 w =>
  aD pg (lO .append #[42, 42] 42 [n5, n6]) w fun n7 w =>
  aD pg (aJ 128 fS 1) w fun n8 w =>
  aD pg (aR 42 n8 n7) w fun _u w =>
  aD pg (aI .add 3 aM aM qJ (aNl 1)) w fun n3 w =>
  kn aO b6 oN H8 fS aX n3 w)
  (k4 aO b6 oN H8 fS aX w)
theorem aoB (kn : K7) (k4 : K6) (hn : N7 Q kn 2 6 9 10 12 13 16) (h4 : E6 Q k4 4 2 6 9 10 12 13) (h : I0 kn k4 (g 2) (g 6) (g 9) (g 10) (g 12) (g 13) (g 16) w) : bD pg iN (bI (bI (aB 1 (aF 1 (aB 2 (bI (aB 1 (bI (bI (aF 1 (aB 1 (aB 5 (bI (aB 1 (bI (bI (aF 1 (aB 7 gV)))))))))))))))))) Q g w :=
 eP (kr := no) (l := [(4, fun g w => k4 (g 2) (g 6) (g 9) (g 10) (g 12) (g 13) w)]) h hn gS ⟨h4, trivial⟩
def Ql (k4 : K6) (aO b6 oN H8 fS aX qJ : aNk) (w : aNj) : Prop :=
 cU (fun (X : aNk -> K0) (t : aNk) (w : aNj) => I0 (fun _ _ _ _ _ _ qJ w => X qJ w) k4 aO b6 oN H8 fS aX t w) qJ w
theorem aqC (k4 : K6) (h4 : E6 Q k4 4 2 6 9 10 12 13) (h : Ql k4 (g 2) (g 6) (g 9) (g 10) (g 12) (g 13) (g 16) w) : bD pg iN (bI (aB 1 (aF 1 (aB 2 (bI (aB 1 (bI (bI (aF 1 (aB 1 (aB 5 (bI (aB 1 (bI (bI (aF 1 (aB 7 gV))))))))))))))))) Q g w := by
 refine Dt (fun g : Env => g 16) (fun X t w => I0 (fun _ _ _ _ _ _ qJ w => X qJ w) k4 (g 2) (g 6) (g 9) (g 10) (g 12) (g 13) t w) h (fun X g1 w1 ha hL => ?_)
 rw [<- jX 2 ha, <- jX 6 ha, <- jX 9 ha, <- jX 10 ha, <- jX 12 ha, <- jX 13 ha] at hL
 exact (aoB _ g1 w1 (fun _ _ _ _ _ _ qJ w => X qJ w) k4 (fun _ _ h => h) h4 hL)
def RI (kn : K6) (aO b6 oN H8 fS aX qJ : aNk) (w : aNj) : Prop :=
 Ql kn aO b6 oN H8 fS aX qJ w
def Rj (kn : K7) (aO b6 oN H8 fS aX : aNk) (w : aNj) : Prop :=
 kn aO b6 oN H8 fS aX (aNl 0) w
theorem anX (kn : K7) (hn : N7 Q kn 2 6 9 10 12 13 16) (h : Rj kn (g 2) (g 6) (g 9) (g 10) (g 12) (g 13) w) : bD pg iN (aF 1 (aF 1 (aB 2 (bI (aB 1 (bI (bI (aF 1 (aB 1 (aB 5 (bI (aB 1 (bI (bI (aF 1 (aB 7 gV)))))))))))))))) Q g w :=
 eP (kr := no) (l := []) h hn gS trivial
def RP (kn : K6) (aO b6 oN H8 fS aX : aNk) (w : aNj) : Prop :=
 Rj (fun aO b6 oN H8 fS aX qJ w => RI kn aO b6 oN H8 fS aX qJ w) aO b6 oN H8 fS aX w
def It (kn : K6) (aO b6 oN H8 fS aX : aNk) (w : aNj) : Prop :=
 RP (fun aO b6 oN H8 fS aX w => IF kn aO b6 oN H8 fS aX w) aO b6 oN H8 fS aX w
theorem amV (kn : K6) (hn : N6 Q kn 2 6 9 10 12 13) (h : RP kn (g 2) (g 6) (g 9) (g 10) (g 12) (g 13) w) : bD pg iN (aF 1 (aB 2 (bI (aB 1 (bI (bI (aF 1 (aB 1 (aB 5 (bI (aB 1 (bI (bI (aF 1 (aB 7 gV))))))))))))))) Q g w :=
 jE 1 (anX _ g w (RI kn) (fun g w h => aK (wT 4 (aqC _ g w kn hn h))) h)
def O4 (kn : K6) (R : K1) (aO b6 oN fS aX : aNk) (w : aNj) : Prop :=
 aD pg (aL 176 oN) w fun l9 w =>
 aS pg zA #[l9, (aNl 2)] w fun m0 w =>
 aD pg (bQ m0 0) w fun m1 w =>
 aD pg (bQ m0 1) w fun m2 w =>
 aD pg (bQ m0 2) w fun m3 w =>
 aD pg (aR 176 oN m1) w fun _u w =>
 aD pg (aI .neq 27 (.tmp 84) (.const (aNl 0)) m3 (aNl 0)) w fun m5 w =>
 gX m5
  (aD pg (fV 128 []) w fun m6 w =>
  aD pg (aR 128 b6 m6) w fun _u w =>
  zN pg 128 b6 w fun r0 => R (.tuple #[r0, (aNl 0), m3]) w)
  (kn aO b6 oN m2 fS aX w)
theorem aiV (kn : K6) (R : K1) (hn : N6 Q kn 2 6 9 10 12 13) (hr : HR nV R Q) (h : O4 kn R (g 2) (g 6) (g 9) (g 12) (g 13) w) : bD pg iN (aF 2 (bI (aB 1 (bI (bI (aF 1 (aB 1 (aB 5 (bI (aB 1 (bI (bI (aF 1 (aB 7 gV)))))))))))))) Q g w :=
 eP (l := []) h hn hr trivial
def VT (kn : K6) (R : K1) (aO b6 oN fS aX : aNk) (w : aNj) : Prop :=
 O4 (fun aO b6 oN H8 fS aX w => It kn aO b6 oN H8 fS aX w) R aO b6 oN fS aX w
def OF (kn : K6) (R : K1) (aO b6 oN fS aX : aNk) (w : aNj) : Prop :=
 VT kn R aO b6 oN fS aX w
def Ok (kn : K5) (k2 : K5) (aO b6 oN fS aX c5 : aNk) (w : aNj) : Prop :=
 gX c5
  (kn aO b6 oN fS aX w)
  (k2 aO b6 oN fS aX w)
theorem akD (kn : K5) (k2 : K5) (hn : N5 Q kn 2 6 9 12 13) (h2 : E5 Q k2 2 2 6 9 12 13) (h : Ok kn k2 (g 2) (g 6) (g 9) (g 12) (g 13) (g 15) w) : bD pg iN (aF 1 (bI (bI (aF 1 (aB 1 (aB 5 (bI (aB 1 (bI (bI (aF 1 (aB 7 gV)))))))))))) Q g w :=
 eP (kr := no) (l := [(2, fun g w => k2 (g 2) (g 6) (g 9) (g 12) (g 13) w)]) h hn gS ⟨h2, trivial⟩
def Gn (kn : K6) (k2 : K5) (R : K1) (aO b6 oN fS aX c5 : aNk) (w : aNj) : Prop :=
 Ok (fun aO b6 oN fS aX w => OF kn R aO b6 oN fS aX w) k2 aO b6 oN fS aX c5 w
def OR (k2 : K5) (R : K1) (aO b6 oN fS aX c5 : aNk) (w : aNj) : Prop :=
 cU (fun (X : aNk -> K0) (t : aNk) (w : aNj) => Gn (fun _ _ _ _ _ c5 w => X c5 w) k2 R aO b6 oN fS aX t w) c5 w
theorem akY (kn : K6) (k2 : K5) (R : K1) (hn : N6 Q kn 2 6 9 12 13 15) (h2 : E5 Q k2 2 2 6 9 12 13) (hr : HR nV R Q) (h : Gn kn k2 R (g 2) (g 6) (g 9) (g 12) (g 13) (g 15) w) : bD pg iN (bI (bI (aF 1 (aB 1 (aB 5 (bI (aB 1 (bI (bI (aF 1 (aB 7 gV))))))))))) Q g w :=
 jE 1 (akD _ g w (OF kn R) k2 (fun g w h => aK (wT 3 (jE 2 (aiV _ g w (It kn) R (fun g w h => aK (jE 1 (amV _ g w (IF kn) (fun g w h => aK (amM _ g w kn hn h)) h))) hr h)))) h2 h)
theorem aeW (k2 : K5) (R : K1) (h2 : E5 Q k2 2 2 6 9 12 13) (hr : HR nV R Q) (h : OR k2 R (g 2) (g 6) (g 9) (g 12) (g 13) (g 15) w) : bD pg iN (bI (aF 1 (aB 1 (aB 5 (bI (aB 1 (bI (bI (aF 1 (aB 7 gV)))))))))) Q g w := by
 refine Dt (fun g : Env => g 15) (fun X t w => Gn (fun _ _ _ _ _ c5 w => X c5 w) k2 R (g 2) (g 6) (g 9) (g 12) (g 13) t w) h (fun X g1 w1 ha hL => ?_)
 rw [<- jX 2 ha, <- jX 6 ha, <- jX 9 ha, <- jX 12 ha, <- jX 13 ha] at hL
 exact (akY _ g1 w1 (fun _ _ _ _ _ c5 w => X c5 w) k2 R (fun _ _ h => h) h2 hr hL)
def Pj (kn : K5) (R : K1) (aO b6 oN fS aX c5 : aNk) (w : aNj) : Prop :=
 OR kn R aO b6 oN fS aX c5 w
def NB (kn : K5) (R : K1) (aO b6 oN fS aX c5 : aNk) (w : aNj) : Prop :=
 Pj (fun aO b6 oN fS aX w => Ir kn R aO b6 oN fS aX w) R aO b6 oN fS aX c5 w
theorem akN (kn : K5) (R : K1) (hn : N5 Q kn 2 6 9 12 13) (hr : HR nV R Q) (h : Pj kn R (g 2) (g 6) (g 9) (g 12) (g 13) (g 15) w) : bD pg iN (aF 1 (aB 1 (aB 5 (bI (aB 1 (bI (bI (aF 1 (aB 7 gV))))))))) Q g w :=
 wT 2 (aeW _ g w kn R hn hr h)
def NS (kn : K6) (aO b6 oN fS aX aEd : aNk) (w : aNj) : Prop :=
 aD pg (aI .eql 3 (.tmp 75) (.const (aNl 1)) aEd (aNl 1)) w fun l6 w =>
 kn aO b6 oN fS aX l6 w
theorem aiG (kn : K6) (hn : N6 Q kn 2 6 9 12 13 15) (h : NS kn (g 2) (g 6) (g 9) (g 12) (g 13) (g 14) w) : bD pg iN (aF 1 (aB 5 (bI (aB 1 (bI (bI (aF 1 (aB 7 gV)))))))) Q g w :=
 eP (kr := no) (l := []) h hn gS trivial
def Bb (kn : K5) (R : K1) (aO b6 oN fS aX aEd : aNk) (w : aNj) : Prop :=
 NS (fun aO b6 oN fS aX c5 w => NB kn R aO b6 oN fS aX c5 w) aO b6 oN fS aX aEd w
def Od (kn : K6) (R : K1) (aO b6 oN fS aX : aNk) (w : aNj) : Prop :=
 aD pg (aL 176 oN) w fun i0 w =>
 aS pg Mn #[i0, aX] w fun i2 w =>
 aD pg (bQ i2 0) w fun i3 w =>
 aD pg (bQ i2 1) w fun i4 w =>
 aD pg (bQ i2 2) w fun i5 w =>
 aD pg (aR 176 oN i3) w fun _u w =>
 aD pg (aI .neq 27 (.tmp 56) (.const (aNl 0)) i5 (aNl 0)) w fun i7 w =>
 gX i7
  (aD pg (fV 128 []) w fun i8 w =>
  aD pg (aR 128 b6 i8) w fun _u w =>
  zN pg 128 b6 w fun r0 => R (.tuple #[r0, (aNl 0), i5]) w)
  (aD pg (aJ 128 fS 1) w fun j0 w =>
  aD pg (aL 42 j0) w fun j1 w =>
  aD pg (aI .sub 3 aM aM i4 (aNl 1)) w fun j3 w =>
  aD pg (cT 42 1 [(0, j3)]) w fun j4 w =>
  aD pg (lO .append #[42, 42] 42 [j1, j4]) w fun j5 w =>
  aD pg (aJ 128 fS 1) w fun j6 w =>
  aD pg (aR 42 j6 j5) w fun _u w =>
  aD pg (aI .eql 3 (.tmp 67) (.const (aNl 0)) i4 (aNl 0)) w fun j8 w =>
  gX j8
   (aD pg (aI .sub 3 aM aM aX (aNl 1)) w fun l0 w =>
   kn aO b6 oN fS l0 i4 w)
   (aD pg (aI .sub 3 aM aM i4 (aNl 1)) w fun l3 w =>
   aD pg (aI .sub 3 aM aM aX l3) w fun l4 w =>
   kn aO b6 oN fS l4 i4 w))
theorem adU (kn : K6) (R : K1) (hn : N6 Q kn 2 6 9 12 13 14) (hr : HR nV R Q) (h : Od kn R (g 2) (g 6) (g 9) (g 12) (g 13) w) : bD pg iN (aF 5 (bI (aB 1 (bI (bI (aF 1 (aB 7 gV))))))) Q g w :=
 eP (l := []) h hn hr trivial
def WH (kn : K5) (R : K1) (aO b6 oN fS aX : aNk) (w : aNj) : Prop :=
 Od (fun aO b6 oN fS aX aEd w => Bb kn R aO b6 oN fS aX aEd w) R aO b6 oN fS aX w
def MB (kn : K5) (R : K1) (aO b6 oN fS aX : aNk) (w : aNj) : Prop :=
 WH kn R aO b6 oN fS aX w
def ME (kn : K5) (k0 : K3) (aO b6 oN fS aX : aNk) (w : aNj) : Prop :=
 aD pg (aI .gtr 3 aM aM aX (aNl 0)) w fun f8 w =>
 gX f8
  (kn aO b6 oN fS aX w)
  (k0 b6 oN fS w)
theorem aeH (kn : K5) (k0 : K3) (hn : N5 Q kn 2 6 9 12 13) (h0 : E3 Q k0 0 6 9 12) (h : ME kn k0 (g 2) (g 6) (g 9) (g 12) (g 13) w) : bD pg iN (aF 1 (bI (bI (aF 1 (aB 7 gV))))) Q g w :=
 eP (kr := no) (l := [(0, fun g w => k0 (g 6) (g 9) (g 12) w)]) h hn gS ⟨h0, trivial⟩
def FY (kn : K5) (k0 : K3) (R : K1) (aO b6 oN fS aX : aNk) (w : aNj) : Prop :=
 ME (fun aO b6 oN fS aX w => MB kn R aO b6 oN fS aX w) k0 aO b6 oN fS aX w
def OS (k0 : K3) (R : K1) (aO b6 oN fS aX : aNk) (w : aNj) : Prop :=
 cU (fun (X : aNk -> K0) (t : aNk) (w : aNj) => FY (fun _ _ _ _ aX w => X aX w) k0 R aO b6 oN fS t w) aX w
theorem akI (kn : K5) (k0 : K3) (R : K1) (hn : N5 Q kn 2 6 9 12 13) (h0 : E3 Q k0 0 6 9 12) (hr : HR nV R Q) (h : FY kn k0 R (g 2) (g 6) (g 9) (g 12) (g 13) w) : bD pg iN (bI (bI (aF 1 (aB 7 gV)))) Q g w :=
 jE 1 (aeH _ g w (MB kn R) k0 (fun g w h => aK (wT 1 (jE 5 (adU _ g w (Bb kn R) R (fun g w h => aK (jE 1 (aiG _ g w (NB kn R) (fun g w h => aK (jE 1 (akN _ g w (Ir kn R) R (fun g w h => aK (aoO _ g w kn R hn hr h)) hr h))) h))) hr h)))) h0 h)
theorem ahY (k0 : K3) (R : K1) (h0 : E3 Q k0 0 6 9 12) (hr : HR nV R Q) (h : OS k0 R (g 2) (g 6) (g 9) (g 12) (g 13) w) : bD pg iN (bI (aF 1 (aB 7 gV))) Q g w := by
 refine Dt (fun g : Env => g 13) (fun X t w => FY (fun _ _ _ _ aX w => X aX w) k0 R (g 2) (g 6) (g 9) (g 12) t w) h (fun X g1 w1 ha hL => ?_)
 rw [<- jX 2 ha, <- jX 6 ha, <- jX 9 ha, <- jX 12 ha] at hL
 exact (akI _ g1 w1 (fun _ _ _ _ aX w => X aX w) k0 R (fun _ _ h => h) h0 hr hL)
def OK (kn : K3) (R : K1) (aO b6 oN fS aX : aNk) (w : aNj) : Prop :=
 OS kn R aO b6 oN fS aX w
def FF (R : K1) (aO b6 oN fS aX : aNk) (w : aNj) : Prop :=
 OK (fun b6 oN fS w => IM R b6 oN fS w) R aO b6 oN fS aX w
theorem ajN (kn : K3) (R : K1) (hn : N3 Q kn 6 9 12) (hr : HR nV R Q) (h : OK kn R (g 2) (g 6) (g 9) (g 12) (g 13) w) : bD pg iN (aF 1 (aB 7 gV)) Q g w :=
 wT 0 (ahY _ g w kn R hn hr h)
def NV (kn : K5) (R : K1) (fO Oo aO : aNk) (w : aNj) : Prop :=
 aD pg (fP 128) w fun b6 w =>
 aS pg GJ #[fO] w fun c8 w =>
 aD pg (fV 176 [(0, c8)]) w fun c9 w =>
 aD pg (fP 176) w fun oN w =>
 aD pg (aR 176 oN c9) w fun _u w =>
 aD pg (aL 176 oN) w fun d1 w =>
 aS pg zA #[d1, (aNl 4)] w fun d2 w =>
 aD pg (bQ d2 0) w fun d3 w =>
 aD pg (bQ d2 1) w fun d4 w =>
 aD pg (bQ d2 2) w fun d5 w =>
 aD pg (aR 176 oN d3) w fun _u w =>
 aD pg (aI .neq 27 (.tmp 26) (.const (aNl 0)) d5 (aNl 0)) w fun d7 w =>
 gX d7
  (aD pg (fV 128 []) w fun d8 w =>
  aD pg (aR 128 b6 d8) w fun _u w =>
  zN pg 128 b6 w fun r0 => R (.tuple #[r0, (aNl 0), d5]) w)
  (aD pg (jO 24 3 d4) w fun e1 w =>
  aD pg (aI .add 3 aM aM e1 (aNl 5)) w fun e2 w =>
  aD pg (fV 128 [(0, e2)]) w fun e3 w =>
  aD pg (fP 128) w fun fS w =>
  aD pg (aR 128 fS e3) w fun _u w =>
  aD pg (aJ 128 fS 0) w fun e4 w =>
  aD pg (aL 3 e4) w fun e5 w =>
  aD pg (aI .gtr 3 aM aM e5 Oo) w fun e7 w =>
  Gd (iM e7 false) (fun K => aD pg (aJ 128 fS 0) w K) w fun e9 w =>
  Gd (iM e7 false) (fun K => aD pg (aL 3 e9) w K) w fun f0 w =>
  Gd (iM e7 false) (fun K => aD pg (aI .gtr 3 aM aM f0 (aNl 15)) w K) w fun f1 w =>
  aD pg (jR e7 (.bool true) f1) w fun f2 w =>
  gX f2
   (aD pg (fV 128 []) w fun f3 w =>
   aD pg (aR 128 b6 f3) w fun _u w =>
   zN pg 128 b6 w fun r0 => R (.tuple #[r0, (aNl 0), (aNl 12)]) w)
   (aD pg (aJ 128 fS 0) w fun f4 w =>
   aD pg (aL 3 f4) w fun f5 w =>
   aS pg nU #[f5] w fun f6 w =>
   kn aO b6 oN fS f6 w))
theorem agH (kn : K5) (R : K1) (hn : N5 Q kn 2 6 9 12 13) (hr : HR nV R Q) (h : NV kn R (g 0) (g 1) (g 2) w) : bD pg iN (aF 7 gV) Q g w :=
 eP (l := []) h hn hr trivial
def Nz (R : K1) (fO Oo aO : aNk) (w : aNj) : Prop :=
 NV (fun aO b6 oN fS aX w => FF R aO b6 oN fS aX w) R fO Oo aO w
theorem agE (R : K1) (hr : HR nV R Q) (h : Nz R (g 0) (g 1) (g 2) w) : bD pg iN gV Q g w :=
 jE 7 (agH _ g w (FF R) R (fun g w h => aK (jE 1 (ajN _ g w (IM R) R (fun g w h => aK (amB _ g w R hr h)) hr h))) hr h)
def awW (a0 a1 a2 : aNk) (w : aNj) (R : K1) : Prop :=
 Nz R a0 a1 a2 w
theorem auK {a0 a1 a2 : aNk} {w : aNj} {R : K1} (h : awW a0 a1 a2 w R) : aS pg Mj #[a0, a1, a2] w R := by
 refine uE (ann := iN) Tryz.f68 gV [a0, a1, a2] nV 114 TryzM.mixed Tryz.func68 ?_
 exact (agE _ _ _ R (fun _ _ h => h) h)
def wX : FA := ⟨El, fun i => .leaf ([], []) []⟩
def L1 : List ResultVar := [.cell 2 133, .tmp 3]
noncomputable def uJ : Code := dE Tryz.f69
def Mi (R : K1) (b2 l_4 iA : aNk) (w : aNj) : Prop :=
 aD pg (lX 131 l_4 none (some iA) none) w fun e1 w =>
 aD pg (fV 133 [(0, e1)]) w fun e2 w =>
 aD pg (aR 133 b2 e2) w fun _u w =>
 zN pg 133 b2 w fun r0 => R (.tuple #[r0, (aNl 0)]) w
theorem asD (R : K1) (hr : HR L1 R Q) (h : Mi R (g 2) (g 4) (g 5) w) : bD pg wX (aB 1 (aB 4 uJ)) Q g w :=
 eP (kn := no) (l := []) h gS hr trivial
def L2 (kn : K3) (k0 : K3) (b2 l_4 iA : aNk) (w : aNj) : Prop :=
 aD pg (cI 131 l_4 iA) w fun d4 w =>
 aD pg (aL 4 d4) w fun d5 w =>
 aD pg (sUn .not d5) w fun d6 w =>
 gX d6
  (aD pg (aI .sub 3 aM aM iA (aNl 1)) w fun d8 w =>
  kn b2 l_4 d8 w)
  (k0 b2 l_4 iA w)
theorem asP (kn : K3) (k0 : K3) (hn : N3 Q kn 2 4 5) (h0 : E3 Q k0 0 2 4 5) (h : L2 kn k0 (g 2) (g 4) (g 5) w) : bD pg wX (bI (bI (aF 1 (aB 4 uJ)))) Q g w :=
 eP (kr := no) (l := [(0, fun g w => k0 (g 2) (g 4) (g 5) w)]) h hn gS ⟨h0, trivial⟩
def TE (k0 : K3) (b2 l_4 iA : aNk) (w : aNj) : Prop :=
 cU (fun (X : aNk -> K0) (t : aNk) (w : aNj) => L2 (fun _ _ iA w => X iA w) k0 b2 l_4 t w) iA w
theorem atZ (k0 : K3) (h0 : E3 Q k0 0 2 4 5) (h : TE k0 (g 2) (g 4) (g 5) w) : bD pg wX (bI (aF 1 (aB 4 uJ))) Q g w := by
 refine Dt (fun g : Env => g 5) (fun X t w => L2 (fun _ _ iA w => X iA w) k0 (g 2) (g 4) t w) h (fun X g1 w1 ha hL => ?_)
 rw [<- jX 2 ha, <- jX 4 ha] at hL
 exact (asP _ g1 w1 (fun _ _ iA w => X iA w) k0 (fun _ _ h => h) h0 hL)
def S9 (kn : K3) (b2 l_4 iA : aNk) (w : aNj) : Prop :=
 TE kn b2 l_4 iA w
def Ta (R : K1) (b2 l_4 iA : aNk) (w : aNj) : Prop :=
 S9 (fun b2 l_4 iA w => Mi R b2 l_4 iA w) b2 l_4 iA w
theorem auH (kn : K3) (hn : N3 Q kn 2 4 5) (h : S9 kn (g 2) (g 4) (g 5) w) : bD pg wX (aF 1 (aB 4 uJ)) Q g w :=
 wT 0 (atZ _ g w kn hn h)
def L5 (kn : K3) (R : K1) (Cc : aNk) (w : aNj) : Prop :=
 aD pg (fP 133) w fun b2 w =>
 aD pg (aI .eql 9 (.tmp 6) (.const (.string ⟨#[]⟩)) Cc (.string ⟨#[]⟩)) w fun b7 w =>
 Gd (iM b7 false) (fun K => K Cc w) w fun b9 w =>
 Gd (iM b7 false) (fun K => K Cc w) w fun c0 w =>
 Gd (iM b7 false) (fun K => aD pg (lO .len #[9] 3 [c0]) w K) w fun c1 w =>
 Gd (iM b7 false) (fun K => aD pg (aI .sub 3 aM aM c1 (aNl 1)) w K) w fun c2 w =>
 Gd (iM b7 false) (fun K => aD pg (D6 9 b9 c2) w K) w fun c3 w =>
 Gd (iM b7 false) (fun K => aD pg (aI .eql 5 (.tmp 13) (.const (.int .u8 0)) c3 (.int .u8 0)) w K) w fun c4 w =>
 aD pg (jR b7 (.bool true) c4) w fun c5 w =>
 gX c5
  (aD pg (fV 133 []) w fun c6 w =>
  aD pg (aR 133 b2 c6) w fun _u w =>
  zN pg 133 b2 w fun r0 => R (.tuple #[r0, (aNl 11)]) w)
  (aS pg GJ #[Cc] w fun c8 w =>
  aD pg (lO .len #[131] 3 [c8]) w fun d0 w =>
  aD pg (aI .sub 3 aM aM d0 (aNl 1)) w fun d1 w =>
  kn b2 c8 d1 w)
theorem auE (kn : K3) (R : K1) (hn : N3 Q kn 2 4 5) (hr : HR L1 R Q) (h : L5 kn R (g 0) w) : bD pg wX (aF 4 uJ) Q g w :=
 eP (l := []) h hn hr trivial
def Mg (R : K1) (Cc : aNk) (w : aNj) : Prop :=
 L5 (fun b2 l_4 iA w => Ta R b2 l_4 iA w) R Cc w
theorem atM (R : K1) (hr : HR L1 R Q) (h : Mg R (g 0) w) : bD pg wX uJ Q g w :=
 jE 4 (auE _ g w (Ta R) R (fun g w h => aK (jE 1 (auH _ g w (Mi R) (fun g w h => aK (asD _ g w R hr h)) h))) hr h)
def amU (a0 : aNk) (w : aNj) (R : K1) : Prop :=
 Mg R a0 w
theorem Wj {a0 : aNk} {w : aNj} {R : K1} (h : amU a0 w R) : aS pg El #[a0] w R := by
 refine uE (ann := wX) Tryz.f69 uJ [a0] L1 33 TryzM.mixed Tryz.func69 ?_
 exact (atM _ _ _ R (fun _ _ h => h) h)
def bE : FA := ⟨IL, fun i => match Nat.beq i 46 with | true => .leaf ([5, 11], [(0, 5), (1, 5)]) [(false, []), (false, []), (false, []), (false, []), (false, []), (true, [3, 4]), (false, []), (false, []), (false, []), (false, []), (false, []), (true, [])] | false => .leaf ([], []) []⟩
def rC : List ResultVar := [.cell 2 138, .tmp 3]
noncomputable def bA : Code := dE Tryz.f70
def GS (R : K1) (b2 b6 : aNk) (w : aNj) : Prop :=
 aD pg (aL 138 b6) w fun z4 w =>
 aD pg (aR 138 b2 z4) w fun _u w =>
 zN pg 138 b2 w fun r0 => R (.tuple #[r0, (aNl 0)]) w
theorem akM (R : K1) (hr : HR rC R Q) (h : GS R (g 2) (g 6) w) : bD pg bE (aB 1 (aB 1 (aB 1 (aB 1 (aB 1 (aB 1 (aB 1 (aB 5 bA)))))))) Q g w :=
 eP (kn := no) (l := []) h gS hr trivial
def Bf (kn : K6) (cB b2 iA b6 cX nQ : aNk) (w : aNj) : Prop :=
 aD pg (aI .add 3 aM aM nQ (aNl 1)) w fun q1 w =>
 kn cB b2 iA b6 cX q1 w
theorem ajZ (kn : K6) (hn : N6 Q kn 1 2 5 6 14 15) (h : Bf kn (g 1) (g 2) (g 5) (g 6) (g 14) (g 15) w) : bD pg bE (aB 1 (aB 1 (bI (bI (aB 1 (aF 1 (aB 1 (aB 1 (aB 1 (aB 1 (aB 1 (aB 1 (aB 5 bA))))))))))))) Q g w :=
 eP (kr := no) (l := []) h hn gS trivial
def EC (kn : K6) (cB b2 iA b6 cX nQ TZ pN : aNk) (w : aNj) : Prop :=
 aD pg (aJ 138 b6 1) w fun x7 w =>
 aD pg (aL 136 x7) w fun x8 w =>
 aD pg (cI 136 x8 nQ) w fun y1 w =>
 aD pg (aJ 145 y1 1) w fun y2 w =>
 aD pg (aR 3 y2 pN) w fun _u w =>
 aD pg (aJ 138 b6 1) (dr w) fun y3 w_ => w_ = (dr w) /\
 aD pg (aL 136 y3) (dr w) fun y4 w_ => w_ = (dr w) /\
 (dr w) = (dr w) /\
 (dr w) = (dr w) /\
 (dr w) = (dr w) /\
 aS pg nU #[pN] (dr w) fun y8 R3 =>
 (jF pg (aL 136 y3) y4 R3 /\ jF pg (aJ 138 b6 1) y3 R3 /\ True) /\
 aD pg (aI .mul 3 aM aM TZ y8) R3 fun y9 w_ => w_ = R3 /\
 R3 = R3 /\
 aD pg (aI .sub 3 aM aM y9 iA) R3 fun z1 w_ => w_ = R3 /\
 aD pg (cI 136 y4 nQ) R3 fun z2 w_ => w_ = R3 /\
 aD pg (aJ 145 z2 2) R3 fun z3 w_ => w_ = R3 /\
 aD pg (aR 3 z3 z1) R3 fun _u11 aJn =>
 kn cB b2 iA b6 cX nQ aJn
theorem ahL (kn : K6) (hn : N6 Q kn 1 2 5 6 14 15) (h : EC kn (g 1) (g 2) (g 5) (g 6) (g 14) (g 15) (g 18) (g 19) w) : bD pg bE (aB 1 (aB 3 (aB 2 (aB 2 (bI (aF 1 (aB 1 (bI (bI (aB 1 (aF 1 (aB 1 (aB 1 (aB 1 (aB 1 (aB 1 (aB 1 (aB 5 bA)))))))))))))))))) Q g w :=
 eP (kr := no) (l := []) h hn gS trivial
def F1 (kn : K8) (k12 : K8) (cB b2 iA b6 cX nQ TZ pN : aNk) (w : aNj) : Prop :=
 aD pg (aJ 128 cB 0) w fun v7 w =>
 aD pg (aL 3 v7) w fun v8 w =>
 aD pg (aI .sub 3 aM aM v8 pN) w fun x0 w =>
 aD pg (aI .add 3 aM aM x0 (aNl 1)) w fun x1 w =>
 aS pg nU #[x1] w fun x2 w =>
 aD pg (aI .leq 3 aM aM x2 TZ) w fun x4 w =>
 gX x4
  (aD pg (aI .sub 3 aM aM pN (aNl 1)) w fun x6 w =>
  kn cB b2 iA b6 cX nQ TZ x6 w)
  (k12 cB b2 iA b6 cX nQ TZ pN w)
theorem ajS (kn : K8) (k12 : K8) (hn : N8 Q kn 1 2 5 6 14 15 18 19) (h12 : E8 Q k12 12 1 2 5 6 14 15 18 19) (h : F1 kn k12 (g 1) (g 2) (g 5) (g 6) (g 14) (g 15) (g 18) (g 19) w) : bD pg bE (bI (bI (aF 1 (aB 3 (aB 2 (aB 2 (bI (aF 1 (aB 1 (bI (bI (aB 1 (aF 1 (aB 1 (aB 1 (aB 1 (aB 1 (aB 1 (aB 1 (aB 5 bA)))))))))))))))))))) Q g w :=
 eP (kr := no) (l := [(12, fun g w => k12 (g 1) (g 2) (g 5) (g 6) (g 14) (g 15) (g 18) (g 19) w)]) h hn gS ⟨h12, trivial⟩
def GG (k12 : K8) (cB b2 iA b6 cX nQ TZ pN : aNk) (w : aNj) : Prop :=
 cU (fun (X : aNk -> K0) (t : aNk) (w : aNj) => F1 (fun _ _ _ _ _ _ _ pN w => X pN w) k12 cB b2 iA b6 cX nQ TZ t w) pN w
theorem afY (k12 : K8) (h12 : E8 Q k12 12 1 2 5 6 14 15 18 19) (h : GG k12 (g 1) (g 2) (g 5) (g 6) (g 14) (g 15) (g 18) (g 19) w) : bD pg bE (bI (aF 1 (aB 3 (aB 2 (aB 2 (bI (aF 1 (aB 1 (bI (bI (aB 1 (aF 1 (aB 1 (aB 1 (aB 1 (aB 1 (aB 1 (aB 1 (aB 5 bA))))))))))))))))))) Q g w := by
 refine Dt (fun g : Env => g 19) (fun X t w => F1 (fun _ _ _ _ _ _ _ pN w => X pN w) k12 (g 1) (g 2) (g 5) (g 6) (g 14) (g 15) (g 18) t w) h (fun X g1 w1 ha hL => ?_)
 rw [<- jX 1 ha, <- jX 2 ha, <- jX 5 ha, <- jX 6 ha, <- jX 14 ha, <- jX 15 ha, <- jX 18 ha] at hL
 exact (ajS _ g1 w1 (fun _ _ _ _ _ _ _ pN w => X pN w) k12 (fun _ _ h => h) h12 hL)
def Pe (kn : K8) (cB b2 iA b6 cX nQ TZ pN : aNk) (w : aNj) : Prop :=
 GG kn cB b2 iA b6 cX nQ TZ pN w
def MQ (kn : K6) (cB b2 iA b6 cX nQ TZ pN : aNk) (w : aNj) : Prop :=
 Pe (fun cB b2 iA b6 cX nQ TZ pN w => EC kn cB b2 iA b6 cX nQ TZ pN w) cB b2 iA b6 cX nQ TZ pN w
theorem aiM (kn : K8) (hn : N8 Q kn 1 2 5 6 14 15 18 19) (h : Pe kn (g 1) (g 2) (g 5) (g 6) (g 14) (g 15) (g 18) (g 19) w) : bD pg bE (aF 1 (aB 3 (aB 2 (aB 2 (bI (aF 1 (aB 1 (bI (bI (aB 1 (aF 1 (aB 1 (aB 1 (aB 1 (aB 1 (aB 1 (aB 1 (aB 5 bA)))))))))))))))))) Q g w :=
 wT 12 (afY _ g w kn hn h)
def Pl (kn : K8) (cB b2 iA b6 cX nQ Tg aDS : aNk) (w : aNj) : Prop :=
 aD pg (cI 183 cX Tg) w fun u6 w =>
 aD pg (aL 3 u6) w fun u7 w =>
 aD pg (aI .add 3 aM aM u7 aDS) w fun u9 w =>
 aD pg (cI 183 cX Tg) w fun v1 w =>
 aD pg (aL 3 v1) w fun v2 w =>
 aD pg (aI .add 3 aM aM v2 (aNl 1)) w fun v3 w =>
 aD pg (cI 183 cX Tg) w fun v4 w =>
 aD pg (aR 3 v4 v3) w fun _u w =>
 aD pg (aJ 128 cB 0) w fun v5 w =>
 aD pg (aL 3 v5) w fun v6 w =>
 kn cB b2 iA b6 cX nQ u9 v6 w
theorem afF (kn : K8) (hn : N8 Q kn 1 2 5 6 14 15 18 19) (h : Pl kn (g 1) (g 2) (g 5) (g 6) (g 14) (g 15) (g 16) (g 17) w) : bD pg bE (aF 3 (aB 2 (aB 2 (bI (aF 1 (aB 1 (bI (bI (aB 1 (aF 1 (aB 1 (aB 1 (aB 1 (aB 1 (aB 1 (aB 1 (aB 5 bA))))))))))))))))) Q g w :=
 eP (kr := no) (l := []) h hn gS trivial
def EB (kn : K6) (cB b2 iA b6 cX nQ Tg aDS : aNk) (w : aNj) : Prop :=
 Pl (fun cB b2 iA b6 cX nQ TZ pN w => MQ kn cB b2 iA b6 cX nQ TZ pN w) cB b2 iA b6 cX nQ Tg aDS w
def Ko (kn : K8) (cB b2 iA b6 cX nQ Tg : aNk) (w : aNj) : Prop :=
 aD pg (aJ 128 cB 1) w fun s8 w =>
 aD pg (aL 42 s8) w fun s9 w =>
 aD pg (cI 42 s9 Tg) w fun u1 w =>
 aD pg (aL 3 u1) w fun u2 w =>
 aD pg (aI .lss 3 aM aM u2 (aNl 0)) w fun u4 w =>
 gX u4
  (kn cB b2 iA b6 cX nQ Tg (aNl 1) w)
  (kn cB b2 iA b6 cX nQ Tg u2 w)
theorem acA (kn : K8) (hn : N8 Q kn 1 2 5 6 14 15 16 17) (h : Ko kn (g 1) (g 2) (g 5) (g 6) (g 14) (g 15) (g 16) w) : bD pg bE (aF 2 (aB 2 (bI (aF 1 (aB 1 (bI (bI (aB 1 (aF 1 (aB 1 (aB 1 (aB 1 (aB 1 (aB 1 (aB 1 (aB 5 bA)))))))))))))))) Q g w :=
 eP (kr := no) (l := []) h hn gS trivial
def JA (kn : K6) (cB b2 iA b6 cX nQ Tg : aNk) (w : aNj) : Prop :=
 Ko (fun cB b2 iA b6 cX nQ Tg aDS w => EB kn cB b2 iA b6 cX nQ Tg aDS w) cB b2 iA b6 cX nQ Tg w
def Jz (kn : K7) (R : K1) (cB b2 iA b6 cX nQ : aNk) (w : aNj) : Prop :=
 aD pg (aJ 138 b6 1) w fun q2 w =>
 aD pg (aL 136 q2) w fun q3 w =>
 aD pg (cI 136 q3 nQ) w fun q5 w =>
 aD pg (aJ 145 q5 0) w fun q6 w =>
 aD pg (aL 3 q6) w fun q7 w =>
 aD pg (aI .lss 3 aM aM q7 (aNl 0)) w fun q9 w =>
 Gd (iM q9 false) (fun K => K q7 w) w fun s1 w =>
 Gd (iM q9 false) (fun K => aD pg (aJ 128 cB 1) w K) w fun s2 w =>
 Gd (iM q9 false) (fun K => aD pg (aL 42 s2) w K) w fun s3 w =>
 Gd (iM q9 false) (fun K => aD pg (lO .len #[42] 3 [s3]) w K) w fun s4 w =>
 Gd (iM q9 false) (fun K => aD pg (aI .geq 3 aM aM s1 s4) w K) w fun s5 w =>
 aD pg (jR q9 (.bool true) s5) w fun s6 w =>
 gX s6
  (aD pg (fV 138 []) w fun s7 w =>
  aD pg (aR 138 b2 s7) w fun _u w =>
  zN pg 138 b2 w fun r0 => R (.tuple #[r0, (aNl 1)]) w)
  (kn cB b2 iA b6 cX nQ q7 w)
theorem adE (kn : K7) (R : K1) (hn : N7 Q kn 1 2 5 6 14 15 16) (hr : HR rC R Q) (h : Jz kn R (g 1) (g 2) (g 5) (g 6) (g 14) (g 15) w) : bD pg bE (aF 2 (bI (aF 1 (aB 1 (bI (bI (aB 1 (aF 1 (aB 1 (aB 1 (aB 1 (aB 1 (aB 1 (aB 1 (aB 5 bA))))))))))))))) Q g w :=
 eP (l := []) h hn hr trivial
def Ux (kn : K6) (R : K1) (cB b2 iA b6 cX nQ : aNk) (w : aNj) : Prop :=
 Jz (fun cB b2 iA b6 cX nQ Tg w => JA kn cB b2 iA b6 cX nQ Tg w) R cB b2 iA b6 cX nQ w
def Kf (kn : K6) (R : K1) (cB b2 iA b6 cX nQ : aNk) (w : aNj) : Prop :=
 Ux kn R cB b2 iA b6 cX nQ w
def Dq (kn : K6) (R : K1) (cB b2 iA b6 cX nQ : aNk) (w : aNj) : Prop :=
 Kf (fun cB b2 iA b6 cX nQ w => Bf kn cB b2 iA b6 cX nQ w) R cB b2 iA b6 cX nQ w
theorem Zh (kn : K6) (R : K1) (hn : N6 Q kn 1 2 5 6 14 15) (hr : HR rC R Q) (h : Kf kn R (g 1) (g 2) (g 5) (g 6) (g 14) (g 15) w) : bD pg bE (aF 1 (aB 1 (bI (bI (aB 1 (aF 1 (aB 1 (aB 1 (aB 1 (aB 1 (aB 1 (aB 1 (aB 5 bA))))))))))))) Q g w :=
 wT 11 (jE 2 (adE _ g w (JA kn) R (fun g w h => aK (jE 2 (acA _ g w (EB kn) (fun g w h => aK (jE 3 (afF _ g w (MQ kn) (fun g w h => aK (jE 1 (aiM _ g w (EC kn) (fun g w h => aK (ahL _ g w kn hn h)) h))) h))) h))) hr h))
def LC (kn : K6) (k10 : K2) (cB b2 iA b6 cX nQ : aNk) (w : aNj) : Prop :=
 aD pg (aI .lss 3 aM aM nQ iA) w fun p9 w =>
 gX p9
  (kn cB b2 iA b6 cX nQ w)
  (k10 b2 b6 w)
theorem acT (kn : K6) (k10 : K2) (hn : N6 Q kn 1 2 5 6 14 15) (h10 : E2 Q k10 10 2 6) (h : LC kn k10 (g 1) (g 2) (g 5) (g 6) (g 14) (g 15) w) : bD pg bE (aF 1 (bI (bI (aB 1 (aF 1 (aB 1 (aB 1 (aB 1 (aB 1 (aB 1 (aB 1 (aB 5 bA)))))))))))) Q g w :=
 eP (kr := no) (l := [(10, fun g w => k10 (g 2) (g 6) w)]) h hn gS ⟨h10, trivial⟩
def C5 (kn : K6) (k10 : K2) (R : K1) (cB b2 iA b6 cX nQ : aNk) (w : aNj) : Prop :=
 LC (fun cB b2 iA b6 cX nQ w => Dq kn R cB b2 iA b6 cX nQ w) k10 cB b2 iA b6 cX nQ w
def Kk (k10 : K2) (R : K1) (cB b2 iA b6 cX nQ : aNk) (w : aNj) : Prop :=
 cU (fun (X : aNk -> K0) (t : aNk) (w : aNj) => C5 (fun _ _ _ _ _ nQ w => X nQ w) k10 R cB b2 iA b6 cX t w) nQ w
theorem aaY (kn : K6) (k10 : K2) (R : K1) (hn : N6 Q kn 1 2 5 6 14 15) (h10 : E2 Q k10 10 2 6) (hr : HR rC R Q) (h : C5 kn k10 R (g 1) (g 2) (g 5) (g 6) (g 14) (g 15) w) : bD pg bE (bI (bI (aB 1 (aF 1 (aB 1 (aB 1 (aB 1 (aB 1 (aB 1 (aB 1 (aB 5 bA))))))))))) Q g w :=
 jE 1 (acT _ g w (Dq kn R) k10 (fun g w h => aK (jE 1 (Zh _ g w (Bf kn) R (fun g w h => aK (ajZ _ g w kn hn h)) hr h))) h10 h)
theorem Z1 (k10 : K2) (R : K1) (h10 : E2 Q k10 10 2 6) (hr : HR rC R Q) (h : Kk k10 R (g 1) (g 2) (g 5) (g 6) (g 14) (g 15) w) : bD pg bE (bI (aB 1 (aF 1 (aB 1 (aB 1 (aB 1 (aB 1 (aB 1 (aB 1 (aB 5 bA)))))))))) Q g w := by
 refine Dt (fun g : Env => g 15) (fun X t w => C5 (fun _ _ _ _ _ nQ w => X nQ w) k10 R (g 1) (g 2) (g 5) (g 6) (g 14) t w) h (fun X g1 w1 ha hL => ?_)
 rw [<- jX 1 ha, <- jX 2 ha, <- jX 5 ha, <- jX 6 ha, <- jX 14 ha] at hL
 exact (aaY _ g1 w1 (fun _ _ _ _ _ nQ w => X nQ w) k10 R (fun _ _ h => h) h10 hr hL)
def Kx (kn : K2) (R : K1) (cB b2 iA b6 cX nQ : aNk) (w : aNj) : Prop :=
 Kk kn R cB b2 iA b6 cX nQ w
def Jt (kn : K6) (cB b2 iA b6 cX : aNk) (w : aNj) : Prop :=
 kn cB b2 iA b6 cX (aNl 0) w
theorem ZU (kn : K6) (hn : N6 Q kn 1 2 5 6 14 15) (h : Jt kn (g 1) (g 2) (g 5) (g 6) (g 14) w) : bD pg bE (aF 1 (aF 1 (aB 1 (aB 1 (aB 1 (aB 1 (aB 1 (aB 1 (aB 5 bA))))))))) Q g w :=
 eP (kr := no) (l := []) h hn gS trivial
def KL (kn : K2) (R : K1) (cB b2 iA b6 cX : aNk) (w : aNj) : Prop :=
 Jt (fun cB b2 iA b6 cX nQ w => Kx kn R cB b2 iA b6 cX nQ w) cB b2 iA b6 cX w
def KA (R : K1) (cB b2 iA b6 cX : aNk) (w : aNj) : Prop :=
 KL (fun b2 b6 w => GS R b2 b6 w) R cB b2 iA b6 cX w
theorem acP (kn : K2) (R : K1) (hn : N2 Q kn 2 6) (hr : HR rC R Q) (h : KL kn R (g 1) (g 2) (g 5) (g 6) (g 14) w) : bD pg bE (aF 1 (aB 1 (aB 1 (aB 1 (aB 1 (aB 1 (aB 1 (aB 5 bA)))))))) Q g w :=
 jE 1 (ZU _ g w (Kx kn R) (fun g w h => aK (wT 10 (Z1 _ g w kn R hn hr h))) h)
def KC (kn : K5) (cB b2 iA b6 : aNk) (w : aNj) : Prop :=
 aD pg (fP 183) w fun cX w =>
 kn cB b2 iA b6 cX w
theorem aaC (kn : K5) (hn : N5 Q kn 1 2 5 6 14) (h : KC kn (g 1) (g 2) (g 5) (g 6) w) : bD pg bE (aF 1 (aB 1 (aB 1 (aB 1 (aB 1 (aB 1 (aB 5 bA))))))) Q g w :=
 eP (kr := no) (l := []) h hn gS trivial
def CN (R : K1) (cB b2 iA b6 : aNk) (w : aNj) : Prop :=
 KC (fun cB b2 iA b6 cX w => KA R cB b2 iA b6 cX w) cB b2 iA b6 w
def CL (kn : K7) (cB b2 iA b6 b8 gJ nG : aNk) (w : aNj) : Prop :=
 aD pg (aI .add 3 aM aM nG (aNl 1)) w fun l1 w =>
 kn cB b2 iA b6 b8 gJ l1 w
theorem acN (kn : K7) (hn : N7 Q kn 1 2 5 6 8 10 11) (h : CL kn (g 1) (g 2) (g 5) (g 6) (g 8) (g 10) (g 11) w) : bD pg bE (aB 1 (aB 1 (bI (bI (aB 1 (aF 1 (aB 1 (aB 1 (aB 1 (aB 1 (aB 5 bA))))))))))) Q g w :=
 eP (kr := no) (l := []) h hn gS trivial
def Dl (kn : K8) (cB b2 iA b6 b8 gJ nG uU : aNk) (w : aNj) : Prop :=
 aD pg (aI .add 3 aM aM uU (aNl 1)) w fun m0 w =>
 kn cB b2 iA b6 b8 gJ nG m0 w
theorem abY (kn : K8) (hn : N8 Q kn 1 2 5 6 8 10 11 12) (h : Dl kn (g 1) (g 2) (g 5) (g 6) (g 8) (g 10) (g 11) (g 12) w) : bD pg bE (aB 1 (aB 1 (bI (bI (aB 1 (bI (aF 1 (aB 1 (bI (bI (aB 1 (aF 1 (aB 1 (aB 1 (aB 1 (aB 1 (aB 5 bA))))))))))))))))) Q g w :=
 eP (kr := no) (l := []) h hn gS trivial
def Dk (kn : K9) (k8 : K8) (cB b2 iA b6 b8 gJ nG uU XV : aNk) (w : aNj) : Prop :=
 aD pg (aI .lss 3 aM aM XV iA) w fun n9 w =>
 Gd (iM n9 true) (fun K => K gJ w) w fun o1 w =>
 Gd (iM n9 true) (fun K => K b8 w) w fun o2 w =>
 Gd (iM n9 true) (fun K => aD pg (aI .gtr 3 aM aM o1 o2) w K) w fun o3 w =>
 aD pg (jR n9 o3 (.bool false)) w fun o4 w =>
 gX o4
  (aD pg (aI .quo 3 aM aM iA (aNl 2)) w fun o9 w =>
  aD pg (aI .add 3 aM aM gJ o9) w fun p0 w =>
  aD pg (aI .quo 3 aM aM iA (aNl 8)) w fun p2 w =>
  aD pg (aI .add 3 aM aM p0 p2) w fun p3 w =>
  aD pg (aI .add 3 aM aM p3 (aNl 3)) w fun p4 w =>
  aD pg (aI .rem 3 aM aM p4 iA) w fun p6 w =>
  aD pg (aI .add 3 aM aM XV (aNl 1)) w fun o6 w =>
  kn cB b2 iA b6 b8 p6 nG uU o6 w)
  (k8 cB b2 iA b6 b8 gJ nG uU w)
theorem aaL (kn : K9) (k8 : K8) (hn : N9 Q kn 1 2 5 6 8 10 11 12 13) (h8 : E8 Q k8 8 1 2 5 6 8 10 11 12) (h : Dk kn k8 (g 1) (g 2) (g 5) (g 6) (g 8) (g 10) (g 11) (g 12) (g 13) w) : bD pg bE (bI (bI (aB 3 (bI (aF 1 (aB 1 (bI (bI (aB 1 (bI (aF 1 (aB 1 (bI (bI (aB 1 (aF 1 (aB 1 (aB 1 (aB 1 (aB 1 (aB 5 bA))))))))))))))))))))) Q g w :=
 eP (kr := no) (l := [(8, fun g w => k8 (g 1) (g 2) (g 5) (g 6) (g 8) (g 10) (g 11) (g 12) w)]) h hn gS ⟨h8, trivial⟩
def Db (k8 : K8) (cB b2 iA b6 b8 gJ nG uU XV : aNk) (w : aNj) : Prop :=
 cU (fun (X : (aNk × aNk) -> K0) (t : aNk × aNk) (w : aNj) => Dk (fun _ _ _ _ _ gJ _ _ XV w => X (gJ, XV) w) k8 cB b2 iA b6 b8 t.1 nG uU t.2 w) (gJ, XV) w
theorem aaZ (k8 : K8) (h8 : E8 Q k8 8 1 2 5 6 8 10 11 12) (h : Db k8 (g 1) (g 2) (g 5) (g 6) (g 8) (g 10) (g 11) (g 12) (g 13) w) : bD pg bE (bI (aB 3 (bI (aF 1 (aB 1 (bI (bI (aB 1 (bI (aF 1 (aB 1 (bI (bI (aB 1 (aF 1 (aB 1 (aB 1 (aB 1 (aB 1 (aB 5 bA)))))))))))))))))))) Q g w := by
 refine Dt (fun g : Env => (g 10, g 13)) (fun X t w => Dk (fun _ _ _ _ _ gJ _ _ XV w => X (gJ, XV) w) k8 (g 1) (g 2) (g 5) (g 6) (g 8) t.1 (g 11) (g 12) t.2 w) h (fun X g1 w1 ha hL => ?_)
 rw [<- jX 1 ha, <- jX 2 ha, <- jX 5 ha, <- jX 6 ha, <- jX 8 ha, <- jX 11 ha, <- jX 12 ha] at hL
 exact (aaL _ g1 w1 (fun _ _ _ _ _ gJ _ _ XV w => X (gJ, XV) w) k8 (fun _ _ h => h) h8 hL)
def JT (kn : K8) (cB b2 iA b6 b8 gJ nG uU XV : aNk) (w : aNj) : Prop :=
 Db kn cB b2 iA b6 b8 gJ nG uU XV w
def Lt (kn : K9) (cB b2 iA b6 b8 gJ nG uU : aNk) (w : aNj) : Prop :=
 aD pg (aJ 138 b6 1) w fun m1 w =>
 aD pg (aL 136 m1) w fun m2 w =>
 aD pg (cI 136 m2 gJ) w fun m5 w =>
 aD pg (aJ 145 m5 0) w fun m6 w =>
 aD pg (aR 3 m6 nG) w fun _u w =>
 aD pg (aI .quo 3 aM aM iA (aNl 2)) w fun m9 w =>
 aD pg (aI .add 3 aM aM gJ m9) w fun n0 w =>
 aD pg (aI .quo 3 aM aM iA (aNl 8)) w fun n2 w =>
 aD pg (aI .add 3 aM aM n0 n2) w fun n3 w =>
 aD pg (aI .add 3 aM aM n3 (aNl 3)) w fun n4 w =>
 aD pg (aI .rem 3 aM aM n4 iA) w fun n6 w =>
 kn cB b2 iA b6 b8 n6 nG uU (aNl 0) w
theorem adO (kn : K9) (hn : N9 Q kn 1 2 5 6 8 10 11 12 13) (h : Lt kn (g 1) (g 2) (g 5) (g 6) (g 8) (g 10) (g 11) (g 12) w) : bD pg bE (aF 3 (bI (aF 1 (aB 1 (bI (bI (aB 1 (bI (aF 1 (aB 1 (bI (bI (aB 1 (aF 1 (aB 1 (aB 1 (aB 1 (aB 1 (aB 5 bA))))))))))))))))))) Q g w :=
 eP (kr := no) (l := []) h hn gS trivial
def T5 (kn : K8) (cB b2 iA b6 b8 gJ nG uU : aNk) (w : aNj) : Prop :=
 Lt (fun cB b2 iA b6 b8 gJ nG uU XV w => JT kn cB b2 iA b6 b8 gJ nG uU XV w) cB b2 iA b6 b8 gJ nG uU w
def Jw (kn : K8) (cB b2 iA b6 b8 gJ nG uU : aNk) (w : aNj) : Prop :=
 T5 kn cB b2 iA b6 b8 gJ nG uU w
def Lw (kn : K8) (cB b2 iA b6 b8 gJ nG uU : aNk) (w : aNj) : Prop :=
 Jw (fun cB b2 iA b6 b8 gJ nG uU w => Dl kn cB b2 iA b6 b8 gJ nG uU w) cB b2 iA b6 b8 gJ nG uU w
theorem abN (kn : K8) (hn : N8 Q kn 1 2 5 6 8 10 11 12) (h : Jw kn (g 1) (g 2) (g 5) (g 6) (g 8) (g 10) (g 11) (g 12) w) : bD pg bE (aF 1 (aB 1 (bI (bI (aB 1 (bI (aF 1 (aB 1 (bI (bI (aB 1 (aF 1 (aB 1 (aB 1 (aB 1 (aB 1 (aB 5 bA))))))))))))))))) Q g w :=
 wT 7 (jE 3 (adO _ g w (JT kn) (fun g w h => aK (wT 8 (aaZ _ g w kn hn h))) h))
def KW (kn : K8) (k6 : K7) (cB b2 iA b6 b8 gJ nG uU : aNk) (w : aNj) : Prop :=
 aD pg (aJ 128 cB 1) w fun l3 w =>
 aD pg (aL 42 l3) w fun l4 w =>
 aD pg (cI 42 l4 nG) w fun l6 w =>
 aD pg (aL 3 l6) w fun l7 w =>
 aD pg (aI .lss 3 aM aM uU l7) w fun l8 w =>
 gX l8
  (kn cB b2 iA b6 b8 gJ nG uU w)
  (k6 cB b2 iA b6 b8 gJ nG w)
theorem aaS (kn : K8) (k6 : K7) (hn : N8 Q kn 1 2 5 6 8 10 11 12) (h6 : E7 Q k6 6 1 2 5 6 8 10 11) (h : KW kn k6 (g 1) (g 2) (g 5) (g 6) (g 8) (g 10) (g 11) (g 12) w) : bD pg bE (aF 1 (bI (bI (aB 1 (bI (aF 1 (aB 1 (bI (bI (aB 1 (aF 1 (aB 1 (aB 1 (aB 1 (aB 1 (aB 5 bA)))))))))))))))) Q g w :=
 eP (kr := no) (l := [(6, fun g w => k6 (g 1) (g 2) (g 5) (g 6) (g 8) (g 10) (g 11) w)]) h hn gS ⟨h6, trivial⟩
def CW (kn : K8) (k6 : K7) (cB b2 iA b6 b8 gJ nG uU : aNk) (w : aNj) : Prop :=
 KW (fun cB b2 iA b6 b8 gJ nG uU w => Lw kn cB b2 iA b6 b8 gJ nG uU w) k6 cB b2 iA b6 b8 gJ nG uU w
def Ju (k6 : K7) (cB b2 iA b6 b8 gJ nG uU : aNk) (w : aNj) : Prop :=
 cU (fun (X : (aNk × aNk) -> K0) (t : aNk × aNk) (w : aNj) => CW (fun _ _ _ _ _ gJ _ uU w => X (gJ, uU) w) k6 cB b2 iA b6 b8 t.1 nG t.2 w) (gJ, uU) w
theorem ZJ (kn : K8) (k6 : K7) (hn : N8 Q kn 1 2 5 6 8 10 11 12) (h6 : E7 Q k6 6 1 2 5 6 8 10 11) (h : CW kn k6 (g 1) (g 2) (g 5) (g 6) (g 8) (g 10) (g 11) (g 12) w) : bD pg bE (bI (bI (aB 1 (bI (aF 1 (aB 1 (bI (bI (aB 1 (aF 1 (aB 1 (aB 1 (aB 1 (aB 1 (aB 5 bA))))))))))))))) Q g w :=
 jE 1 (aaS _ g w (Lw kn) k6 (fun g w h => aK (jE 1 (abN _ g w (Dl kn) (fun g w h => aK (abY _ g w kn hn h)) h))) h6 h)
theorem acZ (k6 : K7) (h6 : E7 Q k6 6 1 2 5 6 8 10 11) (h : Ju k6 (g 1) (g 2) (g 5) (g 6) (g 8) (g 10) (g 11) (g 12) w) : bD pg bE (bI (aB 1 (bI (aF 1 (aB 1 (bI (bI (aB 1 (aF 1 (aB 1 (aB 1 (aB 1 (aB 1 (aB 5 bA)))))))))))))) Q g w := by
 refine Dt (fun g : Env => (g 10, g 12)) (fun X t w => CW (fun _ _ _ _ _ gJ _ uU w => X (gJ, uU) w) k6 (g 1) (g 2) (g 5) (g 6) (g 8) t.1 (g 11) t.2 w) h (fun X g1 w1 ha hL => ?_)
 rw [<- jX 1 ha, <- jX 2 ha, <- jX 5 ha, <- jX 6 ha, <- jX 8 ha, <- jX 11 ha] at hL
 exact (ZJ _ g1 w1 (fun _ _ _ _ _ gJ _ uU w => X (gJ, uU) w) k6 (fun _ _ h => h) h6 hL)
def JV (kn : K7) (cB b2 iA b6 b8 gJ nG uU : aNk) (w : aNj) : Prop :=
 Ju kn cB b2 iA b6 b8 gJ nG uU w
def JK (kn : K8) (cB b2 iA b6 b8 gJ nG : aNk) (w : aNj) : Prop :=
 kn cB b2 iA b6 b8 gJ nG (aNl 0) w
theorem aaP (kn : K8) (hn : N8 Q kn 1 2 5 6 8 10 11 12) (h : JK kn (g 1) (g 2) (g 5) (g 6) (g 8) (g 10) (g 11) w) : bD pg bE (aF 1 (bI (aF 1 (aB 1 (bI (bI (aB 1 (aF 1 (aB 1 (aB 1 (aB 1 (aB 1 (aB 5 bA))))))))))))) Q g w :=
 eP (kr := no) (l := []) h hn gS trivial
def Uw (kn : K7) (cB b2 iA b6 b8 gJ nG : aNk) (w : aNj) : Prop :=
 JK (fun cB b2 iA b6 b8 gJ nG uU w => JV kn cB b2 iA b6 b8 gJ nG uU w) cB b2 iA b6 b8 gJ nG w
def J9 (kn : K7) (cB b2 iA b6 b8 gJ nG : aNk) (w : aNj) : Prop :=
 Uw kn cB b2 iA b6 b8 gJ nG w
def J4 (kn : K7) (cB b2 iA b6 b8 gJ nG : aNk) (w : aNj) : Prop :=
 J9 (fun cB b2 iA b6 b8 gJ nG w => CL kn cB b2 iA b6 b8 gJ nG w) cB b2 iA b6 b8 gJ nG w
theorem aaH (kn : K7) (hn : N7 Q kn 1 2 5 6 8 10 11) (h : J9 kn (g 1) (g 2) (g 5) (g 6) (g 8) (g 10) (g 11) w) : bD pg bE (aF 1 (aB 1 (bI (bI (aB 1 (aF 1 (aB 1 (aB 1 (aB 1 (aB 1 (aB 5 bA))))))))))) Q g w :=
 wT 5 (jE 1 (aaP _ g w (JV kn) (fun g w h => aK (wT 6 (acZ _ g w kn hn h))) h))
def KI (kn : K7) (k4 : K4) (cB b2 iA b6 b8 gJ nG : aNk) (w : aNj) : Prop :=
 aD pg (aJ 128 cB 1) w fun j6 w =>
 aD pg (aL 42 j6) w fun j7 w =>
 aD pg (lO .len #[42] 3 [j7]) w fun j8 w =>
 aD pg (aI .lss 3 aM aM nG j8) w fun j9 w =>
 gX j9
  (kn cB b2 iA b6 b8 gJ nG w)
  (k4 cB b2 iA b6 w)
theorem aaB (kn : K7) (k4 : K4) (hn : N7 Q kn 1 2 5 6 8 10 11) (h4 : E4 Q k4 4 1 2 5 6) (h : KI kn k4 (g 1) (g 2) (g 5) (g 6) (g 8) (g 10) (g 11) w) : bD pg bE (aF 1 (bI (bI (aB 1 (aF 1 (aB 1 (aB 1 (aB 1 (aB 1 (aB 5 bA)))))))))) Q g w :=
 eP (kr := no) (l := [(4, fun g w => k4 (g 1) (g 2) (g 5) (g 6) w)]) h hn gS ⟨h4, trivial⟩
def Dc (kn : K7) (k4 : K4) (cB b2 iA b6 b8 gJ nG : aNk) (w : aNj) : Prop :=
 KI (fun cB b2 iA b6 b8 gJ nG w => J4 kn cB b2 iA b6 b8 gJ nG w) k4 cB b2 iA b6 b8 gJ nG w
def C0 (k4 : K4) (cB b2 iA b6 b8 gJ nG : aNk) (w : aNj) : Prop :=
 cU (fun (X : (aNk × aNk) -> K0) (t : aNk × aNk) (w : aNj) => Dc (fun _ _ _ _ _ gJ nG w => X (gJ, nG) w) k4 cB b2 iA b6 b8 t.1 t.2 w) (gJ, nG) w
theorem Zi (kn : K7) (k4 : K4) (hn : N7 Q kn 1 2 5 6 8 10 11) (h4 : E4 Q k4 4 1 2 5 6) (h : Dc kn k4 (g 1) (g 2) (g 5) (g 6) (g 8) (g 10) (g 11) w) : bD pg bE (bI (bI (aB 1 (aF 1 (aB 1 (aB 1 (aB 1 (aB 1 (aB 5 bA))))))))) Q g w :=
 jE 1 (aaB _ g w (J4 kn) k4 (fun g w h => aK (jE 1 (aaH _ g w (CL kn) (fun g w h => aK (acN _ g w kn hn h)) h))) h4 h)
theorem acW (k4 : K4) (h4 : E4 Q k4 4 1 2 5 6) (h : C0 k4 (g 1) (g 2) (g 5) (g 6) (g 8) (g 10) (g 11) w) : bD pg bE (bI (aB 1 (aF 1 (aB 1 (aB 1 (aB 1 (aB 1 (aB 5 bA)))))))) Q g w := by
 refine Dt (fun g : Env => (g 10, g 11)) (fun X t w => Dc (fun _ _ _ _ _ gJ nG w => X (gJ, nG) w) k4 (g 1) (g 2) (g 5) (g 6) (g 8) t.1 t.2 w) h (fun X g1 w1 ha hL => ?_)
 rw [<- jX 1 ha, <- jX 2 ha, <- jX 5 ha, <- jX 6 ha, <- jX 8 ha] at hL
 exact (Zi _ g1 w1 (fun _ _ _ _ _ gJ nG w => X (gJ, nG) w) k4 (fun _ _ h => h) h4 hL)
def KB (kn : K4) (cB b2 iA b6 b8 gJ nG : aNk) (w : aNj) : Prop :=
 C0 kn cB b2 iA b6 b8 gJ nG w
def JJ (kn : K7) (cB b2 iA b6 b8 gJ : aNk) (w : aNj) : Prop :=
 kn cB b2 iA b6 b8 gJ (aNl 0) w
theorem Z6 (kn : K7) (hn : N7 Q kn 1 2 5 6 8 10 11) (h : JJ kn (g 1) (g 2) (g 5) (g 6) (g 8) (g 10) w) : bD pg bE (aF 1 (aF 1 (aB 1 (aB 1 (aB 1 (aB 1 (aB 5 bA))))))) Q g w :=
 eP (kr := no) (l := []) h hn gS trivial
def Ku (kn : K4) (cB b2 iA b6 b8 gJ : aNk) (w : aNj) : Prop :=
 JJ (fun cB b2 iA b6 b8 gJ nG w => KB kn cB b2 iA b6 b8 gJ nG w) cB b2 iA b6 b8 gJ w
def JF (R : K1) (cB b2 iA b6 b8 gJ : aNk) (w : aNj) : Prop :=
 Ku (fun cB b2 iA b6 w => CN R cB b2 iA b6 w) cB b2 iA b6 b8 gJ w
theorem acV (kn : K4) (hn : N4 Q kn 1 2 5 6) (h : Ku kn (g 1) (g 2) (g 5) (g 6) (g 8) (g 10) w) : bD pg bE (aF 1 (aB 1 (aB 1 (aB 1 (aB 1 (aB 5 bA)))))) Q g w :=
 jE 1 (Z6 _ g w (KB kn) (fun g w h => aK (wT 4 (acW _ g w kn hn h))) h)
def Kb (kn : K6) (cB b2 iA b6 b8 : aNk) (w : aNj) : Prop :=
 kn cB b2 iA b6 b8 (aNl 0) w
theorem abW (kn : K6) (hn : N6 Q kn 1 2 5 6 8 10) (h : Kb kn (g 1) (g 2) (g 5) (g 6) (g 8) w) : bD pg bE (aF 1 (aB 1 (aB 1 (aB 1 (aB 5 bA))))) Q g w :=
 eP (kr := no) (l := []) h hn gS trivial
def KO (R : K1) (cB b2 iA b6 b8 : aNk) (w : aNj) : Prop :=
 Kb (fun cB b2 iA b6 b8 gJ w => JF R cB b2 iA b6 b8 gJ w) cB b2 iA b6 b8 w
def zU (kn : K6) (cB b2 iA b6 b8 vR : aNk) (w : aNj) : Prop :=
 aD pg (aI .add 3 aM aM vR (aNl 1)) w fun i0 w =>
 kn cB b2 iA b6 b8 i0 w
theorem aaV (kn : K6) (hn : N6 Q kn 1 2 5 6 8 9) (h : zU kn (g 1) (g 2) (g 5) (g 6) (g 8) (g 9) w) : bD pg bE (aB 2 (bI (bI (aB 1 (aF 1 (aB 1 (aB 1 (aB 5 bA)))))))) Q g w :=
 eP (kr := no) (l := []) h hn gS trivial
def JC (kn : K6) (k2 : K5) (cB b2 iA b6 b8 vR : aNk) (w : aNj) : Prop :=
 aD pg (aJ 128 cB 1) w fun f5 w =>
 aD pg (aL 42 f5) w fun f6 w =>
 aD pg (lO .len #[42] 3 [f6]) w fun f7 w =>
 aD pg (aI .lss 3 aM aM vR f7) w fun f8 w =>
 gX f8
  (aD pg (aJ 128 cB 1) w fun i1 w =>
  aD pg (aL 42 i1) w fun i2 w =>
  aD pg (cI 42 i2 vR) w fun i4 w =>
  aD pg (aL 3 i4) w fun i5 w =>
  aD pg (aI .lss 3 aM aM i5 (aNl 0)) w fun i6 w =>
  gX i6
   (aD pg (aJ 138 b6 1) w fun i7 w =>
   aD pg (aL 136 i7) w fun i8 w =>
   aD pg (cI 136 i8 b8) w fun j1 w =>
   aD pg (aJ 145 j1 0) w fun j2 w =>
   aD pg (aR 3 j2 vR) w fun _u w =>
   aD pg (aI .sub 3 aM aM b8 (aNl 1)) w fun j4 w =>
   kn cB b2 iA b6 j4 vR w)
   (kn cB b2 iA b6 b8 vR w))
  (k2 cB b2 iA b6 b8 w)
theorem ZZ (kn : K6) (k2 : K5) (hn : N6 Q kn 1 2 5 6 8 9) (h2 : E5 Q k2 2 1 2 5 6 8) (h : JC kn k2 (g 1) (g 2) (g 5) (g 6) (g 8) (g 9) w) : bD pg bE (aF 2 (bI (bI (aB 1 (aF 1 (aB 1 (aB 1 (aB 5 bA)))))))) Q g w :=
 eP (kr := no) (l := [(2, fun g w => k2 (g 1) (g 2) (g 5) (g 6) (g 8) w)]) h hn gS ⟨h2, trivial⟩
def Dr (kn : K6) (k2 : K5) (cB b2 iA b6 b8 vR : aNk) (w : aNj) : Prop :=
 JC (fun cB b2 iA b6 b8 vR w => zU kn cB b2 iA b6 b8 vR w) k2 cB b2 iA b6 b8 vR w
def Dn (k2 : K5) (cB b2 iA b6 b8 vR : aNk) (w : aNj) : Prop :=
 cU (fun (X : (aNk × aNk) -> K0) (t : aNk × aNk) (w : aNj) => Dr (fun _ _ _ _ b8 vR w => X (b8, vR) w) k2 cB b2 iA b6 t.1 t.2 w) (b8, vR) w
theorem ZC (kn : K6) (k2 : K5) (hn : N6 Q kn 1 2 5 6 8 9) (h2 : E5 Q k2 2 1 2 5 6 8) (h : Dr kn k2 (g 1) (g 2) (g 5) (g 6) (g 8) (g 9) w) : bD pg bE (bI (bI (aB 1 (aF 1 (aB 1 (aB 1 (aB 5 bA))))))) Q g w :=
 jE 2 (ZZ _ g w (zU kn) k2 (fun g w h => aK (aaV _ g w kn hn h)) h2 h)
theorem adD (k2 : K5) (h2 : E5 Q k2 2 1 2 5 6 8) (h : Dn k2 (g 1) (g 2) (g 5) (g 6) (g 8) (g 9) w) : bD pg bE (bI (aB 1 (aF 1 (aB 1 (aB 1 (aB 5 bA)))))) Q g w := by
 refine Dt (fun g : Env => (g 8, g 9)) (fun X t w => Dr (fun _ _ _ _ b8 vR w => X (b8, vR) w) k2 (g 1) (g 2) (g 5) (g 6) t.1 t.2 w) h (fun X g1 w1 ha hL => ?_)
 rw [<- jX 1 ha, <- jX 2 ha, <- jX 5 ha, <- jX 6 ha] at hL
 exact (ZC _ g1 w1 (fun _ _ _ _ b8 vR w => X (b8, vR) w) k2 (fun _ _ h => h) h2 hL)
def LD (kn : K5) (cB b2 iA b6 b8 vR : aNk) (w : aNj) : Prop :=
 Dn kn cB b2 iA b6 b8 vR w
def LB (kn : K6) (cB b2 iA b6 b8 : aNk) (w : aNj) : Prop :=
 kn cB b2 iA b6 b8 (aNl 0) w
theorem aaO (kn : K6) (hn : N6 Q kn 1 2 5 6 8 9) (h : LB kn (g 1) (g 2) (g 5) (g 6) (g 8) w) : bD pg bE (aF 1 (aF 1 (aB 1 (aB 1 (aB 5 bA))))) Q g w :=
 eP (kr := no) (l := []) h hn gS trivial
def JE (kn : K5) (cB b2 iA b6 b8 : aNk) (w : aNj) : Prop :=
 LB (fun cB b2 iA b6 b8 vR w => LD kn cB b2 iA b6 b8 vR w) cB b2 iA b6 b8 w
def Lh (R : K1) (cB b2 iA b6 b8 : aNk) (w : aNj) : Prop :=
 JE (fun cB b2 iA b6 b8 w => KO R cB b2 iA b6 b8 w) cB b2 iA b6 b8 w
theorem adF (kn : K5) (hn : N5 Q kn 1 2 5 6 8) (h : JE kn (g 1) (g 2) (g 5) (g 6) (g 8) w) : bD pg bE (aF 1 (aB 1 (aB 1 (aB 5 bA)))) Q g w :=
 jE 1 (aaO _ g w (LD kn) (fun g w h => aK (wT 2 (adD _ g w kn hn h))) h)
def KU (kn : K5) (cB b2 iA b6 : aNk) (w : aNj) : Prop :=
 aD pg (aI .sub 3 aM aM iA (aNl 1)) w fun f3 w =>
 kn cB b2 iA b6 f3 w
theorem ZT (kn : K5) (hn : N5 Q kn 1 2 5 6 8) (h : KU kn (g 1) (g 2) (g 5) (g 6) w) : bD pg bE (aF 1 (aB 1 (aB 5 bA))) Q g w :=
 eP (kr := no) (l := []) h hn gS trivial
def Lc (R : K1) (cB b2 iA b6 : aNk) (w : aNj) : Prop :=
 KU (fun cB b2 iA b6 b8 w => Lh R cB b2 iA b6 b8 w) cB b2 iA b6 w
def CP (kn : K5) (k0 : K4) (cB b2 iA b6 PE : aNk) (w : aNj) : Prop :=
 aD pg (aI .lss 3 aM aM PE iA) w fun e3 w =>
 gX e3
  (aD pg (aJ 138 b6 1) w fun e6 w =>
  aD pg (aL 136 e6) w fun e7 w =>
  aD pg (fV 145 [(0, (aNl (-1)))]) w fun e8 w =>
  aD pg (cT 136 1 [(0, e8)]) w fun e9 w =>
  aD pg (lO .append #[136, 136] 136 [e7, e9]) w fun f0 w =>
  aD pg (aJ 138 b6 1) w fun f1 w =>
  aD pg (aR 136 f1 f0) w fun _u w =>
  aD pg (aI .add 3 aM aM PE (aNl 1)) w fun e5 w =>
  kn cB b2 iA b6 e5 w)
  (k0 cB b2 iA b6 w)
theorem abJ (kn : K5) (k0 : K4) (hn : N5 Q kn 1 2 5 6 7) (h0 : E4 Q k0 0 1 2 5 6) (h : CP kn k0 (g 1) (g 2) (g 5) (g 6) (g 7) w) : bD pg bE (bI (bI (aB 1 (aF 1 (aB 5 bA))))) Q g w :=
 eP (kr := no) (l := [(0, fun g w => k0 (g 1) (g 2) (g 5) (g 6) w)]) h hn gS ⟨h0, trivial⟩
def C4 (k0 : K4) (cB b2 iA b6 PE : aNk) (w : aNj) : Prop :=
 cU (fun (X : aNk -> K0) (t : aNk) (w : aNj) => CP (fun _ _ _ _ PE w => X PE w) k0 cB b2 iA b6 t w) PE w
theorem aaD (k0 : K4) (h0 : E4 Q k0 0 1 2 5 6) (h : C4 k0 (g 1) (g 2) (g 5) (g 6) (g 7) w) : bD pg bE (bI (aB 1 (aF 1 (aB 5 bA)))) Q g w := by
 refine Dt (fun g : Env => g 7) (fun X t w => CP (fun _ _ _ _ PE w => X PE w) k0 (g 1) (g 2) (g 5) (g 6) t w) h (fun X g1 w1 ha hL => ?_)
 rw [<- jX 1 ha, <- jX 2 ha, <- jX 5 ha, <- jX 6 ha] at hL
 exact (abJ _ g1 w1 (fun _ _ _ _ PE w => X PE w) k0 (fun _ _ h => h) h0 hL)
def Lu (kn : K4) (cB b2 iA b6 PE : aNk) (w : aNj) : Prop :=
 C4 kn cB b2 iA b6 PE w
def Lk (kn : K5) (cB b2 iA b6 : aNk) (w : aNj) : Prop :=
 kn cB b2 iA b6 (aNl 0) w
theorem aaJ (kn : K5) (hn : N5 Q kn 1 2 5 6 7) (h : Lk kn (g 1) (g 2) (g 5) (g 6) w) : bD pg bE (aF 1 (aF 1 (aB 5 bA))) Q g w :=
 eP (kr := no) (l := []) h hn gS trivial
def La (kn : K4) (cB b2 iA b6 : aNk) (w : aNj) : Prop :=
 Lk (fun cB b2 iA b6 PE w => Lu kn cB b2 iA b6 PE w) cB b2 iA b6 w
def Ki (R : K1) (cB b2 iA b6 : aNk) (w : aNj) : Prop :=
 La (fun cB b2 iA b6 w => Lc R cB b2 iA b6 w) cB b2 iA b6 w
theorem Zv (kn : K4) (hn : N4 Q kn 1 2 5 6) (h : La kn (g 1) (g 2) (g 5) (g 6) w) : bD pg bE (aF 1 (aB 5 bA)) Q g w :=
 jE 1 (aaJ _ g w (Lu kn) (fun g w h => aK (wT 0 (aaD _ g w kn hn h))) h)
def Kv (kn : K4) (R : K1) (LP : aNk) (w : aNj) : Prop :=
 aD pg (BG 128 LP) w fun cB w =>
 aD pg (fP 138) w fun b2 w =>
 aD pg (aL 128 cB) w fun d0 w =>
 aS pg IS #[d0, (aNl 15)] w fun d1 w =>
 aD pg (aI .neq 27 (.tmp 22) (.const (aNl 0)) d1 (aNl 0)) w fun d3 w =>
 gX d3
  (aD pg (fV 138 []) w fun d4 w =>
  aD pg (aR 138 b2 d4) w fun _u w =>
  zN pg 138 b2 w fun r0 => R (.tuple #[r0, (aNl 1)]) w)
  (aD pg (aJ 128 cB 0) w fun d5 w =>
  aD pg (aL 3 d5) w fun d6 w =>
  aS pg nU #[d6] w fun d7 w =>
  aD pg (aJ 128 cB 0) w fun d8 w =>
  aD pg (aL 3 d8) w fun d9 w =>
  aD pg (fV 138 [(0, d9)]) w fun e0 w =>
  aD pg (fP 138) w fun b6 w =>
  aD pg (aR 138 b6 e0) w fun _u w =>
  kn cB b2 d7 b6 w)
theorem abX (kn : K4) (R : K1) (hn : N4 Q kn 1 2 5 6) (hr : HR rC R Q) (h : Kv kn R (g 0) w) : bD pg bE (aF 5 bA) Q g w :=
 eP (l := []) h hn hr trivial
def Lv (R : K1) (LP : aNk) (w : aNj) : Prop :=
 Kv (fun cB b2 iA b6 w => Ki R cB b2 iA b6 w) R LP w
theorem Z8 (R : K1) (hr : HR rC R Q) (h : Lv R (g 0) w) : bD pg bE bA Q g w :=
 jE 5 (abX _ g w (Ki R) R (fun g w h => aK (jE 1 (Zv _ g w (Lc R) (fun g w h => aK (jE 1 (ZT _ g w (Lh R) (fun g w h => aK (jE 1 (adF _ g w (KO R) (fun g w h => aK (jE 1 (abW _ g w (JF R) (fun g w h => aK (jE 1 (acV _ g w (CN R) (fun g w h => aK (jE 1 (aaC _ g w (KA R) (fun g w h => aK (jE 1 (acP _ g w (GS R) R (fun g w h => aK (akM _ g w R hr h)) hr h))) h))) h))) h))) h))) h))) h))) hr h)
def arW (a0 : aNk) (w : aNj) (R : K1) : Prop :=
 Lv R a0 w
theorem amZ {a0 : aNk} {w : aNj} {R : K1} (h : arW a0 w R) : aS pg IL #[a0] w R := by
 refine uE (ann := bE) Tryz.f70 bA [a0] rC 185 TryzM.mixed Tryz.func70 ?_
 exact (Z8 _ _ _ R (fun _ _ h => h) h)
def T8 : FA := ⟨Cx, fun i => .leaf ([], []) []⟩
def WL : List ResultVar := [.cell 4 133, .tmp 5]
noncomputable def SC : Code := dE Tryz.f71
def M8 (R : K1) (b0 b_1 : aNk) (w : aNj) : Prop :=
 aD pg (BG 138 b0) w fun b2 w =>
 aD pg (BG 133 b_1) w fun Cn w =>
 aD pg (fP 133) w fun b4 w =>
 aD pg (aL 133 Cn) w fun b8 w =>
 aD pg (aJ 138 b2 0) w fun b9 w =>
 aD pg (aL 3 b9) w fun c0 w =>
 aS pg zG #[b8, c0] w fun c1 w =>
 aD pg (bQ c1 0) w fun c2 w =>
 aD pg (bQ c1 1) w fun c3 w =>
 aD pg (aR 133 Cn c2) w fun _u w =>
 aD pg (aL 133 Cn) w fun c4 w =>
 aD pg (jO 24 3 c3) w fun c6 w =>
 aD pg (aR 133 b4 c4) w fun _u w =>
 zN pg 133 b4 w fun r0 => R (.tuple #[r0, c6]) w
theorem aeM (R : K1) (hr : HR WL R Q) (h : M8 R (g 0) (g 1) w) : bD pg T8 SC Q g w :=
 eP (kn := no) (l := []) h gS hr trivial
def arX (a0 a1 : aNk) (w : aNj) (R : K1) : Prop :=
 M8 R a0 a1 w
theorem anR {a0 a1 : aNk} {w : aNj} {R : K1} (h : arX a0 a1 w R) : aS pg Cx #[a0, a1] w R := by
 refine uE (ann := T8) Tryz.f71 SC [a0, a1] WL 17 TryzM.mixed Tryz.func71 ?_
 exact (aeM _ _ _ R (fun _ _ h => h) h)
def Ww : FA := ⟨BQ, fun i => .leaf ([], []) []⟩
def Zg : List ResultVar := [.tmp 2]
noncomputable def Uk : Code := dE Tryz.f72
def Qy (R : K1) (fO : aNk) (w : aNj) : Prop :=
 aD pg (BG 133 fO) w fun b_1 w =>
 aD pg (aJ 133 b_1 0) w fun b3 w =>
 aD pg (aL 131 b3) w fun b4 w =>
 aD pg (lO .len #[131] 3 [b4]) w fun b5 w =>
 aD pg (aJ 133 b_1 1) w fun b6 w =>
 aD pg (aL 3 b6) w fun b7 w =>
 aD pg (aI .sub 3 aM aM b5 b7) w fun b8 w =>
 R b8 w
theorem apT (R : K1) (hr : HR Zg R Q) (h : Qy R (g 0) w) : bD pg Ww Uk Q g w :=
 eP (kn := no) (l := []) h gS hr trivial
def avH (a0 : aNk) (w : aNj) (R : K1) : Prop :=
 Qy R a0 w
theorem atP {a0 : aNk} {w : aNj} {R : K1} (h : avH a0 w R) : aS pg BQ #[a0] w R := by
 refine uE (ann := Ww) Tryz.f72 Uk [a0] Zg 9 TryzM.mixed Tryz.func72 ?_
 exact (apT _ _ _ R (fun _ _ h => h) h)
def VX : FA := ⟨L6, fun i => match Nat.beq i 3 with | true => .leaf ([7, 11], [(10, 11)]) [(false, []), (false, []), (false, []), (false, []), (false, []), (false, []), (false, []), (true, []), (false, []), (false, []), (false, []), (true, [0]), (false, [])] | false => match Nat.beq i 4 with | true => .leaf ([10], [(1, 10), (2, 10), (4, 10), (5, 10), (6, 10), (8, 10), (9, 10)]) [(false, []), (false, []), (false, []), (false, []), (false, []), (false, []), (false, []), (false, []), (false, []), (false, []), (true, [0, 1, 3, 4, 5, 7, 8]), (false, [])] | false => .leaf ([], []) []⟩
def Zf : List ResultVar := [.cell 6 133, .tmp 7]
noncomputable def Ua : Code := dE Tryz.f73
def QP (R : K1) (b0 Mk Jp : aNk) (w : aNj) : Prop :=
 aD pg (BG 138 b0) w fun b3 w =>
 aD pg (BG 133 Jp) w fun Y0 w =>
 aD pg (fP 133) w fun b6 w =>
 aD pg (aI .lss 3 aM aM Mk (aNl 0)) w fun c0 w =>
 Gd (iM c0 false) (fun K => K Mk w) w fun c2 w =>
 Gd (iM c0 false) (fun K => aD pg (aJ 138 b3 1) w K) w fun c3 w =>
 Gd (iM c0 false) (fun K => aD pg (aL 136 c3) w K) w fun c4 w =>
 Gd (iM c0 false) (fun K => aD pg (lO .len #[136] 3 [c4]) w K) w fun c5 w =>
 Gd (iM c0 false) (fun K => aD pg (aI .geq 3 aM aM c2 c5) w K) w fun c6 w =>
 aD pg (jR c0 (.bool true) c6) w fun c7 w =>
 gX c7
  (aD pg (aL 133 Y0) w fun c8 w =>
  aD pg (aR 133 b6 c8) w fun _u w =>
  zN pg 133 b6 w fun r0 => R (.tuple #[r0, (aNl 0)]) w)
  (aD pg (aL 133 Y0) (dr w) fun d0 w_ => w_ = (dr w) /\
  aD pg (aJ 138 b3 1) (dr w) fun d1 w_ => w_ = (dr w) /\
  aD pg (aL 136 d1) (dr w) fun d2 w_ => w_ = (dr w) /\
  (dr w) = (dr w) /\
  aD pg (cI 136 d2 Mk) (dr w) fun d4 w_ => w_ = (dr w) /\
  aD pg (aJ 145 d4 1) (dr w) fun d5 w_ => w_ = (dr w) /\
  aD pg (aL 3 d5) (dr w) fun d6 w_ => w_ = (dr w) /\
  aS pg zG #[d0, d6] (dr w) fun d7 aD8 =>
  aD8 = aD8 /\
  aD pg (bQ d7 0) aD8 fun d8 w_ => w_ = aD8 /\
  aD pg (bQ d7 1) aD8 fun d9 w_ => w_ = aD8 /\
  aD pg (aR 133 Y0 d8) aD8 fun _u11 AQ =>
  (jF pg (bQ d7 1) d9 AQ /\ True) /\
  AQ = AQ /\
  aD pg (aL 133 Y0) (dr AQ) fun e0 w_ => w_ = (dr AQ) /\
  aD pg (aJ 138 b3 1) (dr AQ) fun e1 w_ => w_ = (dr AQ) /\
  aD pg (aL 136 e1) (dr AQ) fun e2 w_ => w_ = (dr AQ) /\
  (dr AQ) = (dr AQ) /\
  aD pg (cI 136 e2 Mk) (dr AQ) fun e4 w_ => w_ = (dr AQ) /\
  aD pg (aJ 145 e4 2) (dr AQ) fun e5 w_ => w_ = (dr AQ) /\
  aD pg (aL 3 e5) (dr AQ) fun e6 w_ => w_ = (dr AQ) /\
  (dr AQ) = (dr AQ) /\
  aD pg (jO 24 3 d9) (dr AQ) fun e8 w_ => w_ = (dr AQ) /\
  aD pg (aI .add 3 aM aM e6 e8) (dr AQ) fun e9 w_ => w_ = (dr AQ) /\
  aD pg (aR 133 b6 e0) (dr AQ) fun _u10 VG =>
  (jF pg (aI .add 3 aM aM e6 e8) e9 VG /\ jF pg (jO 24 3 d9) e8 VG /\ jF pg (aL 3 e5) e6 VG /\ jF pg (aJ 145 e4 2) e5 VG /\ jF pg (cI 136 e2 Mk) e4 VG /\ jF pg (aL 136 e1) e2 VG /\ jF pg (aJ 138 b3 1) e1 VG /\ True) /\
  VG = VG /\
  zN pg 133 b6 VG fun r0 => R (.tuple #[r0, e9]) VG)
theorem anT (R : K1) (hr : HR Zf R Q) (h : QP R (g 0) (g 1) (g 2) w) : bD pg VX Ua Q g w :=
 eP (kn := no) (l := []) h gS hr trivial
def ayI (a0 a1 a2 : aNk) (w : aNj) (R : K1) : Prop :=
 QP R a0 a1 a2 w
theorem atG {a0 a1 a2 : aNk} {w : aNj} {R : K1} (h : ayI a0 a1 a2 w R) : aS pg L6 #[a0, a1, a2] w R := by
 refine uE (ann := VX) Tryz.f73 Ua [a0, a1, a2] Zf 40 TryzM.mixed Tryz.func73 ?_
 exact (anT _ _ _ R (fun _ _ h => h) h)
def mY : FA := ⟨P0, fun i => .leaf ([], []) []⟩
def tS : List ResultVar := [.cell 4 133, .tmp 5]
noncomputable def mH : Code := dE Tryz.f74
def TW (R : K1) (Cn b4 : aNk) (w : aNj) : Prop :=
 aD pg (aL 133 Cn) w fun i1 w =>
 aD pg (aR 133 b4 i1) w fun _u w =>
 zN pg 133 b4 w fun r0 => R (.tuple #[r0, (.int .u8 0)]) w
theorem asJ (R : K1) (hr : HR tS R Q) (h : TW R (g 3) (g 4) w) : bD pg mY (aB 1 (aB 2 mH)) Q g w :=
 eP (kn := no) (l := []) h gS hr trivial
def Ms (kn : K5) (cQ Cn b4 jU lJ : aNk) (w : aNj) : Prop :=
 aD pg (aI .add 3 aM aM lJ (aNl 1)) w fun c4 w =>
 kn cQ Cn b4 jU c4 w
theorem atE (kn : K5) (hn : N5 Q kn 0 3 4 6 7) (h : Ms kn (g 0) (g 3) (g 4) (g 6) (g 7) w) : bD pg mY (aB 1 (aB 1 (bI (bI (aB 1 (aF 1 (aB 2 mH))))))) Q g w :=
 eP (kr := no) (l := []) h hn gS trivial
def Mr (kn : K6) (k2 : K5) (R : K1) (cQ Cn b4 jU lJ mR : aNk) (w : aNj) : Prop :=
 aD pg (lO .len #[84] 3 [cQ]) w fun d8 w =>
 aD pg (aI .lss 3 aM aM mR d8) w fun d9 w =>
 gX d9
  (aD pg (cI 84 cQ mR) w fun e4 w =>
  aD pg (aJ 148 e4 0) w fun e5 w =>
  aD pg (aL 3 e5) w fun e6 w =>
  aD pg (aI .eql 3 (.tmp 36) (.tmp 37) e6 lJ) w fun e8 w =>
  Gd (iM e8 true) (fun K => K cQ w) w fun f0 w =>
  Gd (iM e8 true) (fun K => K mR w) w fun f1 w =>
  Gd (iM e8 true) (fun K => aD pg (cI 84 f0 f1) w K) w fun f2 w =>
  Gd (iM e8 true) (fun K => aD pg (aJ 148 f2 1) w K) w fun f3 w =>
  Gd (iM e8 true) (fun K => aD pg (aL 3 f3) w K) w fun f4 w =>
  Gd (iM e8 true) (fun K => K jU w) w fun f5 w =>
  Gd (iM e8 true) (fun K => aD pg (aI .eql 3 (.tmp 44) (.tmp 45) f4 f5) w K) w fun f6 w =>
  aD pg (jR e8 f6 (.bool false)) w fun f7 w =>
  gX f7
   (aD pg (aL 133 Cn) w fun f8 w =>
   aD pg (jO 3 5 mR) w fun i0 w =>
   aD pg (aR 133 b4 f8) w fun _u w =>
   zN pg 133 b4 w fun r0 => R (.tuple #[r0, i0]) w)
   (aD pg (aI .add 3 aM aM mR (aNl 1)) w fun e1 w =>
   kn cQ Cn b4 jU lJ e1 w))
  (k2 cQ Cn b4 jU lJ w)
theorem atJ (kn : K6) (k2 : K5) (R : K1) (hn : N6 Q kn 0 3 4 6 7 10) (h2 : E5 Q k2 2 0 3 4 6 7) (hr : HR tS R Q) (h : Mr kn k2 R (g 0) (g 3) (g 4) (g 6) (g 7) (g 10) w) : bD pg mY (bI (bI (aB 4 (bI (aF 1 (aB 1 (bI (bI (aB 1 (aF 1 (aB 2 mH))))))))))) Q g w :=
 eP (l := [(2, fun g w => k2 (g 0) (g 3) (g 4) (g 6) (g 7) w)]) h hn hr ⟨h2, trivial⟩
def Ti (k2 : K5) (R : K1) (cQ Cn b4 jU lJ mR : aNk) (w : aNj) : Prop :=
 cU (fun (X : aNk -> K0) (t : aNk) (w : aNj) => Mr (fun _ _ _ _ _ mR w => X mR w) k2 R cQ Cn b4 jU lJ t w) mR w
theorem atW (k2 : K5) (R : K1) (h2 : E5 Q k2 2 0 3 4 6 7) (hr : HR tS R Q) (h : Ti k2 R (g 0) (g 3) (g 4) (g 6) (g 7) (g 10) w) : bD pg mY (bI (aB 4 (bI (aF 1 (aB 1 (bI (bI (aB 1 (aF 1 (aB 2 mH)))))))))) Q g w := by
 refine Dt (fun g : Env => g 10) (fun X t w => Mr (fun _ _ _ _ _ mR w => X mR w) k2 R (g 0) (g 3) (g 4) (g 6) (g 7) t w) h (fun X g1 w1 ha hL => ?_)
 rw [<- jX 0 ha, <- jX 3 ha, <- jX 4 ha, <- jX 6 ha, <- jX 7 ha] at hL
 exact (atJ _ g1 w1 (fun _ _ _ _ _ mR w => X mR w) k2 R (fun _ _ h => h) h2 hr hL)
def Tp (kn : K5) (R : K1) (cQ Cn b4 jU lJ mR : aNk) (w : aNj) : Prop :=
 Ti kn R cQ Cn b4 jU lJ mR w
def TL (kn : K6) (cQ Cn b4 jU lJ : aNk) (w : aNj) : Prop :=
 aD pg (aL 133 Cn) w fun c6 w =>
 aS pg zG #[c6, (aNl 1)] w fun c7 w =>
 aD pg (bQ c7 0) w fun c8 w =>
 aD pg (bQ c7 1) w fun c9 w =>
 aD pg (fP 133) w fun v_8 w =>
 aD pg (aR 133 v_8 c8) w fun _u w =>
 aD pg (aL 133 v_8) w fun d0 w =>
 aD pg (aR 133 Cn d0) w fun _u w =>
 aD pg (aI .mul 3 aM aM jU (aNl 2)) w fun d2 w =>
 aD pg (jO 24 3 c9) w fun d4 w =>
 aD pg (aI .add 3 aM aM d2 d4) w fun d5 w =>
 kn cQ Cn b4 d5 lJ (aNl 0) w
theorem asY (kn : K6) (hn : N6 Q kn 0 3 4 6 7 10) (h : TL kn (g 0) (g 3) (g 4) (g 6) (g 7) w) : bD pg mY (aF 4 (bI (aF 1 (aB 1 (bI (bI (aB 1 (aF 1 (aB 2 mH))))))))) Q g w :=
 eP (kr := no) (l := []) h hn gS trivial
def ajH (kn : K5) (R : K1) (cQ Cn b4 jU lJ : aNk) (w : aNj) : Prop :=
 TL (fun cQ Cn b4 jU lJ mR w => Tp kn R cQ Cn b4 jU lJ mR w) cQ Cn b4 jU lJ w
def Te (kn : K5) (R : K1) (cQ Cn b4 jU lJ : aNk) (w : aNj) : Prop :=
 ajH kn R cQ Cn b4 jU lJ w
def TA (kn : K5) (R : K1) (cQ Cn b4 jU lJ : aNk) (w : aNj) : Prop :=
 Te (fun cQ Cn b4 jU lJ w => Ms kn cQ Cn b4 jU lJ w) R cQ Cn b4 jU lJ w
theorem asU (kn : K5) (R : K1) (hn : N5 Q kn 0 3 4 6 7) (hr : HR tS R Q) (h : Te kn R (g 0) (g 3) (g 4) (g 6) (g 7) w) : bD pg mY (aF 1 (aB 1 (bI (bI (aB 1 (aF 1 (aB 2 mH))))))) Q g w :=
 wT 1 (jE 4 (asY _ g w (Tp kn R) (fun g w h => aK (wT 2 (atW _ g w kn R hn hr h))) h))
def Rr (kn : K5) (k0 : K2) (cQ Cn b4 jU lJ : aNk) (w : aNj) : Prop :=
 aD pg (aI .leq 3 aM aM lJ (aNl 11)) w fun c2 w =>
 gX c2
  (kn cQ Cn b4 jU lJ w)
  (k0 Cn b4 w)
theorem amA (kn : K5) (k0 : K2) (hn : N5 Q kn 0 3 4 6 7) (h0 : E2 Q k0 0 3 4) (h : Rr kn k0 (g 0) (g 3) (g 4) (g 6) (g 7) w) : bD pg mY (aF 1 (bI (bI (aB 1 (aF 1 (aB 2 mH)))))) Q g w :=
 eP (kr := no) (l := [(0, fun g w => k0 (g 3) (g 4) w)]) h hn gS ⟨h0, trivial⟩
def IY (kn : K5) (k0 : K2) (R : K1) (cQ Cn b4 jU lJ : aNk) (w : aNj) : Prop :=
 Rr (fun cQ Cn b4 jU lJ w => TA kn R cQ Cn b4 jU lJ w) k0 cQ Cn b4 jU lJ w
def Q9 (k0 : K2) (R : K1) (cQ Cn b4 jU lJ : aNk) (w : aNj) : Prop :=
 cU (fun (X : (aNk × aNk) -> K0) (t : aNk × aNk) (w : aNj) => IY (fun _ _ _ jU lJ w => X (jU, lJ) w) k0 R cQ Cn b4 t.1 t.2 w) (jU, lJ) w
theorem apI (kn : K5) (k0 : K2) (R : K1) (hn : N5 Q kn 0 3 4 6 7) (h0 : E2 Q k0 0 3 4) (hr : HR tS R Q) (h : IY kn k0 R (g 0) (g 3) (g 4) (g 6) (g 7) w) : bD pg mY (bI (bI (aB 1 (aF 1 (aB 2 mH))))) Q g w :=
 jE 1 (amA _ g w (TA kn R) k0 (fun g w h => aK (jE 1 (asU _ g w (Ms kn) R (fun g w h => aK (atE _ g w kn hn h)) hr h))) h0 h)
theorem alR (k0 : K2) (R : K1) (h0 : E2 Q k0 0 3 4) (hr : HR tS R Q) (h : Q9 k0 R (g 0) (g 3) (g 4) (g 6) (g 7) w) : bD pg mY (bI (aB 1 (aF 1 (aB 2 mH)))) Q g w := by
 refine Dt (fun g : Env => (g 6, g 7)) (fun X t w => IY (fun _ _ _ jU lJ w => X (jU, lJ) w) k0 R (g 0) (g 3) (g 4) t.1 t.2 w) h (fun X g1 w1 ha hL => ?_)
 rw [<- jX 0 ha, <- jX 3 ha, <- jX 4 ha] at hL
 exact (apI _ g1 w1 (fun _ _ _ jU lJ w => X (jU, lJ) w) k0 R (fun _ _ h => h) h0 hr hL)
def Q7 (kn : K2) (R : K1) (cQ Cn b4 jU lJ : aNk) (w : aNj) : Prop :=
 Q9 kn R cQ Cn b4 jU lJ w
def Rb (kn : K5) (cQ Cn b4 jU : aNk) (w : aNj) : Prop :=
 kn cQ Cn b4 jU (aNl 1) w
theorem aoK (kn : K5) (hn : N5 Q kn 0 3 4 6 7) (h : Rb kn (g 0) (g 3) (g 4) (g 6) w) : bD pg mY (aF 1 (aF 1 (aB 2 mH))) Q g w :=
 eP (kr := no) (l := []) h hn gS trivial
def QT (kn : K2) (R : K1) (cQ Cn b4 jU : aNk) (w : aNj) : Prop :=
 Rb (fun cQ Cn b4 jU lJ w => Q7 kn R cQ Cn b4 jU lJ w) cQ Cn b4 jU w
def RS (R : K1) (cQ Cn b4 jU : aNk) (w : aNj) : Prop :=
 QT (fun Cn b4 w => TW R Cn b4 w) R cQ Cn b4 jU w
theorem aoQ (kn : K2) (R : K1) (hn : N2 Q kn 3 4) (hr : HR tS R Q) (h : QT kn R (g 0) (g 3) (g 4) (g 6) w) : bD pg mY (aF 1 (aB 2 mH)) Q g w :=
 jE 1 (aoK _ g w (Q7 kn R) (fun g w h => aK (wT 0 (alR _ g w kn R hn hr h))) h)
def Rk (kn : K4) (cQ b_1 : aNk) (w : aNj) : Prop :=
 aD pg (BG 133 b_1) w fun Cn w =>
 aD pg (fP 133) w fun b4 w =>
 kn cQ Cn b4 (aNl 0) w
theorem amT (kn : K4) (hn : N4 Q kn 0 3 4 6) (h : Rk kn (g 0) (g 1) w) : bD pg mY (aF 2 mH) Q g w :=
 eP (kr := no) (l := []) h hn gS trivial
def QB (R : K1) (cQ b_1 : aNk) (w : aNj) : Prop :=
 Rk (fun cQ Cn b4 jU w => RS R cQ Cn b4 jU w) cQ b_1 w
theorem anO (R : K1) (hr : HR tS R Q) (h : QB R (g 0) (g 1) w) : bD pg mY mH Q g w :=
 jE 2 (amT _ g w (RS R) (fun g w h => aK (jE 1 (aoQ _ g w (TW R) R (fun g w h => aK (asJ _ g w R hr h)) hr h))) h)
def aAv (a0 a1 : aNk) (w : aNj) (R : K1) : Prop :=
 QB R a0 a1 w
theorem avI {a0 a1 : aNk} {w : aNj} {R : K1} (h : aAv a0 a1 w R) : aS pg P0 #[a0, a1] w R := by
 refine uE (ann := mY) Tryz.f74 mH [a0, a1] tS 52 TryzM.mixed Tryz.func74 ?_
 exact (anO _ _ _ R (fun _ _ h => h) h)
def mO : FA := ⟨AH, fun i => .leaf ([], []) []⟩
def DK : List ResultVar := [.tmp 2]
noncomputable def mD : Code := dE Tryz.f75
def yT (R : K1) (Zc : aNk) (w : aNj) : Prop :=
 R Zc w
theorem U5 (R : K1) (hr : HR DK R Q) (h : yT R (g 3) w) : bD pg mO (aB 1 (aB 1 (aB 2 mD))) Q g w :=
 eP (kn := no) (l := []) h gS hr trivial
def yZ (kn : K3) (k0 : K1) (oH Zc lC : aNk) (w : aNj) : Prop :=
 aD pg (lO .len #[22] 3 [oH]) w fun c4 w =>
 aD pg (aI .lss 3 aM aM lC c4) w fun c5 w =>
 gX c5
  (aD pg (cI 22 oH lC) w fun d1 w =>
  aD pg (aL 5 d1) w fun d2 w =>
  aD pg (lO .max #[5, 5] 5 [Zc, d2]) w fun d3 w =>
  aD pg (aI .add 3 aM aM lC (aNl 1)) w fun c7 w =>
  kn oH d3 c7 w)
  (k0 Zc w)
theorem UG (kn : K3) (k0 : K1) (hn : N3 Q kn 0 3 4) (h0 : E1 Q k0 0 3) (h : yZ kn k0 (g 0) (g 3) (g 4) w) : bD pg mO (bI (bI (aB 1 (aF 1 (aB 1 (aB 2 mD)))))) Q g w :=
 eP (kr := no) (l := [(0, fun g w => k0 (g 3) w)]) h hn gS ⟨h0, trivial⟩
def DG (k0 : K1) (oH Zc lC : aNk) (w : aNj) : Prop :=
 cU (fun (X : (aNk × aNk) -> K0) (t : aNk × aNk) (w : aNj) => yZ (fun _ Zc lC w => X (Zc, lC) w) k0 oH t.1 t.2 w) (Zc, lC) w
theorem Va (k0 : K1) (h0 : E1 Q k0 0 3) (h : DG k0 (g 0) (g 3) (g 4) w) : bD pg mO (bI (aB 1 (aF 1 (aB 1 (aB 2 mD))))) Q g w := by
 refine Dt (fun g : Env => (g 3, g 4)) (fun X t w => yZ (fun _ Zc lC w => X (Zc, lC) w) k0 (g 0) t.1 t.2 w) h (fun X g1 w1 ha hL => ?_)
 rw [<- jX 0 ha] at hL
 exact (UG _ g1 w1 (fun _ Zc lC w => X (Zc, lC) w) k0 (fun _ _ h => h) h0 hL)
def DO (kn : K1) (oH Zc lC : aNk) (w : aNj) : Prop :=
 DG kn oH Zc lC w
def DY (kn : K3) (oH Zc : aNk) (w : aNj) : Prop :=
 kn oH Zc (aNl 1) w
theorem UZ (kn : K3) (hn : N3 Q kn 0 3 4) (h : DY kn (g 0) (g 3) w) : bD pg mO (aF 1 (aF 1 (aB 1 (aB 2 mD)))) Q g w :=
 eP (kr := no) (l := []) h hn gS trivial
def DW (kn : K1) (oH Zc : aNk) (w : aNj) : Prop :=
 DY (fun oH Zc lC w => DO kn oH Zc lC w) oH Zc w
def Ea (R : K1) (oH Zc : aNk) (w : aNj) : Prop :=
 DW (fun Zc w => yT R Zc w) oH Zc w
theorem UY (kn : K1) (hn : N1 Q kn 3) (h : DW kn (g 0) (g 3) w) : bD pg mO (aF 1 (aB 1 (aB 2 mD))) Q g w :=
 jE 1 (UZ _ g w (DO kn) (fun g w h => aK (wT 0 (Va _ g w kn hn h))) h)
def Dx (kn : K2) (oH : aNk) (w : aNj) : Prop :=
 aD pg (cI 22 oH (aNl 0)) w fun c0 w =>
 aD pg (aL 5 c0) w fun c1 w =>
 kn oH c1 w
theorem UW (kn : K2) (hn : N2 Q kn 0 3) (h : Dx kn (g 0) w) : bD pg mO (aF 1 (aB 2 mD)) Q g w :=
 eP (kr := no) (l := []) h hn gS trivial
def DN (R : K1) (oH : aNk) (w : aNj) : Prop :=
 Dx (fun oH Zc w => Ea R oH Zc w) oH w
def Cf (kn : K1) (oH : aNk) (w : aNj) : Prop :=
 aD pg (lO .len #[22] 3 [oH]) w fun b6 w =>
 aD pg (aI .lss 3 aM aM b6 (aNl 1)) w fun b7 w =>
 gX b7
  (aD pg (aDu 9 (.string ⟨#[115, 108, 105, 99, 101, 115, 46, 77, 97, 120, 58, 32, 101, 109, 112, 116, 121, 32, 108, 105, 115, 116]⟩)) w fun b8 w =>
  aD pg (V (Instr.panic b8)) w fun _u w =>
  kn oH w)
  (kn oH w)
theorem TG (kn : K1) (hn : N1 Q kn 0) (h : Cf kn (g 0) w) : bD pg mO (aF 2 mD) Q g w :=
 eP (kr := no) (l := []) h hn gS trivial
def Ch (R : K1) (oH : aNk) (w : aNj) : Prop :=
 Cf (fun oH w => DN R oH w) oH w
theorem Tx (R : K1) (hr : HR DK R Q) (h : Ch R (g 0) w) : bD pg mO mD Q g w :=
 jE 2 (TG _ g w (DN R) (fun g w h => aK (jE 1 (UW _ g w (Ea R) (fun g w h => aK (jE 1 (UY _ g w (yT R) (fun g w h => aK (U5 _ g w R hr h)) h))) h))) h)
def T4 (a0 : aNk) (w : aNj) (R : K1) : Prop :=
 Ch R a0 w
theorem VR {a0 : aNk} {w : aNj} {R : K1} (h : T4 a0 w R) : aS pg AH #[a0] w R := by
 refine uE (ann := mO) Tryz.f75 mD [a0] DK 25 TryzM.mixed Tryz.func75 ?_
 exact (Tx _ _ _ R (fun _ _ h => h) h)
def iW : FA := ⟨tI, fun i => .leaf ([], []) []⟩
def B7 : List ResultVar := [.tmp 2, .tmp 3]
noncomputable def iD : Code := dE Tryz.f76
def BX (R : K1) (aT : aNk) (w : aNj) : Prop :=
 R (.tuple #[aT, (aNl 0)]) w
theorem YL (R : K1) (hr : HR B7 R Q) (h : BX R (g 5) w) : bD pg iW (aB 1 (aB 5 iD)) Q g w :=
 eP (kn := no) (l := []) h gS hr trivial
def BI (kn : K5) (cR mA aT oQ Ev : aNk) (w : aNj) : Prop :=
 aD pg (aI .add 3 aM aM Ev (aNl 1)) w fun d0 w =>
 kn cR mA aT oQ d0 w
theorem XI (kn : K5) (hn : N5 Q kn 0 4 5 6 7) (h : BI kn (g 0) (g 4) (g 5) (g 6) (g 7) w) : bD pg iW (aB 1 (aB 1 (bI (bI (aB 1 (aF 1 (aB 5 iD))))))) Q g w :=
 eP (kr := no) (l := []) h hn gS trivial
def BN (kn : K7) (cR mA aT oQ Ev d2 d3 : aNk) (w : aNj) : Prop :=
 aD pg (aI .add 3 aM aM d3 (aNl 1)) w fun i0 w =>
 kn cR mA aT oQ Ev d2 i0 w
theorem Yc (kn : K7) (hn : N7 Q kn 0 4 5 6 7 22 23) (h : BN kn (g 0) (g 4) (g 5) (g 6) (g 7) (g 22) (g 23) w) : bD pg iW (aB 3 (bI (bI (aB 1 (bI (aF 1 (aB 1 (bI (bI (aB 1 (aF 1 (aB 5 iD)))))))))))) Q g w :=
 eP (kr := no) (l := []) h hn gS trivial
def Ht (kn : K7) (k2 : K5) (cR mA aT oQ Ev d2 d3 : aNk) (w : aNj) : Prop :=
 aD pg (aI .lss 3 aM aM d3 d2) w fun d4 w =>
 gX d4
  (aD pg (cI 22 cR d3) w fun d8 w =>
  aD pg (aL 5 d8) w fun d9 w =>
  aD pg (jO 5 3 d9) w fun e0 w =>
  aD pg (aI .neq 3 (.tmp 30) (.tmp 31) e0 Ev) w fun e2 w =>
  gX e2
   (kn cR mA aT oQ Ev d2 d3 w)
   (aD pg (aI .add 3 aM aM mA (aNl 1)) w fun e6 w =>
   aD pg (aI .sub 3 aM aM e6 Ev) w fun e8 w =>
   aD pg (aI .sub 3 aM aM Ev (aNl 1)) w fun f1 w =>
   aD pg (aI .shr 3 aM aM oQ f1) w fun f2 w =>
   aD pg (fV 171 [(0, e8), (1, f2)]) w fun f3 w =>
   aD pg (cI 152 aT d3) w fun f4 w =>
   aD pg (aR 171 f4 f3) w fun _u w =>
   aD pg (aI .sub 3 aM aM Ev (aNl 1)) w fun f7 w =>
   aD pg (aI .shl 3 aM aM (aNl 1) f7) w fun f8 w =>
   aD pg (aI .add 3 aM aM oQ f8) w fun f9 w =>
   kn cR mA aT f9 Ev d2 d3 w))
  (k2 cR mA aT oQ Ev w)
theorem XD (kn : K7) (k2 : K5) (hn : N7 Q kn 0 4 5 6 7 22 23) (h2 : E5 Q k2 2 0 4 5 6 7) (h : Ht kn k2 (g 0) (g 4) (g 5) (g 6) (g 7) (g 22) (g 23) w) : bD pg iW (aF 3 (bI (bI (aB 1 (bI (aF 1 (aB 1 (bI (bI (aB 1 (aF 1 (aB 5 iD)))))))))))) Q g w :=
 eP (kr := no) (l := [(2, fun g w => k2 (g 0) (g 4) (g 5) (g 6) (g 7) w)]) h hn gS ⟨h2, trivial⟩
def BH (kn : K7) (k2 : K5) (cR mA aT oQ Ev d2 d3 : aNk) (w : aNj) : Prop :=
 Ht (fun cR mA aT oQ Ev d2 d3 w => BN kn cR mA aT oQ Ev d2 d3 w) k2 cR mA aT oQ Ev d2 d3 w
def Im (k2 : K5) (cR mA aT oQ Ev d2 d3 : aNk) (w : aNj) : Prop :=
 cU (fun (X : (aNk × aNk) -> K0) (t : aNk × aNk) (w : aNj) => BH (fun _ _ _ oQ _ _ d3 w => X (oQ, d3) w) k2 cR mA aT t.1 Ev d2 t.2 w) (oQ, d3) w
theorem X3 (kn : K7) (k2 : K5) (hn : N7 Q kn 0 4 5 6 7 22 23) (h2 : E5 Q k2 2 0 4 5 6 7) (h : BH kn k2 (g 0) (g 4) (g 5) (g 6) (g 7) (g 22) (g 23) w) : bD pg iW (bI (bI (aB 1 (bI (aF 1 (aB 1 (bI (bI (aB 1 (aF 1 (aB 5 iD))))))))))) Q g w :=
 jE 3 (XD _ g w (BN kn) k2 (fun g w h => aK (Yc _ g w kn hn h)) h2 h)
theorem XM (k2 : K5) (h2 : E5 Q k2 2 0 4 5 6 7) (h : Im k2 (g 0) (g 4) (g 5) (g 6) (g 7) (g 22) (g 23) w) : bD pg iW (bI (aB 1 (bI (aF 1 (aB 1 (bI (bI (aB 1 (aF 1 (aB 5 iD)))))))))) Q g w := by
 refine Dt (fun g : Env => (g 6, g 23)) (fun X t w => BH (fun _ _ _ oQ _ _ d3 w => X (oQ, d3) w) k2 (g 0) (g 4) (g 5) t.1 (g 7) (g 22) t.2 w) h (fun X g1 w1 ha hL => ?_)
 rw [<- jX 0 ha, <- jX 4 ha, <- jX 5 ha, <- jX 7 ha, <- jX 22 ha] at hL
 exact (X3 _ g1 w1 (fun _ _ _ oQ _ _ d3 w => X (oQ, d3) w) k2 (fun _ _ h => h) h2 hL)
def HF (kn : K5) (cR mA aT oQ Ev d2 d3 : aNk) (w : aNj) : Prop :=
 Im kn cR mA aT oQ Ev d2 d3 w
def Hw (kn : K7) (cR mA aT oQ Ev : aNk) (w : aNj) : Prop :=
 aD pg (lO .len #[22] 3 [cR]) w fun d2 w =>
 kn cR mA aT oQ Ev d2 (aNl 0) w
theorem XX (kn : K7) (hn : N7 Q kn 0 4 5 6 7 22 23) (h : Hw kn (g 0) (g 4) (g 5) (g 6) (g 7) w) : bD pg iW (aF 1 (bI (aF 1 (aB 1 (bI (bI (aB 1 (aF 1 (aB 5 iD))))))))) Q g w :=
 eP (kr := no) (l := []) h hn gS trivial
def Sd (kn : K5) (cR mA aT oQ Ev : aNk) (w : aNj) : Prop :=
 Hw (fun cR mA aT oQ Ev d2 d3 w => HF kn cR mA aT oQ Ev d2 d3 w) cR mA aT oQ Ev w
def ER (kn : K5) (cR mA aT oQ Ev : aNk) (w : aNj) : Prop :=
 Sd kn cR mA aT oQ Ev w
def FG (kn : K5) (cR mA aT oQ Ev : aNk) (w : aNj) : Prop :=
 ER (fun cR mA aT oQ Ev w => BI kn cR mA aT oQ Ev w) cR mA aT oQ Ev w
theorem V3 (kn : K5) (hn : N5 Q kn 0 4 5 6 7) (h : ER kn (g 0) (g 4) (g 5) (g 6) (g 7) w) : bD pg iW (aF 1 (aB 1 (bI (bI (aB 1 (aF 1 (aB 5 iD))))))) Q g w :=
 wT 1 (jE 1 (XX _ g w (HF kn) (fun g w h => aK (wT 2 (XM _ g w kn hn h))) h))
def FD (kn : K5) (k0 : K1) (cR mA aT oQ Ev : aNk) (w : aNj) : Prop :=
 aD pg (aI .leq 3 aM aM Ev mA) w fun c8 w =>
 gX c8
  (kn cR mA aT oQ Ev w)
  (k0 aT w)
theorem W6 (kn : K5) (k0 : K1) (hn : N5 Q kn 0 4 5 6 7) (h0 : E1 Q k0 0 5) (h : FD kn k0 (g 0) (g 4) (g 5) (g 6) (g 7) w) : bD pg iW (aF 1 (bI (bI (aB 1 (aF 1 (aB 5 iD)))))) Q g w :=
 eP (kr := no) (l := [(0, fun g w => k0 (g 5) w)]) h hn gS ⟨h0, trivial⟩
def AF (kn : K5) (k0 : K1) (cR mA aT oQ Ev : aNk) (w : aNj) : Prop :=
 FD (fun cR mA aT oQ Ev w => FG kn cR mA aT oQ Ev w) k0 cR mA aT oQ Ev w
def EK (k0 : K1) (cR mA aT oQ Ev : aNk) (w : aNj) : Prop :=
 cU (fun (X : (aNk × aNk) -> K0) (t : aNk × aNk) (w : aNj) => AF (fun _ _ _ oQ Ev w => X (oQ, Ev) w) k0 cR mA aT t.1 t.2 w) (oQ, Ev) w
theorem WY (kn : K5) (k0 : K1) (hn : N5 Q kn 0 4 5 6 7) (h0 : E1 Q k0 0 5) (h : AF kn k0 (g 0) (g 4) (g 5) (g 6) (g 7) w) : bD pg iW (bI (bI (aB 1 (aF 1 (aB 5 iD))))) Q g w :=
 jE 1 (W6 _ g w (FG kn) k0 (fun g w h => aK (jE 1 (V3 _ g w (BI kn) (fun g w h => aK (XI _ g w kn hn h)) h))) h0 h)
theorem WC (k0 : K1) (h0 : E1 Q k0 0 5) (h : EK k0 (g 0) (g 4) (g 5) (g 6) (g 7) w) : bD pg iW (bI (aB 1 (aF 1 (aB 5 iD)))) Q g w := by
 refine Dt (fun g : Env => (g 6, g 7)) (fun X t w => AF (fun _ _ _ oQ Ev w => X (oQ, Ev) w) k0 (g 0) (g 4) (g 5) t.1 t.2 w) h (fun X g1 w1 ha hL => ?_)
 rw [<- jX 0 ha, <- jX 4 ha, <- jX 5 ha] at hL
 exact (WY _ g1 w1 (fun _ _ _ oQ Ev w => X (oQ, Ev) w) k0 (fun _ _ h => h) h0 hL)
def FI (kn : K1) (cR mA aT oQ Ev : aNk) (w : aNj) : Prop :=
 EK kn cR mA aT oQ Ev w
def F2 (kn : K5) (cR mA aT oQ : aNk) (w : aNj) : Prop :=
 kn cR mA aT oQ (aNl 1) w
theorem Xe (kn : K5) (hn : N5 Q kn 0 4 5 6 7) (h : F2 kn (g 0) (g 4) (g 5) (g 6) w) : bD pg iW (aF 1 (aF 1 (aB 5 iD))) Q g w :=
 eP (kr := no) (l := []) h hn gS trivial
def Ge (kn : K1) (cR mA aT oQ : aNk) (w : aNj) : Prop :=
 F2 (fun cR mA aT oQ Ev w => FI kn cR mA aT oQ Ev w) cR mA aT oQ w
def Gc (R : K1) (cR mA aT oQ : aNk) (w : aNj) : Prop :=
 Ge (fun aT w => BX R aT w) cR mA aT oQ w
theorem VE (kn : K1) (hn : N1 Q kn 5) (h : Ge kn (g 0) (g 4) (g 5) (g 6) w) : bD pg iW (aF 1 (aB 5 iD)) Q g w :=
 jE 1 (Xe _ g w (FI kn) (fun g w h => aK (wT 0 (WC _ g w kn hn h))) h)
def Az (kn : K4) (R : K1) (cR : aNk) (w : aNj) : Prop :=
 aS pg zV #[cR] w fun c0 w =>
 aD pg (aI .eql 3 (.tmp 11) (.const (aNl 0)) c0 (aNl 0)) w fun c2 w =>
 gX c2
  (R (.tuple #[(.slice none 0 0), (aNl 1)]) w)
  (aD pg (lO .len #[22] 3 [cR]) w fun c4 w =>
  aD pg (qA 152 c4 c4) w fun c5 w =>
  kn cR c0 c5 (aNl 0) w)
theorem Wh (kn : K4) (R : K1) (hn : N4 Q kn 0 4 5 6) (hr : HR B7 R Q) (h : Az kn R (g 0) w) : bD pg iW (aF 5 iD) Q g w :=
 eP (l := []) h hn hr trivial
def AK (R : K1) (cR : aNk) (w : aNj) : Prop :=
 Az (fun cR mA aT oQ w => Gc R cR mA aT oQ w) R cR w
theorem Xc (R : K1) (hr : HR B7 R Q) (h : AK R (g 0) w) : bD pg iW iD Q g w :=
 jE 5 (Wh _ g w (Gc R) R (fun g w h => aK (jE 1 (VE _ g w (BX R) (fun g w h => aK (YL _ g w R hr h)) h))) hr h)
def QU (a0 : aNk) (w : aNj) (R : K1) : Prop :=
 AK R a0 w
theorem Nl {a0 : aNk} {w : aNj} {R : K1} (h : QU a0 w R) : aS pg tI #[a0] w R := by
 refine uE (ann := iW) Tryz.f76 iD [a0] B7 52 TryzM.mixed Tryz.func76 ?_
 exact (Xc _ _ _ R (fun _ _ h => h) h)
def nS : FA := ⟨mX, fun i => match Nat.beq i 6 with | true => .leaf ([12], []) [(false, []), (false, []), (false, []), (false, []), (false, []), (false, []), (false, []), (false, []), (false, []), (false, []), (false, []), (false, []), (true, [])] | false => .leaf ([], []) []⟩
def A6 : List ResultVar := [.cell 4 22, .cell 5 27]
noncomputable def dX : Code := dE Tryz.f77
def AE (kn : K0) (R : K1) (mZ b4 b5 Vm s_8 : aNk) (w : aNj) : Prop :=
 aD pg (jO 5 3 s_8) w fun c5 w =>
 aD pg (aL 152 mZ) w fun c6 w =>
 aD pg (lO .len #[152] 3 [c6]) w fun c7 w =>
 aD pg (aI .geq 3 aM aM c5 c7) w fun c8 w =>
 Gd (iM c8 false) (fun K => aD pg (aL 152 mZ) w K) w fun d0 w =>
 Gd (iM c8 false) (fun K => K s_8 w) w fun d1 w =>
 Gd (iM c8 false) (fun K => aD pg (cI 152 d0 d1) w K) w fun d2 w =>
 Gd (iM c8 false) (fun K => aD pg (aJ 171 d2 0) w K) w fun d3 w =>
 Gd (iM c8 false) (fun K => aD pg (aL 3 d3) w K) w fun d4 w =>
 Gd (iM c8 false) (fun K => aD pg (aI .eql 3 (.tmp 24) (.const (aNl 0)) d4 (aNl 0)) w K) w fun d5 w =>
 aD pg (jR c8 (.bool true) d5) w fun d6 w =>
 gX d6
  (aD pg (aR 22 b4 (.slice none 0 0)) w fun _u w =>
  aD pg (aR 27 b5 (aNl 1)) w fun _u w =>
  R (.tuple #[]) w)
  (aD pg (aL 186 Vm) (dr w) fun d7 w_ => w_ = (dr w) /\
  aD pg (aL 152 mZ) (dr w) fun d8 w_ => w_ = (dr w) /\
  (dr w) = (dr w) /\
  aD pg (cI 152 d8 s_8) (dr w) fun e0 w_ => w_ = (dr w) /\
  aD pg (aJ 171 e0 1) (dr w) fun e1 w_ => w_ = (dr w) /\
  aD pg (aL 3 e1) (dr w) fun e2 w_ => w_ = (dr w) /\
  aD pg (jO 3 24 e2) (dr w) fun e3 w_ => w_ = (dr w) /\
  aD pg (aL 152 mZ) (dr w) fun e4 w_ => w_ = (dr w) /\
  (dr w) = (dr w) /\
  aD pg (cI 152 e4 s_8) (dr w) fun e6 w_ => w_ = (dr w) /\
  aD pg (aJ 171 e6 0) (dr w) fun e7 w_ => w_ = (dr w) /\
  aD pg (aL 3 e7) (dr w) fun e8 w_ => w_ = (dr w) /\
  aS pg rI #[d7, e3, e8] (dr w) fun e9 aKf =>
  kn aKf)
theorem Xj (kn : K0) (R : K1) (hn : N0 Q kn) (hr : HR aJe R Q) (h : AE kn R (g 2) (g 4) (g 5) (g 6) (g 8) w) : bD pg nS (aDw dX) Q g w :=
 eP (l := []) h hn hr trivial
def Ex (kn : K5) (mZ b4 b5 Vm c3 : aNk) (w : aNj) : Prop :=
 kn mZ b4 b5 Vm c3 w
theorem V1 (kn : K5) (hn : N5 Q kn 2 4 5 6 8) (h : Ex kn (g 2) (g 4) (g 5) (g 6) (g 13) w) : bD pg nS (aFp dX) Q g w :=
 eP (kr := no) (l := []) h hn gS trivial
def Uq (l : Nat) (R : K1) (mZ b4 b5 Vm c3 : aNk) (w : aNj) : Prop :=
 Ex (fun mZ b4 b5 Vm s_8 w => Rdy l w fun w => AE (fun w => aCk l none R w) (fun _ w => aCk l (some .ret) R w) mZ b4 b5 Vm s_8 w) mZ b4 b5 Vm c3 w
theorem agA {l : Nat} {tmps : Array aNk} {w : aNj} {R : K1} (hsz : tmps.size = 42) (h : Uq l R (UX tmps 2) (UX tmps 4) (UX tmps 5) (UX tmps 6) (UX tmps 13) w) : aAM pg l mX tmps (aFp dX) (aDw dX) w R :=
 dsR (ann := nS) 42 TryzM.mixed hsz (V1 (asQ pg nS l (aDw dX) R) (UX tmps) w (fun mZ b4 b5 Vm s_8 w => Rdy l w fun w => AE (aCk l none R) (fun _ w => aCk l (some .ret) R w) mZ b4 b5 Vm s_8 w) (fun g w h => let ⟨r, h1, h2, h3⟩ := h; ⟨r, h1, h2, (Xj (aBf l R) g _ (aCk l none R) (fun _ w => aCk l (some .ret) R w) (fun _ _ h => h) (fun _ _ h => h) h3)⟩) h) (by kernel_rfl) (by kernel_rfl) (by kernel_rfl)
def Bm (R : K1) (b4 b5 Vm t1000003 : aNk) (w : aNj) : Prop :=
 aD pg (aL 186 Vm) w fun f0 w =>
 aS pg vV #[f0] w fun f1 w =>
 aD pg (aR 22 b4 f1) w fun _u w =>
 aD pg (aR 27 b5 (aNl 0)) w fun _u w =>
 G1 t1000003 w fun w => zN pg 22 b4 w fun r0 => zN pg 27 b5 w fun r1 => R (.tuple #[r0, r1]) w
theorem ajF (R : K1) (hr : HRF A6 R Q) (h : Bm R (g 4) (g 5) (g 6) (g 1000003) w) : bD pg nS (aB 1 (aB 2 dX)) Q g w :=
 eP (kn := no) (l := []) h gS hr trivial
def M6 (kn : K4) (R : K1) (mZ b4 b5 Vm c1 t1000003 : aNk) (w : aNj) : Prop :=
 ∀ g : Env, g 2 = mZ -> g 4 = b4 -> g 5 = b5 -> g 6 = Vm -> g 11 = c1 -> g 1000003 = t1000003 -> RF pg mX (.tmp 11) (aGW dX) (aFp dX) (aDw dX) (exQ (fun g w => kn (g 4) (g 5) (g 6) (g 1000003) w) (fun g w => G1 (g 1000003) w fun w => zN pg 22 (g 4) w fun r0 => zN pg 27 (g 5) w fun r1 => R (.tuple #[r0, r1]) w) []) g w
theorem ajI (kn : K4) (R : K1) (hn : N4 Q kn 4 5 6 1000003) (hr : HRF A6 R Q) (h : M6 kn R (g 2) (g 4) (g 5) (g 6) (g 11) (g 1000003) w) : bD pg nS (bI (aB 1 (aF 1 (aB 2 dX)))) Q g w :=
 eP (l := []) (h g rfl rfl rfl rfl rfl rfl) hn hr trivial
def MW (kn : K4) (R : K1) (mZ b4 b5 Vm c1 t1000003 : aNk) (w : aNj) : Prop :=
 M6 kn R mZ b4 b5 Vm c1 t1000003 w
def OO (kn : K6) (l_1 mZ b4 b5 Vm t1000003 : aNk) (w : aNj) : Prop :=
 aS pg yR #[l_1] w fun c1 w =>
 kn mZ b4 b5 Vm c1 t1000003 w
theorem aiS (kn : K6) (hn : N6 Q kn 2 4 5 6 11 1000003) (h : OO kn (g 1) (g 2) (g 4) (g 5) (g 6) (g 1000003) w) : bD pg nS (aF 1 (aF 1 (aB 2 dX))) Q g w :=
 eP (kr := no) (l := []) h hn gS trivial
def OZ (kn : K4) (R : K1) (l_1 mZ b4 b5 Vm t1000003 : aNk) (w : aNj) : Prop :=
 OO (fun mZ b4 b5 Vm c1 t1000003 w => MW kn R mZ b4 b5 Vm c1 t1000003 w) l_1 mZ b4 b5 Vm t1000003 w
def O7 (R : K1) (l_1 mZ b4 b5 Vm t1000003 : aNk) (w : aNj) : Prop :=
 OZ (fun b4 b5 Vm t1000003 w => Bm R b4 b5 Vm t1000003 w) R l_1 mZ b4 b5 Vm t1000003 w
theorem agZ (kn : K4) (R : K1) (hn : N4 Q kn 4 5 6 1000003) (hr : HRF A6 R Q) (h : OZ kn R (g 1) (g 2) (g 4) (g 5) (g 6) (g 1000003) w) : bD pg nS (aF 1 (aB 2 dX)) Q g w :=
 jE 1 (aiS _ g w (MW kn R) (fun g w h => aK (wT 0 (ajI _ g w kn R hn hr h))) h)
def OU (kn : K6) (cQ l_1 t1000003 : aNk) (w : aNj) : Prop :=
 aD pg (BG 152 cQ) w fun mZ w =>
 aD pg (fP 22) w fun b4 w =>
 aD pg (fP 27) w fun b5 w =>
 aS pg BL #[] w fun b9 w =>
 aD pg (fP 186) w fun Vm w =>
 aD pg (aR 186 Vm b9) w fun _u w =>
 kn l_1 mZ b4 b5 Vm t1000003 w
theorem akZ (kn : K6) (hn : N6 Q kn 1 2 4 5 6 1000003) (h : OU kn (g 0) (g 1) (g 1000003) w) : bD pg nS (aF 2 dX) Q g w :=
 eP (kr := no) (l := []) h hn gS trivial
def NZ (R : K1) (cQ l_1 t1000003 : aNk) (w : aNj) : Prop :=
 OU (fun l_1 mZ b4 b5 Vm t1000003 w => O7 R l_1 mZ b4 b5 Vm t1000003 w) cQ l_1 t1000003 w
theorem alA (R : K1) (hr : HRF A6 R Q) (h : NZ R (g 0) (g 1) (g 1000003) w) : bD pg nS dX Q g w :=
 jE 2 (akZ _ g w (O7 R) (fun g w h => aK (jE 1 (agZ _ g w (Bm R) R (fun g w h => aK (ajF _ g w R hr h)) hr h))) h)
def arC (a0 a1 : aNk) (w : aNj) (R : K1) : Prop :=
 NZ R a0 a1 undef w
theorem alG {a0 a1 : aNk} {w : aNj} {R : K1} (h : arC a0 a1 w R) : aS pg mX #[a0, a1] w R := by
 refine dsF (ann := nS) Tryz.f77 dX [a0, a1] A6 42 TryzM.mixed Tryz.func77 ?_
 exact (alA _ _ _ R (fun _ _ h => h) h)
def LU : FA := ⟨AR, fun i => .leaf ([], []) []⟩
def NJ : List ResultVar := [.tmp 2]
noncomputable def Jn : Code := dE Tryz.f78
def Eb (R : K1) (fO : aNk) (w : aNj) : Prop :=
 aS pg jQ #[fO] w fun b4 w =>
 aD pg (fV 192 [(0, b4)]) w fun b5 w =>
 aD pg (BG 192 b5) w fun b6 w =>
 R b6 w
theorem Vk (R : K1) (hr : HR NJ R Q) (h : Eb R (g 0) w) : bD pg LU Jn Q g w :=
 eP (kn := no) (l := []) h gS hr trivial
def Uz (a0 : aNk) (w : aNj) (R : K1) : Prop :=
 Eb R a0 w
theorem V5 {a0 : aNk} {w : aNj} {R : K1} (h : Uz a0 w R) : aS pg AR #[a0] w R := by
 refine uE (ann := LU) Tryz.f78 Jn [a0] NJ 7 TryzM.mixed Tryz.func78 ?_
 exact (Vk _ _ _ R (fun _ _ h => h) h)
def G4 : FA := ⟨pK, fun i => match Nat.beq i 3 with | true => .leaf ([], []) [(false, []), (false, []), (false, []), (false, []), (false, []), (false, []), (false, []), (false, []), (false, []), (false, []), (false, []), (false, []), (false, []), (false, [])] | false => match Nat.beq i 5 with | true => .leaf ([9], []) [(false, []), (false, []), (false, []), (false, []), (false, []), (false, []), (false, []), (false, []), (false, []), (true, []), (false, [])] | false => .leaf ([], []) []⟩
def I4 : List ResultVar := [.tmp 4, .tmp 5]
noncomputable def Fg : Code := dE Tryz.f79
def BB (R : K1) (Py lU : aNk) (w : aNj) : Prop :=
 aD pg (aI .eql 156 (.tmp 8) (.const (.pointer none)) Py (.pointer none)) w fun b9 w =>
 Gd (iM b9 false) (fun K => K lU w) w fun c1 w =>
 Gd (iM b9 false) (fun K => aD pg (aI .lss 3 aM aM c1 (aNl 0)) w K) w fun c2 w =>
 aD pg (jR b9 (.bool true) c2) w fun c3 w =>
 Gd (iM c3 false) (fun K => K lU w) w fun c5 w =>
 Gd (iM c3 false) (fun K => aD pg (aI .gtr 3 aM aM c5 (aNl 32)) w K) w fun c6 w =>
 aD pg (jR c3 (.bool true) c6) w fun c7 w =>
 gX c7
  (R (.tuple #[(.int .u64 0), (aNl 1)]) w)
  ((dr w) = (dr w) /\
  aD pg (vP Py) (dr w) fun d0 w_ => w_ = (dr w) /\
  aD pg (aJ 192 d0 0) (dr w) fun d1 w_ => w_ = (dr w) /\
  aD pg (aL 22 d1) (dr w) fun d2 w_ => w_ = (dr w) /\
  aD pg (lO .len #[22] 3 [d2]) (dr w) fun d3 w_ => w_ = (dr w) /\
  aD pg (aI .mul 3 aM aM (aNl 8) d3) (dr w) fun d4 w_ => w_ = (dr w) /\
  (dr w) = (dr w) /\
  aD pg (vP Py) (dr w) fun d6 w_ => w_ = (dr w) /\
  aD pg (aJ 192 d6 1) (dr w) fun d7 w_ => w_ = (dr w) /\
  aD pg (aL 3 d7) (dr w) fun d8 w_ => w_ = (dr w) /\
  aD pg (aI .sub 3 aM aM d4 d8) (dr w) fun d9 w_ => w_ = (dr w) /\
  (dr w) = (dr w) /\
  aD pg (aI .lss 3 aM aM d9 lU) (dr w) fun e1 w_ => w_ = (dr w) /\
  (dr w) = (dr w) /\
  gX e1
   (R (.tuple #[(.int .u64 0), (aNl 10)]) (dr w))
   ((dr (dr w)) = (dr (dr w)) /\
   aD pg (vP Py) (dr (dr w)) fun e3 w_ => w_ = (dr (dr w)) /\
   aD pg (aJ 192 e3 0) (dr (dr w)) fun e4 w_ => w_ = (dr (dr w)) /\
   aD pg (aL 22 e4) (dr (dr w)) fun e5 w_ => w_ = (dr (dr w)) /\
   (dr (dr w)) = (dr (dr w)) /\
   aD pg (vP Py) (dr (dr w)) fun e7 w_ => w_ = (dr (dr w)) /\
   aD pg (aJ 192 e7 1) (dr (dr w)) fun e8 w_ => w_ = (dr (dr w)) /\
   aD pg (aL 3 e8) (dr (dr w)) fun e9 w_ => w_ = (dr (dr w)) /\
   (dr (dr w)) = (dr (dr w)) /\
   aS pg Jo #[e5, e9, lU] (dr (dr w)) fun f1 aI7 =>
   aI7 = aI7 /\
   aD pg (vP Py) aI7 fun f3 w =>
   aD pg (aJ 192 f3 1) w fun f4 w =>
   aD pg (aL 3 f4) w fun f5 w =>
   aD pg (aI .add 3 aM aM f5 lU) w fun f7 w =>
   aD pg (vP Py) w fun f8 w =>
   aD pg (aJ 192 f8 1) w fun f9 w =>
   aD pg (aR 3 f9 f7) w fun _u w =>
   R (.tuple #[f1, (aNl 0)]) w))
theorem R5 (R : K1) (hr : HR I4 R Q) (h : BB R (g 0) (g 1) w) : bD pg G4 Fg Q g w :=
 eP (kn := no) (l := []) h gS hr trivial
def P6 (a0 a1 : aNk) (w : aNj) (R : K1) : Prop :=
 BB R a0 a1 w
theorem S5 {a0 a1 : aNk} {w : aNj} {R : K1} (h : P6 a0 a1 w R) : aS pg pK #[a0, a1] w R := by
 refine uE (ann := G4) Tryz.f79 Fg [a0, a1] I4 51 TryzM.mixed Tryz.func79 ?_
 exact (R5 _ _ _ R (fun _ _ h => h) h)
def SM : FA := ⟨GL, fun i => .leaf ([], []) []⟩
def Ui : List ResultVar := [.tmp 4, .tmp 5]
noncomputable def Qd : Code := dE Tryz.f80
def KX (R : K1) (Py azA : aNk) (w : aNj) : Prop :=
 aD pg (aI .add 3 aM aM azA (aNl 1)) w fun c2 w =>
 aD pg (jO 3 67 c2) w fun c3 w =>
 aS pg rU #[c3] w fun c4 w =>
 aD pg (aI .sub 3 aM aM c4 (aNl 1)) w fun c8 w =>
 aS pg pK #[Py, c8] w fun c9 w =>
 aD pg (bQ c9 0) w fun d0 w =>
 aD pg (bQ c9 1) w fun d1 w =>
 aD pg (aI .neq 27 (.tmp 22) (.const (aNl 0)) d1 (aNl 0)) w fun d3 w =>
 gX d3
  (R (.tuple #[(aNl 0), d1]) w)
  (aD pg (aI .shl 3 aM aM (aNl 1) c4) w fun d6 w =>
  aD pg (aI .sub 3 aM aM d6 (aNl 2)) w fun d7 w =>
  aD pg (aI .sub 3 aM aM d7 azA) w fun d9 w =>
  aD pg (jO 24 3 d0) w fun e1 w =>
  aD pg (aI .lss 3 aM aM e1 d9) w fun e3 w =>
  gX e3
   (aD pg (jO 24 3 d0) w fun e5 w =>
   R (.tuple #[e5, (aNl 0)]) w)
   (aS pg pK #[Py, (aNl 1)] w fun e8 w =>
   aD pg (bQ e8 0) w fun e9 w =>
   aD pg (bQ e8 1) w fun f0 w =>
   aD pg (aI .neq 27 (.tmp 42) (.const (aNl 0)) f0 (aNl 0)) w fun f3 w =>
   gX f3
    (R (.tuple #[(aNl 0), f0]) w)
    (aD pg (aI .eql 24 (.tmp 46) (.const (.int .u64 0)) e9 (.int .u64 0)) w fun f7 w =>
    gX f7
     (aD pg (jO 24 3 d0) w fun f9 w =>
     R (.tuple #[f9, (aNl 0)]) w)
     (aD pg (jO 24 3 d0) w fun i1 w =>
     aD pg (aI .sub 3 aM aM c4 (aNl 1)) w fun i3 w =>
     aD pg (aI .shl 3 aM aM (aNl 1) i3) w fun i4 w =>
     aD pg (aI .add 3 aM aM i1 i4) w fun i5 w =>
     aD pg (aI .sub 3 aM aM i5 d9) w fun i7 w =>
     R (.tuple #[i7, (aNl 0)]) w))))
theorem adN (R : K1) (hr : HR Ui R Q) (h : KX R (g 0) (g 1) w) : bD pg SM Qd Q g w :=
 eP (kn := no) (l := []) h gS hr trivial
def afH (a0 a1 : aNk) (w : aNj) (R : K1) : Prop :=
 KX R a0 a1 w
theorem aiU {a0 a1 : aNk} {w : aNj} {R : K1} (h : afH a0 a1 w R) : aS pg GL #[a0, a1] w R := by
 refine uE (ann := SM) Tryz.f80 Qd [a0, a1] Ui 58 TryzM.mixed Tryz.func80 ?_
 exact (adN _ _ _ R (fun _ _ h => h) h)
def SB : FA := ⟨xP, fun i => .leaf ([], []) []⟩
def T1 : List ResultVar := [.tmp 2]
noncomputable def Qe : Code := dE Tryz.f81
def Dp (R : K1) (p_0 : aNk) (w : aNj) : Prop :=
 aD pg (aI .lss 3 aM aM p_0 (aNl 0)) w fun b4 w =>
 gX b4
  (R (aNl 1) w)
  (R p_0 w)
theorem abS (R : K1) (hr : HR T1 R Q) (h : Dp R (g 0) w) : bD pg SB Qe Q g w :=
 eP (kn := no) (l := []) h gS hr trivial
def TH (a0 : aNk) (w : aNj) (R : K1) : Prop :=
 Dp R a0 w
theorem agM {a0 : aNk} {w : aNj} {R : K1} (h : TH a0 w R) : aS pg xP #[a0] w R := by
 refine uE (ann := SB) Tryz.f81 Qe [a0] T1 6 TryzM.mixed Tryz.func81 ?_
 exact (abS _ _ _ R (fun _ _ h => h) h)
def oR : FA := ⟨BP, fun i => .leaf ([], []) []⟩
def tC : List ResultVar := [.tmp 2, .tmp 3]
noncomputable def oB : Code := dE Tryz.f82
def AP (R : K1) (A4 : aNk) (w : aNj) : Prop :=
 R (.tuple #[A4, (aNl 0)]) w
theorem Wl (R : K1) (hr : HR tC R Q) (h : AP R (g 4) w) : bD pg oR (aB 1 (aB 2 (bI (aB 1 oB)))) Q g w :=
 eP (kn := no) (l := []) h gS hr trivial
def AA (kn : K2) (k0 : K1) (R : K1) (Py A4 : aNk) (w : aNj) : Prop :=
 aS pg pK #[Py, (aNl 2)] w fun b9 w =>
 aD pg (bQ b9 0) w fun c0 w =>
 aD pg (bQ b9 1) w fun c1 w =>
 aD pg (aI .neq 27 (.tmp 12) (.const (aNl 0)) c1 (aNl 0)) w fun c3 w =>
 gX c3
  (R (.tuple #[(aNl 0), c1]) w)
  (aD pg (jO 24 3 c0) w fun c7 w =>
  aD pg (aI .add 3 aM aM A4 c7) w fun c8 w =>
  aD pg (aI .lss 24 aM aM c0 (.int .u64 3)) w fun d0 w =>
  gX d0
   (k0 c8 w)
   (kn Py c8 w))
theorem Wa (kn : K2) (k0 : K1) (R : K1) (hn : N2 Q kn 0 4) (h0 : E1 Q k0 0 4) (hr : HR tC R Q) (h : AA kn k0 R (g 0) (g 4) w) : bD pg oR (bI (bI (aF 1 (aB 2 (bI (aB 1 oB)))))) Q g w :=
 eP (l := [(0, fun g w => k0 (g 4) w)]) h hn hr ⟨h0, trivial⟩
def GM (k0 : K1) (R : K1) (Py A4 : aNk) (w : aNj) : Prop :=
 cU (fun (X : aNk -> K0) (t : aNk) (w : aNj) => AA (fun _ A4 w => X A4 w) k0 R Py t w) A4 w
theorem WT (k0 : K1) (R : K1) (h0 : E1 Q k0 0 4) (hr : HR tC R Q) (h : GM k0 R (g 0) (g 4) w) : bD pg oR (bI (aF 1 (aB 2 (bI (aB 1 oB))))) Q g w := by
 refine Dt (fun g : Env => g 4) (fun X t w => AA (fun _ A4 w => X A4 w) k0 R (g 0) t w) h (fun X g1 w1 ha hL => ?_)
 rw [<- jX 0 ha] at hL
 exact (Wa _ g1 w1 (fun _ A4 w => X A4 w) k0 R (fun _ _ h => h) h0 hr hL)
def FX (kn : K1) (R : K1) (Py A4 : aNk) (w : aNj) : Prop :=
 GM kn R Py A4 w
def EI (R : K1) (Py A4 : aNk) (w : aNj) : Prop :=
 FX (fun A4 w => AP R A4 w) R Py A4 w
theorem Wi (kn : K1) (R : K1) (hn : N1 Q kn 4) (hr : HR tC R Q) (h : FX kn R (g 0) (g 4) w) : bD pg oR (aF 1 (aB 2 (bI (aB 1 oB)))) Q g w :=
 wT 0 (WT _ g w kn R hn hr h)
def EG (kn : K2) (Py : aNk) (w : aNj) : Prop :=
 kn Py (aNl 0) w
theorem W7 (kn : K2) (hn : N2 Q kn 0 4) (h : EG kn (g 0) w) : bD pg oR (aF 2 (bI (aB 1 oB))) Q g w :=
 eP (kr := no) (l := []) h hn gS trivial
def PZ (R : K1) (Py : aNk) (w : aNj) : Prop :=
 EG (fun Py A4 w => EI R Py A4 w) Py w
def Ft (R : K1) (Py : aNk) (w : aNj) : Prop :=
 PZ R Py w
def F0 (kn : K1) (Py : aNk) (w : aNj) : Prop :=
 kn Py w
theorem Wp (kn : K1) (hn : N1 Q kn 0) (h : F0 kn (g 0) w) : bD pg oR (aF 1 oB) Q g w :=
 eP (kr := no) (l := []) h hn gS trivial
def D1 (R : K1) (Py : aNk) (w : aNj) : Prop :=
 F0 (fun Py w => Ft R Py w) Py w
theorem U4 (R : K1) (hr : HR tC R Q) (h : D1 R (g 0) w) : bD pg oR oB Q g w :=
 jE 1 (Wp _ g w (Ft R) (fun g w h => aK (scD (jE 2 (W7 _ g w (EI R) (fun g w h => aK (jE 1 (Wi _ g w (AP R) R (fun g w h => aK (Wl _ g w R hr h)) hr h))) h)))) h)
def Vp (a0 : aNk) (w : aNj) (R : K1) : Prop :=
 D1 R a0 w
theorem Ym {a0 : aNk} {w : aNj} {R : K1} (h : Vp a0 w R) : aS pg BP #[a0] w R := by
 refine uE (ann := oR) Tryz.f82 oB [a0] tC 22 TryzM.mixed Tryz.func82 ?_
 exact (U4 _ _ _ R (fun _ _ h => h) h)
def He : FA := ⟨xE, fun i => .leaf ([], []) []⟩
def I3 : List ResultVar := [.tmp 2]
noncomputable def GO : Code := dE Tryz.f83
def Bg (R : K1) (Py : aNk) (w : aNj) : Prop :=
 aD pg (aI .eql 156 (.tmp 3) (.const (.pointer none)) Py (.pointer none)) w fun b4 w =>
 gX b4
  (R (aNl 0) w)
  (aD pg (vP Py) w fun b6 w =>
  aD pg (aJ 192 b6 1) w fun b7 w =>
  aD pg (aL 3 b7) w fun b8 w =>
  aD pg (aI .add 3 aM aM b8 (aNl 7)) w fun b9 w =>
  aD pg (aI .quo 3 aM aM b9 (aNl 8)) w fun c0 w =>
  R c0 w)
theorem S2 (R : K1) (hr : HR I3 R Q) (h : Bg R (g 0) w) : bD pg He GO Q g w :=
 eP (kn := no) (l := []) h gS hr trivial
def PJ (a0 : aNk) (w : aNj) (R : K1) : Prop :=
 Bg R a0 w
theorem TC {a0 : aNk} {w : aNj} {R : K1} (h : PJ a0 w R) : aS pg xE #[a0] w R := by
 refine uE (ann := He) Tryz.f83 GO [a0] I3 11 TryzM.mixed Tryz.func83 ?_
 exact (S2 _ _ _ R (fun _ _ h => h) h)
def OX : FA := ⟨BW, fun i => .leaf ([], []) []⟩
def P9 : List ResultVar := [.tmp 2]
noncomputable def LI : Code := dE Tryz.f84
def EW (R : K1) (oH : aNk) (w : aNj) : Prop :=
 aD pg (D6 9 (.string ⟨#[0, 1, 2, 2, 3, 3, 3, 3, 4, 4, 4, 4, 4, 4, 4, 4, 5, 5, 5, 5, 5, 5, 5, 5, 5, 5, 5, 5, 5, 5, 5, 5, 6, 6, 6, 6, 6, 6, 6, 6, 6, 6, 6, 6, 6, 6, 6, 6, 6, 6, 6, 6, 6, 6, 6, 6, 6, 6, 6, 6, 6, 6, 6, 6, 7, 7, 7, 7, 7, 7, 7, 7, 7, 7, 7, 7, 7, 7, 7, 7, 7, 7, 7, 7, 7, 7, 7, 7, 7, 7, 7, 7, 7, 7, 7, 7, 7, 7, 7, 7, 7, 7, 7, 7, 7, 7, 7, 7, 7, 7, 7, 7, 7, 7, 7, 7, 7, 7, 7, 7, 7, 7, 7, 7, 7, 7, 7, 7, 8, 8, 8, 8, 8, 8, 8, 8, 8, 8, 8, 8, 8, 8, 8, 8, 8, 8, 8, 8, 8, 8, 8, 8, 8, 8, 8, 8, 8, 8, 8, 8, 8, 8, 8, 8, 8, 8, 8, 8, 8, 8, 8, 8, 8, 8, 8, 8, 8, 8, 8, 8, 8, 8, 8, 8, 8, 8, 8, 8, 8, 8, 8, 8, 8, 8, 8, 8, 8, 8, 8, 8, 8, 8, 8, 8, 8, 8, 8, 8, 8, 8, 8, 8, 8, 8, 8, 8, 8, 8, 8, 8, 8, 8, 8, 8, 8, 8, 8, 8, 8, 8, 8, 8, 8, 8, 8, 8, 8, 8, 8, 8, 8, 8, 8, 8, 8, 8, 8, 8, 8, 8, 8, 8, 8, 8, 8, 8]⟩) oH) w fun b4 w =>
 aD pg (jO 5 3 b4) w fun b5 w =>
 R b5 w
theorem VS (R : K1) (hr : HR P9 R Q) (h : EW R (g 0) w) : bD pg OX LI Q g w :=
 eP (kn := no) (l := []) h gS hr trivial
def WI (a0 : aNk) (w : aNj) (R : K1) : Prop :=
 EW R a0 w
theorem XH {a0 : aNk} {w : aNj} {R : K1} (h : WI a0 w R) : aS pg BW #[a0] w R := by
 refine uE (ann := OX) Tryz.f84 LI [a0] P9 6 TryzM.mixed Tryz.func84 ?_
 exact (VS _ _ _ R (fun _ _ h => h) h)
def Si : FA := ⟨FO, fun i => .leaf ([], []) []⟩
def Ul : List ResultVar := [.tmp 4]
noncomputable def PW : Code := dE Tryz.f85
def JQ (R : K1) (LP Oo : aNk) (w : aNj) : Prop :=
 aD pg (BG 100 LP) w fun c_2 w =>
 aD pg (aL 100 c_2) w fun b6 w =>
 aS pg Ma #[b6] w fun b7 w =>
 aD pg (sUn .not b7) w fun b8 w =>
 gX b8
  (R (aNl 1) w)
  (aD pg (aJ 100 c_2 0) w fun c0 w =>
  aD pg (aL 3 c0) w fun c1 w =>
  aD pg (aI .gtr 3 aM aM c1 Oo) w fun c3 w =>
  gX c3
   (R (aNl 12) w)
   (R (aNl 0) w))
theorem adA (R : K1) (hr : HR Ul R Q) (h : JQ R (g 0) (g 1) w) : bD pg Si PW Q g w :=
 eP (kn := no) (l := []) h gS hr trivial
def aeQ (a0 a1 : aNk) (w : aNj) (R : K1) : Prop :=
 JQ R a0 a1 w
theorem akB {a0 a1 : aNk} {w : aNj} {R : K1} (h : aeQ a0 a1 w R) : aS pg FO #[a0, a1] w R := by
 refine uE (ann := Si) Tryz.f85 PW [a0, a1] Ul 14 TryzM.mixed Tryz.func85 ?_
 exact (adA _ _ _ R (fun _ _ h => h) h)
def eT : FA := ⟨GR, fun i => .leaf ([], []) []⟩
def QM : List ResultVar := [.tmp 2]
noncomputable def dO : Code := dE Tryz.f86
def I1 (R : K1) (cW : aNk) (w : aNj) : Prop :=
 R cW w
theorem anB (R : K1) (hr : HR QM R Q) (h : I1 R (g 4) w) : bD pg eT (aB 1 (aB 1 (aB 1 (aB 4 dO)))) Q g w :=
 eP (kn := no) (l := []) h gS hr trivial
def Ix (kn : K7) (nP cW bS kH e7 e8 e9 : aNk) (w : aNj) : Prop :=
 aD pg (aI .add 3 aM aM e9 (aNl 1)) w fun j8 w =>
 kn nP cW bS kH e7 e8 j8 w
theorem alP (kn : K7) (hn : N7 Q kn 3 4 5 8 37 38 39) (h : Ix kn (g 3) (g 4) (g 5) (g 8) (g 37) (g 38) (g 39) w) : bD pg eT (aB 1 (aB 2 (bI (bI (aB 1 (aF 1 (aB 1 (aB 1 (aB 4 dO))))))))) Q g w :=
 eP (kr := no) (l := []) h hn gS trivial
def IX (kn : K10) (nP cW bS kH vR e7 e8 e9 f5 f6 : aNk) (w : aNj) : Prop :=
 aD pg (aI .add 3 aM aM f6 (aNl 1)) w fun j7 w =>
 kn nP cW bS kH vR e7 e8 e9 f5 j7 w
theorem anG (kn : K10) (hn : N10 Q kn 3 4 5 8 9 37 38 39 45 46) (h : IX kn (g 3) (g 4) (g 5) (g 8) (g 9) (g 37) (g 38) (g 39) (g 45) (g 46) w) : bD pg eT (aB 1 (aB 2 (bI (bI (aB 2 (bI (aB 1 (bI (aF 1 (aB 2 (bI (bI (aB 1 (aF 1 (aB 1 (aB 1 (aB 4 dO))))))))))))))))) Q g w :=
 eP (kr := no) (l := []) h hn gS trivial
def IT (kn : K10) (k5 : K10) (nP cW bS kH vR e7 e8 e9 f5 f6 : aNk) (w : aNj) : Prop :=
 aD pg (aI .shr 3 aM aM nP (.int .u64 1)) w fun i6 w =>
 aD pg (aI .add 3 aM aM kH i6) w fun i7 w =>
 aD pg (aI .shr 3 aM aM nP (.int .u64 3)) w fun i9 w =>
 aD pg (aI .add 3 aM aM i7 i9) w fun j0 w =>
 aD pg (aI .add 3 aM aM j0 (aNl 3)) w fun j1 w =>
 aD pg (aI .rem 3 aM aM j1 nP) w fun j3 w =>
 aD pg (aI .lss 3 aM aM j3 bS) w fun j6 w =>
 gX j6
  (k5 nP cW bS j3 vR e7 e8 e9 f5 f6 w)
  (kn nP cW bS j3 vR e7 e8 e9 f5 f6 w)
theorem anI (kn : K10) (k5 : K10) (hn : N10 Q kn 3 4 5 8 9 37 38 39 45 46) (h5 : E10 Q k5 5 3 4 5 8 9 37 38 39 45 46) (h : IT kn k5 (g 3) (g 4) (g 5) (g 8) (g 9) (g 37) (g 38) (g 39) (g 45) (g 46) w) : bD pg eT (bI (bI (aB 1 (bI (aF 1 (aB 2 (bI (bI (aB 2 (bI (aB 1 (bI (aF 1 (aB 2 (bI (bI (aB 1 (aF 1 (aB 1 (aB 1 (aB 4 dO))))))))))))))))))))) Q g w :=
 eP (kr := no) (l := [(5, fun g w => k5 (g 3) (g 4) (g 5) (g 8) (g 9) (g 37) (g 38) (g 39) (g 45) (g 46) w)]) h hn gS ⟨h5, trivial⟩
def Iu (k5 : K10) (nP cW bS kH vR e7 e8 e9 f5 f6 : aNk) (w : aNj) : Prop :=
 cU (fun (X : aNk -> K0) (t : aNk) (w : aNj) => IT (fun _ _ _ kH _ _ _ _ _ _ w => X kH w) k5 nP cW bS t vR e7 e8 e9 f5 f6 w) kH w
theorem aoU (k5 : K10) (h5 : E10 Q k5 5 3 4 5 8 9 37 38 39 45 46) (h : Iu k5 (g 3) (g 4) (g 5) (g 8) (g 9) (g 37) (g 38) (g 39) (g 45) (g 46) w) : bD pg eT (bI (aB 1 (bI (aF 1 (aB 2 (bI (bI (aB 2 (bI (aB 1 (bI (aF 1 (aB 2 (bI (bI (aB 1 (aF 1 (aB 1 (aB 1 (aB 4 dO)))))))))))))))))))) Q g w := by
 refine Dt (fun g : Env => g 8) (fun X t w => IT (fun _ _ _ kH _ _ _ _ _ _ w => X kH w) k5 (g 3) (g 4) (g 5) t (g 9) (g 37) (g 38) (g 39) (g 45) (g 46) w) h (fun X g1 w1 ha hL => ?_)
 rw [<- jX 3 ha, <- jX 4 ha, <- jX 5 ha, <- jX 9 ha, <- jX 37 ha, <- jX 38 ha, <- jX 39 ha, <- jX 45 ha, <- jX 46 ha] at hL
 exact (anI _ g1 w1 (fun _ _ _ kH _ _ _ _ _ _ w => X kH w) k5 (fun _ _ h => h) h5 hL)
def Rp (k5 : K10) (nP cW bS kH vR e7 e8 e9 f5 f6 : aNk) (w : aNj) : Prop :=
 Iu k5 nP cW bS kH vR e7 e8 e9 f5 f6 w
def Q3 (kn : K10) (nP cW bS kH vR e7 e8 e9 f5 f6 : aNk) (w : aNj) : Prop :=
 aD pg (jO 3 5 vR) w fun i1 w =>
 aD pg (cI 106 cW kH) w fun i2 w =>
 aD pg (aJ 115 i2 0) w fun i3 w =>
 aD pg (aR 5 i3 i1) w fun _u w =>
 kn nP cW bS kH vR e7 e8 e9 f5 f6 w
theorem aoC (kn : K10) (hn : N10 Q kn 3 4 5 8 9 37 38 39 45 46) (h : Q3 kn (g 3) (g 4) (g 5) (g 8) (g 9) (g 37) (g 38) (g 39) (g 45) (g 46) w) : bD pg eT (aF 1 (bI (aF 1 (aB 2 (bI (bI (aB 2 (bI (aB 1 (bI (aF 1 (aB 2 (bI (bI (aB 1 (aF 1 (aB 1 (aB 1 (aB 4 dO))))))))))))))))))) Q g w :=
 eP (kr := no) (l := []) h hn gS trivial
def YS (k5 : K10) (nP cW bS kH vR e7 e8 e9 f5 f6 : aNk) (w : aNj) : Prop :=
 Q3 (fun nP cW bS kH vR e7 e8 e9 f5 f6 w => Rp k5 nP cW bS kH vR e7 e8 e9 f5 f6 w) nP cW bS kH vR e7 e8 e9 f5 f6 w
def QV (kn : K10) (nP cW bS kH vR e7 e8 e9 f5 f6 : aNk) (w : aNj) : Prop :=
 YS kn nP cW bS kH vR e7 e8 e9 f5 f6 w
def Ol (kn : K10) (nP cW bS kH vR e7 e8 e9 f5 f6 : aNk) (w : aNj) : Prop :=
 QV (fun nP cW bS kH vR e7 e8 e9 f5 f6 w => IX kn nP cW bS kH vR e7 e8 e9 f5 f6 w) nP cW bS kH vR e7 e8 e9 f5 f6 w
theorem aqE (kn : K10) (hn : N10 Q kn 3 4 5 8 9 37 38 39 45 46) (h : QV kn (g 3) (g 4) (g 5) (g 8) (g 9) (g 37) (g 38) (g 39) (g 45) (g 46) w) : bD pg eT (aF 1 (aB 2 (bI (bI (aB 2 (bI (aB 1 (bI (aF 1 (aB 2 (bI (bI (aB 1 (aF 1 (aB 1 (aB 1 (aB 4 dO))))))))))))))))) Q g w :=
 wT 5 (jE 1 (aoC _ g w (Rp kn) (fun g w h => aK (wT 6 (aoU _ g w kn hn h))) h))
def F6 (kn : K10) (k4 : K7) (nP cW bS kH vR e7 e8 e9 f5 f6 : aNk) (w : aNj) : Prop :=
 aD pg (aI .lss 3 aM aM f6 f5) w fun f7 w =>
 gX f7
  (kn nP cW bS kH vR e7 e8 e9 f5 f6 w)
  (k4 nP cW bS kH e7 e8 e9 w)
theorem alB (kn : K10) (k4 : K7) (hn : N10 Q kn 3 4 5 8 9 37 38 39 45 46) (h4 : E7 Q k4 4 3 4 5 8 37 38 39) (h : F6 kn k4 (g 3) (g 4) (g 5) (g 8) (g 9) (g 37) (g 38) (g 39) (g 45) (g 46) w) : bD pg eT (aF 2 (bI (bI (aB 2 (bI (aB 1 (bI (aF 1 (aB 2 (bI (bI (aB 1 (aF 1 (aB 1 (aB 1 (aB 4 dO)))))))))))))))) Q g w :=
 eP (kr := no) (l := [(4, fun g w => k4 (g 3) (g 4) (g 5) (g 8) (g 37) (g 38) (g 39) w)]) h hn gS ⟨h4, trivial⟩
def Bo (kn : K10) (k4 : K7) (nP cW bS kH vR e7 e8 e9 f5 f6 : aNk) (w : aNj) : Prop :=
 F6 (fun nP cW bS kH vR e7 e8 e9 f5 f6 w => Ol kn nP cW bS kH vR e7 e8 e9 f5 f6 w) k4 nP cW bS kH vR e7 e8 e9 f5 f6 w
def MM (k4 : K7) (nP cW bS kH vR e7 e8 e9 f5 f6 : aNk) (w : aNj) : Prop :=
 cU (fun (X : (aNk × aNk) -> K0) (t : aNk × aNk) (w : aNj) => Bo (fun _ _ _ kH _ _ _ _ _ f6 w => X (kH, f6) w) k4 nP cW bS t.1 vR e7 e8 e9 f5 t.2 w) (kH, f6) w
theorem afI (kn : K10) (k4 : K7) (hn : N10 Q kn 3 4 5 8 9 37 38 39 45 46) (h4 : E7 Q k4 4 3 4 5 8 37 38 39) (h : Bo kn k4 (g 3) (g 4) (g 5) (g 8) (g 9) (g 37) (g 38) (g 39) (g 45) (g 46) w) : bD pg eT (bI (bI (aB 2 (bI (aB 1 (bI (aF 1 (aB 2 (bI (bI (aB 1 (aF 1 (aB 1 (aB 1 (aB 4 dO))))))))))))))) Q g w :=
 jE 2 (alB _ g w (Ol kn) k4 (fun g w h => aK (jE 1 (aqE _ g w (IX kn) (fun g w h => aK (anG _ g w kn hn h)) h))) h4 h)
theorem agT (k4 : K7) (h4 : E7 Q k4 4 3 4 5 8 37 38 39) (h : MM k4 (g 3) (g 4) (g 5) (g 8) (g 9) (g 37) (g 38) (g 39) (g 45) (g 46) w) : bD pg eT (bI (aB 2 (bI (aB 1 (bI (aF 1 (aB 2 (bI (bI (aB 1 (aF 1 (aB 1 (aB 1 (aB 4 dO)))))))))))))) Q g w := by
 refine Dt (fun g : Env => (g 8, g 46)) (fun X t w => Bo (fun _ _ _ kH _ _ _ _ _ f6 w => X (kH, f6) w) k4 (g 3) (g 4) (g 5) t.1 (g 9) (g 37) (g 38) (g 39) (g 45) t.2 w) h (fun X g1 w1 ha hL => ?_)
 rw [<- jX 3 ha, <- jX 4 ha, <- jX 5 ha, <- jX 9 ha, <- jX 37 ha, <- jX 38 ha, <- jX 39 ha, <- jX 45 ha] at hL
 exact (afI _ g1 w1 (fun _ _ _ kH _ _ _ _ _ f6 w => X (kH, f6) w) k4 (fun _ _ h => h) h4 hL)
def Pf (kn : K7) (nP cW bS kH vR e7 e8 e9 f5 f6 : aNk) (w : aNj) : Prop :=
 MM kn nP cW bS kH vR e7 e8 e9 f5 f6 w
def OT (kn : K10) (nP cW bS kH vR aBv e7 e8 e9 : aNk) (w : aNj) : Prop :=
 aD pg (lO .max #[3, 3] 3 [aBv, (aNl 0)]) w fun f5 w =>
 kn nP cW bS kH vR e7 e8 e9 f5 (aNl 0) w
theorem akC (kn : K10) (hn : N10 Q kn 3 4 5 8 9 37 38 39 45 46) (h : OT kn (g 3) (g 4) (g 5) (g 8) (g 9) (g 10) (g 37) (g 38) (g 39) w) : bD pg eT (aF 2 (bI (aB 1 (bI (aF 1 (aB 2 (bI (bI (aB 1 (aF 1 (aB 1 (aB 1 (aB 4 dO))))))))))))) Q g w :=
 eP (kr := no) (l := []) h hn gS trivial
def Vt (kn : K7) (nP cW bS kH vR aBv e7 e8 e9 : aNk) (w : aNj) : Prop :=
 OT (fun nP cW bS kH vR e7 e8 e9 f5 f6 w => Pf kn nP cW bS kH vR e7 e8 e9 f5 f6 w) nP cW bS kH vR aBv e7 e8 e9 w
def OH (kn : K7) (nP cW bS kH vR aBv e7 e8 e9 : aNk) (w : aNj) : Prop :=
 Vt kn nP cW bS kH vR aBv e7 e8 e9 w
def Om (kn : K9) (nP cW bS kH e7 e8 e9 : aNk) (w : aNj) : Prop :=
 aD pg (cI 42 e7 e9) w fun f2 w =>
 aD pg (aL 3 f2) w fun f3 w =>
 kn nP cW bS kH e9 f3 e7 e8 e9 w
theorem aeT (kn : K9) (hn : N9 Q kn 3 4 5 8 9 10 37 38 39) (h : Om kn (g 3) (g 4) (g 5) (g 8) (g 37) (g 38) (g 39) w) : bD pg eT (aF 1 (bI (aF 1 (aB 2 (bI (bI (aB 1 (aF 1 (aB 1 (aB 1 (aB 4 dO))))))))))) Q g w :=
 eP (kr := no) (l := []) h hn gS trivial
def Vo (kn : K7) (nP cW bS kH e7 e8 e9 : aNk) (w : aNj) : Prop :=
 Om (fun nP cW bS kH vR aBv e7 e8 e9 w => OH kn nP cW bS kH vR aBv e7 e8 e9 w) nP cW bS kH e7 e8 e9 w
def OL (kn : K7) (nP cW bS kH e7 e8 e9 : aNk) (w : aNj) : Prop :=
 Vo kn nP cW bS kH e7 e8 e9 w
def NW (kn : K7) (nP cW bS kH e7 e8 e9 : aNk) (w : aNj) : Prop :=
 OL (fun nP cW bS kH e7 e8 e9 w => Ix kn nP cW bS kH e7 e8 e9 w) nP cW bS kH e7 e8 e9 w
theorem afT (kn : K7) (hn : N7 Q kn 3 4 5 8 37 38 39) (h : OL kn (g 3) (g 4) (g 5) (g 8) (g 37) (g 38) (g 39) w) : bD pg eT (aF 1 (aB 2 (bI (bI (aB 1 (aF 1 (aB 1 (aB 1 (aB 4 dO))))))))) Q g w :=
 wT 3 (jE 1 (aeT _ g w (OH kn) (fun g w h => aK (scD (jE 2 (akC _ g w (Pf kn) (fun g w h => aK (wT 4 (agT _ g w kn hn h))) h)))) h))
def EA (kn : K7) (k2 : K1) (nP cW bS kH e7 e8 e9 : aNk) (w : aNj) : Prop :=
 aD pg (aI .lss 3 aM aM e9 e8) w fun f0 w =>
 gX f0
  (kn nP cW bS kH e7 e8 e9 w)
  (k2 cW w)
theorem afD (kn : K7) (k2 : K1) (hn : N7 Q kn 3 4 5 8 37 38 39) (h2 : E1 Q k2 2 4) (h : EA kn k2 (g 3) (g 4) (g 5) (g 8) (g 37) (g 38) (g 39) w) : bD pg eT (aF 2 (bI (bI (aB 1 (aF 1 (aB 1 (aB 1 (aB 4 dO)))))))) Q g w :=
 eP (kr := no) (l := [(2, fun g w => k2 (g 4) w)]) h hn gS ⟨h2, trivial⟩
def Bd (kn : K7) (k2 : K1) (nP cW bS kH e7 e8 e9 : aNk) (w : aNj) : Prop :=
 EA (fun nP cW bS kH e7 e8 e9 w => NW kn nP cW bS kH e7 e8 e9 w) k2 nP cW bS kH e7 e8 e9 w
def Oa (k2 : K1) (nP cW bS kH e7 e8 e9 : aNk) (w : aNj) : Prop :=
 cU (fun (X : (aNk × aNk) -> K0) (t : aNk × aNk) (w : aNj) => Bd (fun _ _ _ kH _ _ e9 w => X (kH, e9) w) k2 nP cW bS t.1 e7 e8 t.2 w) (kH, e9) w
theorem agK (kn : K7) (k2 : K1) (hn : N7 Q kn 3 4 5 8 37 38 39) (h2 : E1 Q k2 2 4) (h : Bd kn k2 (g 3) (g 4) (g 5) (g 8) (g 37) (g 38) (g 39) w) : bD pg eT (bI (bI (aB 1 (aF 1 (aB 1 (aB 1 (aB 4 dO))))))) Q g w :=
 jE 2 (afD _ g w (NW kn) k2 (fun g w h => aK (jE 1 (afT _ g w (Ix kn) (fun g w h => aK (alP _ g w kn hn h)) h))) h2 h)
theorem ajX (k2 : K1) (h2 : E1 Q k2 2 4) (h : Oa k2 (g 3) (g 4) (g 5) (g 8) (g 37) (g 38) (g 39) w) : bD pg eT (bI (aB 1 (aF 1 (aB 1 (aB 1 (aB 4 dO)))))) Q g w := by
 refine Dt (fun g : Env => (g 8, g 39)) (fun X t w => Bd (fun _ _ _ kH _ _ e9 w => X (kH, e9) w) k2 (g 3) (g 4) (g 5) t.1 (g 37) (g 38) t.2 w) h (fun X g1 w1 ha hL => ?_)
 rw [<- jX 3 ha, <- jX 4 ha, <- jX 5 ha, <- jX 37 ha, <- jX 38 ha] at hL
 exact (agK _ g1 w1 (fun _ _ _ kH _ _ e9 w => X (kH, e9) w) k2 (fun _ _ h => h) h2 hL)
def Ny (kn : K1) (nP cW bS kH e7 e8 e9 : aNk) (w : aNj) : Prop :=
 Oa kn nP cW bS kH e7 e8 e9 w
def OV (kn : K7) (cB nP cW bS kH : aNk) (w : aNj) : Prop :=
 aD pg (aJ 100 cB 1) w fun e6 w =>
 aD pg (aL 42 e6) w fun e7 w =>
 aD pg (lO .len #[42] 3 [e7]) w fun e8 w =>
 kn nP cW bS kH e7 e8 (aNl 0) w
theorem ahE (kn : K7) (hn : N7 Q kn 3 4 5 8 37 38 39) (h : OV kn (g 1) (g 3) (g 4) (g 5) (g 8) w) : bD pg eT (aF 1 (aF 1 (aB 1 (aB 1 (aB 4 dO))))) Q g w :=
 eP (kr := no) (l := []) h hn gS trivial
def MR (kn : K1) (cB nP cW bS kH : aNk) (w : aNj) : Prop :=
 OV (fun nP cW bS kH e7 e8 e9 w => Ny kn nP cW bS kH e7 e8 e9 w) cB nP cW bS kH w
def On (R : K1) (cB nP cW bS kH : aNk) (w : aNj) : Prop :=
 MR (fun cW w => I1 R cW w) cB nP cW bS kH w
theorem agG (kn : K1) (hn : N1 Q kn 4) (h : MR kn (g 1) (g 3) (g 4) (g 5) (g 8) w) : bD pg eT (aF 1 (aB 1 (aB 1 (aB 4 dO)))) Q g w :=
 jE 1 (ahE _ g w (Ny kn) (fun g w h => aK (wT 2 (ajX _ g w kn hn h))) h)
def OG (kn : K5) (cB nP cW bS : aNk) (w : aNj) : Prop :=
 kn cB nP cW bS (aNl 0) w
theorem ahS (kn : K5) (hn : N5 Q kn 1 3 4 5 8) (h : OG kn (g 1) (g 3) (g 4) (g 5) w) : bD pg eT (aF 1 (aB 1 (aB 4 dO))) Q g w :=
 eP (kr := no) (l := []) h hn gS trivial
def Oc (R : K1) (cB nP cW bS : aNk) (w : aNj) : Prop :=
 OG (fun cB nP cW bS kH w => On R cB nP cW bS kH w) cB nP cW bS w
def Gy (kn : K7) (cB nP cW bS c8 c9 d0 : aNk) (w : aNj) : Prop :=
 aD pg (aI .add 3 aM aM d0 (aNl 1)) w fun e5 w =>
 kn cB nP cW bS c8 c9 e5 w
theorem aiC (kn : K7) (hn : N7 Q kn 1 3 4 5 18 19 20) (h : Gy kn (g 1) (g 3) (g 4) (g 5) (g 18) (g 19) (g 20) w) : bD pg eT (aB 3 (bI (bI (aB 1 (aF 1 (aB 4 dO)))))) Q g w :=
 eP (kr := no) (l := []) h hn gS trivial
def FM (kn : K7) (k0 : K4) (cB nP cW bS c8 c9 d0 : aNk) (w : aNj) : Prop :=
 aD pg (aI .lss 3 aM aM d0 c9) w fun d1 w =>
 gX d1
  (aD pg (cI 42 c8 d0) w fun d3 w =>
  aD pg (aL 3 d3) w fun d4 w =>
  aD pg (aI .eql 3 (.tmp 25) (.const (aNl (-1))) d4 (aNl (-1))) w fun d6 w =>
  gX d6
   (aD pg (aI .sub 3 aM aM bS (aNl 1)) w fun d8 w =>
   aD pg (jO 3 5 d0) w fun e2 w =>
   aD pg (cI 106 cW d8) w fun e3 w =>
   aD pg (aJ 115 e3 0) w fun e4 w =>
   aD pg (aR 5 e4 e2) w fun _u w =>
   kn cB nP cW d8 c8 c9 d0 w)
   (kn cB nP cW bS c8 c9 d0 w))
  (k0 cB nP cW bS w)
theorem afN (kn : K7) (k0 : K4) (hn : N7 Q kn 1 3 4 5 18 19 20) (h0 : E4 Q k0 0 1 3 4 5) (h : FM kn k0 (g 1) (g 3) (g 4) (g 5) (g 18) (g 19) (g 20) w) : bD pg eT (aF 3 (bI (bI (aB 1 (aF 1 (aB 4 dO)))))) Q g w :=
 eP (kr := no) (l := [(0, fun g w => k0 (g 1) (g 3) (g 4) (g 5) w)]) h hn gS ⟨h0, trivial⟩
def Bz (kn : K7) (k0 : K4) (cB nP cW bS c8 c9 d0 : aNk) (w : aNj) : Prop :=
 FM (fun cB nP cW bS c8 c9 d0 w => Gy kn cB nP cW bS c8 c9 d0 w) k0 cB nP cW bS c8 c9 d0 w
def Ou (k0 : K4) (cB nP cW bS c8 c9 d0 : aNk) (w : aNj) : Prop :=
 cU (fun (X : (aNk × aNk) -> K0) (t : aNk × aNk) (w : aNj) => Bz (fun _ _ _ bS _ _ d0 w => X (bS, d0) w) k0 cB nP cW t.1 c8 c9 t.2 w) (bS, d0) w
theorem agS (kn : K7) (k0 : K4) (hn : N7 Q kn 1 3 4 5 18 19 20) (h0 : E4 Q k0 0 1 3 4 5) (h : Bz kn k0 (g 1) (g 3) (g 4) (g 5) (g 18) (g 19) (g 20) w) : bD pg eT (bI (bI (aB 1 (aF 1 (aB 4 dO))))) Q g w :=
 jE 3 (afN _ g w (Gy kn) k0 (fun g w h => aK (aiC _ g w kn hn h)) h0 h)
theorem aeK (k0 : K4) (h0 : E4 Q k0 0 1 3 4 5) (h : Ou k0 (g 1) (g 3) (g 4) (g 5) (g 18) (g 19) (g 20) w) : bD pg eT (bI (aB 1 (aF 1 (aB 4 dO)))) Q g w := by
 refine Dt (fun g : Env => (g 5, g 20)) (fun X t w => Bz (fun _ _ _ bS _ _ d0 w => X (bS, d0) w) k0 (g 1) (g 3) (g 4) t.1 (g 18) (g 19) t.2 w) h (fun X g1 w1 ha hL => ?_)
 rw [<- jX 1 ha, <- jX 3 ha, <- jX 4 ha, <- jX 18 ha, <- jX 19 ha] at hL
 exact (agS _ g1 w1 (fun _ _ _ bS _ _ d0 w => X (bS, d0) w) k0 (fun _ _ h => h) h0 hL)
def Pc (kn : K4) (cB nP cW bS c8 c9 d0 : aNk) (w : aNj) : Prop :=
 Ou kn cB nP cW bS c8 c9 d0 w
def No (kn : K7) (cB nP cW bS : aNk) (w : aNj) : Prop :=
 aD pg (aJ 100 cB 1) w fun c7 w =>
 aD pg (aL 42 c7) w fun c8 w =>
 aD pg (lO .len #[42] 3 [c8]) w fun c9 w =>
 kn cB nP cW bS c8 c9 (aNl 0) w
theorem ahQ (kn : K7) (hn : N7 Q kn 1 3 4 5 18 19 20) (h : No kn (g 1) (g 3) (g 4) (g 5) w) : bD pg eT (aF 1 (aF 1 (aB 4 dO))) Q g w :=
 eP (kr := no) (l := []) h hn gS trivial
def MH (kn : K4) (cB nP cW bS : aNk) (w : aNj) : Prop :=
 No (fun cB nP cW bS c8 c9 d0 w => Pc kn cB nP cW bS c8 c9 d0 w) cB nP cW bS w
def OB (R : K1) (cB nP cW bS : aNk) (w : aNj) : Prop :=
 MH (fun cB nP cW bS w => Oc R cB nP cW bS w) cB nP cW bS w
theorem aeL (kn : K4) (hn : N4 Q kn 1 3 4 5) (h : MH kn (g 1) (g 3) (g 4) (g 5) w) : bD pg eT (aF 1 (aB 4 dO)) Q g w :=
 jE 1 (ahQ _ g w (Pc kn) (fun g w h => aK (wT 0 (aeK _ g w kn hn h))) h)
def Pt (kn : K4) (LP : aNk) (w : aNj) : Prop :=
 aD pg (BG 100 LP) w fun cB w =>
 aD pg (aJ 100 cB 0) w fun c1 w =>
 aD pg (aL 3 c1) w fun c2 w =>
 aD pg (aI .shl 3 aM aM (aNl 1) c2) w fun c3 w =>
 aD pg (qA 106 c3 c3) w fun c5 w =>
 kn cB c3 c5 c3 w
theorem akU (kn : K4) (hn : N4 Q kn 1 3 4 5) (h : Pt kn (g 0) w) : bD pg eT (aF 4 dO) Q g w :=
 eP (kr := no) (l := []) h hn gS trivial
def ON (R : K1) (LP : aNk) (w : aNj) : Prop :=
 Pt (fun cB nP cW bS w => OB R cB nP cW bS w) LP w
theorem ajM (R : K1) (hr : HR QM R Q) (h : ON R (g 0) w) : bD pg eT dO Q g w :=
 jE 4 (akU _ g w (OB R) (fun g w h => aK (jE 1 (aeL _ g w (Oc R) (fun g w h => aK (jE 1 (ahS _ g w (On R) (fun g w h => aK (jE 1 (agG _ g w (I1 R) (fun g w h => aK (anB _ g w R hr h)) h))) h))) h))) h)
def ayS (a0 : aNk) (w : aNj) (R : K1) : Prop :=
 ON R a0 w
theorem auA {a0 : aNk} {w : aNj} {R : K1} (h : ayS a0 w R) : aS pg GR #[a0] w R := by
 refine uE (ann := eT) Tryz.f86 dO [a0] QM 70 TryzM.mixed Tryz.func86 ?_
 exact (ajM _ _ _ R (fun _ _ h => h) h)
def FH : FA := ⟨qU, fun i => match Nat.beq i 4 with | true => .leaf ([12], [(12, 15), (12, 16)]) [(false, []), (false, []), (false, []), (false, []), (false, []), (false, []), (false, []), (false, []), (false, []), (false, []), (false, []), (false, []), (true, []), (false, []), (false, []), (false, [2]), (false, [3]), (false, []), (false, [])] | false => .leaf ([], []) []⟩
def G7 : List ResultVar := [.tmp 4]
noncomputable def Er : Code := dE Tryz.f87
def Av (R : K1) (M3 lU : aNk) (w : aNj) : Prop :=
 aD pg (aI .eql 103 (.tmp 7) (.const (.pointer none)) M3 (.pointer none)) w fun b8 w =>
 Gd (iM b8 false) (fun K => K lU w) w fun c0 w =>
 Gd (iM b8 false) (fun K => aD pg (aI .lss 3 aM aM c0 (aNl 1)) w K) w fun c1 w =>
 aD pg (jR b8 (.bool true) c1) w fun c2 w =>
 Gd (iM c2 false) (fun K => K lU w) w fun c4 w =>
 Gd (iM c2 false) (fun K => aD pg (aI .gtr 3 aM aM c4 (aNl 56)) w K) w fun c5 w =>
 aD pg (jR c2 (.bool true) c5) w fun c6 w =>
 gX c6
  (R (.int .u64 0) w)
  (aD pg (vP M3) w fun c8 w =>
  aD pg (aJ 165 c8 1) w fun c9 w =>
  aD pg (aL 3 c9) w fun d0 w =>
  aD pg (lO .max #[3, 3] 3 [d0, (aNl 0)]) w fun d1 w =>
  aD pg (lO .min #[3, 3] 3 [d1, lU]) w fun d3 w =>
  (dr w) = (dr w) /\
  aD pg (vP M3) (dr w) fun d5 w_ => w_ = (dr w) /\
  aD pg (aJ 165 d5 0) (dr w) fun d6 w_ => w_ = (dr w) /\
  aD pg (aL 22 d6) (dr w) fun d7 w_ => w_ = (dr w) /\
  (dr w) = (dr w) /\
  aD pg (vP M3) (dr w) fun d9 w_ => w_ = (dr w) /\
  aD pg (aJ 165 d9 1) (dr w) fun e0 w_ => w_ = (dr w) /\
  aD pg (aL 3 e0) (dr w) fun e1 w_ => w_ = (dr w) /\
  aD pg (lO .max #[3, 3] 3 [e1, (aNl 0)]) (dr w) fun e2 w_ => w_ = (dr w) /\
  (dr w) = (dr w) /\
  aD pg (aI .sub 3 aM aM e2 d3) (dr w) fun e4 w_ => w_ = (dr w) /\
  (dr w) = (dr w) /\
  aS pg Jo #[d7, e4, d3] (dr w) fun e6 S3 =>
  S3 = S3 /\
  S3 = S3 /\
  aD pg (aI .sub 3 aM aM lU d3) S3 fun e9 w_ => w_ = S3 /\
  (jF pg (aI .sub 3 aM aM lU d3) e9 (dr w) /\ True) /\
  aD pg (jO 3 67 e9) S3 fun f0 w_ => w_ = S3 /\
  (jF pg (jO 3 67 e9) f0 (dr w) /\ True) /\
  aD pg (aI .shl 24 aM aM e6 f0) S3 fun f1 w_ => w_ = S3 /\
  S3 = S3 /\
  aD pg (vP M3) S3 fun f3 w =>
  aD pg (aJ 165 f3 1) w fun f4 w =>
  aD pg (aL 3 f4) w fun f5 w =>
  aD pg (aI .sub 3 aM aM f5 lU) w fun f7 w =>
  aD pg (vP M3) w fun f8 w =>
  aD pg (aJ 165 f8 1) w fun f9 w =>
  aD pg (aR 3 f9 f7) w fun _u w =>
  R f1 w)
theorem Qs (R : K1) (hr : HR G7 R Q) (h : Av R (g 0) (g 1) w) : bD pg FH Er Q g w :=
 eP (kn := no) (l := []) h gS hr trivial
def Ob (a0 a1 : aNk) (w : aNj) (R : K1) : Prop :=
 Av R a0 a1 w
theorem R1 {a0 a1 : aNk} {w : aNj} {R : K1} (h : Ob a0 a1 w R) : aS pg qU #[a0, a1] w R := by
 refine uE (ann := FH) Tryz.f87 Er [a0, a1] G7 51 TryzM.mixed Tryz.func87 ?_
 exact (Qs _ _ _ R (fun _ _ h => h) h)
def rL : FA := ⟨AT, fun i => .leaf ([], []) []⟩
def DC : List ResultVar := [.tmp 2]
noncomputable def qM : Code := dE Tryz.f89
def uQ (R : K1) (oH nM : aNk) (w : aNj) : Prop :=
 aD pg (jO 24 5 oH) w fun d1 w =>
 aD pg (D6 9 (.string ⟨#[0, 1, 2, 2, 3, 3, 3, 3, 4, 4, 4, 4, 4, 4, 4, 4, 5, 5, 5, 5, 5, 5, 5, 5, 5, 5, 5, 5, 5, 5, 5, 5, 6, 6, 6, 6, 6, 6, 6, 6, 6, 6, 6, 6, 6, 6, 6, 6, 6, 6, 6, 6, 6, 6, 6, 6, 6, 6, 6, 6, 6, 6, 6, 6, 7, 7, 7, 7, 7, 7, 7, 7, 7, 7, 7, 7, 7, 7, 7, 7, 7, 7, 7, 7, 7, 7, 7, 7, 7, 7, 7, 7, 7, 7, 7, 7, 7, 7, 7, 7, 7, 7, 7, 7, 7, 7, 7, 7, 7, 7, 7, 7, 7, 7, 7, 7, 7, 7, 7, 7, 7, 7, 7, 7, 7, 7, 7, 7, 8, 8, 8, 8, 8, 8, 8, 8, 8, 8, 8, 8, 8, 8, 8, 8, 8, 8, 8, 8, 8, 8, 8, 8, 8, 8, 8, 8, 8, 8, 8, 8, 8, 8, 8, 8, 8, 8, 8, 8, 8, 8, 8, 8, 8, 8, 8, 8, 8, 8, 8, 8, 8, 8, 8, 8, 8, 8, 8, 8, 8, 8, 8, 8, 8, 8, 8, 8, 8, 8, 8, 8, 8, 8, 8, 8, 8, 8, 8, 8, 8, 8, 8, 8, 8, 8, 8, 8, 8, 8, 8, 8, 8, 8, 8, 8, 8, 8, 8, 8, 8, 8, 8, 8, 8, 8, 8, 8, 8, 8, 8, 8, 8, 8, 8, 8, 8, 8, 8, 8, 8, 8, 8, 8, 8, 8, 8, 8]⟩) d1) w fun d2 w =>
 aD pg (jO 5 3 d2) w fun d3 w =>
 aD pg (aI .add 3 aM aM nM d3) w fun d4 w =>
 R d4 w
theorem Vg (R : K1) (hr : HR DC R Q) (h : uQ R (g 0) (g 2) w) : bD pg rL (aB 1 (aB 1 (aB 2 qM))) Q g w :=
 eP (kn := no) (l := []) h gS hr trivial
def DI (kn : K2) (oH nM : aNk) (w : aNj) : Prop :=
 aD pg (aI .geq 24 aM aM oH (.int .u64 256)) w fun c4 w =>
 gX c4
  (aD pg (aI .shr 24 aM aM oH (.int .u64 8)) w fun c6 w =>
  aD pg (aI .add 3 aM aM nM (aNl 8)) w fun c8 w =>
  kn c6 c8 w)
  (kn oH nM w)
theorem Vc (kn : K2) (hn : N2 Q kn 0 2) (h : DI kn (g 0) (g 2) w) : bD pg rL (aF 1 (aB 1 (aB 2 qM))) Q g w :=
 eP (kr := no) (l := []) h hn gS trivial
def zB (R : K1) (oH nM : aNk) (w : aNj) : Prop :=
 DI (fun oH nM w => uQ R oH nM w) oH nM w
def Dy (kn : K2) (oH nM : aNk) (w : aNj) : Prop :=
 aD pg (aI .geq 24 aM aM oH (.int .u64 65536)) w fun b8 w =>
 gX b8
  (aD pg (aI .shr 24 aM aM oH (.int .u64 16)) w fun c0 w =>
  aD pg (aI .add 3 aM aM nM (aNl 16)) w fun c2 w =>
  kn c0 c2 w)
  (kn oH nM w)
theorem Vd (kn : K2) (hn : N2 Q kn 0 2) (h : Dy kn (g 0) (g 2) w) : bD pg rL (aF 1 (aB 2 qM)) Q g w :=
 eP (kr := no) (l := []) h hn gS trivial
def zH (R : K1) (oH nM : aNk) (w : aNj) : Prop :=
 Dy (fun oH nM w => zB R oH nM w) oH nM w
def DA (kn : K2) (oH : aNk) (w : aNj) : Prop :=
 aD pg (aI .geq 24 aM aM oH (.int .u64 4294967296)) w fun b4 w =>
 gX b4
  (aD pg (aI .shr 24 aM aM oH (.int .u64 32)) w fun b6 w =>
  kn b6 (aNl 32) w)
  (kn oH (aNl 0) w)
theorem U8 (kn : K2) (hn : N2 Q kn 0 2) (h : DA kn (g 0) w) : bD pg rL (aF 2 qM) Q g w :=
 eP (kr := no) (l := []) h hn gS trivial
def DQ (R : K1) (oH : aNk) (w : aNj) : Prop :=
 DA (fun oH nM w => zH R oH nM w) oH w
theorem UM (R : K1) (hr : HR DC R Q) (h : DQ R (g 0) w) : bD pg rL qM Q g w :=
 jE 2 (U8 _ g w (zH R) (fun g w h => aK (jE 1 (Vd _ g w (zB R) (fun g w h => aK (jE 1 (Vc _ g w (uQ R) (fun g w h => aK (Vg _ g w R hr h)) h))) h))) h)
def Uj (a0 : aNk) (w : aNj) (R : K1) : Prop :=
 DQ R a0 w
theorem VI {a0 : aNk} {w : aNj} {R : K1} (h : Uj a0 w R) : aS pg AT #[a0] w R := by
 refine uE (ann := rL) Tryz.f89 qM [a0] DC 25 TryzM.mixed Tryz.func89 ?_
 exact (UM _ _ _ R (fun _ _ h => h) h)
def mE : FA := ⟨GJ, fun i => .leaf ([], []) []⟩
def RU : List ResultVar := [.tmp 2]
noncomputable def lN : Code := dE Tryz.f90
def II (R : K1) (kN : aNk) (w : aNj) : Prop :=
 R kN w
theorem anD (R : K1) (hr : HR RU R Q) (h : II R (g 3) w) : bD pg mE (aB 1 (aB 2 lN)) Q g w :=
 eP (kn := no) (l := []) h gS hr trivial
def IK (kn : K3) (Cc kN lC : aNk) (w : aNj) : Prop :=
 aD pg (aI .add 3 aM aM lC (aNl 1)) w fun c2 w =>
 kn Cc kN c2 w
theorem amN (kn : K3) (hn : N3 Q kn 0 3 4) (h : IK kn (g 0) (g 3) (g 4) w) : bD pg mE (aB 1 (aB 1 (bI (bI (aB 1 (aF 1 (aB 2 lN))))))) Q g w :=
 eP (kr := no) (l := []) h hn gS trivial
def IZ (kn : K5) (k2 : K3) (Cc kN lC c_5 Jc : aNk) (w : aNj) : Prop :=
 aD pg (aI .lss 3 aM aM Jc (aNl 8)) w fun c7 w =>
 gX c7
  (aD pg (aI .rem 5 aM aM c_5 (.int .u8 2)) w fun d2 w =>
  aD pg (aI .eql 5 (.tmp 22) (.const (.int .u8 1)) d2 (.int .u8 1)) w fun d3 w =>
  aD pg (cT 131 1 [(0, d3)]) w fun d4 w =>
  aD pg (lO .append #[131, 131] 131 [kN, d4]) w fun d5 w =>
  aD pg (aI .quo 5 aM aM c_5 (.int .u8 2)) w fun d7 w =>
  aD pg (aI .add 3 aM aM Jc (aNl 1)) w fun c9 w =>
  kn Cc d5 lC d7 c9 w)
  (k2 Cc kN lC w)
theorem aoI (kn : K5) (k2 : K3) (hn : N5 Q kn 0 3 4 5 6) (h2 : E3 Q k2 2 0 3 4) (h : IZ kn k2 (g 0) (g 3) (g 4) (g 5) (g 6) w) : bD pg mE (bI (bI (aB 2 (bI (aF 1 (aB 1 (bI (bI (aB 1 (aF 1 (aB 2 lN))))))))))) Q g w :=
 eP (kr := no) (l := [(2, fun g w => k2 (g 0) (g 3) (g 4) w)]) h hn gS ⟨h2, trivial⟩
def Qn (k2 : K3) (Cc kN lC c_5 Jc : aNk) (w : aNj) : Prop :=
 cU (fun (X : (aNk × aNk × aNk) -> K0) (t : aNk × aNk × aNk) (w : aNj) => IZ (fun _ kN _ c_5 Jc w => X (kN, c_5, Jc) w) k2 Cc t.1 lC t.2.1 t.2.2 w) (kN, c_5, Jc) w
theorem aoD (k2 : K3) (h2 : E3 Q k2 2 0 3 4) (h : Qn k2 (g 0) (g 3) (g 4) (g 5) (g 6) w) : bD pg mE (bI (aB 2 (bI (aF 1 (aB 1 (bI (bI (aB 1 (aF 1 (aB 2 lN)))))))))) Q g w := by
 refine Dt (fun g : Env => (g 3, g 5, g 6)) (fun X t w => IZ (fun _ kN _ c_5 Jc w => X (kN, c_5, Jc) w) k2 (g 0) t.1 (g 4) t.2.1 t.2.2 w) h (fun X g1 w1 ha hL => ?_)
 rw [<- jX 0 ha, <- jX 4 ha] at hL
 exact (aoI _ g1 w1 (fun _ kN _ c_5 Jc w => X (kN, c_5, Jc) w) k2 (fun _ _ h => h) h2 hL)
def QX (kn : K3) (Cc kN lC c_5 Jc : aNk) (w : aNj) : Prop :=
 Qn kn Cc kN lC c_5 Jc w
def Rx (kn : K5) (Cc kN lC : aNk) (w : aNj) : Prop :=
 aD pg (D6 9 Cc lC) w fun c5 w =>
 kn Cc kN lC c5 (aNl 0) w
theorem amW (kn : K5) (hn : N5 Q kn 0 3 4 5 6) (h : Rx kn (g 0) (g 3) (g 4) w) : bD pg mE (aF 2 (bI (aF 1 (aB 1 (bI (bI (aB 1 (aF 1 (aB 2 lN))))))))) Q g w :=
 eP (kr := no) (l := []) h hn gS trivial
def YY (kn : K3) (Cc kN lC : aNk) (w : aNj) : Prop :=
 Rx (fun Cc kN lC c_5 Jc w => QX kn Cc kN lC c_5 Jc w) Cc kN lC w
def Ra (kn : K3) (Cc kN lC : aNk) (w : aNj) : Prop :=
 YY kn Cc kN lC w
def RL (kn : K3) (Cc kN lC : aNk) (w : aNj) : Prop :=
 Ra (fun Cc kN lC w => IK kn Cc kN lC w) Cc kN lC w
theorem aqB (kn : K3) (hn : N3 Q kn 0 3 4) (h : Ra kn (g 0) (g 3) (g 4) w) : bD pg mE (aF 1 (aB 1 (bI (bI (aB 1 (aF 1 (aB 2 lN))))))) Q g w :=
 wT 1 (jE 2 (amW _ g w (QX kn) (fun g w h => aK (wT 2 (aoD _ g w kn hn h))) h))
def O9 (kn : K3) (k0 : K1) (Cc kN lC : aNk) (w : aNj) : Prop :=
 aD pg (lO .len #[9] 3 [Cc]) w fun b9 w =>
 aD pg (aI .lss 3 aM aM lC b9) w fun c0 w =>
 gX c0
  (kn Cc kN lC w)
  (k0 kN w)
theorem ajR (kn : K3) (k0 : K1) (hn : N3 Q kn 0 3 4) (h0 : E1 Q k0 0 3) (h : O9 kn k0 (g 0) (g 3) (g 4) w) : bD pg mE (aF 1 (bI (bI (aB 1 (aF 1 (aB 2 lN)))))) Q g w :=
 eP (kr := no) (l := [(0, fun g w => k0 (g 3) w)]) h hn gS ⟨h0, trivial⟩
def Fk (kn : K3) (k0 : K1) (Cc kN lC : aNk) (w : aNj) : Prop :=
 O9 (fun Cc kN lC w => RL kn Cc kN lC w) k0 Cc kN lC w
def MZ (k0 : K1) (Cc kN lC : aNk) (w : aNj) : Prop :=
 cU (fun (X : (aNk × aNk) -> K0) (t : aNk × aNk) (w : aNj) => Fk (fun _ kN lC w => X (kN, lC) w) k0 Cc t.1 t.2 w) (kN, lC) w
theorem afA (kn : K3) (k0 : K1) (hn : N3 Q kn 0 3 4) (h0 : E1 Q k0 0 3) (h : Fk kn k0 (g 0) (g 3) (g 4) w) : bD pg mE (bI (bI (aB 1 (aF 1 (aB 2 lN))))) Q g w :=
 jE 1 (ajR _ g w (RL kn) k0 (fun g w h => aK (jE 1 (aqB _ g w (IK kn) (fun g w h => aK (amN _ g w kn hn h)) h))) h0 h)
theorem ahW (k0 : K1) (h0 : E1 Q k0 0 3) (h : MZ k0 (g 0) (g 3) (g 4) w) : bD pg mE (bI (aB 1 (aF 1 (aB 2 lN)))) Q g w := by
 refine Dt (fun g : Env => (g 3, g 4)) (fun X t w => Fk (fun _ kN lC w => X (kN, lC) w) k0 (g 0) t.1 t.2 w) h (fun X g1 w1 ha hL => ?_)
 rw [<- jX 0 ha] at hL
 exact (afA _ g1 w1 (fun _ kN lC w => X (kN, lC) w) k0 (fun _ _ h => h) h0 hL)
def MV (kn : K1) (Cc kN lC : aNk) (w : aNj) : Prop :=
 MZ kn Cc kN lC w
def Ng (kn : K3) (Cc kN : aNk) (w : aNj) : Prop :=
 kn Cc kN (aNl 0) w
theorem adV (kn : K3) (hn : N3 Q kn 0 3 4) (h : Ng kn (g 0) (g 3) w) : bD pg mE (aF 1 (aF 1 (aB 2 lN))) Q g w :=
 eP (kr := no) (l := []) h hn gS trivial
def MT (kn : K1) (Cc kN : aNk) (w : aNj) : Prop :=
 Ng (fun Cc kN lC w => MV kn Cc kN lC w) Cc kN w
def Nx (R : K1) (Cc kN : aNk) (w : aNj) : Prop :=
 MT (fun kN w => II R kN w) Cc kN w
theorem akV (kn : K1) (hn : N1 Q kn 3) (h : MT kn (g 0) (g 3) w) : bD pg mE (aF 1 (aB 2 lN)) Q g w :=
 jE 1 (adV _ g w (MV kn) (fun g w h => aK (wT 0 (ahW _ g w kn hn h))) h)
def Na (kn : K2) (Cc : aNk) (w : aNj) : Prop :=
 kn Cc (.slice none 0 0) w
theorem agU (kn : K2) (hn : N2 Q kn 0 3) (h : Na kn (g 0) w) : bD pg mE (aF 2 lN) Q g w :=
 eP (kr := no) (l := []) h hn gS trivial
def NI (R : K1) (Cc : aNk) (w : aNj) : Prop :=
 Na (fun Cc kN w => Nx R Cc kN w) Cc w
theorem ajT (R : K1) (hr : HR RU R Q) (h : NI R (g 0) w) : bD pg mE lN Q g w :=
 jE 2 (agU _ g w (Nx R) (fun g w h => aK (jE 1 (akV _ g w (II R) (fun g w h => aK (anD _ g w R hr h)) h))) h)
def ayX (a0 : aNk) (w : aNj) (R : K1) : Prop :=
 NI R a0 w
theorem asN {a0 : aNk} {w : aNj} {R : K1} (h : ayX a0 w R) : aS pg GJ #[a0] w R := by
 refine uE (ann := mE) Tryz.f90 lN [a0] RU 29 TryzM.mixed Tryz.func90 ?_
 exact (ajT _ _ _ R (fun _ _ h => h) h)
def Xa : FA := ⟨zA, fun i => .leaf ([], []) []⟩
def Ze : List ResultVar := [.cell 4 176, .tmp 5, .tmp 6]
noncomputable def Uo : Code := dE Tryz.f91
def Q0 (R : K1) (Py lU : aNk) (w : aNj) : Prop :=
 aD pg (BG 176 Py) w fun f_2 w =>
 aD pg (fP 176) w fun b4 w =>
 aD pg (aI .lss 3 aM aM lU (aNl 0)) w fun b9 w =>
 Gd (iM b9 false) (fun K => K lU w) w fun c1 w =>
 Gd (iM b9 false) (fun K => aD pg (aI .gtr 3 aM aM c1 (aNl 32)) w K) w fun c2 w =>
 aD pg (jR b9 (.bool true) c2) w fun c3 w =>
 gX c3
  (aD pg (aL 176 f_2) w fun c4 w =>
  aD pg (aR 176 b4 c4) w fun _u w =>
  zN pg 176 b4 w fun r0 => R (.tuple #[r0, (.int .u64 0), (aNl 1)]) w)
  (aD pg (aJ 176 f_2 0) w fun c5 w =>
  aD pg (aL 131 c5) w fun c6 w =>
  aD pg (lO .len #[131] 3 [c6]) w fun c7 w =>
  aD pg (aJ 176 f_2 1) w fun c8 w =>
  aD pg (aL 3 c8) w fun c9 w =>
  aD pg (aI .sub 3 aM aM c7 c9) w fun d0 w =>
  aD pg (aI .lss 3 aM aM d0 lU) w fun d2 w =>
  gX d2
   (aD pg (aL 176 f_2) w fun d3 w =>
   aD pg (aR 176 b4 d3) w fun _u w =>
   zN pg 176 b4 w fun r0 => R (.tuple #[r0, (.int .u64 0), (aNl 10)]) w)
   (aD pg (aJ 176 f_2 0) w fun d4 w =>
   aD pg (aL 131 d4) w fun d5 w =>
   aD pg (aJ 176 f_2 1) w fun d6 w =>
   aD pg (aL 3 d6) w fun d7 w =>
   aD pg (aJ 176 f_2 1) w fun d8 w =>
   aD pg (aL 3 d8) w fun d9 w =>
   aD pg (aI .add 3 aM aM d9 lU) w fun e1 w =>
   aD pg (lX 131 d5 (some d7) (some e1) none) w fun e2 w =>
   aS pg Bt #[e2] w fun e3 w =>
   aD pg (aJ 176 f_2 1) w fun e4 w =>
   aD pg (aL 3 e4) w fun e5 w =>
   aD pg (aI .add 3 aM aM e5 lU) w fun e7 w =>
   aD pg (aJ 176 f_2 1) w fun e8 w =>
   aD pg (aR 3 e8 e7) w fun _u w =>
   aD pg (aL 176 f_2) w fun e9 w =>
   aD pg (aR 176 b4 e9) w fun _u w =>
   zN pg 176 b4 w fun r0 => R (.tuple #[r0, e3, (aNl 0)]) w))
theorem alI (R : K1) (hr : HR Ze R Q) (h : Q0 R (g 0) (g 1) w) : bD pg Xa Uo Q g w :=
 eP (kn := no) (l := []) h gS hr trivial
def awD (a0 a1 : aNk) (w : aNj) (R : K1) : Prop :=
 Q0 R a0 a1 w
theorem auM {a0 a1 : aNk} {w : aNj} {R : K1} (h : awD a0 a1 w R) : aS pg zA #[a0, a1] w R := by
 refine uE (ann := Xa) Tryz.f91 Uo [a0, a1] Ze 41 TryzM.mixed Tryz.func91 ?_
 exact (alI _ _ _ R (fun _ _ h => h) h)
def VY : FA := ⟨Mn, fun i => .leaf ([], []) []⟩
def Y3 : List ResultVar := [.cell 4 176, .tmp 5, .tmp 6]
noncomputable def Ue : Code := dE Tryz.f92
def Q5 (R : K1) (Py azA : aNk) (w : aNj) : Prop :=
 aD pg (BG 176 Py) w fun f_2 w =>
 aD pg (fP 176) w fun b4 w =>
 aD pg (aI .add 3 aM aM azA (aNl 1)) w fun c4 w =>
 aS pg IG #[c4] w fun c5 w =>
 aD pg (aL 176 f_2) w fun c7 w =>
 aD pg (aI .sub 3 aM aM c5 (aNl 1)) w fun c9 w =>
 aS pg zA #[c7, c9] w fun d0 w =>
 aD pg (bQ d0 0) w fun d1 w =>
 aD pg (bQ d0 1) w fun d2 w =>
 aD pg (bQ d0 2) w fun d3 w =>
 aD pg (aR 176 f_2 d1) w fun _u w =>
 aD pg (aI .neq 27 (.tmp 24) (.const (aNl 0)) d3 (aNl 0)) w fun d5 w =>
 gX d5
  (aD pg (aL 176 f_2) w fun d6 w =>
  aD pg (aR 176 b4 d6) w fun _u w =>
  zN pg 176 b4 w fun r0 => R (.tuple #[r0, (aNl 0), d3]) w)
  (aD pg (aI .sub 3 aM aM c5 (aNl 1)) w fun d9 w =>
  aS pg nU #[d9] w fun e0 w =>
  aD pg (aI .mul 3 aM aM (aNl 2) e0) w fun e2 w =>
  aD pg (aI .sub 3 aM aM e2 (aNl 2)) w fun e3 w =>
  aD pg (aI .sub 3 aM aM e3 azA) w fun e5 w =>
  aD pg (jO 24 3 d2) w fun e7 w =>
  aD pg (aI .lss 3 aM aM e7 e5) w fun e9 w =>
  gX e9
   (aD pg (aL 176 f_2) w fun f0 w =>
   aD pg (jO 24 3 d2) w fun f2 w =>
   aD pg (aR 176 b4 f0) w fun _u w =>
   zN pg 176 b4 w fun r0 => R (.tuple #[r0, f2, (aNl 0)]) w)
   (aD pg (aL 176 f_2) w fun f4 w =>
   aS pg zA #[f4, (aNl 1)] w fun f5 w =>
   aD pg (bQ f5 0) w fun f6 w =>
   aD pg (bQ f5 1) w fun f7 w =>
   aD pg (bQ f5 2) w fun f8 w =>
   aD pg (aR 176 f_2 f6) w fun _u w =>
   aD pg (aI .neq 27 (.tmp 49) (.const (aNl 0)) f8 (aNl 0)) w fun i0 w =>
   gX i0
    (aD pg (aL 176 f_2) w fun i1 w =>
    aD pg (aR 176 b4 i1) w fun _u w =>
    zN pg 176 b4 w fun r0 => R (.tuple #[r0, (aNl 0), f8]) w)
    (aD pg (aI .eql 24 (.tmp 53) (.const (.int .u64 1)) f7 (.int .u64 1)) w fun i4 w =>
    gX i4
     (aD pg (aL 176 f_2) w fun i5 w =>
     aD pg (jO 24 3 d2) w fun i7 w =>
     aD pg (aI .add 3 aM aM i7 e0) w fun i9 w =>
     aD pg (aI .sub 3 aM aM i9 e5) w fun j1 w =>
     aD pg (aR 176 b4 i5) w fun _u w =>
     zN pg 176 b4 w fun r0 => R (.tuple #[r0, j1, (aNl 0)]) w)
     (aD pg (aL 176 f_2) w fun j2 w =>
     aD pg (jO 24 3 d2) w fun j4 w =>
     aD pg (aR 176 b4 j2) w fun _u w =>
     zN pg 176 b4 w fun r0 => R (.tuple #[r0, j4, (aNl 0)]) w))))
theorem alL (R : K1) (hr : HR Y3 R Q) (h : Q5 R (g 0) (g 1) w) : bD pg VY Ue Q g w :=
 eP (kn := no) (l := []) h gS hr trivial
def awH (a0 a1 : aNk) (w : aNj) (R : K1) : Prop :=
 Q5 R a0 a1 w
theorem asL {a0 a1 : aNk} {w : aNj} {R : K1} (h : awH a0 a1 w R) : aS pg Mn #[a0, a1] w R := by
 refine uE (ann := VY) Tryz.f92 Ue [a0, a1] Y3 65 TryzM.mixed Tryz.func92 ?_
 exact (alL _ _ _ R (fun _ _ h => h) h)
def Wf : FA := ⟨Ml, fun i => .leaf ([], []) []⟩
def YR : List ResultVar := [.tmp 2]
noncomputable def Up : Code := dE Tryz.f93
def Rl (R : K1) (Py : aNk) (w : aNj) : Prop :=
 aD pg (BG 176 Py) w fun f_1 w =>
 aD pg (aJ 176 f_1 1) w fun b3 w =>
 aD pg (aL 3 b3) w fun b4 w =>
 aD pg (aI .add 3 aM aM b4 (aNl 7)) w fun b5 w =>
 aD pg (aI .quo 3 aM aM b5 (aNl 8)) w fun b6 w =>
 R b6 w
theorem amG (R : K1) (hr : HR YR R Q) (h : Rl R (g 0) w) : bD pg Wf Up Q g w :=
 eP (kn := no) (l := []) h gS hr trivial
def ayD (a0 : aNk) (w : aNj) (R : K1) : Prop :=
 Rl R a0 w
theorem atO {a0 : aNk} {w : aNj} {R : K1} (h : ayD a0 w R) : aS pg Ml #[a0] w R := by
 refine uE (ann := Wf) Tryz.f93 Up [a0] YR 7 TryzM.mixed Tryz.func93 ?_
 exact (amG _ _ _ R (fun _ _ h => h) h)
def Uu : FA := ⟨IS, fun i => .leaf ([], []) []⟩
def Wx : List ResultVar := [.tmp 4]
noncomputable def SV : Code := dE Tryz.f94
def OW (R : K1) (LP Oo : aNk) (w : aNj) : Prop :=
 aD pg (BG 128 LP) w fun c_2 w =>
 aD pg (aL 128 c_2) w fun b6 w =>
 aS pg P3 #[b6] w fun b7 w =>
 aD pg (sUn .not b7) w fun b9 w =>
 gX b9
  (R (aNl 1) w)
  (aD pg (aJ 128 c_2 0) w fun c0 w =>
  aD pg (aL 3 c0) w fun c1 w =>
  aD pg (aI .gtr 3 aM aM c1 Oo) w fun c3 w =>
  gX c3
   (R (aNl 12) w)
   (R (aNl 0) w))
theorem ahP (R : K1) (hr : HR Wx R Q) (h : OW R (g 0) (g 1) w) : bD pg Uu SV Q g w :=
 eP (kn := no) (l := []) h gS hr trivial
def arQ (a0 a1 : aNk) (w : aNj) (R : K1) : Prop :=
 OW R a0 a1 w
theorem aoM {a0 a1 : aNk} {w : aNj} {R : K1} (h : arQ a0 a1 w R) : aS pg IS #[a0, a1] w R := by
 refine uE (ann := Uu) Tryz.f94 SV [a0, a1] Wx 14 TryzM.mixed Tryz.func94 ?_
 exact (ahP _ _ _ R (fun _ _ h => h) h)
end Go.Proofs.YtgpimhlgaokobaaGreat

/- Parts of the proof of SequencesWrites: merged and given short names by a program of ours. -/
import Derived.Test.YtaggdjhhmbnhoaaDoorSvA
set_option linter.unusedVariables false
set_option linter.unusedSimpArgs false
namespace Go.Proofs.YtaggdjhhmbnhoaaDoor
open Go Go.En
set_option maxRecDepth 20000
attribute [local irreducible] Go.En.bH
variable (Q : Exit -> Env -> aLl -> Prop) (g : Env) (w : aLl)
def eM : FA := ⟨qP, fun i => match Nat.beq i 18 with | true => .split 4 9 (.split 9 10 (.perm [0, 1, 2, 3, 4, 5, 6, 7, 8, 9, 10, 11, 12, 13] [(9, 10), (4, 9)] ([4, 9, 10], [(4, 6), (4, 7), (4, 8)]) [(false, []), (false, []), (false, []), (false, []), (true, []), (false, []), (false, [1]), (false, [2]), (false, [3]), (true, []), (true, []), (false, []), (false, []), (false, [])]) (.perm [0, 1, 2, 3, 4, 5, 6, 7, 8, 10, 9, 11, 12, 13] [(10, 9), (4, 9)] ([4, 9, 10], [(4, 6), (4, 7), (4, 8), (6, 9), (7, 9), (8, 9)]) [(false, []), (false, []), (false, []), (false, []), (true, []), (false, []), (false, [1]), (false, [2]), (false, [3]), (true, [0, 1, 2]), (true, []), (false, []), (false, []), (false, [])])) (.perm [0, 1, 2, 3, 5, 6, 7, 8, 9, 4, 10, 11, 12, 13] [(9, 4)] ([8, 9, 10], [(1, 8), (2, 8), (3, 8)]) [(false, []), (false, []), (false, []), (false, []), (false, []), (false, []), (false, []), (false, []), (true, [4, 5, 6]), (true, []), (true, []), (false, []), (false, []), (false, [])]) | false => match Nat.beq i 22 with | true => .split 4 9 (.split 5 9 (.perm [0, 1, 2, 3, 4, 5, 6, 7, 8, 9, 10, 11] [(5, 9), (4, 9)] ([4, 5, 9, 10], [(1, 4), (2, 4), (7, 9), (8, 9), (8, 10)]) [(false, []), (false, []), (false, []), (false, []), (true, [1, 2]), (true, []), (false, []), (false, []), (false, []), (true, [0, 1]), (true, [1]), (false, [])]) (.perm [0, 1, 2, 3, 4, 9, 5, 6, 7, 8, 10, 11] [(9, 5), (4, 9)] ([4, 5, 6, 10], [(1, 4), (1, 5), (2, 4), (2, 5), (9, 10)]) [(false, []), (false, []), (false, []), (false, []), (true, [1, 2]), (true, [2, 3]), (true, []), (false, []), (false, []), (false, []), (true, [0]), (false, [])])) (.perm [0, 1, 2, 3, 9, 4, 5, 6, 7, 8, 10, 11] [(9, 4)] ([4, 5, 6, 10], [(1, 4), (1, 5), (2, 4), (2, 5), (9, 10)]) [(false, []), (false, []), (false, []), (false, []), (true, [1, 2]), (true, [2, 3]), (true, []), (false, []), (false, []), (false, []), (true, [0]), (false, [])]) | false => .leaf ([], []) []⟩
def kF : List ResultVar := [.cell 4 27, .tmp 5, .tmp 6, .tmp 7]
noncomputable def cZ : Code := cX Tryd.f40
def zC (R : K1) (b4 XR aC4 : aLm) (w : aLl) : Prop :=
 aC pg (aH .neq 30 (.tmp 107) (.const (aLn 0)) aC4 (aLn 0)) w fun o8 w =>
 fE o8
  (aC pg (bX 27 []) w fun o9 w =>
  aC pg (aK 27 b4 o9) w fun _u w =>
  mW pg 27 b4 w fun r0 => R (.tuple #[r0, (aLn 0), (.slice none 0 0), aC4]) w)
  (aC pg (aI 145 XR) w fun p2 w =>
  aR pg Eu #[p2] w fun p3 w =>
  aC pg (bD p3 0) w fun p4 w =>
  aC pg (bD p3 1) w fun p5 w =>
  aC pg (aH .neq 30 (.tmp 116) (.const (aLn 0)) p5 (aLn 0)) w fun p7 w =>
  fE p7
   (aC pg (bX 27 []) w fun p8 w =>
   aC pg (aK 27 b4 p8) w fun _u w =>
   mW pg 27 b4 w fun r0 => R (.tuple #[r0, (aLn 0), (.slice none 0 0), p5]) w)
   (aC pg (aI 145 XR) w fun q1 w =>
   aR pg uK #[q1] w fun q2 w =>
   aC pg (bD q2 0) w fun q3 w =>
   aC pg (bD q2 1) w fun q4 w =>
   aC pg (bV 27) w fun d0 w =>
   aC pg (aK 27 d0 q3) w fun _u w =>
   aC pg (aI 27 d0) w fun q5 w =>
   aC pg (aK 27 b4 q5) w fun _u w =>
   mW pg 27 b4 w fun r0 => R (.tuple #[r0, (aLn 2), p4, q4]) w))
theorem X0 (R : K1) (hr : HR kF R Q) (h : zC R (g 4) (g 17) (g 18) w) : bH pg eM (aB 1 (aB 1 (aB 1 (aB 1 (aB 5 cZ))))) Q g w :=
 dP (kn := no) (l := []) h eU hr trivial
def Ih (kn : K3) (aQ b4 bS aP : aLm) (w : aLl) : Prop :=
 Ord (anA qP 22 (Ft 22 cZ) 4 9 w)
  (Ord (anA qP 22 (Ft 22 cZ) 5 9 w)
   ((dr w) = (dr w) /\
   aC pg (aH .add 3 aM aM aP (aLn 1)) (dr w) fun o0 w_ => w_ = (dr w) /\
   aC pg (gB 144 bS none (some o0) none) (dr w) fun o1 w_ => w_ = (dr w) /\
   (dr w) = (dr w) /\
   aR pg vI #[aQ] (dr w) fun o3 UU =>
   (dS pg (gB 144 bS none (some o0) none) o1 UU /\ dS pg (aH .add 3 aM aM aP (aLn 1)) o0 UU /\ True) /\
   aR pg Ds #[o1, o3] UU fun o4 Mh =>
   Mh = Mh /\
   aC pg (bD o4 0) Mh fun o5 w_ => w_ = Mh /\
   aC pg (bD o4 1) Mh fun o6 w_ => w_ = Mh /\
   aC pg (bV 145) Mh fun XR aD8 =>
   (dS pg (bD o4 1) o6 aD8 /\ dS pg (bD o4 0) o5 aD8 /\ True) /\
   aC pg (aK 145 XR o5) aD8 fun _u10 EH =>
   (dS pg (bD o4 1) o6 EH /\ True) /\
   EH = EH /\
   kn b4 XR o6 EH)
   ((dr w) = (dr w) /\
   aC pg (aH .add 3 aM aM aP (aLn 1)) (dr w) fun o0 w_ => w_ = (dr w) /\
   aC pg (gB 144 bS none (some o0) none) (dr w) fun o1 w_ => w_ = (dr w) /\
   (dr w) = (dr w) /\
   aR pg vI #[aQ] (dr w) fun o3 UU =>
   (dS pg (gB 144 bS none (some o0) none) o1 UU /\ dS pg (aH .add 3 aM aM aP (aLn 1)) o0 UU /\ True) /\
   aC pg (bV 145) UU fun XR Mh =>
   (dS pg (gB 144 bS none (some o0) none) o1 Mh /\ dS pg (aH .add 3 aM aM aP (aLn 1)) o0 Mh /\ True) /\
   aR pg Ds #[o1, o3] Mh fun o4 KN =>
   KN = KN /\
   aC pg (bD o4 0) KN fun o5 w_ => w_ = KN /\
   aC pg (bD o4 1) KN fun o6 w_ => w_ = KN /\
   aC pg (aK 145 XR o5) KN fun _u10 EH =>
   (dS pg (bD o4 1) o6 EH /\ True) /\
   EH = EH /\
   kn b4 XR o6 EH))
  ((dr w) = (dr w) /\
  aC pg (aH .add 3 aM aM aP (aLn 1)) (dr w) fun o0 w_ => w_ = (dr w) /\
  aC pg (gB 144 bS none (some o0) none) (dr w) fun o1 w_ => w_ = (dr w) /\
  (dr w) = (dr w) /\
  aC pg (bV 145) (dr w) fun XR UU =>
  (dS pg (gB 144 bS none (some o0) none) o1 UU /\ dS pg (aH .add 3 aM aM aP (aLn 1)) o0 UU /\ True) /\
  aR pg vI #[aQ] UU fun o3 Mh =>
  (dS pg (gB 144 bS none (some o0) none) o1 Mh /\ dS pg (aH .add 3 aM aM aP (aLn 1)) o0 Mh /\ True) /\
  aR pg Ds #[o1, o3] Mh fun o4 KN =>
  KN = KN /\
  aC pg (bD o4 0) KN fun o5 w_ => w_ = KN /\
  aC pg (bD o4 1) KN fun o6 w_ => w_ = KN /\
  aC pg (aK 145 XR o5) KN fun _u10 EH =>
  (dS pg (bD o4 1) o6 EH /\ True) /\
  EH = EH /\
  kn b4 XR o6 EH)
theorem Xp (kn : K3) (hn : N3 Q kn 4 17 18) (h : Ih kn (g 0) (g 4) (g 9) (g 11) w) : bH pg eM (aE 1 (aB 1 (aB 1 (aB 1 (aB 5 cZ))))) Q g w :=
 dP (kr := no) (l := []) h hn eU trivial
def yY (R : K1) (aQ b4 bS aP : aLm) (w : aLl) : Prop :=
 Ih (fun b4 XR aC4 w => zC R b4 XR aC4 w) aQ b4 bS aP w
def yZ (R : K1) (b4 b5 b6 b7 : aLm) (w : aLl) : Prop :=
 mW pg 27 b4 w fun r0 => R (.tuple #[r0, b5, b6, b7]) w
theorem XI (R : K1) (hr : HR kF R Q) (h : yZ R (g 4) (g 5) (g 6) (g 7) w) : bH pg eM (aB 1 (cT (aB 1 (bI (aE 1 (aB 1 (aB 1 (aB 5 cZ)))))))) Q g w :=
 dP (kn := no) (l := []) h eU hr trivial
def Ia (kn : K4) (sT b4 : aLm) (w : aLl) : Prop :=
 Ord (anA qP 18 (Ft 18 cZ) 4 9 w)
  (Ord (anA qP 18 (Ft 18 cZ) 9 10 w)
   ((dr w) = (dr w) /\
   aC pg (aY 77 sT (aLn 0)) (dr w) fun l1 w_ => w_ = (dr w) /\
   aC pg (aI 3 l1) (dr w) fun l2 w_ => w_ = (dr w) /\
   aC pg (gF 3 5 l2) (dr w) fun l3 w_ => w_ = (dr w) /\
   aR pg De #[l3] (dr w) fun l4 EO =>
   EO = EO /\
   aC pg (aY 77 sT (aLn 0)) EO fun l6 w_ => w_ = EO /\
   (dS pg (aY 77 sT (aLn 0)) l6 (dr w) /\ True) /\
   aC pg (aI 3 l6) EO fun l7 w_ => w_ = EO /\
   (dS pg (aI 3 l6) l7 (dr w) /\ True) /\
   aC pg (gF 3 5 l7) EO fun l8 w_ => w_ = EO /\
   (dS pg (gF 3 5 l7) l8 (dr w) /\ True) /\
   aC pg (cD 22 1 [(0, l8)]) EO fun l9 akG =>
   aC pg (aK 27 b4 l4) akG fun _u10 sW =>
   sW = sW /\
   sW = sW /\
   sW = sW /\
   kn b4 (aLn 1) l9 (aLn 0) sW)
   ((dr w) = (dr w) /\
   aC pg (aY 77 sT (aLn 0)) (dr w) fun l1 w_ => w_ = (dr w) /\
   aC pg (aI 3 l1) (dr w) fun l2 w_ => w_ = (dr w) /\
   aC pg (gF 3 5 l2) (dr w) fun l3 w_ => w_ = (dr w) /\
   aR pg De #[l3] (dr w) fun l4 EO =>
   EO = EO /\
   aC pg (aY 77 sT (aLn 0)) EO fun l6 w_ => w_ = EO /\
   (dS pg (aY 77 sT (aLn 0)) l6 (dr w) /\ True) /\
   aC pg (aI 3 l6) EO fun l7 w_ => w_ = EO /\
   (dS pg (aI 3 l6) l7 (dr w) /\ True) /\
   aC pg (gF 3 5 l7) EO fun l8 w_ => w_ = EO /\
   (dS pg (gF 3 5 l7) l8 (dr w) /\ True) /\
   aC pg (aK 27 b4 l4) EO fun _u9 akG =>
   (dS pg (gF 3 5 l7) l8 akG /\ dS pg (aI 3 l6) l7 akG /\ dS pg (aY 77 sT (aLn 0)) l6 akG /\ True) /\
   aC pg (cD 22 1 [(0, l8)]) akG fun l9 sW =>
   sW = sW /\
   sW = sW /\
   sW = sW /\
   kn b4 (aLn 1) l9 (aLn 0) sW))
  ((dr w) = (dr w) /\
  aC pg (aY 77 sT (aLn 0)) (dr w) fun l1 w_ => w_ = (dr w) /\
  aC pg (aI 3 l1) (dr w) fun l2 w_ => w_ = (dr w) /\
  aC pg (gF 3 5 l2) (dr w) fun l3 w_ => w_ = (dr w) /\
  (dr w) = (dr w) /\
  aC pg (aY 77 sT (aLn 0)) (dr w) fun l6 w_ => w_ = (dr w) /\
  aC pg (aI 3 l6) (dr w) fun l7 w_ => w_ = (dr w) /\
  aC pg (gF 3 5 l7) (dr w) fun l8 w_ => w_ = (dr w) /\
  aC pg (cD 22 1 [(0, l8)]) (dr w) fun l9 aCy =>
  (dS pg (gF 3 5 l2) l3 aCy /\ dS pg (aI 3 l1) l2 aCy /\ dS pg (aY 77 sT (aLn 0)) l1 aCy /\ True) /\
  aR pg De #[l3] aCy fun l4 akG =>
  aC pg (aK 27 b4 l4) akG fun _u10 sW =>
  sW = sW /\
  sW = sW /\
  sW = sW /\
  kn b4 (aLn 1) l9 (aLn 0) sW)
theorem Yv (kn : K4) (hn : N4 Q kn 4 5 6 7) (h : Ia kn (g 1) (g 4) w) : bH pg eM (aE 1 (cT (aB 1 (bI (aE 1 (aB 1 (aB 1 (aB 5 cZ)))))))) Q g w :=
 dP (kr := no) (l := []) h hn eU trivial
def Ir (R : K1) (sT b4 : aLm) (w : aLl) : Prop :=
 Ia (fun b4 b5 b6 b7 w => yZ R b4 b5 b6 b7 w) sT b4 w
def Jl (kn : K4) (R : K1) (aQ sT b4 bS aP Mj : aLm) (w : aLl) : Prop :=
 aC pg (lF .len #[77] 3 [sT]) w fun m2 w =>
 aC pg (aH .lss 3 aM aM m2 (aLn 64)) w fun m3 w =>
 Gd (eZ m3 true) (fun K => K aP w) w fun m5 w =>
 Gd (eZ m3 true) (fun K => aC pg (aL 145 Mj 1) w K) w fun m6 w =>
 Gd (eZ m3 true) (fun K => aC pg (aI 77 m6) w K) w fun m7 w =>
 Gd (eZ m3 true) (fun K => aC pg (lF .len #[77] 3 [m7]) w K) w fun m8 w =>
 Gd (eZ m3 true) (fun K => aC pg (aH .lss 3 aM aM m5 m8) w K) w fun m9 w =>
 aC pg (fV m3 m9 (.bool false)) w fun n0 w =>
 fE n0
  (aC pg (aI 145 Mj) w fun n2 w =>
  aR pg uK #[n2] w fun n3 w =>
  aC pg (bD n3 0) w fun n4 w =>
  aC pg (bD n3 1) w fun n5 w =>
  aC pg (bV 27) w fun c5 w =>
  aC pg (aK 27 c5 n4) w fun _u w =>
  aC pg (aI 27 c5) w fun n6 w =>
  aC pg (aK 27 b4 n6) w fun _u w =>
  mW pg 27 b4 w fun r0 => R (.tuple #[r0, (aLn 0), (.slice none 0 0), n5]) w)
  (kn aQ b4 bS aP w)
theorem X3 (kn : K4) (R : K1) (hn : N4 Q kn 0 4 9 11) (hr : HR kF R Q) (h : Jl kn R (g 0) (g 1) (g 4) (g 9) (g 11) (g 14) w) : bH pg eM (cE (aB 1 (bI (aE 1 (aB 1 (aB 1 (aB 5 cZ))))))) Q g w :=
 dP (l := []) h hn hr trivial
def Ib (kn : K4) (R : K1) (aQ sT b4 bS aP Mj j7 : aLm) (w : aLl) : Prop :=
 fE j7 (Ir R sT b4 w) (Jl kn R aQ sT b4 bS aP Mj w)
def Iz (kn : K7) (aQ sT b4 bS c0 aP Mj : aLm) (w : aLl) : Prop :=
 aC pg (aH .eql 3 (.tmp 68) (.const (aLn 1)) c0 (aLn 1)) w fun j9 w =>
 kn aQ sT b4 bS aP Mj j9 w
theorem Yk (kn : K7) (hn : N7 Q kn 0 1 4 9 11 14 67) (h : Iz kn (g 0) (g 1) (g 4) (g 9) (g 10) (g 11) (g 14) w) : bH pg eM (aE 1 (bI (aE 1 (aB 1 (aB 1 (aB 5 cZ)))))) Q g w :=
 dP (kr := no) (l := []) h hn eU trivial
def Qk (kn : K4) (R : K1) (aQ sT b4 bS c0 aP Mj : aLm) (w : aLl) : Prop :=
 Iz (fun aQ sT b4 bS aP Mj j7 w => Ib kn R aQ sT b4 bS aP Mj j7 w) aQ sT b4 bS c0 aP Mj w
def Gc (kn : K4) (R : K1) (aQ sT b4 bS c0 aP Mj : aLm) (w : aLl) : Prop :=
 Qk kn R aQ sT b4 bS c0 aP Mj w
def F1 (R : K1) (aQ sT b4 bS c0 aP Mj : aLm) (w : aLl) : Prop :=
 Gc (fun aQ b4 bS aP w => yY R aQ b4 bS aP w) R aQ sT b4 bS c0 aP Mj w
theorem Wg (kn : K4) (R : K1) (hn : N4 Q kn 0 4 9 11) (hr : HR kF R Q) (h : Gc kn R (g 0) (g 1) (g 4) (g 9) (g 10) (g 11) (g 14) w) : bH pg eM (aE 1 (aB 1 (aB 1 (aB 5 cZ)))) Q g w :=
 wD 2 (gC 1 (Yk _ g w (Ib kn R) (fun g w h => aJ (cdD (.tmp 67) (fun h => (gC 1 (Yv _ g w (yZ R) (fun g w h => aJ (XI _ g w R hr h)) h))) (fun h => (X3 _ g w kn R hn hr h)) h)) h))
def Gi (kn : K7) (aQ sT b4 bS c0 aP : aLm) (w : aLl) : Prop :=
 aR pg Ay #[aQ] w fun j6 w =>
 aC pg (bV 145) w fun Mj w =>
 aC pg (aK 145 Mj j6) w fun _u w =>
 kn aQ sT b4 bS c0 aP Mj w
theorem V9 (kn : K7) (hn : N7 Q kn 0 1 4 9 10 11 14) (h : Gi kn (g 0) (g 1) (g 4) (g 9) (g 10) (g 11) w) : bH pg eM (aE 1 (aB 1 (aB 5 cZ))) Q g w :=
 dP (kr := no) (l := []) h hn eU trivial
def F2 (R : K1) (aQ sT b4 bS c0 aP : aLm) (w : aLl) : Prop :=
 Gi (fun aQ sT b4 bS c0 aP Mj w => F1 R aQ sT b4 bS c0 aP Mj w) aQ sT b4 bS c0 aP w
def A7 (kn : Fk) (aQ sT b4 cJ bS c0 aP e6 e7 e8 : aLm) (w : aLl) : Prop :=
 aC pg (aH .add 3 aM aM e8 (aLn 1)) w fun j4 w =>
 kn aQ sT b4 cJ bS c0 aP e6 e7 j4 w
theorem V3 (kn : Fk) (hn : N10 Q kn 0 1 4 8 9 10 11 36 37 38) (h : A7 kn (g 0) (g 1) (g 4) (g 8) (g 9) (g 10) (g 11) (g 36) (g 37) (g 38) w) : bH pg eM (aB 1 (aB 2 (bI (bI (aB 1 (aE 1 (aB 5 cZ))))))) Q g w :=
 dP (kr := no) (l := []) h hn eU trivial
def Bf (kn : Fk) (aQ sT b4 cJ bS c0 aP aEH e6 e7 e8 : aLm) (w : aLl) : Prop :=
 aC pg (lF .max #[3, 3] 3 [aP, aEH]) w fun j3 w =>
 kn aQ sT b4 cJ bS c0 j3 e6 e7 e8 w
theorem Wo (kn : Fk) (hn : N10 Q kn 0 1 4 8 9 10 11 36 37 38) (h : Bf kn (g 0) (g 1) (g 4) (g 8) (g 9) (g 10) (g 11) (g 13) (g 36) (g 37) (g 38) w) : bH pg eM (aB 3 (bI (aE 1 (aB 2 (bI (bI (aB 1 (aE 1 (aB 5 cZ))))))))) Q g w :=
 dP (kr := no) (l := []) h hn eU trivial
def Gq (kn : K11) (R : K1) (aQ sT b4 cJ bS c0 aP e6 e7 e8 : aLm) (w : aLl) : Prop :=
 aC pg (aY 77 e6 e8) w fun f0 w =>
 aC pg (aI 3 f0) w fun f1 w =>
 aC pg (aH .lss 3 aM aM f1 (aLn 0)) w fun f3 w =>
 Gd (eZ f3 false) (fun K => K f1 w) w fun f5 w =>
 Gd (eZ f3 false) (fun K => K cJ w) w fun f6 w =>
 Gd (eZ f3 false) (fun K => aC pg (aH .gtr 3 aM aM f5 f6) w K) w fun f7 w =>
 aC pg (fV f3 (.bool true) f7) w fun f8 w =>
 fE f8
  (aC pg (bX 27 []) w fun f9 w =>
  aC pg (aK 27 b4 f9) w fun _u w =>
  mW pg 27 b4 w fun r0 => R (.tuple #[r0, (aLn 0), (.slice none 0 0), (aLn 1)]) w)
  (aC pg (aY 144 bS f1) w fun i1 w =>
  aC pg (aI 43 i1) w fun i2 w =>
  aC pg (aH .add 43 aM aM i2 (.int .u32 1)) w fun i3 w =>
  aC pg (aY 144 bS f1) w fun i4 w =>
  aC pg (aK 43 i4 i3) w fun _u w =>
  aC pg (aY 144 bS f1) w fun i6 w =>
  aC pg (aI 43 i6) w fun i7 w =>
  aC pg (aH .eql 43 (.tmp 57) (.const (.int .u32 1)) i7 (.int .u32 1)) w fun i8 w =>
  fE i8
   (aC pg (aH .add 3 aM aM c0 (aLn 1)) w fun j0 w =>
   kn aQ sT b4 cJ bS j0 aP f1 e6 e7 e8 w)
   (kn aQ sT b4 cJ bS c0 aP f1 e6 e7 e8 w))
theorem WL (kn : K11) (R : K1) (hn : N11 Q kn 0 1 4 8 9 10 11 13 36 37 38) (hr : HR kF R Q) (h : Gq kn R (g 0) (g 1) (g 4) (g 8) (g 9) (g 10) (g 11) (g 36) (g 37) (g 38) w) : bH pg eM (aE 3 (bI (aE 1 (aB 2 (bI (bI (aB 1 (aE 1 (aB 5 cZ))))))))) Q g w :=
 dP (l := []) h hn hr trivial
def PN (kn : Fk) (R : K1) (aQ sT b4 cJ bS c0 aP e6 e7 e8 : aLm) (w : aLl) : Prop :=
 Gq (fun aQ sT b4 cJ bS c0 aP aEH e6 e7 e8 w => Bf kn aQ sT b4 cJ bS c0 aP aEH e6 e7 e8 w) R aQ sT b4 cJ bS c0 aP e6 e7 e8 w
def Gk (kn : Fk) (R : K1) (aQ sT b4 cJ bS c0 aP e6 e7 e8 : aLm) (w : aLl) : Prop :=
 PN kn R aQ sT b4 cJ bS c0 aP e6 e7 e8 w
def FQ (kn : Fk) (R : K1) (aQ sT b4 cJ bS c0 aP e6 e7 e8 : aLm) (w : aLl) : Prop :=
 Gk (fun aQ sT b4 cJ bS c0 aP e6 e7 e8 w => A7 kn aQ sT b4 cJ bS c0 aP e6 e7 e8 w) R aQ sT b4 cJ bS c0 aP e6 e7 e8 w
theorem Wh (kn : Fk) (R : K1) (hn : N10 Q kn 0 1 4 8 9 10 11 36 37 38) (hr : HR kF R Q) (h : Gk kn R (g 0) (g 1) (g 4) (g 8) (g 9) (g 10) (g 11) (g 36) (g 37) (g 38) w) : bH pg eM (aE 1 (aB 2 (bI (bI (aB 1 (aE 1 (aB 5 cZ))))))) Q g w :=
 wD 1 (gC 3 (WL _ g w (Bf kn) R (fun g w h => aJ (Wo _ g w kn hn h)) hr h))
def Gj (kn : Fk) (k0 : K6) (aQ sT b4 cJ bS c0 aP e6 e7 e8 : aLm) (w : aLl) : Prop :=
 aC pg (aH .lss 3 aM aM e8 e7) w fun e9 w =>
 fE e9
  (kn aQ sT b4 cJ bS c0 aP e6 e7 e8 w)
  (k0 aQ sT b4 bS c0 aP w)
theorem V0 (kn : Fk) (k0 : K6) (hn : N10 Q kn 0 1 4 8 9 10 11 36 37 38) (h0 : E6 Q k0 0 0 1 4 9 10 11) (h : Gj kn k0 (g 0) (g 1) (g 4) (g 8) (g 9) (g 10) (g 11) (g 36) (g 37) (g 38) w) : bH pg eM (aE 2 (bI (bI (aB 1 (aE 1 (aB 5 cZ)))))) Q g w :=
 dP (kr := no) (l := [(0, fun g w => k0 (g 0) (g 1) (g 4) (g 9) (g 10) (g 11) w)]) h hn eU ⟨h0, trivial⟩
def A3 (kn : Fk) (k0 : K6) (R : K1) (aQ sT b4 cJ bS c0 aP e6 e7 e8 : aLm) (w : aLl) : Prop :=
 Gj (fun aQ sT b4 cJ bS c0 aP e6 e7 e8 w => FQ kn R aQ sT b4 cJ bS c0 aP e6 e7 e8 w) k0 aQ sT b4 cJ bS c0 aP e6 e7 e8 w
def FF (k0 : K6) (R : K1) (aQ sT b4 cJ bS c0 aP e6 e7 e8 : aLm) (w : aLl) : Prop :=
 cC (fun (X : (aLm × aLm × aLm) -> K0) (t : aLm × aLm × aLm) (w : aLl) => A3 (fun _ _ _ _ _ c0 aP _ _ e8 w => X (c0, aP, e8) w) k0 R aQ sT b4 cJ bS t.1 t.2.1 e6 e7 t.2.2 w) (c0, aP, e8) w
theorem Wq (kn : Fk) (k0 : K6) (R : K1) (hn : N10 Q kn 0 1 4 8 9 10 11 36 37 38) (h0 : E6 Q k0 0 0 1 4 9 10 11) (hr : HR kF R Q) (h : A3 kn k0 R (g 0) (g 1) (g 4) (g 8) (g 9) (g 10) (g 11) (g 36) (g 37) (g 38) w) : bH pg eM (bI (bI (aB 1 (aE 1 (aB 5 cZ))))) Q g w :=
 gC 2 (V0 _ g w (FQ kn R) k0 (fun g w h => aJ (gC 1 (Wh _ g w (A7 kn) R (fun g w h => aJ (V3 _ g w kn hn h)) hr h))) h0 h)
theorem Wn (k0 : K6) (R : K1) (h0 : E6 Q k0 0 0 1 4 9 10 11) (hr : HR kF R Q) (h : FF k0 R (g 0) (g 1) (g 4) (g 8) (g 9) (g 10) (g 11) (g 36) (g 37) (g 38) w) : bH pg eM (bI (aB 1 (aE 1 (aB 5 cZ)))) Q g w := by
 refine Cy (fun g : Env => (g 10, g 11, g 38)) (fun X t w => A3 (fun _ _ _ _ _ c0 aP _ _ e8 w => X (c0, aP, e8) w) k0 R (g 0) (g 1) (g 4) (g 8) (g 9) t.1 t.2.1 (g 36) (g 37) t.2.2 w) h (fun X g1 w1 ha hL => ?_)
 rw [<- fL 0 ha, <- fL 1 ha, <- fL 4 ha, <- fL 8 ha, <- fL 9 ha, <- fL 36 ha, <- fL 37 ha] at hL
 exact (Wq _ g1 w1 (fun _ _ _ _ _ c0 aP _ _ e8 w => X (c0, aP, e8) w) k0 R (fun _ _ h => h) h0 hr hL)
def Fy (kn : K6) (R : K1) (aQ sT b4 cJ bS c0 aP e6 e7 e8 : aLm) (w : aLl) : Prop :=
 FF kn R aQ sT b4 cJ bS c0 aP e6 e7 e8 w
def Ga (kn : Fk) (aQ sT b4 cJ bS c0 aP : aLm) (w : aLl) : Prop :=
 aC pg (lF .len #[77] 3 [sT]) w fun e7 w =>
 kn aQ sT b4 cJ bS c0 aP sT e7 (aLn 0) w
theorem Wp (kn : Fk) (hn : N10 Q kn 0 1 4 8 9 10 11 36 37 38) (h : Ga kn (g 0) (g 1) (g 4) (g 8) (g 9) (g 10) (g 11) w) : bH pg eM (aE 1 (aE 1 (aB 5 cZ))) Q g w :=
 dP (kr := no) (l := []) h hn eU trivial
def A8 (kn : K6) (R : K1) (aQ sT b4 cJ bS c0 aP : aLm) (w : aLl) : Prop :=
 Ga (fun aQ sT b4 cJ bS c0 aP e6 e7 e8 w => Fy kn R aQ sT b4 cJ bS c0 aP e6 e7 e8 w) aQ sT b4 cJ bS c0 aP w
def FJ (R : K1) (aQ sT b4 cJ bS c0 aP : aLm) (w : aLl) : Prop :=
 A8 (fun aQ sT b4 bS c0 aP w => F2 R aQ sT b4 bS c0 aP w) R aQ sT b4 cJ bS c0 aP w
theorem WO (kn : K6) (R : K1) (hn : N6 Q kn 0 1 4 9 10 11) (hr : HR kF R Q) (h : A8 kn R (g 0) (g 1) (g 4) (g 8) (g 9) (g 10) (g 11) w) : bH pg eM (aE 1 (aB 5 cZ)) Q g w :=
 gC 1 (Wp _ g w (Fy kn R) (fun g w h => aJ (wD 0 (Wn _ g w kn R hn hr h))) h)
def Gp (kn : K7) (R : K1) (aQ sT : aLm) (w : aLl) : Prop :=
 aC pg (bV 27) w fun b4 w =>
 aR pg yK #[aQ] w fun d2 w =>
 aC pg (aH .lss 3 aM aM d2 (aLn 0)) w fun d4 w =>
 Gd (eZ d4 false) (fun K => K sT w) w fun d6 w =>
 Gd (eZ d4 false) (fun K => aC pg (lF .len #[77] 3 [d6]) w K) w fun d7 w =>
 Gd (eZ d4 false) (fun K => aC pg (aH .eql 3 (.tmp 27) (.const (aLn 0)) d7 (aLn 0)) w K) w fun d8 w =>
 aC pg (fV d4 (.bool true) d8) w fun d9 w =>
 Gd (eZ d9 false) (fun K => K sT w) w fun e1 w =>
 Gd (eZ d9 false) (fun K => aC pg (lF .len #[77] 3 [e1]) w K) w fun e2 w =>
 Gd (eZ d9 false) (fun K => aC pg (aH .gtr 3 aM aM e2 (aLn 131072)) w K) w fun e3 w =>
 aC pg (fV d9 (.bool true) e3) w fun e4 w =>
 fE e4
  (aC pg (bX 27 []) w fun e5 w =>
  aC pg (aK 27 b4 e5) w fun _u w =>
  mW pg 27 b4 w fun r0 => R (.tuple #[r0, (aLn 0), (.slice none 0 0), (aLn 1)]) w)
  (aC pg (bV 144) w fun bS w =>
  kn aQ sT b4 d2 bS (aLn 0) (aLn 0) w)
theorem WN (kn : K7) (R : K1) (hn : N7 Q kn 0 1 4 8 9 10 11) (hr : HR kF R Q) (h : Gp kn R (g 0) (g 1) w) : bH pg eM (aE 5 cZ) Q g w :=
 dP (l := []) h hn hr trivial
def FZ (R : K1) (aQ sT : aLm) (w : aLl) : Prop :=
 Gp (fun aQ sT b4 cJ bS c0 aP w => FJ R aQ sT b4 cJ bS c0 aP w) R aQ sT w
theorem V4 (R : K1) (hr : HR kF R Q) (h : FZ R (g 0) (g 1) w) : bH pg eM cZ Q g w :=
 gC 5 (WN _ g w (FJ R) R (fun g w h => aJ (gC 1 (WO _ g w (F2 R) R (fun g w h => aJ (gC 1 (V9 _ g w (F1 R) (fun g w h => aJ (gC 1 (Wg _ g w (yY R) R (fun g w h => aJ (gC 1 (Xp _ g w (zC R) (fun g w h => aJ (X0 _ g w R hr h)) h))) hr h))) h))) hr h))) hr h)
def ZT (a0 a1 : aLm) (w : aLl) (R : K1) : Prop :=
 FZ R a0 a1 w
theorem abU {a0 a1 : aLm} {w : aLl} {R : K1} (h : ZT a0 a1 w R) : aR pg qP #[a0, a1] w R := by
 refine tD (ann := eM) Tryd.f40 cZ [a0, a1] kF 128 TrydM.mixed Tryd.func40 ?_
 exact (V4 _ _ _ R (fun _ _ h => h) h)
def cA : FA := ⟨xR, fun i => match Nat.beq i 15 with | true => .leaf ([7], []) [(false, []), (false, []), (false, []), (false, []), (false, []), (false, []), (false, []), (true, []), (false, []), (false, []), (false, []), (false, []), (false, []), (false, []), (false, []), (false, []), (false, [])] | false => match Nat.beq i 31 with | true => .leaf ([9], []) [(false, []), (false, []), (false, []), (false, []), (false, []), (false, []), (false, []), (false, []), (false, []), (true, [])] | false => .leaf ([], []) []⟩
def iJ : List ResultVar := [.tmp 6, .tmp 7]
noncomputable def bT : Code := cX Tryd.f41
def wL (R : K1) (qC : aLm) (w : aLl) : Prop :=
 aR pg uM #[qC] w fun s7 w =>
 R (.tuple #[s7, (aLn 0)]) w
theorem RW (R : K1) (hr : HR iJ R Q) (h : wL R (g 8) w) : bH pg cA (aB 1 (aB 1 (aB 3 bT))) Q g w :=
 dP (kn := no) (l := []) h eU hr trivial
def wG (kn : K5) (k6 : K1) (b5 qC bB q1 q2 : aLm) (w : aLl) : Prop :=
 aC pg (aH .lss 3 aM aM q2 (aLn 3)) w fun q3 w =>
 fE q3
  (aC pg (IM 67 q1 q2) w fun q4 w =>
  (dr w) = (dr w) /\
  (dr w) = (dr w) /\
  aC pg (aY 67 bB q4) (dr w) fun q7 w_ => w_ = (dr w) /\
  aC pg (aI 3 q7) (dr w) fun q8 w_ => w_ = (dr w) /\
  aC pg (gF 3 73 q8) (dr w) fun q9 w_ => w_ = (dr w) /\
  (dr w) = (dr w) /\
  aC pg (aY 29 b5 q4) (dr w) fun s1 w_ => w_ = (dr w) /\
  aC pg (aL 27 s1 0) (dr w) fun s2 w_ => w_ = (dr w) /\
  aC pg (aI 3 s2) (dr w) fun s3 w_ => w_ = (dr w) /\
  aR pg fO #[qC, q9, s3] (dr w) fun s4 aH6 =>
  aC pg (aH .add 3 aM aM q2 (aLn 1)) aH6 fun s5 w =>
  kn b5 qC bB q1 s5 w)
  (k6 qC w)
theorem Rr (kn : K5) (k6 : K1) (hn : N5 Q kn 5 8 9 121 122) (h6 : E1 Q k6 6 8) (h : wG kn k6 (g 5) (g 8) (g 9) (g 121) (g 122) w) : bH pg cA (bI (bI (aB 1 (aE 1 (aB 1 (aB 3 bT)))))) Q g w :=
 dP (kr := no) (l := [(6, fun g w => k6 (g 8) w)]) h hn eU ⟨h6, trivial⟩
def wH (k6 : K1) (b5 qC bB q1 q2 : aLm) (w : aLl) : Prop :=
 cC (fun (X : aLm -> K0) (t : aLm) (w : aLl) => wG (fun _ _ _ _ q2 w => X q2 w) k6 b5 qC bB q1 t w) q2 w
theorem R3 (k6 : K1) (h6 : E1 Q k6 6 8) (h : wH k6 (g 5) (g 8) (g 9) (g 121) (g 122) w) : bH pg cA (bI (aB 1 (aE 1 (aB 1 (aB 3 bT))))) Q g w := by
 refine Cy (fun g : Env => g 122) (fun X t w => wG (fun _ _ _ _ q2 w => X q2 w) k6 (g 5) (g 8) (g 9) (g 121) t w) h (fun X g1 w1 ha hL => ?_)
 rw [<- fL 5 ha, <- fL 8 ha, <- fL 9 ha, <- fL 121 ha] at hL
 exact (Rr _ g1 w1 (fun _ _ _ _ q2 w => X q2 w) k6 (fun _ _ h => h) h6 hL)
def Bx (kn : K1) (b5 qC bB q1 q2 : aLm) (w : aLl) : Prop :=
 wH kn b5 qC bB q1 q2 w
def BA (kn : K5) (b5 qC bB : aLm) (w : aLl) : Prop :=
 aC pg (bX 67 [(0, (aLn 2)), (1, (aLn 1)), (2, (aLn 0))]) w fun q1 w =>
 kn b5 qC bB q1 (aLn 0) w
theorem Sb (kn : K5) (hn : N5 Q kn 5 8 9 121 122) (h : BA kn (g 5) (g 8) (g 9) w) : bH pg cA (aE 1 (aE 1 (aB 1 (aB 3 bT)))) Q g w :=
 dP (kr := no) (l := []) h hn eU trivial
def BH (kn : K1) (b5 qC bB : aLm) (w : aLl) : Prop :=
 BA (fun b5 qC bB q1 q2 w => Bx kn b5 qC bB q1 q2 w) b5 qC bB w
def Bw (R : K1) (b5 qC bB : aLm) (w : aLl) : Prop :=
 BH (fun qC w => wL R qC w) b5 qC bB w
theorem RZ (kn : K1) (hn : N1 Q kn 8) (h : BH kn (g 5) (g 8) (g 9) w) : bH pg cA (aE 1 (aB 1 (aB 3 bT))) Q g w :=
 gC 1 (Sb _ g w (Bx kn) (fun g w h => aJ (wD 6 (R3 _ g w kn hn h))) h)
def wI (kn : K6) (hY dN b5 qC bB iK : aLm) (w : aLl) : Prop :=
 aC pg (aH .sub 3 aM aM iK (aLn 1)) w fun e5 w =>
 kn hY dN b5 qC bB e5 w
theorem RE (kn : K6) (hn : N6 Q kn 0 4 5 8 9 10) (h : wI kn (g 0) (g 4) (g 5) (g 8) (g 9) (g 10) w) : bH pg cA (aB 1 (aB 1 (bI (bI (aB 1 (aE 1 (aB 3 bT))))))) Q g w :=
 dP (kr := no) (l := []) h hn eU trivial
def wF (kn : K9) (k4 : K6) (hY dN b5 qC bB iK ahS n5 n6 : aLm) (w : aLl) : Prop :=
 aC pg (aH .lss 3 aM aM n6 (aLn 3)) w fun n7 w =>
 fE n7
  (aC pg (IM 67 n5 n6) w fun n8 w =>
  aC pg (aY 98 dN n8) w fun o2 w =>
  aC pg (aI 77 o2) w fun o3 w =>
  aC pg (aY 77 o3 iK) w fun o5 w =>
  aC pg (aI 3 o5) w fun o6 w =>
  aR pg Et #[n8, o6] w fun o7 w =>
  aC pg (bD o7 0) w fun o8 w =>
  aC pg (bD o7 1) w fun o9 w =>
  aC pg (bD o7 2) w fun p0 w =>
  aC pg (aY 142 ahS n8) w fun p3 w =>
  aC pg (aI 43 p3) w fun p4 w =>
  aC pg (aH .sub 43 aM aM p4 o8) w fun p6 w =>
  aC pg (gF 43 73 p6) w fun p7 w =>
  aR pg fO #[qC, p7, o9] w fun p9 w =>
  aC pg (aH .add 3 aM aM n6 (aLn 1)) w fun q0 w =>
  kn hY dN b5 qC bB iK ahS n5 q0 w)
  (k4 hY dN b5 qC bB iK w)
theorem Q9 (kn : K9) (k4 : K6) (hn : N9 Q kn 0 4 5 8 9 10 20 95 96) (h4 : E6 Q k4 4 0 4 5 8 9 10) (h : wF kn k4 (g 0) (g 4) (g 5) (g 8) (g 9) (g 10) (g 20) (g 95) (g 96) w) : bH pg cA (bI (bI (aB 2 (aB 1 (bI (aE 1 (aB 1 (bI (bI (aB 1 (aE 1 (aB 3 bT)))))))))))) Q g w :=
 dP (kr := no) (l := [(4, fun g w => k4 (g 0) (g 4) (g 5) (g 8) (g 9) (g 10) w)]) h hn eU ⟨h4, trivial⟩
def uU (k4 : K6) (hY dN b5 qC bB iK ahS n5 n6 : aLm) (w : aLl) : Prop :=
 cC (fun (X : aLm -> K0) (t : aLm) (w : aLl) => wF (fun _ _ _ _ _ _ _ _ n6 w => X n6 w) k4 hY dN b5 qC bB iK ahS n5 t w) n6 w
theorem QN (k4 : K6) (h4 : E6 Q k4 4 0 4 5 8 9 10) (h : uU k4 (g 0) (g 4) (g 5) (g 8) (g 9) (g 10) (g 20) (g 95) (g 96) w) : bH pg cA (bI (aB 2 (aB 1 (bI (aE 1 (aB 1 (bI (bI (aB 1 (aE 1 (aB 3 bT))))))))))) Q g w := by
 refine Cy (fun g : Env => g 96) (fun X t w => wF (fun _ _ _ _ _ _ _ _ n6 w => X n6 w) k4 (g 0) (g 4) (g 5) (g 8) (g 9) (g 10) (g 20) (g 95) t w) h (fun X g1 w1 ha hL => ?_)
 rw [<- fL 0 ha, <- fL 4 ha, <- fL 5 ha, <- fL 8 ha, <- fL 9 ha, <- fL 10 ha, <- fL 20 ha, <- fL 95 ha] at hL
 exact (Q9 _ g1 w1 (fun _ _ _ _ _ _ _ _ n6 w => X n6 w) k4 (fun _ _ h => h) h4 hL)
def AW (kn : K6) (hY dN b5 qC bB iK ahS n5 n6 : aLm) (w : aLl) : Prop :=
 uU kn hY dN b5 qC bB iK ahS n5 n6 w
def AE (kn : K9) (hY dN b5 qC bB iK : aLm) (w : aLl) : Prop :=
 aC pg (aY 24 hY iK) w fun n2 w =>
 aC pg (aI 47 n2) w fun n3 w =>
 aR pg tN #[n3] w fun n4 w =>
 aC pg (bV 142) w fun ahS w =>
 aC pg (aK 142 ahS n4) w fun _u w =>
 aC pg (bX 67 [(0, (aLn 0)), (1, (aLn 2)), (2, (aLn 1))]) w fun n5 w =>
 kn hY dN b5 qC bB iK ahS n5 (aLn 0) w
theorem Qb (kn : K9) (hn : N9 Q kn 0 4 5 8 9 10 20 95 96) (h : AE kn (g 0) (g 4) (g 5) (g 8) (g 9) (g 10) w) : bH pg cA (aE 2 (aB 1 (bI (aE 1 (aB 1 (bI (bI (aB 1 (aE 1 (aB 3 bT)))))))))) Q g w :=
 dP (kr := no) (l := []) h hn eU trivial
def Ao (kn : K6) (hY dN b5 qC bB iK : aLm) (w : aLl) : Prop :=
 AE (fun hY dN b5 qC bB iK ahS n5 n6 w => AW kn hY dN b5 qC bB iK ahS n5 n6 w) hY dN b5 qC bB iK w
def qI (kn : K8) (hY dN b5 qC bB iK e6 e7 : aLm) (w : aLl) : Prop :=
 aC pg (aH .add 3 aM aM e7 (aLn 1)) w fun m9 w =>
 kn hY dN b5 qC bB iK e6 m9 w
theorem QQ (kn : K8) (hn : N8 Q kn 0 4 5 8 9 10 36 37) (h : qI kn (g 0) (g 4) (g 5) (g 8) (g 9) (g 10) (g 36) (g 37) w) : bH pg cA (aB 3 (bI (bI (aB 1 (aE 1 (bI (aE 1 (aB 1 (bI (bI (aB 1 (aE 1 (aB 3 bT))))))))))))) Q g w :=
 dP (kr := no) (l := []) h hn eU trivial
def AN (kn : K8) (k2 : K6) (R : K1) (hY dN b5 qC bB iK e6 e7 : aLm) (w : aLl) : Prop :=
 aC pg (aH .lss 3 aM aM e7 (aLn 3)) w fun e8 w =>
 fE e8
  (aC pg (IM 67 e6 e7) w fun e9 w =>
  aC pg (aY 98 dN e9) w fun f1 w =>
  aC pg (aI 77 f1) w fun f2 w =>
  aC pg (aY 77 f2 iK) w fun f4 w =>
  aC pg (aI 3 f4) w fun f5 w =>
  aC pg (gF 3 5 f5) w fun f6 w =>
  aC pg (lF .len #[24] 3 [hY]) w fun f9 w =>
  aC pg (aH .sub 3 aM aM f9 (aLn 1)) w fun i0 w =>
  aC pg (aH .eql 3 (.tmp 47) (.tmp 50) iK i0) w fun i1 w =>
  fE i1
   (aC pg (aY 29 b5 e9) w fun i4 w =>
   aC pg (aI 27 i4) w fun i5 w =>
   aR pg Nu #[i5, f6] w fun i7 w =>
   aC pg (bD i7 0) w fun i8 w =>
   aC pg (bD i7 1) w fun i9 w =>
   aC pg (aH .neq 30 (.tmp 60) (.const (aLn 0)) i9 (aLn 0)) w fun j1 w =>
   fE j1
    (R (.tuple #[(.slice none 0 0), i9]) w)
    (aC pg (aY 67 bB e9) w fun j5 w =>
    aC pg (aK 3 j5 i8) w fun _u w =>
    kn hY dN b5 qC bB iK e6 e7 w))
   ((dr w) = (dr w) /\
   aC pg (aY 29 b5 e9) (dr w) fun j8 w_ => w_ = (dr w) /\
   aC pg (aI 27 j8) (dr w) fun j9 w_ => w_ = (dr w) /\
   (dr w) = (dr w) /\
   aC pg (aY 67 bB e9) (dr w) fun l1 w_ => w_ = (dr w) /\
   aC pg (aI 3 l1) (dr w) fun l2 w_ => w_ = (dr w) /\
   (dr w) = (dr w) /\
   aR pg J2 #[j9, l2, f6] (dr w) fun l4 El =>
   El = El /\
   aC pg (bD l4 0) El fun l5 w_ => w_ = El /\
   aC pg (bD l4 1) El fun l6 w_ => w_ = El /\
   aC pg (bD l4 2) El fun l7 w_ => w_ = El /\
   aC pg (bD l4 3) El fun l8 w_ => w_ = El /\
   El = El /\
   El = El /\
   El = El /\
   El = El /\
   aC pg (aH .neq 30 (.tmp 79) (.const (aLn 0)) l8 (aLn 0)) El fun m0 w =>
   fE m0
    (R (.tuple #[(.slice none 0 0), l8]) w)
    (aR pg fO #[qC, l6, l7] w fun m5 w =>
    aC pg (aY 67 bB e9) w fun m8 w =>
    aC pg (aK 3 m8 l5) w fun _u w =>
    kn hY dN b5 qC bB iK e6 e7 w)))
  (k2 hY dN b5 qC bB iK w)
theorem Qw (kn : K8) (k2 : K6) (R : K1) (hn : N8 Q kn 0 4 5 8 9 10 36 37) (h2 : E6 Q k2 2 0 4 5 8 9 10) (hr : HR iJ R Q) (h : AN kn k2 R (g 0) (g 4) (g 5) (g 8) (g 9) (g 10) (g 36) (g 37) w) : bH pg cA (aE 3 (bI (bI (aB 1 (aE 1 (bI (aE 1 (aB 1 (bI (bI (aB 1 (aE 1 (aB 3 bT))))))))))))) Q g w :=
 dP (l := [(2, fun g w => k2 (g 0) (g 4) (g 5) (g 8) (g 9) (g 10) w)]) h hn hr ⟨h2, trivial⟩
def uO (kn : K8) (k2 : K6) (R : K1) (hY dN b5 qC bB iK e6 e7 : aLm) (w : aLl) : Prop :=
 AN (fun hY dN b5 qC bB iK e6 e7 w => qI kn hY dN b5 qC bB iK e6 e7 w) k2 R hY dN b5 qC bB iK e6 e7 w
def uX (k2 : K6) (R : K1) (hY dN b5 qC bB iK e6 e7 : aLm) (w : aLl) : Prop :=
 cC (fun (X : aLm -> K0) (t : aLm) (w : aLl) => uO (fun _ _ _ _ _ _ _ e7 w => X e7 w) k2 R hY dN b5 qC bB iK e6 t w) e7 w
theorem QE (kn : K8) (k2 : K6) (R : K1) (hn : N8 Q kn 0 4 5 8 9 10 36 37) (h2 : E6 Q k2 2 0 4 5 8 9 10) (hr : HR iJ R Q) (h : uO kn k2 R (g 0) (g 4) (g 5) (g 8) (g 9) (g 10) (g 36) (g 37) w) : bH pg cA (bI (bI (aB 1 (aE 1 (bI (aE 1 (aB 1 (bI (bI (aB 1 (aE 1 (aB 3 bT)))))))))))) Q g w :=
 gC 3 (Qw _ g w (qI kn) k2 R (fun g w h => aJ (QQ _ g w kn hn h)) h2 hr h)
theorem P6 (k2 : K6) (R : K1) (h2 : E6 Q k2 2 0 4 5 8 9 10) (hr : HR iJ R Q) (h : uX k2 R (g 0) (g 4) (g 5) (g 8) (g 9) (g 10) (g 36) (g 37) w) : bH pg cA (bI (aB 1 (aE 1 (bI (aE 1 (aB 1 (bI (bI (aB 1 (aE 1 (aB 3 bT))))))))))) Q g w := by
 refine Cy (fun g : Env => g 37) (fun X t w => uO (fun _ _ _ _ _ _ _ e7 w => X e7 w) k2 R (g 0) (g 4) (g 5) (g 8) (g 9) (g 10) (g 36) t w) h (fun X g1 w1 ha hL => ?_)
 rw [<- fL 0 ha, <- fL 4 ha, <- fL 5 ha, <- fL 8 ha, <- fL 9 ha, <- fL 10 ha, <- fL 36 ha] at hL
 exact (QE _ g1 w1 (fun _ _ _ _ _ _ _ e7 w => X e7 w) k2 R (fun _ _ h => h) h2 hr hL)
def AA (kn : K6) (R : K1) (hY dN b5 qC bB iK e6 e7 : aLm) (w : aLl) : Prop :=
 uX kn R hY dN b5 qC bB iK e6 e7 w
def AR (kn : K8) (hY dN b5 qC bB iK : aLm) (w : aLl) : Prop :=
 aC pg (bX 67 [(0, (aLn 1)), (1, (aLn 2)), (2, (aLn 0))]) w fun e6 w =>
 kn hY dN b5 qC bB iK e6 (aLn 0) w
theorem Qg (kn : K8) (hn : N8 Q kn 0 4 5 8 9 10 36 37) (h : AR kn (g 0) (g 4) (g 5) (g 8) (g 9) (g 10) w) : bH pg cA (aE 1 (aE 1 (bI (aE 1 (aB 1 (bI (bI (aB 1 (aE 1 (aB 3 bT)))))))))) Q g w :=
 dP (kr := no) (l := []) h hn eU trivial
def Aj (kn : K6) (R : K1) (hY dN b5 qC bB iK : aLm) (w : aLl) : Prop :=
 AR (fun hY dN b5 qC bB iK e6 e7 w => AA kn R hY dN b5 qC bB iK e6 e7 w) hY dN b5 qC bB iK w
def Hy (kn : K6) (R : K1) (hY dN b5 qC bB iK : aLm) (w : aLl) : Prop :=
 Aj (fun hY dN b5 qC bB iK w => Ao kn hY dN b5 qC bB iK w) R hY dN b5 qC bB iK w
theorem Qa (kn : K6) (R : K1) (hn : N6 Q kn 0 4 5 8 9 10) (hr : HR iJ R Q) (h : Aj kn R (g 0) (g 4) (g 5) (g 8) (g 9) (g 10) w) : bH pg cA (aE 1 (bI (aE 1 (aB 1 (bI (bI (aB 1 (aE 1 (aB 3 bT))))))))) Q g w :=
 gC 1 (Qg _ g w (AA kn R) (fun g w h => aJ (wD 2 (P6 _ g w kn R hn hr h))) h)
def An (kn : K6) (R : K1) (hY dN b5 qC bB iK : aLm) (w : aLl) : Prop :=
 Hy kn R hY dN b5 qC bB iK w
def Ai (kn : K6) (R : K1) (hY dN b5 qC bB iK : aLm) (w : aLl) : Prop :=
 An (fun hY dN b5 qC bB iK w => wI kn hY dN b5 qC bB iK w) R hY dN b5 qC bB iK w
theorem QP (kn : K6) (R : K1) (hn : N6 Q kn 0 4 5 8 9 10) (hr : HR iJ R Q) (h : An kn R (g 0) (g 4) (g 5) (g 8) (g 9) (g 10) w) : bH pg cA (aE 1 (aB 1 (bI (bI (aB 1 (aE 1 (aB 3 bT))))))) Q g w :=
 wD 1 (gC 1 (Qa _ g w (Ao kn) R (fun g w h => aJ (gC 2 (Qb _ g w (AW kn) (fun g w h => aJ (wD 4 (QN _ g w kn hn h))) h))) hr h))
def Am (kn : K6) (k0 : K3) (hY dN b5 qC bB iK : aLm) (w : aLl) : Prop :=
 aC pg (aH .geq 3 aM aM iK (aLn 0)) w fun e3 w =>
 fE e3
  (kn hY dN b5 qC bB iK w)
  (k0 b5 qC bB w)
theorem P4 (kn : K6) (k0 : K3) (hn : N6 Q kn 0 4 5 8 9 10) (h0 : E3 Q k0 0 5 8 9) (h : Am kn k0 (g 0) (g 4) (g 5) (g 8) (g 9) (g 10) w) : bH pg cA (aE 1 (bI (bI (aB 1 (aE 1 (aB 3 bT)))))) Q g w :=
 dP (kr := no) (l := [(0, fun g w => k0 (g 5) (g 8) (g 9) w)]) h hn eU ⟨h0, trivial⟩
def uN (kn : K6) (k0 : K3) (R : K1) (hY dN b5 qC bB iK : aLm) (w : aLl) : Prop :=
 Am (fun hY dN b5 qC bB iK w => Ai kn R hY dN b5 qC bB iK w) k0 hY dN b5 qC bB iK w
def AL (k0 : K3) (R : K1) (hY dN b5 qC bB iK : aLm) (w : aLl) : Prop :=
 cC (fun (X : aLm -> K0) (t : aLm) (w : aLl) => uN (fun _ _ _ _ _ iK w => X iK w) k0 R hY dN b5 qC bB t w) iK w
theorem QS (kn : K6) (k0 : K3) (R : K1) (hn : N6 Q kn 0 4 5 8 9 10) (h0 : E3 Q k0 0 5 8 9) (hr : HR iJ R Q) (h : uN kn k0 R (g 0) (g 4) (g 5) (g 8) (g 9) (g 10) w) : bH pg cA (bI (bI (aB 1 (aE 1 (aB 3 bT))))) Q g w :=
 gC 1 (P4 _ g w (Ai kn R) k0 (fun g w h => aJ (gC 1 (QP _ g w (wI kn) R (fun g w h => aJ (RE _ g w kn hn h)) hr h))) h0 h)
theorem Qn (k0 : K3) (R : K1) (h0 : E3 Q k0 0 5 8 9) (hr : HR iJ R Q) (h : AL k0 R (g 0) (g 4) (g 5) (g 8) (g 9) (g 10) w) : bH pg cA (bI (aB 1 (aE 1 (aB 3 bT)))) Q g w := by
 refine Cy (fun g : Env => g 10) (fun X t w => uN (fun _ _ _ _ _ iK w => X iK w) k0 R (g 0) (g 4) (g 5) (g 8) (g 9) t w) h (fun X g1 w1 ha hL => ?_)
 rw [<- fL 0 ha, <- fL 4 ha, <- fL 5 ha, <- fL 8 ha, <- fL 9 ha] at hL
 exact (QS _ g1 w1 (fun _ _ _ _ _ iK w => X iK w) k0 R (fun _ _ h => h) h0 hr hL)
def Ah (kn : K3) (R : K1) (hY dN b5 qC bB iK : aLm) (w : aLl) : Prop :=
 AL kn R hY dN b5 qC bB iK w
def As (kn : K6) (hY dN b5 qC bB : aLm) (w : aLl) : Prop :=
 aC pg (lF .len #[24] 3 [hY]) w fun e0 w =>
 aC pg (aH .sub 3 aM aM e0 (aLn 1)) w fun e1 w =>
 kn hY dN b5 qC bB e1 w
theorem PR (kn : K6) (hn : N6 Q kn 0 4 5 8 9 10) (h : As kn (g 0) (g 4) (g 5) (g 8) (g 9) w) : bH pg cA (aE 1 (aE 1 (aB 3 bT))) Q g w :=
 dP (kr := no) (l := []) h hn eU trivial
def AF (kn : K3) (R : K1) (hY dN b5 qC bB : aLm) (w : aLl) : Prop :=
 As (fun hY dN b5 qC bB iK w => Ah kn R hY dN b5 qC bB iK w) hY dN b5 qC bB w
def AU (R : K1) (hY dN b5 qC bB : aLm) (w : aLl) : Prop :=
 AF (fun b5 qC bB w => Bw R b5 qC bB w) R hY dN b5 qC bB w
theorem QG (kn : K3) (R : K1) (hn : N3 Q kn 5 8 9) (hr : HR iJ R Q) (h : AF kn R (g 0) (g 4) (g 5) (g 8) (g 9) w) : bH pg cA (aE 1 (aB 3 bT)) Q g w :=
 gC 1 (PR _ g w (Ah kn R) (fun g w h => aJ (wD 0 (Qn _ g w kn R hn hr h))) h)
def Au (kn : K5) (hY aAP b2 : aLm) (w : aLl) : Prop :=
 aC pg (sU 98 aAP) w fun dN w =>
 aC pg (sU 29 b2) w fun b5 w =>
 aR pg sS #[] w fun d8 w =>
 aC pg (bV 67) w fun bB w =>
 kn hY dN b5 d8 bB w
theorem PS (kn : K5) (hn : N5 Q kn 0 4 5 8 9) (h : Au kn (g 0) (g 1) (g 2) w) : bH pg cA (aE 3 bT) Q g w :=
 dP (kr := no) (l := []) h hn eU trivial
def Al (R : K1) (hY aAP b2 : aLm) (w : aLl) : Prop :=
 Au (fun hY dN b5 qC bB w => AU R hY dN b5 qC bB w) hY aAP b2 w
theorem PX (R : K1) (hr : HR iJ R Q) (h : Al R (g 0) (g 1) (g 2) w) : bH pg cA bT Q g w :=
 gC 3 (PS _ g w (AU R) (fun g w h => aJ (gC 1 (QG _ g w (Bw R) R (fun g w h => aJ (gC 1 (RZ _ g w (wL R) (fun g w h => aJ (RW _ g w R hr h)) h))) hr h))) h)
def PM (a0 a1 a2 : aLm) (w : aLl) (R : K1) : Prop :=
 Al R a0 a1 a2 w
theorem TF {a0 a1 a2 : aLm} {w : aLl} {R : K1} (h : PM a0 a1 a2 w R) : aR pg xR #[a0, a1, a2] w R := by
 refine tD (ann := cA) Tryd.f41 bT [a0, a1, a2] iJ 138 TrydM.mixed Tryd.func41 ?_
 exact (PX _ _ _ R (fun _ _ h => h) h)
def Df : FA := ⟨pZ, fun i => .leaf ([], []) []⟩
def RO : List ResultVar := []
noncomputable def BQ : Code := cX Tryd.f42
def yM (kn : K0) (xH W3 : aLm) (w : aLl) : Prop :=
 aC pg (aH .neq 95 (.tmp 4) (.const (.pointer none)) xH (.pointer none)) w fun b5 w =>
 fE b5
  (aC pg (sQ xH) w fun b8 w =>
  aC pg (aL 141 b8 0) w fun b9 w =>
  aC pg (aI 22 b9) w fun c0 w =>
  aC pg (lF .append #[22, 22] 22 [c0, W3]) w fun c2 w =>
  aC pg (sQ xH) w fun c3 w =>
  aC pg (aL 141 c3 0) w fun c4 w =>
  aC pg (aK 22 c4 c2) w fun _u w =>
  kn w)
  (kn w)
theorem MZ (kn : K0) (hn : N0 Q kn) (h : yM kn (g 0) (g 1) w) : bH pg Df BQ Q g w :=
 dP (kr := no) (l := []) h hn eU trivial
def Jv (a0 a1 : aLm) (w : aLl) (R : K1) : Prop :=
 yM (fun  w => R (.tuple #[]) w) a0 a1 w
theorem Pz {a0 a1 : aLm} {w : aLl} {R : K1} (h : Jv a0 a1 w R) : aR pg pZ #[a0, a1] w R := by
 refine tD (ann := Df) Tryd.f42 BQ [a0, a1] RO 15 TrydM.mixed Tryd.func42 ?_
 exact (MZ _ _ _ (fun  w => R (.tuple #[]) w) (fun _ _ h => h) h)
def EZ : FA := ⟨wK, fun i => .leaf ([], []) []⟩
def HC : List ResultVar := [.tmp 2]
noncomputable def DK : Code := cX Tryd.f43
def AZ (R : K1) (xH : aLm) (w : aLl) : Prop :=
 aC pg (aH .eql 95 (.tmp 3) (.const (.pointer none)) xH (.pointer none)) w fun b4 w =>
 fE b4
  (R (.slice none 0 0) w)
  (aC pg (sQ xH) w fun b6 w =>
  aC pg (aL 141 b6 0) w fun b7 w =>
  aC pg (aI 22 b7) w fun b8 w =>
  aR pg kA #[b8] w fun b9 w =>
  R b9 w)
theorem Qq (R : K1) (hr : HR HC R Q) (h : AZ R (g 0) w) : bH pg EZ DK Q g w :=
 dP (kn := no) (l := []) h eU hr trivial
def Nb (a0 : aLm) (w : aLl) (R : K1) : Prop :=
 AZ R a0 w
theorem Ra {a0 : aLm} {w : aLl} {R : K1} (h : Nb a0 w R) : aR pg wK #[a0] w R := by
 refine tD (ann := EZ) Tryd.f43 DK [a0] HC 10 TrydM.mixed Tryd.func43 ?_
 exact (Qq _ _ _ R (fun _ _ h => h) h)
def KZ : FA := ⟨wO, fun i => .leaf ([], []) []⟩
def M5 : List ResultVar := [.cell 2 27, .tmp 3]
noncomputable def Jw : Code := cX Tryd.f44
def EJ (R : K1) (aQ : aLm) (w : aLl) : Prop :=
 aC pg (bV 27) w fun b2 w =>
 aR pg Ay #[aQ] w fun b5 w =>
 aR pg uK #[b5] w fun b6 w =>
 aC pg (bD b6 0) w fun b7 w =>
 aC pg (bD b6 1) w fun b8 w =>
 aC pg (aK 27 b2 b7) w fun _u w =>
 mW pg 27 b2 w fun r0 => R (.tuple #[r0, b8]) w
theorem VA (R : K1) (hr : HR M5 R Q) (h : EJ R (g 0) w) : bH pg KZ Jw Q g w :=
 dP (kn := no) (l := []) h eU hr trivial
def Uv (a0 : aLm) (w : aLl) (R : K1) : Prop :=
 EJ R a0 w
theorem Wz {a0 : aLm} {w : aLl} {R : K1} (h : Uv a0 w R) : aR pg wO #[a0] w R := by
 refine tD (ann := KZ) Tryd.f44 Jw [a0] M5 9 TrydM.mixed Tryd.func44 ?_
 exact (VA _ _ _ R (fun _ _ h => h) h)
def akH : FA := ⟨De, fun i => .leaf ([], []) []⟩
def apI : List ResultVar := [.cell 2 27]
noncomputable def aaY : Code := cX Tryd.f45
def Xz (R : K1) (apJ : aLm) (w : aLl) : Prop :=
 aC pg (bV 27) w fun b2 w =>
 aC pg (bX 123 [(0, apJ)]) w fun b4 w =>
 aC pg (cD 25 1 [(0, b4)]) w fun b5 w =>
 aC pg (bX 27 [(1, b5)]) w fun b6 w =>
 aC pg (aK 27 b2 b6) w fun _u w =>
 mW pg 27 b2 w fun r0 => R r0 w
theorem asW (R : K1) (hr : HR apI R Q) (h : Xz R (g 0) w) : bH pg akH aaY Q g w :=
 dP (kn := no) (l := []) h eU hr trivial
def aB2 (a0 : aLm) (w : aLl) (R : K1) : Prop :=
 Xz R a0 w
theorem awB {a0 : aLm} {w : aLl} {R : K1} (h : aB2 a0 w R) : aR pg De #[a0] w R := by
 refine tD (ann := akH) Tryd.f45 aaY [a0] apI 7 TrydM.mixed Tryd.func45 ?_
 exact (asW _ _ _ R (fun _ _ h => h) h)
def nC : FA := ⟨uG, fun i => .leaf ([], []) []⟩
def FB : List ResultVar := [.cell 2 35]
noncomputable def mG : Code := cX Tryd.f46
def Bj (R : K1) (b2 bL : aLm) (w : aLl) : Prop :=
 aC pg (aI 35 bL) w fun e4 w =>
 aC pg (aK 35 b2 e4) w fun _u w =>
 mW pg 35 b2 w fun r0 => R r0 w
theorem WM (R : K1) (hr : HR FB R Q) (h : Bj R (g 2) (g 3) w) : bH pg nC (aB 1 (aB 2 mG)) Q g w :=
 dP (kn := no) (l := []) h eU hr trivial
def Be (kn : K4) (k0 : K2) (b1 b2 bL iV : aLm) (w : aLl) : Prop :=
 aC pg (aL 27 b1 1) w fun c0 w =>
 aC pg (aI 25 c0) w fun c1 w =>
 aC pg (lF .len #[25] 3 [c1]) w fun c2 w =>
 aC pg (aH .lss 3 aM aM iV c2) w fun c3 w =>
 fE c3
  (aC pg (aL 27 b1 1) w fun c6 w =>
  aC pg (aI 25 c6) w fun c7 w =>
  aC pg (aY 25 c7 iV) w fun c9 w =>
  aC pg (aI 123 c9) w fun d0 w =>
  aC pg (bV 123) w fun S4 w =>
  aC pg (aK 123 S4 d0) w fun _u w =>
  aC pg (aL 35 bL 1) w fun d1 w =>
  aC pg (aI 33 d1) w fun d2 w =>
  aC pg (aL 123 S4 0) w fun d3 w =>
  aC pg (aI 5 d3) w fun d4 w =>
  aC pg (gF 5 3 d4) w fun d5 w =>
  aC pg (aL 123 S4 1) w fun d6 w =>
  aC pg (aI 3 d6) w fun d7 w =>
  aC pg (aL 123 S4 2) w fun d8 w =>
  aC pg (aI 3 d8) w fun d9 w =>
  aC pg (bX 139 [(0, d5), (1, d7), (2, d9)]) w fun e0 w =>
  aC pg (cD 33 1 [(0, e0)]) w fun e1 w =>
  aC pg (lF .append #[33, 33] 33 [d2, e1]) w fun e2 w =>
  aC pg (aL 35 bL 1) w fun e3 w =>
  aC pg (aK 33 e3 e2) w fun _u w =>
  aC pg (aH .add 3 aM aM iV (aLn 1)) w fun c5 w =>
  kn b1 b2 bL c5 w)
  (k0 b2 bL w)
theorem WC (kn : K4) (k0 : K2) (hn : N4 Q kn 1 2 3 4) (h0 : E2 Q k0 0 2 3) (h : Be kn k0 (g 1) (g 2) (g 3) (g 4) w) : bH pg nC (bI (bI (aB 1 (aE 1 (aB 2 mG))))) Q g w :=
 dP (kr := no) (l := [(0, fun g w => k0 (g 2) (g 3) w)]) h hn eU ⟨h0, trivial⟩
def FM (k0 : K2) (b1 b2 bL iV : aLm) (w : aLl) : Prop :=
 cC (fun (X : aLm -> K0) (t : aLm) (w : aLl) => Be (fun _ _ _ iV w => X iV w) k0 b1 b2 bL t w) iV w
theorem V1 (k0 : K2) (h0 : E2 Q k0 0 2 3) (h : FM k0 (g 1) (g 2) (g 3) (g 4) w) : bH pg nC (bI (aB 1 (aE 1 (aB 2 mG)))) Q g w := by
 refine Cy (fun g : Env => g 4) (fun X t w => Be (fun _ _ _ iV w => X iV w) k0 (g 1) (g 2) (g 3) t w) h (fun X g1 w1 ha hL => ?_)
 rw [<- fL 1 ha, <- fL 2 ha, <- fL 3 ha] at hL
 exact (WC _ g1 w1 (fun _ _ _ iV w => X iV w) k0 (fun _ _ h => h) h0 hL)
def Gl (kn : K2) (b1 b2 bL iV : aLm) (w : aLl) : Prop :=
 FM kn b1 b2 bL iV w
def Ge (kn : K4) (b1 b2 bL : aLm) (w : aLl) : Prop :=
 kn b1 b2 bL (aLn 0) w
theorem V6 (kn : K4) (hn : N4 Q kn 1 2 3 4) (h : Ge kn (g 1) (g 2) (g 3) w) : bH pg nC (aE 1 (aE 1 (aB 2 mG))) Q g w :=
 dP (kr := no) (l := []) h hn eU trivial
def Gm (kn : K2) (b1 b2 bL : aLm) (w : aLl) : Prop :=
 Ge (fun b1 b2 bL iV w => Gl kn b1 b2 bL iV w) b1 b2 bL w
def Gf (R : K1) (b1 b2 bL : aLm) (w : aLl) : Prop :=
 Gm (fun b2 bL w => Bj R b2 bL w) b1 b2 bL w
theorem Wb (kn : K2) (hn : N2 Q kn 2 3) (h : Gm kn (g 1) (g 2) (g 3) w) : bH pg nC (aE 1 (aB 2 mG)) Q g w :=
 gC 1 (V6 _ g w (Gl kn) (fun g w h => aJ (wD 0 (V1 _ g w kn hn h))) h)
def FP (kn : K3) (b0 : aLm) (w : aLl) : Prop :=
 aC pg (sU 27 b0) w fun b1 w =>
 aC pg (bV 35) w fun b2 w =>
 aC pg (aL 27 b1 0) w fun b6 w =>
 aC pg (aI 3 b6) w fun b7 w =>
 aC pg (bX 35 [(0, b7)]) w fun b8 w =>
 aC pg (bV 35) w fun bL w =>
 aC pg (aK 35 bL b8) w fun _u w =>
 kn b1 b2 bL w
theorem WG (kn : K3) (hn : N3 Q kn 1 2 3) (h : FP kn (g 0) w) : bH pg nC (aE 2 mG) Q g w :=
 dP (kr := no) (l := []) h hn eU trivial
def F7 (R : K1) (b0 : aLm) (w : aLl) : Prop :=
 FP (fun b1 b2 bL w => Gf R b1 b2 bL w) b0 w
theorem V8 (R : K1) (hr : HR FB R Q) (h : F7 R (g 0) w) : bH pg nC mG Q g w :=
 gC 2 (WG _ g w (Gf R) (fun g w h => aJ (gC 1 (Wb _ g w (Bj R) (fun g w h => aJ (WM _ g w R hr h)) h))) h)
def WW (a0 : aLm) (w : aLl) (R : K1) : Prop :=
 F7 R a0 w
theorem Xl {a0 : aLm} {w : aLl} {R : K1} (h : WW a0 w R) : aR pg uG #[a0] w R := by
 refine tD (ann := nC) Tryd.f46 mG [a0] FB 35 TrydM.mixed Tryd.func46 ?_
 exact (V8 _ _ _ R (fun _ _ h => h) h)
def Fa : FA := ⟨kA, fun i => .leaf ([], []) []⟩
def HD : List ResultVar := [.tmp 2]
noncomputable def DH : Code := cX Tryd.f47
def AH (R : K1) (Ag : aLm) (w : aLl) : Prop :=
 aC pg (aH .eql 22 (.tmp 3) (.const (.slice none 0 0)) Ag (.slice none 0 0)) w fun b4 w =>
 fE b4
  (R (.slice none 0 0) w)
  (aC pg (cD 22 0 []) w fun b5 w =>
  aC pg (lF .append #[22, 22] 22 [b5, Ag]) w fun b7 w =>
  R b7 w)
theorem QB (R : K1) (hr : HR HD R Q) (h : AH R (g 0) w) : bH pg Fa DH Q g w :=
 dP (kn := no) (l := []) h eU hr trivial
def Nv (a0 : aLm) (w : aLl) (R : K1) : Prop :=
 AH R a0 w
theorem QV {a0 : aLm} {w : aLl} {R : K1} (h : Nv a0 w R) : aR pg kA #[a0] w R := by
 refine tD (ann := Fa) Tryd.f47 DH [a0] HD 8 TrydM.mixed Tryd.func47 ?_
 exact (QB _ _ _ R (fun _ _ h => h) h)
def iP : FA := ⟨kW, fun i => .leaf ([], []) []⟩
def rM : List ResultVar := [.tmp 4]
noncomputable def iG : Code := cX Tryd.f48
def rG (R : K1) (S4 : aLm) (w : aLl) : Prop :=
 R S4 w
theorem Lc (R : K1) (hr : HR rM R Q) (h : rG R (g 5) w) : bH pg iP (aB 1 (aB 3 iG)) Q g w :=
 dP (kn := no) (l := []) h eU hr trivial
def rL (kn : K4) (k0 : K1) (S4 c8 c9 d0 : aLm) (w : aLl) : Prop :=
 aC pg (aH .lss 3 aM aM d0 c9) w fun d1 w =>
 fE d1
  (aC pg (aY 22 c8 d0) w fun d3 w =>
  aC pg (aI 5 d3) w fun d4 w =>
  aC pg (gF 5 73 d4) w fun d7 w =>
  aC pg (aH .mul 3 aM aM (aLn 8) d0) w fun d9 w =>
  aC pg (gF 3 94 d9) w fun e0 w =>
  aC pg (aH .shl 73 aM aM d7 e0) w fun e1 w =>
  aC pg (aH .or 73 aM aM S4 e1) w fun e2 w =>
  aC pg (aH .add 3 aM aM d0 (aLn 1)) w fun e3 w =>
  kn e2 c8 c9 e3 w)
  (k0 S4 w)
theorem Mu (kn : K4) (k0 : K1) (hn : N4 Q kn 5 18 19 20) (h0 : E1 Q k0 0 5) (h : rL kn k0 (g 5) (g 18) (g 19) (g 20) w) : bH pg iP (bI (bI (aB 1 (aE 1 (aB 3 iG))))) Q g w :=
 dP (kr := no) (l := [(0, fun g w => k0 (g 5) w)]) h hn eU ⟨h0, trivial⟩
def xA (k0 : K1) (S4 c8 c9 d0 : aLm) (w : aLl) : Prop :=
 cC (fun (X : (aLm × aLm) -> K0) (t : aLm × aLm) (w : aLl) => rL (fun S4 _ _ d0 w => X (S4, d0) w) k0 t.1 c8 c9 t.2 w) (S4, d0) w
theorem LH (k0 : K1) (h0 : E1 Q k0 0 5) (h : xA k0 (g 5) (g 18) (g 19) (g 20) w) : bH pg iP (bI (aB 1 (aE 1 (aB 3 iG)))) Q g w := by
 refine Cy (fun g : Env => (g 5, g 20)) (fun X t w => rL (fun S4 _ _ d0 w => X (S4, d0) w) k0 t.1 (g 18) (g 19) t.2 w) h (fun X g1 w1 ha hL => ?_)
 rw [<- fL 18 ha, <- fL 19 ha] at hL
 exact (Mu _ g1 w1 (fun S4 _ _ d0 w => X (S4, d0) w) k0 (fun _ _ h => h) h0 hL)
def wP (kn : K1) (S4 c8 c9 d0 : aLm) (w : aLl) : Prop :=
 xA kn S4 c8 c9 d0 w
def wQ (kn : K4) (pK sC S4 : aLm) (w : aLl) : Prop :=
 aC pg (aH .geq 3 aM aM sC (aLn 1)) w fun c3 w =>
 Gd (eZ c3 true) (fun K => K sC w) w fun c5 w =>
 Gd (eZ c3 true) (fun K => aC pg (aH .leq 3 aM aM c5 (aLn 8)) w K) w fun c6 w =>
 aC pg (fV c3 c6 (.bool false)) w fun c7 w =>
 aR pg qT #[pK, sC, c7] w fun c8 w =>
 aC pg (lF .len #[22] 3 [c8]) w fun c9 w =>
 kn S4 c8 c9 (aLn 0) w
theorem MN (kn : K4) (hn : N4 Q kn 5 18 19 20) (h : wQ kn (g 0) (g 1) (g 5) w) : bH pg iP (aE 1 (aE 1 (aB 3 iG))) Q g w :=
 dP (kr := no) (l := []) h hn eU trivial
def wX (kn : K1) (pK sC S4 : aLm) (w : aLl) : Prop :=
 wQ (fun S4 c8 c9 d0 w => wP kn S4 c8 c9 d0 w) pK sC S4 w
def xB (R : K1) (pK sC S4 : aLm) (w : aLl) : Prop :=
 wX (fun S4 w => rG R S4 w) pK sC S4 w
theorem Ky (kn : K1) (hn : N1 Q kn 5) (h : wX kn (g 0) (g 1) (g 5) w) : bH pg iP (aE 1 (aB 3 iG)) Q g w :=
 gC 1 (MN _ g w (wP kn) (fun g w h => aJ (wD 0 (LH _ g w kn hn h))) h)
def wZ (kn : K3) (R : K1) (pK sC : aLm) (w : aLl) : Prop :=
 aC pg (aH .eql 56 (.tmp 8) (.const (.pointer none)) pK (.pointer none)) w fun b9 w =>
 fE b9
  (R (.int .u64 0) w)
  (kn pK sC (.int .u64 0) w)
theorem Kv (kn : K3) (R : K1) (hn : N3 Q kn 0 1 5) (hr : HR rM R Q) (h : wZ kn R (g 0) (g 1) w) : bH pg iP (aE 3 iG) Q g w :=
 dP (l := []) h hn hr trivial
def wN (R : K1) (pK sC : aLm) (w : aLl) : Prop :=
 wZ (fun pK sC S4 w => xB R pK sC S4 w) R pK sC w
theorem Mb (R : K1) (hr : HR rM R Q) (h : wN R (g 0) (g 1) w) : bH pg iP iG Q g w :=
 gC 3 (Kv _ g w (xB R) R (fun g w h => aJ (gC 1 (Ky _ g w (rG R) (fun g w h => aJ (Lc _ g w R hr h)) h))) hr h)
def Hz (a0 a1 : aLm) (w : aLl) (R : K1) : Prop :=
 wN R a0 a1 w
theorem M3 {a0 a1 : aLm} {w : aLl} {R : K1} (h : Hz a0 a1 w R) : aR pg kW #[a0, a1] w R := by
 refine tD (ann := iP) Tryd.f48 iG [a0, a1] rM 35 TrydM.mixed Tryd.func48 ?_
 exact (Mb _ _ _ R (fun _ _ h => h) h)
def SI : FA := ⟨BI, fun i => .leaf ([], []) []⟩
def Vm : List ResultVar := [.cell 8 27, .tmp 9, .tmp 10]
noncomputable def QL : Code := cX Tryd.f49
def Lz (R : K1) (aQ KT DB dL : aLm) (w : aLl) : Prop :=
 aC pg (sU 27 dL) w fun aAn w =>
 aC pg (bV 27) w fun b8 w =>
 aR pg yK #[aQ] w fun c9 w =>
 aC pg (aH .lss 3 aM aM c9 (aLn 0)) w fun d1 w =>
 Gd (eZ d1 false) (fun K => K KT w) w fun d3 w =>
 Gd (eZ d1 false) (fun K => aC pg (aH .lss 3 aM aM d3 (aLn 0)) w K) w fun d4 w =>
 aC pg (fV d1 (.bool true) d4) w fun d5 w =>
 Gd (eZ d5 false) (fun K => K KT w) w fun d7 w =>
 Gd (eZ d5 false) (fun K => aC pg (aH .gtr 3 aM aM d7 (aLn 3)) w K) w fun d8 w =>
 aC pg (fV d5 (.bool true) d8) w fun d9 w =>
 fE d9
  (aC pg (bX 27 []) w fun e0 w =>
  aC pg (aK 27 b8 e0) w fun _u w =>
  mW pg 27 b8 w fun r0 => R (.tuple #[r0, (aLn 0), (aLn 1)]) w)
  (aC pg (aH .eql 3 (.tmp 31) (.const (aLn 0)) KT (aLn 0)) w fun e3 w =>
  fE e3
   (aR pg wO #[aQ] w fun e6 w =>
   aC pg (bD e6 0) w fun e7 w =>
   aC pg (bD e6 1) w fun e8 w =>
   aC pg (bV 27) w fun c2 w =>
   aC pg (aK 27 c2 e7) w fun _u w =>
   aC pg (aI 27 c2) w fun e9 w =>
   aC pg (aK 27 b8 e9) w fun _u w =>
   mW pg 27 b8 w fun r0 => R (.tuple #[r0, (aLn 0), e8]) w)
   (aC pg (aH .eql 3 (.tmp 31) (.const (aLn 1)) KT (aLn 1)) w fun f2 w =>
   fE f2
    (aC pg (lF .len #[22] 3 [DB]) w fun f5 w =>
    aC pg (aH .eql 3 (.tmp 45) (.const (aLn 0)) f5 (aLn 0)) w fun f6 w =>
    fE f6
     (aC pg (bX 27 []) w fun f7 w =>
     aC pg (aK 27 b8 f7) w fun _u w =>
     mW pg 27 b8 w fun r0 => R (.tuple #[r0, (aLn 0), (aLn 10)]) w)
     (aC pg (aY 22 DB (aLn 0)) w fun i0 w =>
     aC pg (aI 5 i0) w fun i1 w =>
     aC pg (gF 5 3 i1) w fun i2 w =>
     aC pg (aH .gtr 3 aM aM i2 c9) w fun i4 w =>
     fE i4
      (aC pg (bX 27 []) w fun i5 w =>
      aC pg (aK 27 b8 i5) w fun _u w =>
      mW pg 27 b8 w fun r0 => R (.tuple #[r0, (aLn 0), (aLn 11)]) w)
      (aC pg (aY 22 DB (aLn 0)) w fun i7 w =>
      aC pg (aI 5 i7) w fun i8 w =>
      aR pg De #[i8] w fun i9 w =>
      aC pg (aK 27 b8 i9) w fun _u w =>
      mW pg 27 b8 w fun r0 => R (.tuple #[r0, (aLn 1), (aLn 0)]) w)))
    (aC pg (aH .eql 3 (.tmp 31) (.const (aLn 3)) KT (aLn 3)) w fun j1 w =>
    fE j1
     (aC pg (aL 27 aAn 1) w fun j2 w =>
     aC pg (aI 25 j2) w fun j3 w =>
     aC pg (lF .len #[25] 3 [j3]) w fun j4 w =>
     aC pg (aH .eql 3 (.tmp 64) (.const (aLn 0)) j4 (aLn 0)) w fun j5 w =>
     fE j5
      (aC pg (bX 27 []) w fun j6 w =>
      aC pg (aK 27 b8 j6) w fun _u w =>
      mW pg 27 b8 w fun r0 => R (.tuple #[r0, (aLn 0), (aLn 11)]) w)
      (aC pg (aI 27 aAn) w fun j7 w =>
      aC pg (aK 27 b8 j7) w fun _u w =>
      mW pg 27 b8 w fun r0 => R (.tuple #[r0, (aLn 0), (aLn 0)]) w))
     (aR pg vI #[aQ] w fun l1 w =>
     aC pg (aH .add 3 aM aM c9 (aLn 1)) w fun l3 w =>
     aR pg Gw #[DB, l1, l3] w fun l4 w =>
     aC pg (bD l4 0) w fun l5 w =>
     aC pg (bD l4 1) w fun l6 w =>
     aC pg (bD l4 2) w fun l7 w =>
     aC pg (bV 145) w fun aFG w =>
     aC pg (aK 145 aFG l5) w fun _u w =>
     aC pg (aH .neq 30 (.tmp 78) (.const (aLn 0)) l7 (aLn 0)) w fun l9 w =>
     fE l9
      (aC pg (bX 27 []) w fun m0 w =>
      aC pg (aK 27 b8 m0) w fun _u w =>
      mW pg 27 b8 w fun r0 => R (.tuple #[r0, (aLn 0), l7]) w)
      (aC pg (aI 145 aFG) w fun m3 w =>
      aR pg uK #[m3] w fun m4 w =>
      aC pg (bD m4 0) w fun m5 w =>
      aC pg (bD m4 1) w fun m6 w =>
      aC pg (bV 27) w fun c7 w =>
      aC pg (aK 27 c7 m5) w fun _u w =>
      aC pg (aH .neq 30 (.tmp 87) (.const (aLn 0)) m6 (aLn 0)) w fun m8 w =>
      fE m8
       (aC pg (bX 27 []) w fun m9 w =>
       aC pg (aK 27 b8 m9) w fun _u w =>
       mW pg 27 b8 w fun r0 => R (.tuple #[r0, (aLn 0), m6]) w)
       (aC pg (aI 27 c7) w fun n1 w =>
       aC pg (aK 27 b8 n1) w fun _u w =>
       mW pg 27 b8 w fun r0 => R (.tuple #[r0, l6, (aLn 0)]) w))))))
theorem abZ (R : K1) (hr : HR Vm R Q) (h : Lz R (g 0) (g 1) (g 2) (g 3) w) : bH pg SI QL Q g w :=
 dP (kn := no) (l := []) h eU hr trivial
def akE (a0 a1 a2 a3 : aLm) (w : aLl) (R : K1) : Prop :=
 Lz R a0 a1 a2 a3 w
theorem aeW {a0 a1 a2 a3 : aLm} {w : aLl} {R : K1} (h : akE a0 a1 a2 a3 w R) : aR pg BI #[a0, a1, a2, a3] w R := by
 refine tD (ann := SI) Tryd.f49 QL [a0, a1, a2, a3] Vm 93 TrydM.mixed Tryd.func49 ?_
 exact (abZ _ _ _ R (fun _ _ h => h) h)
def LS : FA := ⟨Bb, fun i => .leaf ([], []) []⟩
def ND : List ResultVar := [.tmp 2]
noncomputable def Jz : Code := cX Tryd.f50
def DI (R : K1) (xG : aLm) (w : aLl) : Prop :=
 aC pg (IM 9 (.string ⟨#[0, 1, 2, 2, 3, 3, 3, 3, 4, 4, 4, 4, 4, 4, 4, 4, 5, 5, 5, 5, 5, 5, 5, 5, 5, 5, 5, 5, 5, 5, 5, 5, 6, 6, 6, 6, 6, 6, 6, 6, 6, 6, 6, 6, 6, 6, 6, 6, 6, 6, 6, 6, 6, 6, 6, 6, 6, 6, 6, 6, 6, 6, 6, 6, 7, 7, 7, 7, 7, 7, 7, 7, 7, 7, 7, 7, 7, 7, 7, 7, 7, 7, 7, 7, 7, 7, 7, 7, 7, 7, 7, 7, 7, 7, 7, 7, 7, 7, 7, 7, 7, 7, 7, 7, 7, 7, 7, 7, 7, 7, 7, 7, 7, 7, 7, 7, 7, 7, 7, 7, 7, 7, 7, 7, 7, 7, 7, 7, 8, 8, 8, 8, 8, 8, 8, 8, 8, 8, 8, 8, 8, 8, 8, 8, 8, 8, 8, 8, 8, 8, 8, 8, 8, 8, 8, 8, 8, 8, 8, 8, 8, 8, 8, 8, 8, 8, 8, 8, 8, 8, 8, 8, 8, 8, 8, 8, 8, 8, 8, 8, 8, 8, 8, 8, 8, 8, 8, 8, 8, 8, 8, 8, 8, 8, 8, 8, 8, 8, 8, 8, 8, 8, 8, 8, 8, 8, 8, 8, 8, 8, 8, 8, 8, 8, 8, 8, 8, 8, 8, 8, 8, 8, 8, 8, 8, 8, 8, 8, 8, 8, 8, 8, 8, 8, 8, 8, 8, 8, 8, 8, 8, 8, 8, 8, 8, 8, 8, 8, 8, 8, 8, 8, 8, 8, 8, 8]⟩) xG) w fun b4 w =>
 aC pg (gF 5 3 b4) w fun b5 w =>
 R b5 w
theorem Ur (R : K1) (hr : HR ND R Q) (h : DI R (g 0) w) : bH pg LS Jz Q g w :=
 dP (kn := no) (l := []) h eU hr trivial
def Vc (a0 : aLm) (w : aLl) (R : K1) : Prop :=
 DI R a0 w
theorem WE {a0 : aLm} {w : aLl} {R : K1} (h : Vc a0 w R) : aR pg Bb #[a0] w R := by
 refine tD (ann := LS) Tryd.f50 Jz [a0] ND 6 TrydM.mixed Tryd.func50 ?_
 exact (Ur _ _ _ R (fun _ _ h => h) h)
def DV : FA := ⟨qT, fun i => .leaf ([], []) []⟩
def Fl : List ResultVar := [.tmp 6]
noncomputable def Dm : Code := cX Tryd.f51
def zN (R : K1) (pK sC aIs : aLm) (w : aLl) : Prop :=
 aC pg (sQ pK) w fun c0 w =>
 aC pg (aL 112 c0 1) w fun c1 w =>
 aC pg (aI 30 c1) w fun c2 w =>
 aC pg (aH .neq 30 (.tmp 12) (.const (aLn 0)) c2 (aLn 0)) w fun c3 w =>
 fE c3
  (R (.slice none 0 0) w)
  (aC pg (sUn .not aIs) w fun c6 w =>
  fE c6
   (aC pg (sQ pK) w fun c8 w =>
   aC pg (aL 112 c8 1) w fun c9 w =>
   aC pg (aK 30 c9 (aLn 1)) w fun _u w =>
   R (.slice none 0 0) w)
   (aC pg (sQ pK) w fun d3 w =>
   aC pg (aL 112 d3 0) w fun d4 w =>
   aC pg (aI 22 d4) w fun d5 w =>
   aC pg (lF .len #[22] 3 [d5]) w fun d6 w =>
   aC pg (aH .gtr 3 aM aM sC d6) w fun d7 w =>
   fE d7
    (aC pg (sQ pK) w fun d9 w =>
    aC pg (aL 112 d9 1) w fun e0 w =>
    aC pg (aK 30 e0 (aLn 10)) w fun _u w =>
    R (.slice none 0 0) w)
    (aC pg (sQ pK) w fun e2 w =>
    aC pg (aL 112 e2 0) w fun e3 w =>
    aC pg (aI 22 e3) w fun e4 w =>
    aC pg (gB 22 e4 none (some sC) (some sC)) w fun e7 w =>
    aC pg (sQ pK) w fun f0 w =>
    aC pg (aL 112 f0 0) w fun f1 w =>
    aC pg (aI 22 f1) w fun f2 w =>
    aC pg (gB 22 f2 (some sC) none none) w fun f4 w =>
    aC pg (sQ pK) w fun f5 w =>
    aC pg (aL 112 f5 0) w fun f6 w =>
    aC pg (aK 22 f6 f4) w fun _u w =>
    R e7 w)))
theorem Og (R : K1) (hr : HR Fl R Q) (h : zN R (g 0) (g 1) (g 2) w) : bH pg DV Dm Q g w :=
 dP (kn := no) (l := []) h eU hr trivial
def LU (a0 a1 a2 : aLm) (w : aLl) (R : K1) : Prop :=
 zN R a0 a1 a2 w
theorem PQ {a0 a1 a2 : aLm} {w : aLl} {R : K1} (h : LU a0 a1 a2 w R) : aR pg qT #[a0, a1, a2] w R := by
 refine tD (ann := DV) Tryd.f51 Dm [a0, a1, a2] Fl 48 TrydM.mixed Tryd.func51 ?_
 exact (Og _ _ _ R (fun _ _ h => h) h)
def Er : FA := ⟨oJ, fun i => match Nat.beq i 4 with | true => .leaf ([12], [(12, 15), (12, 16)]) [(false, []), (false, []), (false, []), (false, []), (false, []), (false, []), (false, []), (false, []), (false, []), (false, []), (false, []), (false, []), (true, []), (false, []), (false, []), (false, [2]), (false, [3]), (false, []), (false, [])] | false => .leaf ([], []) []⟩
def Fb : List ResultVar := [.tmp 4]
noncomputable def Dg : Code := cX Tryd.f52
def zK (R : K1) (pK sC : aLm) (w : aLl) : Prop :=
 aC pg (aH .eql 63 (.tmp 7) (.const (.pointer none)) pK (.pointer none)) w fun b8 w =>
 Gd (eZ b8 false) (fun K => K sC w) w fun c0 w =>
 Gd (eZ b8 false) (fun K => aC pg (aH .lss 3 aM aM c0 (aLn 1)) w K) w fun c1 w =>
 aC pg (fV b8 (.bool true) c1) w fun c2 w =>
 Gd (eZ c2 false) (fun K => K sC w) w fun c4 w =>
 Gd (eZ c2 false) (fun K => aC pg (aH .gtr 3 aM aM c4 (aLn 56)) w K) w fun c5 w =>
 aC pg (fV c2 (.bool true) c5) w fun c6 w =>
 fE c6
  (R (.int .u64 0) w)
  (aC pg (sQ pK) w fun c8 w =>
  aC pg (aL 118 c8 1) w fun c9 w =>
  aC pg (aI 3 c9) w fun d0 w =>
  aC pg (lF .max #[3, 3] 3 [d0, (aLn 0)]) w fun d1 w =>
  aC pg (lF .min #[3, 3] 3 [d1, sC]) w fun d3 w =>
  (dr w) = (dr w) /\
  aC pg (sQ pK) (dr w) fun d5 w_ => w_ = (dr w) /\
  aC pg (aL 118 d5 0) (dr w) fun d6 w_ => w_ = (dr w) /\
  aC pg (aI 22 d6) (dr w) fun d7 w_ => w_ = (dr w) /\
  (dr w) = (dr w) /\
  aC pg (sQ pK) (dr w) fun d9 w_ => w_ = (dr w) /\
  aC pg (aL 118 d9 1) (dr w) fun e0 w_ => w_ = (dr w) /\
  aC pg (aI 3 e0) (dr w) fun e1 w_ => w_ = (dr w) /\
  aC pg (lF .max #[3, 3] 3 [e1, (aLn 0)]) (dr w) fun e2 w_ => w_ = (dr w) /\
  (dr w) = (dr w) /\
  aC pg (aH .sub 3 aM aM e2 d3) (dr w) fun e4 w_ => w_ = (dr w) /\
  (dr w) = (dr w) /\
  aR pg HE #[d7, e4, d3] (dr w) fun e6 QI =>
  QI = QI /\
  QI = QI /\
  aC pg (aH .sub 3 aM aM sC d3) QI fun e9 w_ => w_ = QI /\
  (dS pg (aH .sub 3 aM aM sC d3) e9 (dr w) /\ True) /\
  aC pg (gF 3 94 e9) QI fun f0 w_ => w_ = QI /\
  (dS pg (gF 3 94 e9) f0 (dr w) /\ True) /\
  aC pg (aH .shl 73 aM aM e6 f0) QI fun f1 w_ => w_ = QI /\
  QI = QI /\
  aC pg (sQ pK) QI fun f3 w =>
  aC pg (aL 118 f3 1) w fun f4 w =>
  aC pg (aI 3 f4) w fun f5 w =>
  aC pg (aH .sub 3 aM aM f5 sC) w fun f7 w =>
  aC pg (sQ pK) w fun f8 w =>
  aC pg (aL 118 f8 1) w fun f9 w =>
  aC pg (aK 3 f9 f7) w fun _u w =>
  R f1 w)
theorem Oo (R : K1) (hr : HR Fb R Q) (h : zK R (g 0) (g 1) w) : bH pg Er Dg Q g w :=
 dP (kn := no) (l := []) h eU hr trivial
def Le (a0 a1 : aLm) (w : aLl) (R : K1) : Prop :=
 zK R a0 a1 w
theorem QH {a0 a1 : aLm} {w : aLl} {R : K1} (h : Le a0 a1 w R) : aR pg oJ #[a0, a1] w R := by
 refine tD (ann := Er) Tryd.f52 Dg [a0, a1] Fb 51 TrydM.mixed Tryd.func52 ?_
 exact (Oo _ _ _ R (fun _ _ h => h) h)
def qQ : FA := ⟨Et, fun i => match Nat.beq i 17 with | true => .leaf ([], []) [(false, []), (false, []), (false, []), (false, []), (false, []), (false, []), (false, []), (false, []), (false, []), (false, [])] | false => .leaf ([], []) []⟩
def GQ : List ResultVar := [.tmp 4, .tmp 5, .tmp 6]
noncomputable def pM : Code := cX Tryd.f53
def Hi (R : K1) (jR mS BO mT : aLm) (w : aLl) : Prop :=
 (dr w) = (dr w) /\
 (dr w) = (dr w) /\
 (dr w) = (dr w) /\
 (dr w) = (dr w) /\
 aC pg (aH .sub 3 aM aM jR mS) (dr w) fun j8 w_ => w_ = (dr w) /\
 aC pg (aY 77 mT j8) (dr w) fun j9 w_ => w_ = (dr w) /\
 aC pg (aI 3 j9) (dr w) fun l0 w_ => w_ = (dr w) /\
 (dr w) = (dr w) /\
 (dr w) = (dr w) /\
 (dr w) = (dr w) /\
 R (.tuple #[BO, l0, (aLn 0)]) (dr w)
theorem afY (R : K1) (hr : HR GQ R Q) (h : Hi R (g 1) (g 8) (g 9) (g 10) w) : bH pg qQ (aB 1 (aB 5 pM)) Q g w :=
 dP (kn := no) (l := []) h eU hr trivial
def GY (kn : K7) (k1 : K4) (jR mS BO mT i3 i4 i5 : aLm) (w : aLl) : Prop :=
 aC pg (aH .lss 3 aM aM i5 i4) w fun i6 w =>
 fE i6
  (aC pg (aY 77 i3 i5) w fun i7 w =>
  aC pg (aI 3 i7) w fun i8 w =>
  aC pg (aH .shl 43 aM aM (.int .u32 1) i8) w fun j1 w =>
  aC pg (aH .add 43 aM aM BO j1) w fun j2 w =>
  aC pg (aH .add 3 aM aM i5 (aLn 1)) w fun j3 w =>
  kn jR mS j2 mT i3 i4 j3 w)
  (k1 jR mS BO mT w)
theorem agO (kn : K7) (k1 : K4) (hn : N7 Q kn 1 8 9 10 53 54 55) (h1 : E4 Q k1 1 1 8 9 10) (h : GY kn k1 (g 1) (g 8) (g 9) (g 10) (g 53) (g 54) (g 55) w) : bH pg qQ (bI (bI (aB 1 (aE 1 (aB 5 pM))))) Q g w :=
 dP (kr := no) (l := [(1, fun g w => k1 (g 1) (g 8) (g 9) (g 10) w)]) h hn eU ⟨h1, trivial⟩
def NF (k1 : K4) (jR mS BO mT i3 i4 i5 : aLm) (w : aLl) : Prop :=
 cC (fun (X : (aLm × aLm) -> K0) (t : aLm × aLm) (w : aLl) => GY (fun _ _ BO _ _ _ i5 w => X (BO, i5) w) k1 jR mS t.1 mT i3 i4 t.2 w) (BO, i5) w
theorem afH (k1 : K4) (h1 : E4 Q k1 1 1 8 9 10) (h : NF k1 (g 1) (g 8) (g 9) (g 10) (g 53) (g 54) (g 55) w) : bH pg qQ (bI (aB 1 (aE 1 (aB 5 pM)))) Q g w := by
 refine Cy (fun g : Env => (g 9, g 55)) (fun X t w => GY (fun _ _ BO _ _ _ i5 w => X (BO, i5) w) k1 (g 1) (g 8) t.1 (g 10) (g 53) (g 54) t.2 w) h (fun X g1 w1 ha hL => ?_)
 rw [<- fL 1 ha, <- fL 8 ha, <- fL 10 ha, <- fL 53 ha, <- fL 54 ha] at hL
 exact (agO _ g1 w1 (fun _ _ BO _ _ _ i5 w => X (BO, i5) w) k1 (fun _ _ h => h) h1 hL)
def NT (kn : K4) (jR mS BO mT i3 i4 i5 : aLm) (w : aLl) : Prop :=
 NF kn jR mS BO mT i3 i4 i5 w
def Pj (kn : K7) (jR mS BO mT : aLm) (w : aLl) : Prop :=
 aC pg (aH .sub 3 aM aM jR mS) w fun i2 w =>
 aC pg (gB 77 mT none (some i2) none) w fun i3 w =>
 aC pg (lF .len #[77] 3 [i3]) w fun i4 w =>
 kn jR mS BO mT i3 i4 (aLn 0) w
theorem ajI (kn : K7) (hn : N7 Q kn 1 8 9 10 53 54 55) (h : Pj kn (g 1) (g 8) (g 9) (g 10) w) : bH pg qQ (aE 1 (aE 1 (aB 5 pM))) Q g w :=
 dP (kr := no) (l := []) h hn eU trivial
def Pd (kn : K4) (jR mS BO mT : aLm) (w : aLl) : Prop :=
 Pj (fun jR mS BO mT i3 i4 i5 w => NT kn jR mS BO mT i3 i4 i5 w) jR mS BO mT w
def Ox (R : K1) (jR mS BO mT : aLm) (w : aLl) : Prop :=
 Pd (fun jR mS BO mT w => Hi R jR mS BO mT w) jR mS BO mT w
theorem ahG (kn : K4) (hn : N4 Q kn 1 8 9 10) (h : Pd kn (g 1) (g 8) (g 9) (g 10) w) : bH pg qQ (aE 1 (aB 5 pM)) Q g w :=
 gC 1 (ajI _ g w (NT kn) (fun g w h => aJ (wD 1 (afH _ g w kn hn h))) h)
def PI (kn : K4) (R : K1) (aQ jR : aLm) (w : aLl) : Prop :=
 aR pg yK #[aQ] w fun c4 w =>
 aC pg (aH .lss 3 aM aM c4 (aLn 0)) w fun c7 w =>
 fE c7
  (R (.tuple #[(.int .u32 0), (aLn 0), (aLn 1)]) w)
  (aC pg (aH .lss 3 aM aM jR (aLn 0)) w fun d0 w =>
  Gd (eZ d0 false) (fun K => K jR w) w fun d2 w =>
  Gd (eZ d0 false) (fun K => K c4 w) w fun d3 w =>
  Gd (eZ d0 false) (fun K => aC pg (aH .gtr 3 aM aM d2 d3) w K) w fun d4 w =>
  aC pg (fV d0 (.bool true) d4) w fun d5 w =>
  fE d5
   (R (.tuple #[(.int .u32 0), (aLn 0), (aLn 17)]) w)
   (aC pg (aH .eql 3 (.tmp 27) (.const (aLn 1)) aQ (aLn 1)) w fun d8 w =>
   fE d8
    (aC pg (aH .shl 43 aM aM (.int .u32 1) jR) w fun e0 w =>
    R (.tuple #[e0, jR, (aLn 0)]) w)
    (aR pg Dl #[aQ] w fun e4 w =>
    aC pg (bD e4 0) w fun e5 w =>
    aC pg (bD e4 1) w fun e6 w =>
    aC pg (bD e4 2) w fun e7 w =>
    aC pg (aH .lss 3 aM aM jR e5) w fun f0 w =>
    fE f0
     (aC pg (gF 3 43 jR) w fun f3 w =>
     aC pg (aH .add 43 aM aM e6 f3) w fun f4 w =>
     R (.tuple #[f4, (aLn 0), (aLn 0)]) w)
     (aC pg (gF 3 43 e5) w fun f7 w =>
     aC pg (aH .add 43 aM aM e6 f7) w fun f8 w =>
     kn jR e5 f8 e7 w))))
theorem agU (kn : K4) (R : K1) (hn : N4 Q kn 1 8 9 10) (hr : HR GQ R Q) (h : PI kn R (g 0) (g 1) w) : bH pg qQ (aE 5 pM) Q g w :=
 dP (l := []) h hn hr trivial
def NJ (R : K1) (aQ jR : aLm) (w : aLl) : Prop :=
 PI (fun jR mS BO mT w => Ox R jR mS BO mT w) R aQ jR w
theorem aiP (R : K1) (hr : HR GQ R Q) (h : NJ R (g 0) (g 1) w) : bH pg qQ pM Q g w :=
 gC 5 (agU _ g w (Ox R) R (fun g w h => aJ (gC 1 (ahG _ g w (Hi R) (fun g w h => aJ (afY _ g w R hr h)) h))) hr h)
def aoQ (a0 a1 : aLm) (w : aLl) (R : K1) : Prop :=
 NJ R a0 a1 w
theorem anM {a0 a1 : aLm} {w : aLl} {R : K1} (h : aoQ a0 a1 w R) : aR pg Et #[a0, a1] w R := by
 refine tD (ann := qQ) Tryd.f53 pM [a0, a1] GQ 71 TrydM.mixed Tryd.func53 ?_
 exact (aiP _ _ _ R (fun _ _ h => h) h)
def UZ : FA := ⟨JY, fun i => .leaf ([], []) []⟩
def Xc : List ResultVar := [.cell 4 72, .tmp 5]
noncomputable def SO : Code := cX Tryd.f54
def OS (R : K1) (pK sC : aLm) (w : aLl) : Prop :=
 aC pg (sU 72 pK) w fun Gg w =>
 aC pg (bV 72) w fun b4 w =>
 aC pg (aL 72 Gg 1) w fun b7 w =>
 aC pg (aI 30 b7) w fun b8 w =>
 aC pg (aH .neq 30 (.tmp 8) (.const (aLn 0)) b8 (aLn 0)) w fun b9 w =>
 fE b9
  (aC pg (aI 72 Gg) w fun c0 w =>
  aC pg (aK 72 b4 c0) w fun _u w =>
  mW pg 72 b4 w fun r0 => R (.tuple #[r0, (.string ⟨#[]⟩)]) w)
  (aC pg (aH .lss 3 aM aM sC (aLn 0)) w fun c2 w =>
  fE c2
   (aC pg (aL 72 Gg 1) w fun c3 w =>
   aC pg (aK 30 c3 (aLn 1)) w fun _u w =>
   aC pg (aI 72 Gg) w fun c4 w =>
   aC pg (aK 72 b4 c4) w fun _u w =>
   mW pg 72 b4 w fun r0 => R (.tuple #[r0, (.string ⟨#[]⟩)]) w)
   (aC pg (aL 72 Gg 0) w fun c6 w =>
   aC pg (aI 9 c6) w fun c7 w =>
   aC pg (lF .len #[9] 3 [c7]) w fun c8 w =>
   aC pg (aH .gtr 3 aM aM sC c8) w fun c9 w =>
   fE c9
    (aC pg (aL 72 Gg 1) w fun d0 w =>
    aC pg (aK 30 d0 (aLn 10)) w fun _u w =>
    aC pg (aI 72 Gg) w fun d1 w =>
    aC pg (aK 72 b4 d1) w fun _u w =>
    mW pg 72 b4 w fun r0 => R (.tuple #[r0, (.string ⟨#[]⟩)]) w)
    (aC pg (aL 72 Gg 0) w fun d2 w =>
    aC pg (aI 9 d2) w fun d3 w =>
    aC pg (gB 9 d3 none (some sC) none) w fun d5 w =>
    aC pg (aL 72 Gg 0) w fun d6 w =>
    aC pg (aI 9 d6) w fun d7 w =>
    aC pg (gB 9 d7 (some sC) none none) w fun d9 w =>
    aC pg (aL 72 Gg 0) w fun e0 w =>
    aC pg (aK 9 e0 d9) w fun _u w =>
    aC pg (aI 72 Gg) w fun e1 w =>
    aC pg (aK 72 b4 e1) w fun _u w =>
    mW pg 72 b4 w fun r0 => R (.tuple #[r0, d5]) w)))
theorem aeP (R : K1) (hr : HR Xc R Q) (h : OS R (g 0) (g 1) w) : bH pg UZ SO Q g w :=
 dP (kn := no) (l := []) h eU hr trivial
def aqN (a0 a1 : aLm) (w : aLl) (R : K1) : Prop :=
 OS R a0 a1 w
theorem anU {a0 a1 : aLm} {w : aLl} {R : K1} (h : aqN a0 a1 w R) : aR pg JY #[a0, a1] w R := by
 refine tD (ann := UZ) Tryd.f54 SO [a0, a1] Xc 33 TrydM.mixed Tryd.func54 ?_
 exact (aeP _ _ _ R (fun _ _ h => h) h)
def Ns : FA := ⟨Cd, fun i => .leaf ([], []) []⟩
def P0 : List ResultVar := [.cell 2 35, .tmp 3]
noncomputable def MB : Code := cX Tryd.f55
def F6 (R : K1) (aQ : aLm) (w : aLl) : Prop :=
 aC pg (bV 35) w fun b2 w =>
 aC pg (aH .lss 3 aM aM aQ (aLn 0)) w fun b5 w =>
 Gd (eZ b5 false) (fun K => K aQ w) w fun b7 w =>
 Gd (eZ b5 false) (fun K => aC pg (aH .gtr 3 aM aM b7 (aLn 2)) w K) w fun b8 w =>
 aC pg (fV b5 (.bool true) b8) w fun b9 w =>
 fE b9
  (aC pg (bX 35 []) w fun c0 w =>
  aC pg (aK 35 b2 c0) w fun _u w =>
  mW pg 35 b2 w fun r0 => R (.tuple #[r0, (aLn 1)]) w)
  (aR pg GS #[aQ] w fun c2 w =>
  aR pg BL #[c2] w fun c3 w =>
  aC pg (bD c3 0) w fun c4 w =>
  aC pg (bD c3 1) w fun c5 w =>
  aC pg (aK 35 b2 c4) w fun _u w =>
  mW pg 35 b2 w fun r0 => R (.tuple #[r0, c5]) w)
theorem Wk (R : K1) (hr : HR P0 R Q) (h : F6 R (g 0) w) : bH pg Ns MB Q g w :=
 dP (kn := no) (l := []) h eU hr trivial
def W5 (a0 : aLm) (w : aLl) (R : K1) : Prop :=
 F6 R a0 w
theorem XH {a0 : aLm} {w : aLl} {R : K1} (h : W5 a0 w R) : aR pg Cd #[a0] w R := by
 refine tD (ann := Ns) Tryd.f55 MB [a0] P0 16 TrydM.mixed Tryd.func55 ?_
 exact (Wk _ _ _ R (fun _ _ h => h) h)
def Xf : FA := ⟨NB, fun i => .leaf ([], []) []⟩
def Zh : List ResultVar := [.cell 2 35]
noncomputable def TS : Code := cX Tryd.f56
def So (R : K1) (apJ : aLm) (w : aLl) : Prop :=
 aC pg (bV 35) w fun b2 w =>
 aC pg (bX 139 [(0, apJ)]) w fun b4 w =>
 aC pg (cD 33 1 [(0, b4)]) w fun b5 w =>
 aC pg (bX 35 [(1, b5)]) w fun b6 w =>
 aC pg (aK 35 b2 b6) w fun _u w =>
 mW pg 35 b2 w fun r0 => R r0 w
theorem alT (R : K1) (hr : HR Zh R Q) (h : So R (g 0) w) : bH pg Xf TS Q g w :=
 dP (kn := no) (l := []) h eU hr trivial
def atV (a0 : aLm) (w : aLl) (R : K1) : Prop :=
 So R a0 w
theorem aoL {a0 : aLm} {w : aLl} {R : K1} (h : atV a0 w R) : aR pg NB #[a0] w R := by
 refine tD (ann := Xf) Tryd.f56 TS [a0] Zh 7 TrydM.mixed Tryd.func56 ?_
 exact (alT _ _ _ R (fun _ _ h => h) h)
def fG : FA := ⟨J4, fun i => match Nat.beq i 30 with | true => .leaf ([2, 3], [(0, 2)]) [(false, []), (false, []), (true, [1]), (true, []), (false, []), (false, [])] | false => .leaf ([], []) []⟩
def lN : List ResultVar := [.cell 6 130, .tmp 7, .tmp 8]
noncomputable def eQ : Code := cX Tryd.f57
def Hb (R : K1) (b6 mA dW : aLm) (w : aLl) : Prop :=
 aC pg (aI 130 dW) (dr w) fun p1 w_ => w_ = (dr w) /\
 aC pg (aI 164 mA) (dr w) fun p2 w_ => w_ = (dr w) /\
 aR pg JL #[p2] (dr w) fun p3 aGQ =>
 (dS pg (aI 130 dW) p1 aGQ /\ True) /\
 aC pg (aK 130 b6 p1) aGQ fun _u3 avK =>
 avK = avK /\
 avK = avK /\
 mW pg 130 b6 avK fun r0 => R (.tuple #[r0, p3, (aLn 0)]) avK
theorem agR (R : K1) (hr : HR lN R Q) (h : Hb R (g 6) (g 9) (g 12) w) : bH pg fG (aB 1 (aB 7 eQ)) Q g w :=
 dP (kn := no) (l := []) h eU hr trivial
def Hh (kn : K5) (R : K1) (aO b6 mA dW aX : aLm) (w : aLl) : Prop :=
 aC pg (aL 130 dW 1) w fun o1 w =>
 aC pg (aI 77 o1) w fun o2 w =>
 aC pg (lF .len #[77] 3 [o2]) w fun o3 w =>
 aC pg (aH .gtr 3 aM aM o3 aO) w fun o5 w =>
 Gd (eZ o5 false) (fun K => K aX w) w fun o7 w =>
 Gd (eZ o5 false) (fun K => aC pg (aH .lss 3 aM aM o7 (aLn 0)) w K) w fun o8 w =>
 aC pg (fV o5 (.bool true) o8) w fun o9 w =>
 fE o9
  (aC pg (bX 130 []) w fun p0 w =>
  aC pg (aK 130 b6 p0) w fun _u w =>
  mW pg 130 b6 w fun r0 => R (.tuple #[r0, (aLn 0), (aLn 11)]) w)
  (kn aO b6 mA dW aX w)
theorem aiQ (kn : K5) (R : K1) (hn : N5 Q kn 2 6 9 12 13) (hr : HR lN R Q) (h : Hh kn R (g 2) (g 6) (g 9) (g 12) (g 13) w) : bH pg fG (aB 1 (aB 1 (aB 5 (bI (aB 1 (bI (bI (aE 1 (aB 7 eQ))))))))) Q g w :=
 dP (l := []) h hn hr trivial
def G8 (kn : K6) (aO b6 mA xK dW aX : aLm) (w : aLl) : Prop :=
 aC pg (aH .eql 73 (.tmp 99) (.const (.int .u64 3)) xK (.int .u64 3)) w fun o0 w =>
 kn aO b6 mA dW aX o0 w
theorem ajG (kn : K6) (hn : N6 Q kn 2 6 9 12 13 15) (h : G8 kn (g 2) (g 6) (g 9) (g 10) (g 12) (g 13) w) : bH pg fG (aB 1 (aB 2 (bI (aB 1 (bI (bI (aE 1 (aB 1 (aB 5 (bI (aB 1 (bI (bI (aE 1 (aB 7 eQ))))))))))))))) Q g w :=
 dP (kr := no) (l := []) h hn eU trivial
def Gu (kn : K7) (k4 : K6) (aO b6 mA xK dW aX Wf : aLm) (w : aLl) : Prop :=
 aC pg (gF 73 3 xK) w fun n0 w =>
 aC pg (aH .lss 3 aM aM Wf n0) w fun n1 w =>
 fE n1
  (aC pg (aL 130 dW 1) w fun n4 w =>
  aC pg (aI 77 n4) w fun n5 w =>
  aC pg (cD 77 1 [(0, (aLn 0))]) w fun n6 w =>
  aC pg (lF .append #[77, 77] 77 [n5, n6]) w fun n7 w =>
  aC pg (aL 130 dW 1) w fun n8 w =>
  aC pg (aK 77 n8 n7) w fun _u w =>
  aC pg (aH .add 3 aM aM Wf (aLn 1)) w fun n3 w =>
  kn aO b6 mA xK dW aX n3 w)
  (k4 aO b6 mA xK dW aX w)
theorem ahQ (kn : K7) (k4 : K6) (hn : N7 Q kn 2 6 9 10 12 13 16) (h4 : E6 Q k4 4 2 6 9 10 12 13) (h : Gu kn k4 (g 2) (g 6) (g 9) (g 10) (g 12) (g 13) (g 16) w) : bH pg fG (bI (bI (aB 1 (aE 1 (aB 2 (bI (aB 1 (bI (bI (aE 1 (aB 1 (aB 5 (bI (aB 1 (bI (bI (aE 1 (aB 7 eQ)))))))))))))))))) Q g w :=
 dP (kr := no) (l := [(4, fun g w => k4 (g 2) (g 6) (g 9) (g 10) (g 12) (g 13) w)]) h hn eU ⟨h4, trivial⟩
def O1 (k4 : K6) (aO b6 mA xK dW aX Wf : aLm) (w : aLl) : Prop :=
 cC (fun (X : aLm -> K0) (t : aLm) (w : aLl) => Gu (fun _ _ _ _ _ _ Wf w => X Wf w) k4 aO b6 mA xK dW aX t w) Wf w
theorem aiJ (k4 : K6) (h4 : E6 Q k4 4 2 6 9 10 12 13) (h : O1 k4 (g 2) (g 6) (g 9) (g 10) (g 12) (g 13) (g 16) w) : bH pg fG (bI (aB 1 (aE 1 (aB 2 (bI (aB 1 (bI (bI (aE 1 (aB 1 (aB 5 (bI (aB 1 (bI (bI (aE 1 (aB 7 eQ))))))))))))))))) Q g w := by
 refine Cy (fun g : Env => g 16) (fun X t w => Gu (fun _ _ _ _ _ _ Wf w => X Wf w) k4 (g 2) (g 6) (g 9) (g 10) (g 12) (g 13) t w) h (fun X g1 w1 ha hL => ?_)
 rw [<- fL 2 ha, <- fL 6 ha, <- fL 9 ha, <- fL 10 ha, <- fL 12 ha, <- fL 13 ha] at hL
 exact (ahQ _ g1 w1 (fun _ _ _ _ _ _ Wf w => X Wf w) k4 (fun _ _ h => h) h4 hL)
def Ph (kn : K6) (aO b6 mA xK dW aX Wf : aLm) (w : aLl) : Prop :=
 O1 kn aO b6 mA xK dW aX Wf w
def O7 (kn : K7) (aO b6 mA xK dW aX : aLm) (w : aLl) : Prop :=
 kn aO b6 mA xK dW aX (aLn 0) w
theorem afZ (kn : K7) (hn : N7 Q kn 2 6 9 10 12 13 16) (h : O7 kn (g 2) (g 6) (g 9) (g 10) (g 12) (g 13) w) : bH pg fG (aE 1 (aE 1 (aB 2 (bI (aB 1 (bI (bI (aE 1 (aB 1 (aB 5 (bI (aB 1 (bI (bI (aE 1 (aB 7 eQ)))))))))))))))) Q g w :=
 dP (kr := no) (l := []) h hn eU trivial
def NM (kn : K6) (aO b6 mA xK dW aX : aLm) (w : aLl) : Prop :=
 O7 (fun aO b6 mA xK dW aX Wf w => Ph kn aO b6 mA xK dW aX Wf w) aO b6 mA xK dW aX w
def He (kn : K6) (aO b6 mA xK dW aX : aLm) (w : aLl) : Prop :=
 NM (fun aO b6 mA xK dW aX w => G8 kn aO b6 mA xK dW aX w) aO b6 mA xK dW aX w
theorem aiO (kn : K6) (hn : N6 Q kn 2 6 9 10 12 13) (h : NM kn (g 2) (g 6) (g 9) (g 10) (g 12) (g 13) w) : bH pg fG (aE 1 (aB 2 (bI (aB 1 (bI (bI (aE 1 (aB 1 (aB 5 (bI (aB 1 (bI (bI (aE 1 (aB 7 eQ))))))))))))))) Q g w :=
 gC 1 (afZ _ g w (Ph kn) (fun g w h => aJ (wD 4 (aiJ _ g w kn hn h))) h)
def KI (kn : K6) (R : K1) (aO b6 mA dW aX : aLm) (w : aLl) : Prop :=
 aC pg (aI 164 mA) w fun l9 w =>
 aR pg xM #[l9, (aLn 2)] w fun m0 w =>
 aC pg (bD m0 0) w fun m1 w =>
 aC pg (bD m0 1) w fun m2 w =>
 aC pg (bD m0 2) w fun m3 w =>
 aC pg (aK 164 mA m1) w fun _u w =>
 aC pg (aH .neq 30 (.tmp 84) (.const (aLn 0)) m3 (aLn 0)) w fun m5 w =>
 fE m5
  (aC pg (bX 130 []) w fun m6 w =>
  aC pg (aK 130 b6 m6) w fun _u w =>
  mW pg 130 b6 w fun r0 => R (.tuple #[r0, (aLn 0), m3]) w)
  (kn aO b6 mA m2 dW aX w)
theorem adQ (kn : K6) (R : K1) (hn : N6 Q kn 2 6 9 10 12 13) (hr : HR lN R Q) (h : KI kn R (g 2) (g 6) (g 9) (g 12) (g 13) w) : bH pg fG (aE 2 (bI (aB 1 (bI (bI (aE 1 (aB 1 (aB 5 (bI (aB 1 (bI (bI (aE 1 (aB 7 eQ)))))))))))))) Q g w :=
 dP (l := []) h hn hr trivial
def VF (kn : K6) (R : K1) (aO b6 mA dW aX : aLm) (w : aLl) : Prop :=
 KI (fun aO b6 mA xK dW aX w => He kn aO b6 mA xK dW aX w) R aO b6 mA dW aX w
def Mv (kn : K6) (R : K1) (aO b6 mA dW aX : aLm) (w : aLl) : Prop :=
 VF kn R aO b6 mA dW aX w
def MI (kn : K5) (k2 : K5) (aO b6 mA dW aX c5 : aLm) (w : aLl) : Prop :=
 fE c5
  (kn aO b6 mA dW aX w)
  (k2 aO b6 mA dW aX w)
theorem adH (kn : K5) (k2 : K5) (hn : N5 Q kn 2 6 9 12 13) (h2 : E5 Q k2 2 2 6 9 12 13) (h : MI kn k2 (g 2) (g 6) (g 9) (g 12) (g 13) (g 15) w) : bH pg fG (aE 1 (bI (bI (aE 1 (aB 1 (aB 5 (bI (aB 1 (bI (bI (aE 1 (aB 7 eQ)))))))))))) Q g w :=
 dP (kr := no) (l := [(2, fun g w => k2 (g 2) (g 6) (g 9) (g 12) (g 13) w)]) h hn eU ⟨h2, trivial⟩
def DD (kn : K6) (k2 : K5) (R : K1) (aO b6 mA dW aX c5 : aLm) (w : aLl) : Prop :=
 MI (fun aO b6 mA dW aX w => Mv kn R aO b6 mA dW aX w) k2 aO b6 mA dW aX c5 w
def Ma (k2 : K5) (R : K1) (aO b6 mA dW aX c5 : aLm) (w : aLl) : Prop :=
 cC (fun (X : aLm -> K0) (t : aLm) (w : aLl) => DD (fun _ _ _ _ _ c5 w => X c5 w) k2 R aO b6 mA dW aX t w) c5 w
theorem Z8 (kn : K6) (k2 : K5) (R : K1) (hn : N6 Q kn 2 6 9 12 13 15) (h2 : E5 Q k2 2 2 6 9 12 13) (hr : HR lN R Q) (h : DD kn k2 R (g 2) (g 6) (g 9) (g 12) (g 13) (g 15) w) : bH pg fG (bI (bI (aE 1 (aB 1 (aB 5 (bI (aB 1 (bI (bI (aE 1 (aB 7 eQ))))))))))) Q g w :=
 gC 1 (adH _ g w (Mv kn R) k2 (fun g w h => aJ (wD 3 (gC 2 (adQ _ g w (He kn) R (fun g w h => aJ (gC 1 (aiO _ g w (G8 kn) (fun g w h => aJ (ajG _ g w kn hn h)) h))) hr h)))) h2 h)
theorem Z2 (k2 : K5) (R : K1) (h2 : E5 Q k2 2 2 6 9 12 13) (hr : HR lN R Q) (h : Ma k2 R (g 2) (g 6) (g 9) (g 12) (g 13) (g 15) w) : bH pg fG (bI (aE 1 (aB 1 (aB 5 (bI (aB 1 (bI (bI (aE 1 (aB 7 eQ)))))))))) Q g w := by
 refine Cy (fun g : Env => g 15) (fun X t w => DD (fun _ _ _ _ _ c5 w => X c5 w) k2 R (g 2) (g 6) (g 9) (g 12) (g 13) t w) h (fun X g1 w1 ha hL => ?_)
 rw [<- fL 2 ha, <- fL 6 ha, <- fL 9 ha, <- fL 12 ha, <- fL 13 ha] at hL
 exact (Z8 _ g1 w1 (fun _ _ _ _ _ c5 w => X c5 w) k2 R (fun _ _ h => h) h2 hr hL)
def Lv (kn : K5) (R : K1) (aO b6 mA dW aX c5 : aLm) (w : aLl) : Prop :=
 Ma kn R aO b6 mA dW aX c5 w
def Me (kn : K5) (R : K1) (aO b6 mA dW aX c5 : aLm) (w : aLl) : Prop :=
 Lv (fun aO b6 mA dW aX w => Hh kn R aO b6 mA dW aX w) R aO b6 mA dW aX c5 w
theorem acQ (kn : K5) (R : K1) (hn : N5 Q kn 2 6 9 12 13) (hr : HR lN R Q) (h : Lv kn R (g 2) (g 6) (g 9) (g 12) (g 13) (g 15) w) : bH pg fG (aE 1 (aB 1 (aB 5 (bI (aB 1 (bI (bI (aE 1 (aB 7 eQ))))))))) Q g w :=
 wD 2 (Z2 _ g w kn R hn hr h)
def Lg (kn : K6) (aO b6 mA dW aX aA9 : aLm) (w : aLl) : Prop :=
 aC pg (aH .eql 3 (.tmp 75) (.const (aLn 1)) aA9 (aLn 1)) w fun l6 w =>
 kn aO b6 mA dW aX l6 w
theorem adV (kn : K6) (hn : N6 Q kn 2 6 9 12 13 15) (h : Lg kn (g 2) (g 6) (g 9) (g 12) (g 13) (g 14) w) : bH pg fG (aE 1 (aB 5 (bI (aB 1 (bI (bI (aE 1 (aB 7 eQ)))))))) Q g w :=
 dP (kr := no) (l := []) h hn eU trivial
def AT (kn : K5) (R : K1) (aO b6 mA dW aX aA9 : aLm) (w : aLl) : Prop :=
 Lg (fun aO b6 mA dW aX c5 w => Me kn R aO b6 mA dW aX c5 w) aO b6 mA dW aX aA9 w
def Mx (kn : K6) (R : K1) (aO b6 mA dW aX : aLm) (w : aLl) : Prop :=
 aC pg (aI 164 mA) w fun i0 w =>
 aR pg JJ #[i0, aX] w fun i2 w =>
 aC pg (bD i2 0) w fun i3 w =>
 aC pg (bD i2 1) w fun i4 w =>
 aC pg (bD i2 2) w fun i5 w =>
 aC pg (aK 164 mA i3) w fun _u w =>
 aC pg (aH .neq 30 (.tmp 56) (.const (aLn 0)) i5 (aLn 0)) w fun i7 w =>
 fE i7
  (aC pg (bX 130 []) w fun i8 w =>
  aC pg (aK 130 b6 i8) w fun _u w =>
  mW pg 130 b6 w fun r0 => R (.tuple #[r0, (aLn 0), i5]) w)
  (aC pg (aL 130 dW 1) w fun j0 w =>
  aC pg (aI 77 j0) w fun j1 w =>
  aC pg (aH .sub 3 aM aM i4 (aLn 1)) w fun j3 w =>
  aC pg (cD 77 1 [(0, j3)]) w fun j4 w =>
  aC pg (lF .append #[77, 77] 77 [j1, j4]) w fun j5 w =>
  aC pg (aL 130 dW 1) w fun j6 w =>
  aC pg (aK 77 j6 j5) w fun _u w =>
  aC pg (aH .eql 3 (.tmp 67) (.const (aLn 0)) i4 (aLn 0)) w fun j8 w =>
  fE j8
   (aC pg (aH .sub 3 aM aM aX (aLn 1)) w fun l0 w =>
   kn aO b6 mA dW l0 i4 w)
   (aC pg (aH .sub 3 aM aM i4 (aLn 1)) w fun l3 w =>
   aC pg (aH .sub 3 aM aM aX l3) w fun l4 w =>
   kn aO b6 mA dW l4 i4 w))
theorem Zx (kn : K6) (R : K1) (hn : N6 Q kn 2 6 9 12 13 14) (hr : HR lN R Q) (h : Mx kn R (g 2) (g 6) (g 9) (g 12) (g 13) w) : bH pg fG (aE 5 (bI (aB 1 (bI (bI (aE 1 (aB 7 eQ))))))) Q g w :=
 dP (l := []) h hn hr trivial
def T5 (kn : K5) (R : K1) (aO b6 mA dW aX : aLm) (w : aLl) : Prop :=
 Mx (fun aO b6 mA dW aX aA9 w => AT kn R aO b6 mA dW aX aA9 w) R aO b6 mA dW aX w
def LA (kn : K5) (R : K1) (aO b6 mA dW aX : aLm) (w : aLl) : Prop :=
 T5 kn R aO b6 mA dW aX w
def KX (kn : K5) (k0 : K3) (aO b6 mA dW aX : aLm) (w : aLl) : Prop :=
 aC pg (aH .gtr 3 aM aM aX (aLn 0)) w fun f8 w =>
 fE f8
  (kn aO b6 mA dW aX w)
  (k0 b6 mA dW w)
theorem acL (kn : K5) (k0 : K3) (hn : N5 Q kn 2 6 9 12 13) (h0 : E3 Q k0 0 6 9 12) (h : KX kn k0 (g 2) (g 6) (g 9) (g 12) (g 13) w) : bH pg fG (aE 1 (bI (bI (aE 1 (aB 7 eQ))))) Q g w :=
 dP (kr := no) (l := [(0, fun g w => k0 (g 6) (g 9) (g 12) w)]) h hn eU ⟨h0, trivial⟩
def Dz (kn : K5) (k0 : K3) (R : K1) (aO b6 mA dW aX : aLm) (w : aLl) : Prop :=
 KX (fun aO b6 mA dW aX w => LA kn R aO b6 mA dW aX w) k0 aO b6 mA dW aX w
def LR (k0 : K3) (R : K1) (aO b6 mA dW aX : aLm) (w : aLl) : Prop :=
 cC (fun (X : aLm -> K0) (t : aLm) (w : aLl) => Dz (fun _ _ _ _ aX w => X aX w) k0 R aO b6 mA dW t w) aX w
theorem acB (kn : K5) (k0 : K3) (R : K1) (hn : N5 Q kn 2 6 9 12 13) (h0 : E3 Q k0 0 6 9 12) (hr : HR lN R Q) (h : Dz kn k0 R (g 2) (g 6) (g 9) (g 12) (g 13) w) : bH pg fG (bI (bI (aE 1 (aB 7 eQ)))) Q g w :=
 gC 1 (acL _ g w (LA kn R) k0 (fun g w h => aJ (wD 1 (gC 5 (Zx _ g w (AT kn R) R (fun g w h => aJ (gC 1 (adV _ g w (Me kn R) (fun g w h => aJ (gC 1 (acQ _ g w (Hh kn R) R (fun g w h => aJ (aiQ _ g w kn R hn hr h)) hr h))) h))) hr h)))) h0 h)
theorem aaD (k0 : K3) (R : K1) (h0 : E3 Q k0 0 6 9 12) (hr : HR lN R Q) (h : LR k0 R (g 2) (g 6) (g 9) (g 12) (g 13) w) : bH pg fG (bI (aE 1 (aB 7 eQ))) Q g w := by
 refine Cy (fun g : Env => g 13) (fun X t w => Dz (fun _ _ _ _ aX w => X aX w) k0 R (g 2) (g 6) (g 9) (g 12) t w) h (fun X g1 w1 ha hL => ?_)
 rw [<- fL 2 ha, <- fL 6 ha, <- fL 9 ha, <- fL 12 ha] at hL
 exact (acB _ g1 w1 (fun _ _ _ _ aX w => X aX w) k0 R (fun _ _ h => h) h0 hr hL)
def Mi (kn : K3) (R : K1) (aO b6 mA dW aX : aLm) (w : aLl) : Prop :=
 LR kn R aO b6 mA dW aX w
def DZ (R : K1) (aO b6 mA dW aX : aLm) (w : aLl) : Prop :=
 Mi (fun b6 mA dW w => Hb R b6 mA dW w) R aO b6 mA dW aX w
theorem acF (kn : K3) (R : K1) (hn : N3 Q kn 6 9 12) (hr : HR lN R Q) (h : Mi kn R (g 2) (g 6) (g 9) (g 12) (g 13) w) : bH pg fG (aE 1 (aB 7 eQ)) Q g w :=
 wD 0 (aaD _ g w kn R hn hr h)
def Lr (kn : K5) (R : K1) (EW KJ aO : aLm) (w : aLl) : Prop :=
 aC pg (bV 130) w fun b6 w =>
 aR pg Eh #[EW] w fun c8 w =>
 aC pg (bX 164 [(0, c8)]) w fun c9 w =>
 aC pg (bV 164) w fun mA w =>
 aC pg (aK 164 mA c9) w fun _u w =>
 aC pg (aI 164 mA) w fun d1 w =>
 aR pg xM #[d1, (aLn 4)] w fun d2 w =>
 aC pg (bD d2 0) w fun d3 w =>
 aC pg (bD d2 1) w fun d4 w =>
 aC pg (bD d2 2) w fun d5 w =>
 aC pg (aK 164 mA d3) w fun _u w =>
 aC pg (aH .neq 30 (.tmp 26) (.const (aLn 0)) d5 (aLn 0)) w fun d7 w =>
 fE d7
  (aC pg (bX 130 []) w fun d8 w =>
  aC pg (aK 130 b6 d8) w fun _u w =>
  mW pg 130 b6 w fun r0 => R (.tuple #[r0, (aLn 0), d5]) w)
  (aC pg (gF 73 3 d4) w fun e1 w =>
  aC pg (aH .add 3 aM aM e1 (aLn 5)) w fun e2 w =>
  aC pg (bX 130 [(0, e2)]) w fun e3 w =>
  aC pg (bV 130) w fun dW w =>
  aC pg (aK 130 dW e3) w fun _u w =>
  aC pg (aL 130 dW 0) w fun e4 w =>
  aC pg (aI 3 e4) w fun e5 w =>
  aC pg (aH .gtr 3 aM aM e5 KJ) w fun e7 w =>
  Gd (eZ e7 false) (fun K => aC pg (aL 130 dW 0) w K) w fun e9 w =>
  Gd (eZ e7 false) (fun K => aC pg (aI 3 e9) w K) w fun f0 w =>
  Gd (eZ e7 false) (fun K => aC pg (aH .gtr 3 aM aM f0 (aLn 15)) w K) w fun f1 w =>
  aC pg (fV e7 (.bool true) f1) w fun f2 w =>
  fE f2
   (aC pg (bX 130 []) w fun f3 w =>
   aC pg (aK 130 b6 f3) w fun _u w =>
   mW pg 130 b6 w fun r0 => R (.tuple #[r0, (aLn 0), (aLn 12)]) w)
   (aC pg (aL 130 dW 0) w fun f4 w =>
   aC pg (aI 3 f4) w fun f5 w =>
   aR pg qG #[f5] w fun f6 w =>
   kn aO b6 mA dW f6 w))
theorem abT (kn : K5) (R : K1) (hn : N5 Q kn 2 6 9 12 13) (hr : HR lN R Q) (h : Lr kn R (g 0) (g 1) (g 2) w) : bH pg fG (aE 7 eQ) Q g w :=
 dP (l := []) h hn hr trivial
def Lu (R : K1) (EW KJ aO : aLm) (w : aLl) : Prop :=
 Lr (fun aO b6 mA dW aX w => DZ R aO b6 mA dW aX w) R EW KJ aO w
theorem ZZ (R : K1) (hr : HR lN R Q) (h : Lu R (g 0) (g 1) (g 2) w) : bH pg fG eQ Q g w :=
 gC 7 (abT _ g w (DZ R) R (fun g w h => aJ (gC 1 (acF _ g w (Hb R) R (fun g w h => aJ (agR _ g w R hr h)) hr h))) hr h)
def aqS (a0 a1 a2 : aLm) (w : aLl) (R : K1) : Prop :=
 Lu R a0 a1 a2 w
theorem alK {a0 a1 a2 : aLm} {w : aLl} {R : K1} (h : aqS a0 a1 a2 w R) : aR pg J4 #[a0, a1, a2] w R := by
 refine tD (ann := fG) Tryd.f57 eQ [a0, a1, a2] lN 114 TrydM.mixed Tryd.func57 ?_
 exact (ZZ _ _ _ R (fun _ _ h => h) h)
def UY : FA := ⟨JE, fun i => .leaf ([], []) []⟩
def W8 : List ResultVar := [.tmp 2]
noncomputable def SY : Code := cX Tryd.f58
def Ob (R : K1) (aQ : aLm) (w : aLl) : Prop :=
 aC pg (aH .eql 3 (.tmp 3) (.const (aLn 0)) aQ (aLn 0)) w fun b4 w =>
 Gd (eZ b4 false) (fun K => K aQ w) w fun b6 w =>
 Gd (eZ b4 false) (fun K => aC pg (aH .eql 3 (.tmp 6) (.const (aLn 2)) b6 (aLn 2)) w K) w fun b7 w =>
 aC pg (fV b4 (.bool true) b7) w fun b8 w =>
 fE b8
  (R (aLn 9) w)
  (aC pg (aH .eql 3 (.tmp 9) (.const (aLn 1)) aQ (aLn 1)) w fun c0 w =>
  fE c0
   (R (aLn 8) w)
   (R (aLn 0) w))
theorem ajO (R : K1) (hr : HR W8 R Q) (h : Ob R (g 0) w) : bH pg UY SY Q g w :=
 dP (kn := no) (l := []) h eU hr trivial
def apG (a0 : aLm) (w : aLl) (R : K1) : Prop :=
 Ob R a0 w
theorem alZ {a0 : aLm} {w : aLl} {R : K1} (h : apG a0 w R) : aR pg JE #[a0] w R := by
 refine tD (ann := UY) Tryd.f58 SY [a0] W8 11 TrydM.mixed Tryd.func58 ?_
 exact (ajO _ _ _ R (fun _ _ h => h) h)
def bE : FA := ⟨BL, fun i => match Nat.beq i 46 with | true => .leaf ([5, 11], [(0, 5), (1, 5)]) [(false, []), (false, []), (false, []), (false, []), (false, []), (true, [3, 4]), (false, []), (false, []), (false, []), (false, []), (false, []), (true, [])] | false => .leaf ([], []) []⟩
def pG : List ResultVar := [.cell 2 35, .tmp 3]
noncomputable def aZ : Code := cX Tryd.f59
def D0 (R : K1) (b2 b6 : aLm) (w : aLl) : Prop :=
 aC pg (aI 35 b6) w fun z4 w =>
 aC pg (aK 35 b2 z4) w fun _u w =>
 mW pg 35 b2 w fun r0 => R (.tuple #[r0, (aLn 0)]) w
theorem Z0 (R : K1) (hr : HR pG R Q) (h : D0 R (g 2) (g 6) w) : bH pg bE (aB 1 (aB 1 (aB 1 (aB 1 (aB 1 (aB 1 (aB 1 (aB 5 aZ)))))))) Q g w :=
 dP (kn := no) (l := []) h eU hr trivial
def AI (kn : K6) (bO b2 fC b6 cH lG : aLm) (w : aLl) : Prop :=
 aC pg (aH .add 3 aM aM lG (aLn 1)) w fun q1 w =>
 kn bO b2 fC b6 cH q1 w
theorem Z1 (kn : K6) (hn : N6 Q kn 1 2 5 6 14 15) (h : AI kn (g 1) (g 2) (g 5) (g 6) (g 14) (g 15) w) : bH pg bE (aB 1 (aB 1 (bI (bI (aB 1 (aE 1 (aB 1 (aB 1 (aB 1 (aB 1 (aB 1 (aB 1 (aB 5 aZ))))))))))))) Q g w :=
 dP (kr := no) (l := []) h hn eU trivial
def EM (kn : K6) (bO b2 fC b6 cH lG Rl nG : aLm) (w : aLl) : Prop :=
 aC pg (aL 35 b6 1) w fun x7 w =>
 aC pg (aI 33 x7) w fun x8 w =>
 aC pg (aY 33 x8 lG) w fun y1 w =>
 aC pg (aL 139 y1 1) w fun y2 w =>
 aC pg (aK 3 y2 nG) w fun _u w =>
 aC pg (aL 35 b6 1) (dr w) fun y3 w_ => w_ = (dr w) /\
 aC pg (aI 33 y3) (dr w) fun y4 w_ => w_ = (dr w) /\
 (dr w) = (dr w) /\
 (dr w) = (dr w) /\
 (dr w) = (dr w) /\
 aR pg qG #[nG] (dr w) fun y8 PY =>
 (dS pg (aI 33 y3) y4 PY /\ dS pg (aL 35 b6 1) y3 PY /\ True) /\
 aC pg (aH .mul 3 aM aM Rl y8) PY fun y9 w_ => w_ = PY /\
 PY = PY /\
 aC pg (aH .sub 3 aM aM y9 fC) PY fun z1 w_ => w_ = PY /\
 aC pg (aY 33 y4 lG) PY fun z2 w_ => w_ = PY /\
 aC pg (aL 139 z2 2) PY fun z3 w_ => w_ = PY /\
 aC pg (aK 3 z3 z1) PY fun _u11 aHn =>
 kn bO b2 fC b6 cH lG aHn
theorem acH (kn : K6) (hn : N6 Q kn 1 2 5 6 14 15) (h : EM kn (g 1) (g 2) (g 5) (g 6) (g 14) (g 15) (g 18) (g 19) w) : bH pg bE (aB 1 (aB 3 (aB 2 (aB 2 (bI (aE 1 (aB 1 (bI (bI (aB 1 (aE 1 (aB 1 (aB 1 (aB 1 (aB 1 (aB 1 (aB 1 (aB 5 aZ)))))))))))))))))) Q g w :=
 dP (kr := no) (l := []) h hn eU trivial
def DP (kn : K8) (k12 : K8) (bO b2 fC b6 cH lG Rl nG : aLm) (w : aLl) : Prop :=
 aC pg (aL 130 bO 0) w fun v7 w =>
 aC pg (aI 3 v7) w fun v8 w =>
 aC pg (aH .sub 3 aM aM v8 nG) w fun x0 w =>
 aC pg (aH .add 3 aM aM x0 (aLn 1)) w fun x1 w =>
 aR pg qG #[x1] w fun x2 w =>
 aC pg (aH .leq 3 aM aM x2 Rl) w fun x4 w =>
 fE x4
  (aC pg (aH .sub 3 aM aM nG (aLn 1)) w fun x6 w =>
  kn bO b2 fC b6 cH lG Rl x6 w)
  (k12 bO b2 fC b6 cH lG Rl nG w)
theorem ZU (kn : K8) (k12 : K8) (hn : N8 Q kn 1 2 5 6 14 15 18 19) (h12 : E8 Q k12 12 1 2 5 6 14 15 18 19) (h : DP kn k12 (g 1) (g 2) (g 5) (g 6) (g 14) (g 15) (g 18) (g 19) w) : bH pg bE (bI (bI (aE 1 (aB 3 (aB 2 (aB 2 (bI (aE 1 (aB 1 (bI (bI (aB 1 (aE 1 (aB 1 (aB 1 (aB 1 (aB 1 (aB 1 (aB 1 (aB 5 aZ)))))))))))))))))))) Q g w :=
 dP (kr := no) (l := [(12, fun g w => k12 (g 1) (g 2) (g 5) (g 6) (g 14) (g 15) (g 18) (g 19) w)]) h hn eU ⟨h12, trivial⟩
def EC (k12 : K8) (bO b2 fC b6 cH lG Rl nG : aLm) (w : aLl) : Prop :=
 cC (fun (X : aLm -> K0) (t : aLm) (w : aLl) => DP (fun _ _ _ _ _ _ _ nG w => X nG w) k12 bO b2 fC b6 cH lG Rl t w) nG w
theorem acR (k12 : K8) (h12 : E8 Q k12 12 1 2 5 6 14 15 18 19) (h : EC k12 (g 1) (g 2) (g 5) (g 6) (g 14) (g 15) (g 18) (g 19) w) : bH pg bE (bI (aE 1 (aB 3 (aB 2 (aB 2 (bI (aE 1 (aB 1 (bI (bI (aB 1 (aE 1 (aB 1 (aB 1 (aB 1 (aB 1 (aB 1 (aB 1 (aB 5 aZ))))))))))))))))))) Q g w := by
 refine Cy (fun g : Env => g 19) (fun X t w => DP (fun _ _ _ _ _ _ _ nG w => X nG w) k12 (g 1) (g 2) (g 5) (g 6) (g 14) (g 15) (g 18) t w) h (fun X g1 w1 ha hL => ?_)
 rw [<- fL 1 ha, <- fL 2 ha, <- fL 5 ha, <- fL 6 ha, <- fL 14 ha, <- fL 15 ha, <- fL 18 ha] at hL
 exact (ZU _ g1 w1 (fun _ _ _ _ _ _ _ nG w => X nG w) k12 (fun _ _ h => h) h12 hL)
def Lq (kn : K8) (bO b2 fC b6 cH lG Rl nG : aLm) (w : aLl) : Prop :=
 EC kn bO b2 fC b6 cH lG Rl nG w
def Ks (kn : K6) (bO b2 fC b6 cH lG Rl nG : aLm) (w : aLl) : Prop :=
 Lq (fun bO b2 fC b6 cH lG Rl nG w => EM kn bO b2 fC b6 cH lG Rl nG w) bO b2 fC b6 cH lG Rl nG w
theorem abM (kn : K8) (hn : N8 Q kn 1 2 5 6 14 15 18 19) (h : Lq kn (g 1) (g 2) (g 5) (g 6) (g 14) (g 15) (g 18) (g 19) w) : bH pg bE (aE 1 (aB 3 (aB 2 (aB 2 (bI (aE 1 (aB 1 (bI (bI (aB 1 (aE 1 (aB 1 (aB 1 (aB 1 (aB 1 (aB 1 (aB 1 (aB 5 aZ)))))))))))))))))) Q g w :=
 wD 12 (acR _ g w kn hn h)
def KU (kn : K8) (bO b2 fC b6 cH lG J5 aBO : aLm) (w : aLl) : Prop :=
 aC pg (aY 171 cH J5) w fun u6 w =>
 aC pg (aI 3 u6) w fun u7 w =>
 aC pg (aH .add 3 aM aM u7 aBO) w fun u9 w =>
 aC pg (aY 171 cH J5) w fun v1 w =>
 aC pg (aI 3 v1) w fun v2 w =>
 aC pg (aH .add 3 aM aM v2 (aLn 1)) w fun v3 w =>
 aC pg (aY 171 cH J5) w fun v4 w =>
 aC pg (aK 3 v4 v3) w fun _u w =>
 aC pg (aL 130 bO 0) w fun v5 w =>
 aC pg (aI 3 v5) w fun v6 w =>
 kn bO b2 fC b6 cH lG u9 v6 w
theorem aaP (kn : K8) (hn : N8 Q kn 1 2 5 6 14 15 18 19) (h : KU kn (g 1) (g 2) (g 5) (g 6) (g 14) (g 15) (g 16) (g 17) w) : bH pg bE (aE 3 (aB 2 (aB 2 (bI (aE 1 (aB 1 (bI (bI (aB 1 (aE 1 (aB 1 (aB 1 (aB 1 (aB 1 (aB 1 (aB 1 (aB 5 aZ))))))))))))))))) Q g w :=
 dP (kr := no) (l := []) h hn eU trivial
def EP (kn : K6) (bO b2 fC b6 cH lG J5 aBO : aLm) (w : aLl) : Prop :=
 KU (fun bO b2 fC b6 cH lG Rl nG w => Ks kn bO b2 fC b6 cH lG Rl nG w) bO b2 fC b6 cH lG J5 aBO w
def I5 (kn : K8) (bO b2 fC b6 cH lG J5 : aLm) (w : aLl) : Prop :=
 aC pg (aL 130 bO 1) w fun s8 w =>
 aC pg (aI 77 s8) w fun s9 w =>
 aC pg (aY 77 s9 J5) w fun u1 w =>
 aC pg (aI 3 u1) w fun u2 w =>
 aC pg (aH .lss 3 aM aM u2 (aLn 0)) w fun u4 w =>
 fE u4
  (kn bO b2 fC b6 cH lG J5 (aLn 1) w)
  (kn bO b2 fC b6 cH lG J5 u2 w)
theorem X6 (kn : K8) (hn : N8 Q kn 1 2 5 6 14 15 16 17) (h : I5 kn (g 1) (g 2) (g 5) (g 6) (g 14) (g 15) (g 16) w) : bH pg bE (aE 2 (aB 2 (bI (aE 1 (aB 1 (bI (bI (aB 1 (aE 1 (aB 1 (aB 1 (aB 1 (aB 1 (aB 1 (aB 1 (aB 5 aZ)))))))))))))))) Q g w :=
 dP (kr := no) (l := []) h hn eU trivial
def H8 (kn : K6) (bO b2 fC b6 cH lG J5 : aLm) (w : aLl) : Prop :=
 I5 (fun bO b2 fC b6 cH lG J5 aBO w => EP kn bO b2 fC b6 cH lG J5 aBO w) bO b2 fC b6 cH lG J5 w
def HP (kn : K7) (R : K1) (bO b2 fC b6 cH lG : aLm) (w : aLl) : Prop :=
 aC pg (aL 35 b6 1) w fun q2 w =>
 aC pg (aI 33 q2) w fun q3 w =>
 aC pg (aY 33 q3 lG) w fun q5 w =>
 aC pg (aL 139 q5 0) w fun q6 w =>
 aC pg (aI 3 q6) w fun q7 w =>
 aC pg (aH .lss 3 aM aM q7 (aLn 0)) w fun q9 w =>
 Gd (eZ q9 false) (fun K => K q7 w) w fun s1 w =>
 Gd (eZ q9 false) (fun K => aC pg (aL 130 bO 1) w K) w fun s2 w =>
 Gd (eZ q9 false) (fun K => aC pg (aI 77 s2) w K) w fun s3 w =>
 Gd (eZ q9 false) (fun K => aC pg (lF .len #[77] 3 [s3]) w K) w fun s4 w =>
 Gd (eZ q9 false) (fun K => aC pg (aH .geq 3 aM aM s1 s4) w K) w fun s5 w =>
 aC pg (fV q9 (.bool true) s5) w fun s6 w =>
 fE s6
  (aC pg (bX 35 []) w fun s7 w =>
  aC pg (aK 35 b2 s7) w fun _u w =>
  mW pg 35 b2 w fun r0 => R (.tuple #[r0, (aLn 1)]) w)
  (kn bO b2 fC b6 cH lG q7 w)
theorem Ys (kn : K7) (R : K1) (hn : N7 Q kn 1 2 5 6 14 15 16) (hr : HR pG R Q) (h : HP kn R (g 1) (g 2) (g 5) (g 6) (g 14) (g 15) w) : bH pg bE (aE 2 (bI (aE 1 (aB 1 (bI (bI (aB 1 (aE 1 (aB 1 (aB 1 (aB 1 (aB 1 (aB 1 (aB 1 (aB 5 aZ))))))))))))))) Q g w :=
 dP (l := []) h hn hr trivial
def Sw (kn : K6) (R : K1) (bO b2 fC b6 cH lG : aLm) (w : aLl) : Prop :=
 HP (fun bO b2 fC b6 cH lG J5 w => H8 kn bO b2 fC b6 cH lG J5 w) R bO b2 fC b6 cH lG w
def I0 (kn : K6) (R : K1) (bO b2 fC b6 cH lG : aLm) (w : aLl) : Prop :=
 Sw kn R bO b2 fC b6 cH lG w
def Cp (kn : K6) (R : K1) (bO b2 fC b6 cH lG : aLm) (w : aLl) : Prop :=
 I0 (fun bO b2 fC b6 cH lG w => AI kn bO b2 fC b6 cH lG w) R bO b2 fC b6 cH lG w
theorem Y0 (kn : K6) (R : K1) (hn : N6 Q kn 1 2 5 6 14 15) (hr : HR pG R Q) (h : I0 kn R (g 1) (g 2) (g 5) (g 6) (g 14) (g 15) w) : bH pg bE (aE 1 (aB 1 (bI (bI (aB 1 (aE 1 (aB 1 (aB 1 (aB 1 (aB 1 (aB 1 (aB 1 (aB 5 aZ))))))))))))) Q g w :=
 wD 11 (gC 2 (Ys _ g w (H8 kn) R (fun g w h => aJ (gC 2 (X6 _ g w (EP kn) (fun g w h => aJ (gC 3 (aaP _ g w (Ks kn) (fun g w h => aJ (gC 1 (abM _ g w (EM kn) (fun g w h => aJ (acH _ g w kn hn h)) h))) h))) h))) hr h))
def IN (kn : K6) (k10 : K2) (bO b2 fC b6 cH lG : aLm) (w : aLl) : Prop :=
 aC pg (aH .lss 3 aM aM lG fC) w fun p9 w =>
 fE p9
  (kn bO b2 fC b6 cH lG w)
  (k10 b2 b6 w)
theorem XO (kn : K6) (k10 : K2) (hn : N6 Q kn 1 2 5 6 14 15) (h10 : E2 Q k10 10 2 6) (h : IN kn k10 (g 1) (g 2) (g 5) (g 6) (g 14) (g 15) w) : bH pg bE (aE 1 (bI (bI (aB 1 (aE 1 (aB 1 (aB 1 (aB 1 (aB 1 (aB 1 (aB 1 (aB 5 aZ)))))))))))) Q g w :=
 dP (kr := no) (l := [(10, fun g w => k10 (g 2) (g 6) w)]) h hn eU ⟨h10, trivial⟩
def BU (kn : K6) (k10 : K2) (R : K1) (bO b2 fC b6 cH lG : aLm) (w : aLl) : Prop :=
 IN (fun bO b2 fC b6 cH lG w => Cp kn R bO b2 fC b6 cH lG w) k10 bO b2 fC b6 cH lG w
def IT (k10 : K2) (R : K1) (bO b2 fC b6 cH lG : aLm) (w : aLl) : Prop :=
 cC (fun (X : aLm -> K0) (t : aLm) (w : aLl) => BU (fun _ _ _ _ _ lG w => X lG w) k10 R bO b2 fC b6 cH t w) lG w
theorem YB (kn : K6) (k10 : K2) (R : K1) (hn : N6 Q kn 1 2 5 6 14 15) (h10 : E2 Q k10 10 2 6) (hr : HR pG R Q) (h : BU kn k10 R (g 1) (g 2) (g 5) (g 6) (g 14) (g 15) w) : bH pg bE (bI (bI (aB 1 (aE 1 (aB 1 (aB 1 (aB 1 (aB 1 (aB 1 (aB 1 (aB 5 aZ))))))))))) Q g w :=
 gC 1 (XO _ g w (Cp kn R) k10 (fun g w h => aJ (gC 1 (Y0 _ g w (AI kn) R (fun g w h => aJ (Z1 _ g w kn hn h)) hr h))) h10 h)
theorem YJ (k10 : K2) (R : K1) (h10 : E2 Q k10 10 2 6) (hr : HR pG R Q) (h : IT k10 R (g 1) (g 2) (g 5) (g 6) (g 14) (g 15) w) : bH pg bE (bI (aB 1 (aE 1 (aB 1 (aB 1 (aB 1 (aB 1 (aB 1 (aB 1 (aB 5 aZ)))))))))) Q g w := by
 refine Cy (fun g : Env => g 15) (fun X t w => BU (fun _ _ _ _ _ lG w => X lG w) k10 R (g 1) (g 2) (g 5) (g 6) (g 14) t w) h (fun X g1 w1 ha hL => ?_)
 rw [<- fL 1 ha, <- fL 2 ha, <- fL 5 ha, <- fL 6 ha, <- fL 14 ha] at hL
 exact (YB _ g1 w1 (fun _ _ _ _ _ lG w => X lG w) k10 R (fun _ _ h => h) h10 hr hL)
def H3 (kn : K2) (R : K1) (bO b2 fC b6 cH lG : aLm) (w : aLl) : Prop :=
 IT kn R bO b2 fC b6 cH lG w
def I4 (kn : K6) (bO b2 fC b6 cH : aLm) (w : aLl) : Prop :=
 kn bO b2 fC b6 cH (aLn 0) w
theorem Yj (kn : K6) (hn : N6 Q kn 1 2 5 6 14 15) (h : I4 kn (g 1) (g 2) (g 5) (g 6) (g 14) w) : bH pg bE (aE 1 (aE 1 (aB 1 (aB 1 (aB 1 (aB 1 (aB 1 (aB 1 (aB 5 aZ))))))))) Q g w :=
 dP (kr := no) (l := []) h hn eU trivial
def I7 (kn : K2) (R : K1) (bO b2 fC b6 cH : aLm) (w : aLl) : Prop :=
 I4 (fun bO b2 fC b6 cH lG w => H3 kn R bO b2 fC b6 cH lG w) bO b2 fC b6 cH w
def HQ (R : K1) (bO b2 fC b6 cH : aLm) (w : aLl) : Prop :=
 I7 (fun b2 b6 w => D0 R b2 b6 w) R bO b2 fC b6 cH w
theorem X5 (kn : K2) (R : K1) (hn : N2 Q kn 2 6) (hr : HR pG R Q) (h : I7 kn R (g 1) (g 2) (g 5) (g 6) (g 14) w) : bH pg bE (aE 1 (aB 1 (aB 1 (aB 1 (aB 1 (aB 1 (aB 1 (aB 5 aZ)))))))) Q g w :=
 gC 1 (Yj _ g w (H3 kn R) (fun g w h => aJ (wD 10 (YJ _ g w kn R hn hr h))) h)
def H6 (kn : K5) (bO b2 fC b6 : aLm) (w : aLl) : Prop :=
 aC pg (bV 171) w fun cH w =>
 kn bO b2 fC b6 cH w
theorem YU (kn : K5) (hn : N5 Q kn 1 2 5 6 14) (h : H6 kn (g 1) (g 2) (g 5) (g 6) w) : bH pg bE (aE 1 (aB 1 (aB 1 (aB 1 (aB 1 (aB 1 (aB 5 aZ))))))) Q g w :=
 dP (kr := no) (l := []) h hn eU trivial
def B3 (R : K1) (bO b2 fC b6 : aLm) (w : aLl) : Prop :=
 H6 (fun bO b2 fC b6 cH w => HQ R bO b2 fC b6 cH w) bO b2 fC b6 w
def B6 (kn : K7) (bO b2 fC b6 b8 eI kU : aLm) (w : aLl) : Prop :=
 aC pg (aH .add 3 aM aM kU (aLn 1)) w fun l1 w =>
 kn bO b2 fC b6 b8 eI l1 w
theorem Xv (kn : K7) (hn : N7 Q kn 1 2 5 6 8 10 11) (h : B6 kn (g 1) (g 2) (g 5) (g 6) (g 8) (g 10) (g 11) w) : bH pg bE (aB 1 (aB 1 (bI (bI (aB 1 (aE 1 (aB 1 (aB 1 (aB 1 (aB 1 (aB 5 aZ))))))))))) Q g w :=
 dP (kr := no) (l := []) h hn eU trivial
def BX (kn : K8) (bO b2 fC b6 b8 eI kU tC : aLm) (w : aLl) : Prop :=
 aC pg (aH .add 3 aM aM tC (aLn 1)) w fun m0 w =>
 kn bO b2 fC b6 b8 eI kU m0 w
theorem Yo (kn : K8) (hn : N8 Q kn 1 2 5 6 8 10 11 12) (h : BX kn (g 1) (g 2) (g 5) (g 6) (g 8) (g 10) (g 11) (g 12) w) : bH pg bE (aB 1 (aB 1 (bI (bI (aB 1 (bI (aE 1 (aB 1 (bI (bI (aB 1 (aE 1 (aB 1 (aB 1 (aB 1 (aB 1 (aB 5 aZ))))))))))))))))) Q g w :=
 dP (kr := no) (l := []) h hn eU trivial
def Cm (kn : K9) (k8 : K8) (bO b2 fC b6 b8 eI kU tC We : aLm) (w : aLl) : Prop :=
 aC pg (aH .lss 3 aM aM We fC) w fun n9 w =>
 Gd (eZ n9 true) (fun K => K eI w) w fun o1 w =>
 Gd (eZ n9 true) (fun K => K b8 w) w fun o2 w =>
 Gd (eZ n9 true) (fun K => aC pg (aH .gtr 3 aM aM o1 o2) w K) w fun o3 w =>
 aC pg (fV n9 o3 (.bool false)) w fun o4 w =>
 fE o4
  (aC pg (aH .quo 3 aM aM fC (aLn 2)) w fun o9 w =>
  aC pg (aH .add 3 aM aM eI o9) w fun p0 w =>
  aC pg (aH .quo 3 aM aM fC (aLn 8)) w fun p2 w =>
  aC pg (aH .add 3 aM aM p0 p2) w fun p3 w =>
  aC pg (aH .add 3 aM aM p3 (aLn 3)) w fun p4 w =>
  aC pg (aH .rem 3 aM aM p4 fC) w fun p6 w =>
  aC pg (aH .add 3 aM aM We (aLn 1)) w fun o6 w =>
  kn bO b2 fC b6 b8 p6 kU tC o6 w)
  (k8 bO b2 fC b6 b8 eI kU tC w)
theorem YZ (kn : K9) (k8 : K8) (hn : N9 Q kn 1 2 5 6 8 10 11 12 13) (h8 : E8 Q k8 8 1 2 5 6 8 10 11 12) (h : Cm kn k8 (g 1) (g 2) (g 5) (g 6) (g 8) (g 10) (g 11) (g 12) (g 13) w) : bH pg bE (bI (bI (aB 3 (bI (aE 1 (aB 1 (bI (bI (aB 1 (bI (aE 1 (aB 1 (bI (bI (aB 1 (aE 1 (aB 1 (aB 1 (aB 1 (aB 1 (aB 5 aZ))))))))))))))))))))) Q g w :=
 dP (kr := no) (l := [(8, fun g w => k8 (g 1) (g 2) (g 5) (g 6) (g 8) (g 10) (g 11) (g 12) w)]) h hn eU ⟨h8, trivial⟩
def Ca (k8 : K8) (bO b2 fC b6 b8 eI kU tC We : aLm) (w : aLl) : Prop :=
 cC (fun (X : (aLm × aLm) -> K0) (t : aLm × aLm) (w : aLl) => Cm (fun _ _ _ _ _ eI _ _ We w => X (eI, We) w) k8 bO b2 fC b6 b8 t.1 kU tC t.2 w) (eI, We) w
theorem Xm (k8 : K8) (h8 : E8 Q k8 8 1 2 5 6 8 10 11 12) (h : Ca k8 (g 1) (g 2) (g 5) (g 6) (g 8) (g 10) (g 11) (g 12) (g 13) w) : bH pg bE (bI (aB 3 (bI (aE 1 (aB 1 (bI (bI (aB 1 (bI (aE 1 (aB 1 (bI (bI (aB 1 (aE 1 (aB 1 (aB 1 (aB 1 (aB 1 (aB 5 aZ)))))))))))))))))))) Q g w := by
 refine Cy (fun g : Env => (g 10, g 13)) (fun X t w => Cm (fun _ _ _ _ _ eI _ _ We w => X (eI, We) w) k8 (g 1) (g 2) (g 5) (g 6) (g 8) t.1 (g 11) (g 12) t.2 w) h (fun X g1 w1 ha hL => ?_)
 rw [<- fL 1 ha, <- fL 2 ha, <- fL 5 ha, <- fL 6 ha, <- fL 8 ha, <- fL 11 ha, <- fL 12 ha] at hL
 exact (YZ _ g1 w1 (fun _ _ _ _ _ eI _ _ We w => X (eI, We) w) k8 (fun _ _ h => h) h8 hL)
def Jf (kn : K8) (bO b2 fC b6 b8 eI kU tC We : aLm) (w : aLl) : Prop :=
 Ca kn bO b2 fC b6 b8 eI kU tC We w
def IA (kn : K9) (bO b2 fC b6 b8 eI kU tC : aLm) (w : aLl) : Prop :=
 aC pg (aL 35 b6 1) w fun m1 w =>
 aC pg (aI 33 m1) w fun m2 w =>
 aC pg (aY 33 m2 eI) w fun m5 w =>
 aC pg (aL 139 m5 0) w fun m6 w =>
 aC pg (aK 3 m6 kU) w fun _u w =>
 aC pg (aH .quo 3 aM aM fC (aLn 2)) w fun m9 w =>
 aC pg (aH .add 3 aM aM eI m9) w fun n0 w =>
 aC pg (aH .quo 3 aM aM fC (aLn 8)) w fun n2 w =>
 aC pg (aH .add 3 aM aM n0 n2) w fun n3 w =>
 aC pg (aH .add 3 aM aM n3 (aLn 3)) w fun n4 w =>
 aC pg (aH .rem 3 aM aM n4 fC) w fun n6 w =>
 kn bO b2 fC b6 b8 n6 kU tC (aLn 0) w
theorem Yx (kn : K9) (hn : N9 Q kn 1 2 5 6 8 10 11 12 13) (h : IA kn (g 1) (g 2) (g 5) (g 6) (g 8) (g 10) (g 11) (g 12) w) : bH pg bE (aE 3 (bI (aE 1 (aB 1 (bI (bI (aB 1 (bI (aE 1 (aB 1 (bI (bI (aB 1 (aE 1 (aB 1 (aB 1 (aB 1 (aB 1 (aB 5 aZ))))))))))))))))))) Q g w :=
 dP (kr := no) (l := []) h hn eU trivial
def SV (kn : K8) (bO b2 fC b6 b8 eI kU tC : aLm) (w : aLl) : Prop :=
 IA (fun bO b2 fC b6 b8 eI kU tC We w => Jf kn bO b2 fC b6 b8 eI kU tC We w) bO b2 fC b6 b8 eI kU tC w
def HO (kn : K8) (bO b2 fC b6 b8 eI kU tC : aLm) (w : aLl) : Prop :=
 SV kn bO b2 fC b6 b8 eI kU tC w
def Jj (kn : K8) (bO b2 fC b6 b8 eI kU tC : aLm) (w : aLl) : Prop :=
 HO (fun bO b2 fC b6 b8 eI kU tC w => BX kn bO b2 fC b6 b8 eI kU tC w) bO b2 fC b6 b8 eI kU tC w
theorem XY (kn : K8) (hn : N8 Q kn 1 2 5 6 8 10 11 12) (h : HO kn (g 1) (g 2) (g 5) (g 6) (g 8) (g 10) (g 11) (g 12) w) : bH pg bE (aE 1 (aB 1 (bI (bI (aB 1 (bI (aE 1 (aB 1 (bI (bI (aB 1 (aE 1 (aB 1 (aB 1 (aB 1 (aB 1 (aB 5 aZ))))))))))))))))) Q g w :=
 wD 7 (gC 3 (Yx _ g w (Jf kn) (fun g w h => aJ (wD 8 (Xm _ g w kn hn h))) h))
def It (kn : K8) (k6 : K7) (bO b2 fC b6 b8 eI kU tC : aLm) (w : aLl) : Prop :=
 aC pg (aL 130 bO 1) w fun l3 w =>
 aC pg (aI 77 l3) w fun l4 w =>
 aC pg (aY 77 l4 kU) w fun l6 w =>
 aC pg (aI 3 l6) w fun l7 w =>
 aC pg (aH .lss 3 aM aM tC l7) w fun l8 w =>
 fE l8
  (kn bO b2 fC b6 b8 eI kU tC w)
  (k6 bO b2 fC b6 b8 eI kU w)
theorem X4 (kn : K8) (k6 : K7) (hn : N8 Q kn 1 2 5 6 8 10 11 12) (h6 : E7 Q k6 6 1 2 5 6 8 10 11) (h : It kn k6 (g 1) (g 2) (g 5) (g 6) (g 8) (g 10) (g 11) (g 12) w) : bH pg bE (aE 1 (bI (bI (aB 1 (bI (aE 1 (aB 1 (bI (bI (aB 1 (aE 1 (aB 1 (aB 1 (aB 1 (aB 1 (aB 5 aZ)))))))))))))))) Q g w :=
 dP (kr := no) (l := [(6, fun g w => k6 (g 1) (g 2) (g 5) (g 6) (g 8) (g 10) (g 11) w)]) h hn eU ⟨h6, trivial⟩
def Co (kn : K8) (k6 : K7) (bO b2 fC b6 b8 eI kU tC : aLm) (w : aLl) : Prop :=
 It (fun bO b2 fC b6 b8 eI kU tC w => Jj kn bO b2 fC b6 b8 eI kU tC w) k6 bO b2 fC b6 b8 eI kU tC w
def HM (k6 : K7) (bO b2 fC b6 b8 eI kU tC : aLm) (w : aLl) : Prop :=
 cC (fun (X : (aLm × aLm) -> K0) (t : aLm × aLm) (w : aLl) => Co (fun _ _ _ _ _ eI _ tC w => X (eI, tC) w) k6 bO b2 fC b6 b8 t.1 kU t.2 w) (eI, tC) w
theorem XJ (kn : K8) (k6 : K7) (hn : N8 Q kn 1 2 5 6 8 10 11 12) (h6 : E7 Q k6 6 1 2 5 6 8 10 11) (h : Co kn k6 (g 1) (g 2) (g 5) (g 6) (g 8) (g 10) (g 11) (g 12) w) : bH pg bE (bI (bI (aB 1 (bI (aE 1 (aB 1 (bI (bI (aB 1 (aE 1 (aB 1 (aB 1 (aB 1 (aB 1 (aB 5 aZ))))))))))))))) Q g w :=
 gC 1 (X4 _ g w (Jj kn) k6 (fun g w h => aJ (gC 1 (XY _ g w (BX kn) (fun g w h => aJ (Yo _ g w kn hn h)) h))) h6 h)
theorem YN (k6 : K7) (h6 : E7 Q k6 6 1 2 5 6 8 10 11) (h : HM k6 (g 1) (g 2) (g 5) (g 6) (g 8) (g 10) (g 11) (g 12) w) : bH pg bE (bI (aB 1 (bI (aE 1 (aB 1 (bI (bI (aB 1 (aE 1 (aB 1 (aB 1 (aB 1 (aB 1 (aB 5 aZ)))))))))))))) Q g w := by
 refine Cy (fun g : Env => (g 10, g 12)) (fun X t w => Co (fun _ _ _ _ _ eI _ tC w => X (eI, tC) w) k6 (g 1) (g 2) (g 5) (g 6) (g 8) t.1 (g 11) t.2 w) h (fun X g1 w1 ha hL => ?_)
 rw [<- fL 1 ha, <- fL 2 ha, <- fL 5 ha, <- fL 6 ha, <- fL 8 ha, <- fL 11 ha] at hL
 exact (XJ _ g1 w1 (fun _ _ _ _ _ eI _ tC w => X (eI, tC) w) k6 (fun _ _ h => h) h6 hL)
def HZ (kn : K7) (bO b2 fC b6 b8 eI kU tC : aLm) (w : aLl) : Prop :=
 HM kn bO b2 fC b6 b8 eI kU tC w
def Jb (kn : K8) (bO b2 fC b6 b8 eI kU : aLm) (w : aLl) : Prop :=
 kn bO b2 fC b6 b8 eI kU (aLn 0) w
theorem YS (kn : K8) (hn : N8 Q kn 1 2 5 6 8 10 11 12) (h : Jb kn (g 1) (g 2) (g 5) (g 6) (g 8) (g 10) (g 11) w) : bH pg bE (aE 1 (bI (aE 1 (aB 1 (bI (bI (aB 1 (aE 1 (aB 1 (aB 1 (aB 1 (aB 1 (aB 5 aZ))))))))))))) Q g w :=
 dP (kr := no) (l := []) h hn eU trivial
def SM (kn : K7) (bO b2 fC b6 b8 eI kU : aLm) (w : aLl) : Prop :=
 Jb (fun bO b2 fC b6 b8 eI kU tC w => HZ kn bO b2 fC b6 b8 eI kU tC w) bO b2 fC b6 b8 eI kU w
def Jd (kn : K7) (bO b2 fC b6 b8 eI kU : aLm) (w : aLl) : Prop :=
 SM kn bO b2 fC b6 b8 eI kU w
def ID (kn : K7) (bO b2 fC b6 b8 eI kU : aLm) (w : aLl) : Prop :=
 Jd (fun bO b2 fC b6 b8 eI kU w => B6 kn bO b2 fC b6 b8 eI kU w) bO b2 fC b6 b8 eI kU w
theorem Yr (kn : K7) (hn : N7 Q kn 1 2 5 6 8 10 11) (h : Jd kn (g 1) (g 2) (g 5) (g 6) (g 8) (g 10) (g 11) w) : bH pg bE (aE 1 (aB 1 (bI (bI (aB 1 (aE 1 (aB 1 (aB 1 (aB 1 (aB 1 (aB 5 aZ))))))))))) Q g w :=
 wD 5 (gC 1 (YS _ g w (HZ kn) (fun g w h => aJ (wD 6 (YN _ g w kn hn h))) h))
def HS (kn : K7) (k4 : K4) (bO b2 fC b6 b8 eI kU : aLm) (w : aLl) : Prop :=
 aC pg (aL 130 bO 1) w fun j6 w =>
 aC pg (aI 77 j6) w fun j7 w =>
 aC pg (lF .len #[77] 3 [j7]) w fun j8 w =>
 aC pg (aH .lss 3 aM aM kU j8) w fun j9 w =>
 fE j9
  (kn bO b2 fC b6 b8 eI kU w)
  (k4 bO b2 fC b6 w)
theorem Xq (kn : K7) (k4 : K4) (hn : N7 Q kn 1 2 5 6 8 10 11) (h4 : E4 Q k4 4 1 2 5 6) (h : HS kn k4 (g 1) (g 2) (g 5) (g 6) (g 8) (g 10) (g 11) w) : bH pg bE (aE 1 (bI (bI (aB 1 (aE 1 (aB 1 (aB 1 (aB 1 (aB 1 (aB 5 aZ)))))))))) Q g w :=
 dP (kr := no) (l := [(4, fun g w => k4 (g 1) (g 2) (g 5) (g 6) w)]) h hn eU ⟨h4, trivial⟩
def Cb (kn : K7) (k4 : K4) (bO b2 fC b6 b8 eI kU : aLm) (w : aLl) : Prop :=
 HS (fun bO b2 fC b6 b8 eI kU w => ID kn bO b2 fC b6 b8 eI kU w) k4 bO b2 fC b6 b8 eI kU w
def B0 (k4 : K4) (bO b2 fC b6 b8 eI kU : aLm) (w : aLl) : Prop :=
 cC (fun (X : (aLm × aLm) -> K0) (t : aLm × aLm) (w : aLl) => Cb (fun _ _ _ _ _ eI kU w => X (eI, kU) w) k4 bO b2 fC b6 b8 t.1 t.2 w) (eI, kU) w
theorem Ya (kn : K7) (k4 : K4) (hn : N7 Q kn 1 2 5 6 8 10 11) (h4 : E4 Q k4 4 1 2 5 6) (h : Cb kn k4 (g 1) (g 2) (g 5) (g 6) (g 8) (g 10) (g 11) w) : bH pg bE (bI (bI (aB 1 (aE 1 (aB 1 (aB 1 (aB 1 (aB 1 (aB 5 aZ))))))))) Q g w :=
 gC 1 (Xq _ g w (ID kn) k4 (fun g w h => aJ (gC 1 (Yr _ g w (B6 kn) (fun g w h => aJ (Xv _ g w kn hn h)) h))) h4 h)
theorem Yh (k4 : K4) (h4 : E4 Q k4 4 1 2 5 6) (h : B0 k4 (g 1) (g 2) (g 5) (g 6) (g 8) (g 10) (g 11) w) : bH pg bE (bI (aB 1 (aE 1 (aB 1 (aB 1 (aB 1 (aB 1 (aB 5 aZ)))))))) Q g w := by
 refine Cy (fun g : Env => (g 10, g 11)) (fun X t w => Cb (fun _ _ _ _ _ eI kU w => X (eI, kU) w) k4 (g 1) (g 2) (g 5) (g 6) (g 8) t.1 t.2 w) h (fun X g1 w1 ha hL => ?_)
 rw [<- fL 1 ha, <- fL 2 ha, <- fL 5 ha, <- fL 6 ha, <- fL 8 ha] at hL
 exact (Ya _ g1 w1 (fun _ _ _ _ _ eI kU w => X (eI, kU) w) k4 (fun _ _ h => h) h4 hL)
def I1 (kn : K4) (bO b2 fC b6 b8 eI kU : aLm) (w : aLl) : Prop :=
 B0 kn bO b2 fC b6 b8 eI kU w
def I6 (kn : K7) (bO b2 fC b6 b8 eI : aLm) (w : aLl) : Prop :=
 kn bO b2 fC b6 b8 eI (aLn 0) w
theorem XC (kn : K7) (hn : N7 Q kn 1 2 5 6 8 10 11) (h : I6 kn (g 1) (g 2) (g 5) (g 6) (g 8) (g 10) w) : bH pg bE (aE 1 (aE 1 (aB 1 (aB 1 (aB 1 (aB 1 (aB 5 aZ))))))) Q g w :=
 dP (kr := no) (l := []) h hn eU trivial
def HU (kn : K4) (bO b2 fC b6 b8 eI : aLm) (w : aLl) : Prop :=
 I6 (fun bO b2 fC b6 b8 eI kU w => I1 kn bO b2 fC b6 b8 eI kU w) bO b2 fC b6 b8 eI w
def HW (R : K1) (bO b2 fC b6 b8 eI : aLm) (w : aLl) : Prop :=
 HU (fun bO b2 fC b6 w => B3 R bO b2 fC b6 w) bO b2 fC b6 b8 eI w
theorem Yb (kn : K4) (hn : N4 Q kn 1 2 5 6) (h : HU kn (g 1) (g 2) (g 5) (g 6) (g 8) (g 10) w) : bH pg bE (aE 1 (aB 1 (aB 1 (aB 1 (aB 1 (aB 5 aZ)))))) Q g w :=
 gC 1 (XC _ g w (I1 kn) (fun g w h => aJ (wD 4 (Yh _ g w kn hn h))) h)
def Jg (kn : K6) (bO b2 fC b6 b8 : aLm) (w : aLl) : Prop :=
 kn bO b2 fC b6 b8 (aLn 0) w
theorem YW (kn : K6) (hn : N6 Q kn 1 2 5 6 8 10) (h : Jg kn (g 1) (g 2) (g 5) (g 6) (g 8) w) : bH pg bE (aE 1 (aB 1 (aB 1 (aB 1 (aB 5 aZ))))) Q g w :=
 dP (kr := no) (l := []) h hn eU trivial
def H4 (R : K1) (bO b2 fC b6 b8 : aLm) (w : aLl) : Prop :=
 Jg (fun bO b2 fC b6 b8 eI w => HW R bO b2 fC b6 b8 eI w) bO b2 fC b6 b8 w
def yR (kn : K6) (bO b2 fC b6 b8 xO : aLm) (w : aLl) : Prop :=
 aC pg (aH .add 3 aM aM xO (aLn 1)) w fun i0 w =>
 kn bO b2 fC b6 b8 i0 w
theorem Xw (kn : K6) (hn : N6 Q kn 1 2 5 6 8 9) (h : yR kn (g 1) (g 2) (g 5) (g 6) (g 8) (g 9) w) : bH pg bE (aB 2 (bI (bI (aB 1 (aE 1 (aB 1 (aB 1 (aB 5 aZ)))))))) Q g w :=
 dP (kr := no) (l := []) h hn eU trivial
def HV (kn : K6) (k2 : K5) (bO b2 fC b6 b8 xO : aLm) (w : aLl) : Prop :=
 aC pg (aL 130 bO 1) w fun f5 w =>
 aC pg (aI 77 f5) w fun f6 w =>
 aC pg (lF .len #[77] 3 [f6]) w fun f7 w =>
 aC pg (aH .lss 3 aM aM xO f7) w fun f8 w =>
 fE f8
  (aC pg (aL 130 bO 1) w fun i1 w =>
  aC pg (aI 77 i1) w fun i2 w =>
  aC pg (aY 77 i2 xO) w fun i4 w =>
  aC pg (aI 3 i4) w fun i5 w =>
  aC pg (aH .lss 3 aM aM i5 (aLn 0)) w fun i6 w =>
  fE i6
   (aC pg (aL 35 b6 1) w fun i7 w =>
   aC pg (aI 33 i7) w fun i8 w =>
   aC pg (aY 33 i8 b8) w fun j1 w =>
   aC pg (aL 139 j1 0) w fun j2 w =>
   aC pg (aK 3 j2 xO) w fun _u w =>
   aC pg (aH .sub 3 aM aM b8 (aLn 1)) w fun j4 w =>
   kn bO b2 fC b6 j4 xO w)
   (kn bO b2 fC b6 b8 xO w))
  (k2 bO b2 fC b6 b8 w)
theorem YF (kn : K6) (k2 : K5) (hn : N6 Q kn 1 2 5 6 8 9) (h2 : E5 Q k2 2 1 2 5 6 8) (h : HV kn k2 (g 1) (g 2) (g 5) (g 6) (g 8) (g 9) w) : bH pg bE (aE 2 (bI (bI (aB 1 (aE 1 (aB 1 (aB 1 (aB 5 aZ)))))))) Q g w :=
 dP (kr := no) (l := [(2, fun g w => k2 (g 1) (g 2) (g 5) (g 6) (g 8) w)]) h hn eU ⟨h2, trivial⟩
def Cq (kn : K6) (k2 : K5) (bO b2 fC b6 b8 xO : aLm) (w : aLl) : Prop :=
 HV (fun bO b2 fC b6 b8 xO w => yR kn bO b2 fC b6 b8 xO w) k2 bO b2 fC b6 b8 xO w
def Ck (k2 : K5) (bO b2 fC b6 b8 xO : aLm) (w : aLl) : Prop :=
 cC (fun (X : (aLm × aLm) -> K0) (t : aLm × aLm) (w : aLl) => Cq (fun _ _ _ _ b8 xO w => X (b8, xO) w) k2 bO b2 fC b6 t.1 t.2 w) (b8, xO) w
theorem YM (kn : K6) (k2 : K5) (hn : N6 Q kn 1 2 5 6 8 9) (h2 : E5 Q k2 2 1 2 5 6 8) (h : Cq kn k2 (g 1) (g 2) (g 5) (g 6) (g 8) (g 9) w) : bH pg bE (bI (bI (aB 1 (aE 1 (aB 1 (aB 1 (aB 5 aZ))))))) Q g w :=
 gC 2 (YF _ g w (yR kn) k2 (fun g w h => aJ (Xw _ g w kn hn h)) h2 h)
theorem Yq (k2 : K5) (h2 : E5 Q k2 2 1 2 5 6 8) (h : Ck k2 (g 1) (g 2) (g 5) (g 6) (g 8) (g 9) w) : bH pg bE (bI (aB 1 (aE 1 (aB 1 (aB 1 (aB 5 aZ)))))) Q g w := by
 refine Cy (fun g : Env => (g 8, g 9)) (fun X t w => Cq (fun _ _ _ _ b8 xO w => X (b8, xO) w) k2 (g 1) (g 2) (g 5) (g 6) t.1 t.2 w) h (fun X g1 w1 ha hL => ?_)
 rw [<- fL 1 ha, <- fL 2 ha, <- fL 5 ha, <- fL 6 ha] at hL
 exact (YM _ g1 w1 (fun _ _ _ _ b8 xO w => X (b8, xO) w) k2 (fun _ _ h => h) h2 hL)
def Ie (kn : K5) (bO b2 fC b6 b8 xO : aLm) (w : aLl) : Prop :=
 Ck kn bO b2 fC b6 b8 xO w
def II (kn : K6) (bO b2 fC b6 b8 : aLm) (w : aLl) : Prop :=
 kn bO b2 fC b6 b8 (aLn 0) w
theorem X1 (kn : K6) (hn : N6 Q kn 1 2 5 6 8 9) (h : II kn (g 1) (g 2) (g 5) (g 6) (g 8) w) : bH pg bE (aE 1 (aE 1 (aB 1 (aB 1 (aB 5 aZ))))) Q g w :=
 dP (kr := no) (l := []) h hn eU trivial
def Jk (kn : K5) (bO b2 fC b6 b8 : aLm) (w : aLl) : Prop :=
 II (fun bO b2 fC b6 b8 xO w => Ie kn bO b2 fC b6 b8 xO w) bO b2 fC b6 b8 w
def I2 (R : K1) (bO b2 fC b6 b8 : aLm) (w : aLl) : Prop :=
 Jk (fun bO b2 fC b6 b8 w => H4 R bO b2 fC b6 b8 w) bO b2 fC b6 b8 w
theorem YY (kn : K5) (hn : N5 Q kn 1 2 5 6 8) (h : Jk kn (g 1) (g 2) (g 5) (g 6) (g 8) w) : bH pg bE (aE 1 (aB 1 (aB 1 (aB 5 aZ)))) Q g w :=
 gC 1 (X1 _ g w (Ie kn) (fun g w h => aJ (wD 2 (Yq _ g w kn hn h))) h)
def H2 (kn : K5) (bO b2 fC b6 : aLm) (w : aLl) : Prop :=
 aC pg (aH .sub 3 aM aM fC (aLn 1)) w fun f3 w =>
 kn bO b2 fC b6 f3 w
theorem XN (kn : K5) (hn : N5 Q kn 1 2 5 6 8) (h : H2 kn (g 1) (g 2) (g 5) (g 6) w) : bH pg bE (aE 1 (aB 1 (aB 5 aZ))) Q g w :=
 dP (kr := no) (l := []) h hn eU trivial
def H9 (R : K1) (bO b2 fC b6 : aLm) (w : aLl) : Prop :=
 H2 (fun bO b2 fC b6 b8 w => I2 R bO b2 fC b6 b8 w) bO b2 fC b6 w
def Cf (kn : K5) (k0 : K4) (bO b2 fC b6 i_7 : aLm) (w : aLl) : Prop :=
 aC pg (aH .lss 3 aM aM i_7 fC) w fun e3 w =>
 fE e3
  (aC pg (aL 35 b6 1) w fun e6 w =>
  aC pg (aI 33 e6) w fun e7 w =>
  aC pg (bX 139 [(0, (aLn (-1)))]) w fun e8 w =>
  aC pg (cD 33 1 [(0, e8)]) w fun e9 w =>
  aC pg (lF .append #[33, 33] 33 [e7, e9]) w fun f0 w =>
  aC pg (aL 35 b6 1) w fun f1 w =>
  aC pg (aK 33 f1 f0) w fun _u w =>
  aC pg (aH .add 3 aM aM i_7 (aLn 1)) w fun e5 w =>
  kn bO b2 fC b6 e5 w)
  (k0 bO b2 fC b6 w)
theorem XV (kn : K5) (k0 : K4) (hn : N5 Q kn 1 2 5 6 7) (h0 : E4 Q k0 0 1 2 5 6) (h : Cf kn k0 (g 1) (g 2) (g 5) (g 6) (g 7) w) : bH pg bE (bI (bI (aB 1 (aE 1 (aB 5 aZ))))) Q g w :=
 dP (kr := no) (l := [(0, fun g w => k0 (g 1) (g 2) (g 5) (g 6) w)]) h hn eU ⟨h0, trivial⟩
def Ce (k0 : K4) (bO b2 fC b6 i_7 : aLm) (w : aLl) : Prop :=
 cC (fun (X : aLm -> K0) (t : aLm) (w : aLl) => Cf (fun _ _ _ _ i_7 w => X i_7 w) k0 bO b2 fC b6 t w) i_7 w
theorem Y9 (k0 : K4) (h0 : E4 Q k0 0 1 2 5 6) (h : Ce k0 (g 1) (g 2) (g 5) (g 6) (g 7) w) : bH pg bE (bI (aB 1 (aE 1 (aB 5 aZ)))) Q g w := by
 refine Cy (fun g : Env => g 7) (fun X t w => Cf (fun _ _ _ _ i_7 w => X i_7 w) k0 (g 1) (g 2) (g 5) (g 6) t w) h (fun X g1 w1 ha hL => ?_)
 rw [<- fL 1 ha, <- fL 2 ha, <- fL 5 ha, <- fL 6 ha] at hL
 exact (XV _ g1 w1 (fun _ _ _ _ i_7 w => X i_7 w) k0 (fun _ _ h => h) h0 hL)
def Ix (kn : K4) (bO b2 fC b6 i_7 : aLm) (w : aLl) : Prop :=
 Ce kn bO b2 fC b6 i_7 w
def IK (kn : K5) (bO b2 fC b6 : aLm) (w : aLl) : Prop :=
 kn bO b2 fC b6 (aLn 0) w
theorem XS (kn : K5) (hn : N5 Q kn 1 2 5 6 7) (h : IK kn (g 1) (g 2) (g 5) (g 6) w) : bH pg bE (aE 1 (aE 1 (aB 5 aZ))) Q g w :=
 dP (kr := no) (l := []) h hn eU trivial
def Ji (kn : K4) (bO b2 fC b6 : aLm) (w : aLl) : Prop :=
 IK (fun bO b2 fC b6 i_7 w => Ix kn bO b2 fC b6 i_7 w) bO b2 fC b6 w
def Iy (R : K1) (bO b2 fC b6 : aLm) (w : aLl) : Prop :=
 Ji (fun bO b2 fC b6 w => H9 R bO b2 fC b6 w) bO b2 fC b6 w
theorem Yl (kn : K4) (hn : N4 Q kn 1 2 5 6) (h : Ji kn (g 1) (g 2) (g 5) (g 6) w) : bH pg bE (aE 1 (aB 5 aZ)) Q g w :=
 gC 1 (XS _ g w (Ix kn) (fun g w h => aJ (wD 0 (Y9 _ g w kn hn h))) h)
def HY (kn : K4) (R : K1) (c_0 : aLm) (w : aLl) : Prop :=
 aC pg (sU 130 c_0) w fun bO w =>
 aC pg (bV 35) w fun b2 w =>
 aC pg (aI 130 bO) w fun d0 w =>
 aR pg Hf #[d0, (aLn 15)] w fun d1 w =>
 aC pg (aH .neq 30 (.tmp 22) (.const (aLn 0)) d1 (aLn 0)) w fun d3 w =>
 fE d3
  (aC pg (bX 35 []) w fun d4 w =>
  aC pg (aK 35 b2 d4) w fun _u w =>
  mW pg 35 b2 w fun r0 => R (.tuple #[r0, (aLn 1)]) w)
  (aC pg (aL 130 bO 0) w fun d5 w =>
  aC pg (aI 3 d5) w fun d6 w =>
  aR pg qG #[d6] w fun d7 w =>
  aC pg (aL 130 bO 0) w fun d8 w =>
  aC pg (aI 3 d8) w fun d9 w =>
  aC pg (bX 35 [(0, d9)]) w fun e0 w =>
  aC pg (bV 35) w fun b6 w =>
  aC pg (aK 35 b6 e0) w fun _u w =>
  kn bO b2 d7 b6 w)
theorem YO (kn : K4) (R : K1) (hn : N4 Q kn 1 2 5 6) (hr : HR pG R Q) (h : HY kn R (g 0) w) : bH pg bE (aE 5 aZ) Q g w :=
 dP (l := []) h hn hr trivial
def HK (R : K1) (c_0 : aLm) (w : aLl) : Prop :=
 HY (fun bO b2 fC b6 w => Iy R bO b2 fC b6 w) R c_0 w
theorem Yi (R : K1) (hr : HR pG R Q) (h : HK R (g 0) w) : bH pg bE aZ Q g w :=
 gC 5 (YO _ g w (Iy R) R (fun g w h => aJ (gC 1 (Yl _ g w (H9 R) (fun g w h => aJ (gC 1 (XN _ g w (I2 R) (fun g w h => aJ (gC 1 (YY _ g w (H4 R) (fun g w h => aJ (gC 1 (YW _ g w (HW R) (fun g w h => aJ (gC 1 (Yb _ g w (B3 R) (fun g w h => aJ (gC 1 (YU _ g w (HQ R) (fun g w h => aJ (gC 1 (X5 _ g w (D0 R) R (fun g w h => aJ (Z0 _ g w R hr h)) hr h))) h))) h))) h))) h))) h))) h))) hr h)
def akD (a0 : aLm) (w : aLl) (R : K1) : Prop :=
 HK R a0 w
theorem ajN {a0 : aLm} {w : aLl} {R : K1} (h : akD a0 w R) : aR pg BL #[a0] w R := by
 refine tD (ann := bE) Tryd.f59 aZ [a0] pG 185 TrydM.mixed Tryd.func59 ?_
 exact (Yi _ _ _ R (fun _ _ h => h) h)
def jM : FA := ⟨Eh, fun i => .leaf ([], []) []⟩
def O6 : List ResultVar := [.tmp 2]
noncomputable def iW : Code := cX Tryd.f60
def GU (R : K1) (bL : aLm) (w : aLl) : Prop :=
 R bL w
theorem aiM (R : K1) (hr : HR O6 R Q) (h : GU R (g 3) w) : bH pg jM (aB 1 (aB 2 iW)) Q g w :=
 dP (kn := no) (l := []) h eU hr trivial
def GG (kn : K3) (Ag bL iV : aLm) (w : aLl) : Prop :=
 aC pg (aH .add 3 aM aM iV (aLn 1)) w fun c2 w =>
 kn Ag bL c2 w
theorem agB (kn : K3) (hn : N3 Q kn 0 3 4) (h : GG kn (g 0) (g 3) (g 4) w) : bH pg jM (aB 1 (aB 1 (bI (bI (aB 1 (aE 1 (aB 2 iW))))))) Q g w :=
 dP (kr := no) (l := []) h hn eU trivial
def GH (kn : K5) (k2 : K3) (Ag bL iV c_5 Hp : aLm) (w : aLl) : Prop :=
 aC pg (aH .lss 3 aM aM Hp (aLn 8)) w fun c7 w =>
 fE c7
  (aC pg (aH .rem 5 aM aM c_5 (.int .u8 2)) w fun d2 w =>
  aC pg (aH .eql 5 (.tmp 22) (.const (.int .u8 1)) d2 (.int .u8 1)) w fun d3 w =>
  aC pg (cD 80 1 [(0, d3)]) w fun d4 w =>
  aC pg (lF .append #[80, 80] 80 [bL, d4]) w fun d5 w =>
  aC pg (aH .quo 5 aM aM c_5 (.int .u8 2)) w fun d7 w =>
  aC pg (aH .add 3 aM aM Hp (aLn 1)) w fun c9 w =>
  kn Ag d5 iV d7 c9 w)
  (k2 Ag bL iV w)
theorem ajV (kn : K5) (k2 : K3) (hn : N5 Q kn 0 3 4 5 6) (h2 : E3 Q k2 2 0 3 4) (h : GH kn k2 (g 0) (g 3) (g 4) (g 5) (g 6) w) : bH pg jM (bI (bI (aB 2 (bI (aE 1 (aB 1 (bI (bI (aB 1 (aE 1 (aB 2 iW))))))))))) Q g w :=
 dP (kr := no) (l := [(2, fun g w => k2 (g 0) (g 3) (g 4) w)]) h hn eU ⟨h2, trivial⟩
def OJ (k2 : K3) (Ag bL iV c_5 Hp : aLm) (w : aLl) : Prop :=
 cC (fun (X : (aLm × aLm × aLm) -> K0) (t : aLm × aLm × aLm) (w : aLl) => GH (fun _ bL _ c_5 Hp w => X (bL, c_5, Hp) w) k2 Ag t.1 iV t.2.1 t.2.2 w) (bL, c_5, Hp) w
theorem aiX (k2 : K3) (h2 : E3 Q k2 2 0 3 4) (h : OJ k2 (g 0) (g 3) (g 4) (g 5) (g 6) w) : bH pg jM (bI (aB 2 (bI (aE 1 (aB 1 (bI (bI (aB 1 (aE 1 (aB 2 iW)))))))))) Q g w := by
 refine Cy (fun g : Env => (g 3, g 5, g 6)) (fun X t w => GH (fun _ bL _ c_5 Hp w => X (bL, c_5, Hp) w) k2 (g 0) t.1 (g 4) t.2.1 t.2.2 w) h (fun X g1 w1 ha hL => ?_)
 rw [<- fL 0 ha, <- fL 4 ha] at hL
 exact (ajV _ g1 w1 (fun _ bL _ c_5 Hp w => X (bL, c_5, Hp) w) k2 (fun _ _ h => h) h2 hL)
def Pr (kn : K3) (Ag bL iV c_5 Hp : aLm) (w : aLl) : Prop :=
 OJ kn Ag bL iV c_5 Hp w
def OF (kn : K5) (Ag bL iV : aLm) (w : aLl) : Prop :=
 aC pg (IM 9 Ag iV) w fun c5 w =>
 kn Ag bL iV c5 (aLn 0) w
theorem aiD (kn : K5) (hn : N5 Q kn 0 3 4 5 6) (h : OF kn (g 0) (g 3) (g 4) w) : bH pg jM (aE 2 (bI (aE 1 (aB 1 (bI (bI (aB 1 (aE 1 (aB 2 iW))))))))) Q g w :=
 dP (kr := no) (l := []) h hn eU trivial
def WU (kn : K3) (Ag bL iV : aLm) (w : aLl) : Prop :=
 OF (fun Ag bL iV c_5 Hp w => Pr kn Ag bL iV c_5 Hp w) Ag bL iV w
def Oy (kn : K3) (Ag bL iV : aLm) (w : aLl) : Prop :=
 WU kn Ag bL iV w
def NO (kn : K3) (Ag bL iV : aLm) (w : aLl) : Prop :=
 Oy (fun Ag bL iV w => GG kn Ag bL iV w) Ag bL iV w
theorem aiH (kn : K3) (hn : N3 Q kn 0 3 4) (h : Oy kn (g 0) (g 3) (g 4) w) : bH pg jM (aE 1 (aB 1 (bI (bI (aB 1 (aE 1 (aB 2 iW))))))) Q g w :=
 wD 1 (gC 2 (aiD _ g w (Pr kn) (fun g w h => aJ (wD 2 (aiX _ g w kn hn h))) h))
def Kt (kn : K3) (k0 : K1) (Ag bL iV : aLm) (w : aLl) : Prop :=
 aC pg (lF .len #[9] 3 [Ag]) w fun b9 w =>
 aC pg (aH .lss 3 aM aM iV b9) w fun c0 w =>
 fE c0
  (kn Ag bL iV w)
  (k0 bL w)
theorem abH (kn : K3) (k0 : K1) (hn : N3 Q kn 0 3 4) (h0 : E1 Q k0 0 3) (h : Kt kn k0 (g 0) (g 3) (g 4) w) : bH pg jM (aE 1 (bI (bI (aB 1 (aE 1 (aB 2 iW)))))) Q g w :=
 dP (kr := no) (l := [(0, fun g w => k0 (g 3) w)]) h hn eU ⟨h0, trivial⟩
def Ea (kn : K3) (k0 : K1) (Ag bL iV : aLm) (w : aLl) : Prop :=
 Kt (fun Ag bL iV w => NO kn Ag bL iV w) k0 Ag bL iV w
def MP (k0 : K1) (Ag bL iV : aLm) (w : aLl) : Prop :=
 cC (fun (X : (aLm × aLm) -> K0) (t : aLm × aLm) (w : aLl) => Ea (fun _ bL iV w => X (bL, iV) w) k0 Ag t.1 t.2 w) (bL, iV) w
theorem adL (kn : K3) (k0 : K1) (hn : N3 Q kn 0 3 4) (h0 : E1 Q k0 0 3) (h : Ea kn k0 (g 0) (g 3) (g 4) w) : bH pg jM (bI (bI (aB 1 (aE 1 (aB 2 iW))))) Q g w :=
 gC 1 (abH _ g w (NO kn) k0 (fun g w h => aJ (gC 1 (aiH _ g w (GG kn) (fun g w h => aJ (agB _ g w kn hn h)) h))) h0 h)
theorem ZW (k0 : K1) (h0 : E1 Q k0 0 3) (h : MP k0 (g 0) (g 3) (g 4) w) : bH pg jM (bI (aB 1 (aE 1 (aB 2 iW)))) Q g w := by
 refine Cy (fun g : Env => (g 3, g 4)) (fun X t w => Ea (fun _ bL iV w => X (bL, iV) w) k0 (g 0) t.1 t.2 w) h (fun X g1 w1 ha hL => ?_)
 rw [<- fL 0 ha] at hL
 exact (adL _ g1 w1 (fun _ bL iV w => X (bL, iV) w) k0 (fun _ _ h => h) h0 hL)
def Lm (kn : K1) (Ag bL iV : aLm) (w : aLl) : Prop :=
 MP kn Ag bL iV w
def KA (kn : K3) (Ag bL : aLm) (w : aLl) : Prop :=
 kn Ag bL (aLn 0) w
theorem adG (kn : K3) (hn : N3 Q kn 0 3 4) (h : KA kn (g 0) (g 3) w) : bH pg jM (aE 1 (aE 1 (aB 2 iW))) Q g w :=
 dP (kr := no) (l := []) h hn eU trivial
def ML (kn : K1) (Ag bL : aLm) (w : aLl) : Prop :=
 KA (fun Ag bL iV w => Lm kn Ag bL iV w) Ag bL w
def Mn (R : K1) (Ag bL : aLm) (w : aLl) : Prop :=
 ML (fun bL w => GU R bL w) Ag bL w
theorem acP (kn : K1) (hn : N1 Q kn 3) (h : ML kn (g 0) (g 3) w) : bH pg jM (aE 1 (aB 2 iW)) Q g w :=
 gC 1 (adG _ g w (Lm kn) (fun g w h => aJ (wD 0 (ZW _ g w kn hn h))) h)
def LK (kn : K2) (Ag : aLm) (w : aLl) : Prop :=
 kn Ag (.slice none 0 0) w
theorem adA (kn : K2) (hn : N2 Q kn 0 3) (h : LK kn (g 0) w) : bH pg jM (aE 2 iW) Q g w :=
 dP (kr := no) (l := []) h hn eU trivial
def L4 (R : K1) (Ag : aLm) (w : aLl) : Prop :=
 LK (fun Ag bL w => Mn R Ag bL w) Ag w
theorem acJ (R : K1) (hr : HR O6 R Q) (h : L4 R (g 0) w) : bH pg jM iW Q g w :=
 gC 2 (adA _ g w (Mn R) (fun g w h => aJ (gC 1 (acP _ g w (GU R) (fun g w h => aJ (aiM _ g w R hr h)) h))) h)
def apD (a0 : aLm) (w : aLl) (R : K1) : Prop :=
 L4 R a0 w
theorem alU {a0 : aLm} {w : aLl} {R : K1} (h : apD a0 w R) : aR pg Eh #[a0] w R := by
 refine tD (ann := jM) Tryd.f60 iW [a0] O6 29 TrydM.mixed Tryd.func60 ?_
 exact (acJ _ _ _ R (fun _ _ h => h) h)
def pB : FA := ⟨yI, fun i => .leaf ([], []) []⟩
def Gy : List ResultVar := [.cell 4 82, .tmp 5]
noncomputable def nW : Code := cX Tryd.f61
def GP (R : K1) (DB b4 Hp rD : aLm) (w : aLl) : Prop :=
 aC pg (aL 82 DB 0) w fun f6 w =>
 aC pg (aI 80 f6) w fun f7 w =>
 aC pg (aL 82 DB 0) w fun f8 w =>
 aC pg (aI 80 f8) w fun f9 w =>
 aC pg (lF .len #[80] 3 [f9]) w fun i0 w =>
 aC pg (aH .sub 3 aM aM i0 Hp) w fun i2 w =>
 aC pg (gB 80 f7 none (some i2) none) w fun i3 w =>
 aC pg (aL 82 DB 0) w fun i4 w =>
 aC pg (aK 80 i4 i3) w fun _u w =>
 aC pg (aI 82 DB) w fun i5 w =>
 aC pg (aK 82 b4 i5) w fun _u w =>
 mW pg 82 b4 w fun r0 => R (.tuple #[r0, rD]) w
theorem ajA (R : K1) (hr : HR Gy R Q) (h : GP R (g 2) (g 4) (g 6) (g 7) w) : bH pg pB (aB 1 (aB 1 (aB 4 nW))) Q g w :=
 dP (kn := no) (l := []) h eU hr trivial
def GA (kn : K6) (k0 : K4) (sC DB b4 Hp rD i_8 : aLm) (w : aLl) : Prop :=
 aC pg (aH .lss 3 aM aM i_8 sC) w fun e7 w =>
 fE e7
  (aC pg (aH .mul 73 aM aM rD (.int .u64 2)) w fun f1 w =>
  aC pg (aL 82 DB 1) w fun f2 w =>
  aC pg (aI 3 f2) w fun f3 w =>
  aC pg (aH .add 3 aM aM f3 (aLn 1)) w fun f4 w =>
  aC pg (aL 82 DB 1) w fun f5 w =>
  aC pg (aK 3 f5 f4) w fun _u w =>
  aC pg (aH .add 3 aM aM i_8 (aLn 1)) w fun e9 w =>
  kn sC DB b4 Hp f1 e9 w)
  (k0 DB b4 Hp rD w)
theorem afT (kn : K6) (k0 : K4) (hn : N6 Q kn 1 2 4 6 7 8) (h0 : E4 Q k0 0 2 4 6 7) (h : GA kn k0 (g 1) (g 2) (g 4) (g 6) (g 7) (g 8) w) : bH pg pB (bI (bI (aB 1 (aE 1 (aB 1 (aB 4 nW)))))) Q g w :=
 dP (kr := no) (l := [(0, fun g w => k0 (g 2) (g 4) (g 6) (g 7) w)]) h hn eU ⟨h0, trivial⟩
def NV (k0 : K4) (sC DB b4 Hp rD i_8 : aLm) (w : aLl) : Prop :=
 cC (fun (X : (aLm × aLm) -> K0) (t : aLm × aLm) (w : aLl) => GA (fun _ _ _ _ rD i_8 w => X (rD, i_8) w) k0 sC DB b4 Hp t.1 t.2 w) (rD, i_8) w
theorem ajD (k0 : K4) (h0 : E4 Q k0 0 2 4 6 7) (h : NV k0 (g 1) (g 2) (g 4) (g 6) (g 7) (g 8) w) : bH pg pB (bI (aB 1 (aE 1 (aB 1 (aB 4 nW))))) Q g w := by
 refine Cy (fun g : Env => (g 7, g 8)) (fun X t w => GA (fun _ _ _ _ rD i_8 w => X (rD, i_8) w) k0 (g 1) (g 2) (g 4) (g 6) t.1 t.2 w) h (fun X g1 w1 ha hL => ?_)
 rw [<- fL 1 ha, <- fL 2 ha, <- fL 4 ha, <- fL 6 ha] at hL
 exact (afT _ g1 w1 (fun _ _ _ _ rD i_8 w => X (rD, i_8) w) k0 (fun _ _ h => h) h0 hL)
def Ou (kn : K4) (sC DB b4 Hp rD i_8 : aLm) (w : aLl) : Prop :=
 NV kn sC DB b4 Hp rD i_8 w
def OT (kn : K6) (sC DB b4 Hp rD : aLm) (w : aLl) : Prop :=
 kn sC DB b4 Hp rD Hp w
theorem afE (kn : K6) (hn : N6 Q kn 1 2 4 6 7 8) (h : OT kn (g 1) (g 2) (g 4) (g 6) (g 7) w) : bH pg pB (aE 1 (aE 1 (aB 1 (aB 4 nW)))) Q g w :=
 dP (kr := no) (l := []) h hn eU trivial
def OV (kn : K4) (sC DB b4 Hp rD : aLm) (w : aLl) : Prop :=
 OT (fun sC DB b4 Hp rD i_8 w => Ou kn sC DB b4 Hp rD i_8 w) sC DB b4 Hp rD w
def OQ (R : K1) (sC DB b4 Hp rD : aLm) (w : aLl) : Prop :=
 OV (fun DB b4 Hp rD w => GP R DB b4 Hp rD w) sC DB b4 Hp rD w
theorem agF (kn : K4) (hn : N4 Q kn 2 4 6 7) (h : OV kn (g 1) (g 2) (g 4) (g 6) (g 7) w) : bH pg pB (aE 1 (aB 1 (aB 4 nW))) Q g w :=
 gC 1 (afE _ g w (Ou kn) (fun g w h => aJ (wD 0 (ajD _ g w kn hn h))) h)
def OB (kn : K5) (sC DB b4 Hp : aLm) (w : aLl) : Prop :=
 aC pg (aL 82 DB 0) w fun d5 w =>
 aC pg (aI 80 d5) w fun d6 w =>
 aC pg (aL 82 DB 0) w fun d7 w =>
 aC pg (aI 80 d7) w fun d8 w =>
 aC pg (lF .len #[80] 3 [d8]) w fun d9 w =>
 aC pg (aH .sub 3 aM aM d9 Hp) w fun e1 w =>
 aC pg (gB 80 d6 (some e1) none none) w fun e2 w =>
 aR pg Ar #[e2] w fun e3 w =>
 kn sC DB b4 Hp e3 w
theorem ahN (kn : K5) (hn : N5 Q kn 1 2 4 6 7) (h : OB kn (g 1) (g 2) (g 4) (g 6) w) : bH pg pB (aE 1 (aB 4 nW)) Q g w :=
 dP (kr := no) (l := []) h hn eU trivial
def Hd (R : K1) (sC DB b4 Hp : aLm) (w : aLl) : Prop :=
 OB (fun sC DB b4 Hp rD w => OQ R sC DB b4 Hp rD w) sC DB b4 Hp w
def Mf (kn : K4) (R : K1) (EW sC : aLm) (w : aLl) : Prop :=
 aC pg (sU 82 EW) w fun DB w =>
 aC pg (bV 82) w fun b4 w =>
 aC pg (aH .lss 3 aM aM sC (aLn 1)) w fun c0 w =>
 Gd (eZ c0 false) (fun K => K sC w) w fun c2 w =>
 Gd (eZ c0 false) (fun K => aC pg (aH .gtr 3 aM aM c2 (aLn 56)) w K) w fun c3 w =>
 aC pg (fV c0 (.bool true) c3) w fun c4 w =>
 fE c4
  (aC pg (aI 82 DB) w fun c5 w =>
  aC pg (aK 82 b4 c5) w fun _u w =>
  mW pg 82 b4 w fun r0 => R (.tuple #[r0, (.int .u64 0)]) w)
  (aC pg (aL 82 DB 0) w fun c8 w =>
  aC pg (aI 80 c8) w fun c9 w =>
  aC pg (lF .len #[80] 3 [c9]) w fun d0 w =>
  aC pg (aH .gtr 3 aM aM sC d0) w fun d1 w =>
  fE d1
   (aC pg (aL 82 DB 0) w fun d2 w =>
   aC pg (aI 80 d2) w fun d3 w =>
   aC pg (lF .len #[80] 3 [d3]) w fun d4 w =>
   kn sC DB b4 d4 w)
   (kn sC DB b4 sC w))
theorem ZV (kn : K4) (R : K1) (hn : N4 Q kn 1 2 4 6) (hr : HR Gy R Q) (h : Mf kn R (g 0) (g 1) w) : bH pg pB (aE 4 nW) Q g w :=
 dP (l := []) h hn hr trivial
def Lo (R : K1) (EW sC : aLm) (w : aLl) : Prop :=
 Mf (fun sC DB b4 Hp w => Hd R sC DB b4 Hp w) R EW sC w
theorem acA (R : K1) (hr : HR Gy R Q) (h : Lo R (g 0) (g 1) w) : bH pg pB nW Q g w :=
 gC 4 (ZV _ g w (Hd R) R (fun g w h => aJ (gC 1 (ahN _ g w (OQ R) (fun g w h => aJ (gC 1 (agF _ g w (GP R) (fun g w h => aJ (ajA _ g w R hr h)) h))) h))) hr h)
def aqX (a0 a1 : aLm) (w : aLl) (R : K1) : Prop :=
 Lo R a0 a1 w
theorem akX {a0 a1 : aLm} {w : aLl} {R : K1} (h : aqX a0 a1 w R) : aR pg yI #[a0, a1] w R := by
 refine tD (ann := pB) Tryd.f61 nW [a0, a1] Gy 57 TrydM.mixed Tryd.func61 ?_
 exact (acA _ _ _ R (fun _ _ h => h) h)
def Ul : FA := ⟨Ki, fun i => match Nat.beq i 6 with | true => .leaf ([5], [(2, 5), (3, 5)]) [(false, []), (false, []), (false, []), (false, []), (false, []), (true, [1, 2]), (false, []), (false, []), (false, []), (false, []), (false, []), (false, [])] | false => .leaf ([], []) []⟩
def W2 : List ResultVar := [.tmp 4, .tmp 5, .tmp 6]
noncomputable def SP : Code := cX Tryd.f62
def NZ (R : K1) (aQ jR : aLm) (w : aLl) : Prop :=
 aR pg xD #[aQ] w fun b9 w =>
 aC pg (lF .len #[91] 3 [b9]) w fun c1 w =>
 aC pg (aH .eql 3 (.tmp 11) (.const (aLn 0)) c1 (aLn 0)) w fun c2 w =>
 fE c2
  (R (.tuple #[(.int .u32 0), (aLn 0), (aLn 1)]) w)
  (aC pg (aH .lss 3 aM aM jR (aLn 0)) w fun c4 w =>
  Gd (eZ c4 false) (fun K => K jR w) w fun c6 w =>
  Gd (eZ c4 false) (fun K => K b9 w) w fun c7 w =>
  Gd (eZ c4 false) (fun K => aC pg (lF .len #[91] 3 [c7]) w K) w fun c8 w =>
  Gd (eZ c4 false) (fun K => aC pg (aH .geq 3 aM aM c6 c8) w K) w fun c9 w =>
  aC pg (fV c4 (.bool true) c9) w fun d0 w =>
  fE d0
   (R (.tuple #[(.int .u32 0), (aLn 0), (aLn 17)]) w)
   ((dr w) = (dr w) /\
   (dr w) = (dr w) /\
   aC pg (aY 91 b9 jR) (dr w) fun d3 w_ => w_ = (dr w) /\
   aC pg (aI 43 d3) (dr w) fun d4 w_ => w_ = (dr w) /\
   (dr w) = (dr w) /\
   aR pg Ep #[aQ] (dr w) fun d6 Y8 =>
   (dS pg (aI 43 d3) d4 Y8 /\ dS pg (aY 91 b9 jR) d3 Y8 /\ True) /\
   Y8 = Y8 /\
   aC pg (aY 77 d6 jR) Y8 fun d8 w_ => w_ = Y8 /\
   aC pg (aI 3 d8) Y8 fun d9 w_ => w_ = Y8 /\
   Y8 = Y8 /\
   Y8 = Y8 /\
   Y8 = Y8 /\
   R (.tuple #[d4, d9, (aLn 0)]) Y8))
theorem agT (R : K1) (hr : HR W2 R Q) (h : NZ R (g 0) (g 1) w) : bH pg Ul SP Q g w :=
 dP (kn := no) (l := []) h eU hr trivial
def aqW (a0 a1 : aLm) (w : aLl) (R : K1) : Prop :=
 NZ R a0 a1 w
theorem alW {a0 a1 : aLm} {w : aLl} {R : K1} (h : aqW a0 a1 w R) : aR pg Ki #[a0, a1] w R := by
 refine tD (ann := Ul) Tryd.f62 SP [a0, a1] W2 30 TrydM.mixed Tryd.func62 ?_
 exact (agT _ _ _ R (fun _ _ h => h) h)
def HG : FA := ⟨tN, fun i => .leaf ([], []) []⟩
def Jr : List ResultVar := [.cell 2 142]
noncomputable def Fj : Code := cX Tryd.f63
def Bq (R : K1) (Ag : aLm) (w : aLl) : Prop :=
 aC pg (sU 47 Ag) w fun s_1 w =>
 aC pg (bV 142) w fun b2 w =>
 aC pg (aL 47 s_1 0) w fun b3 w =>
 aC pg (aI 43 b3) w fun b4 w =>
 aC pg (aL 47 s_1 2) w fun b5 w =>
 aC pg (aI 43 b5) w fun b6 w =>
 aC pg (aL 47 s_1 1) w fun b7 w =>
 aC pg (aI 43 b7) w fun b8 w =>
 aC pg (bX 142 [(0, b4), (1, b6), (2, b8)]) w fun b9 w =>
 aC pg (aK 142 b2 b9) w fun _u w =>
 mW pg 142 b2 w fun r0 => R r0 w
theorem R5 (R : K1) (hr : HR Jr R Q) (h : Bq R (g 0) w) : bH pg HG Fj Q g w :=
 dP (kn := no) (l := []) h eU hr trivial
def P3 (a0 : aLm) (w : aLl) (R : K1) : Prop :=
 Bq R a0 w
theorem TD {a0 : aLm} {w : aLl} {R : K1} (h : P3 a0 w R) : aR pg tN #[a0] w R := by
 refine tD (ann := HG) Tryd.f63 Fj [a0] Jr 10 TrydM.mixed Tryd.func63 ?_
 exact (R5 _ _ _ R (fun _ _ h => h) h)
def uJ : FA := ⟨Rq, fun i => match Nat.beq i 8 with | true => .leaf ([], []) [(false, []), (false, []), (false, []), (false, []), (false, []), (false, []), (false, []), (false, [])] | false => .leaf ([], []) []⟩
def Az : List ResultVar := [.tmp 4, .tmp 5, .tmp 6]
noncomputable def sH : Code := cX Tryd.f64
def Nc (R : K1)  (w : aLl) : Prop :=
 R (.tuple #[(aLn 0), (.int .u32 0), (aLn 17)]) w
theorem aoJ (R : K1) (hr : HR Az R Q) (h : Nc R w) : bH pg uJ (aB 1 (aB 6 sH)) Q g w :=
 dP (kn := no) (l := []) h eU hr trivial
def M9 (kn : K5) (k1 : K0) (R : K1) (eC rO i8 i9 j0 : aLm) (w : aLl) : Prop :=
 aC pg (aH .lss 3 aM aM j0 i9) w fun j1 w =>
 fE j1
  (aC pg (aY 77 i8 j0) w fun j3 w =>
  aC pg (aI 3 j3) w fun j4 w =>
  aC pg (aH .shl 43 aM aM (.int .u32 1) j4) w fun j7 w =>
  aC pg (aH .lss 43 aM aM eC j7) w fun j8 w =>
  fE j8
   (aC pg (aH .add 3 aM aM rO j0) w fun l1 w =>
   R (.tuple #[l1, eC, (aLn 0)]) w)
   (aC pg (aH .shl 43 aM aM (.int .u32 1) j4) w fun l5 w =>
   aC pg (aH .sub 43 aM aM eC l5) w fun l6 w =>
   aC pg (aH .add 3 aM aM j0 (aLn 1)) w fun l7 w =>
   kn l6 rO i8 i9 l7 w))
  (k1 w)
theorem arI (kn : K5) (k1 : K0) (R : K1) (hn : N5 Q kn 1 7 58 59 60) (h1 : E0 Q k1 1) (hr : HR Az R Q) (h : M9 kn k1 R (g 1) (g 7) (g 58) (g 59) (g 60) w) : bH pg uJ (bI (bI (aB 1 (aE 1 (aB 6 sH))))) Q g w :=
 dP (l := [(1, fun g w => k1 w)]) h hn hr ⟨h1, trivial⟩
def U6 (k1 : K0) (R : K1) (eC rO i8 i9 j0 : aLm) (w : aLl) : Prop :=
 cC (fun (X : (aLm × aLm) -> K0) (t : aLm × aLm) (w : aLl) => M9 (fun eC _ _ _ j0 w => X (eC, j0) w) k1 R t.1 rO i8 i9 t.2 w) (eC, j0) w
theorem apO (k1 : K0) (R : K1) (h1 : E0 Q k1 1) (hr : HR Az R Q) (h : U6 k1 R (g 1) (g 7) (g 58) (g 59) (g 60) w) : bH pg uJ (bI (aB 1 (aE 1 (aB 6 sH)))) Q g w := by
 refine Cy (fun g : Env => (g 1, g 60)) (fun X t w => M9 (fun eC _ _ _ j0 w => X (eC, j0) w) k1 R t.1 (g 7) (g 58) (g 59) t.2 w) h (fun X g1 w1 ha hL => ?_)
 rw [<- fL 7 ha, <- fL 58 ha, <- fL 59 ha] at hL
 exact (arI _ g1 w1 (fun eC _ _ _ j0 w => X (eC, j0) w) k1 R (fun _ _ h => h) h1 hr hL)
def Vd (kn : K0) (R : K1) (eC rO i8 i9 j0 : aLm) (w : aLl) : Prop :=
 U6 kn R eC rO i8 i9 j0 w
def Un (kn : K5) (eC rO Py : aLm) (w : aLl) : Prop :=
 aC pg (lF .len #[77] 3 [Py]) w fun i9 w =>
 kn eC rO Py i9 (aLn 0) w
theorem aqF (kn : K5) (hn : N5 Q kn 1 7 58 59 60) (h : Un kn (g 1) (g 7) (g 9) w) : bH pg uJ (aE 1 (aE 1 (aB 6 sH))) Q g w :=
 dP (kr := no) (l := []) h hn eU trivial
def UL (kn : K0) (R : K1) (eC rO Py : aLm) (w : aLl) : Prop :=
 Un (fun eC rO i8 i9 j0 w => Vd kn R eC rO i8 i9 j0 w) eC rO Py w
def T2 (R : K1) (eC rO Py : aLm) (w : aLl) : Prop :=
 UL (fun  w => Nc R w) R eC rO Py w
theorem asM (kn : K0) (R : K1) (hn : N0 Q kn) (hr : HR Az R Q) (h : UL kn R (g 1) (g 7) (g 9) w) : bH pg uJ (aE 1 (aB 6 sH)) Q g w :=
 gC 1 (aqF _ g w (Vd kn R) (fun g w h => aJ (wD 1 (apO _ g w kn R hn hr h))) h)
def Uz (kn : K3) (R : K1) (aQ eC : aLm) (w : aLl) : Prop :=
 aR pg Dl #[aQ] w fun c5 w =>
 aC pg (bD c5 0) w fun c6 w =>
 aC pg (bD c5 1) w fun c7 w =>
 aC pg (bD c5 2) w fun c8 w =>
 aR pg yK #[aQ] w fun d1 w =>
 aC pg (aH .lss 3 aM aM d1 (aLn 0)) w fun d2 w =>
 fE d2
  (R (.tuple #[(aLn 0), (.int .u32 0), (aLn 1)]) w)
  (aC pg (aH .eql 3 (.tmp 24) (.const (aLn 1)) aQ (aLn 1)) w fun d5 w =>
  Gd (eZ d5 true) (fun K => K eC w) w fun d7 w =>
  Gd (eZ d5 true) (fun K => aC pg (aH .eql 43 (.tmp 27) (.const (.int .u32 0)) d7 (.int .u32 0)) w K) w fun d8 w =>
  aC pg (fV d5 d8 (.bool false)) w fun d9 w =>
  fE d9
   (R (.tuple #[(aLn 0), (.int .u32 0), (aLn 17)]) w)
   (aC pg (aH .eql 3 (.tmp 31) (.const (aLn 1)) aQ (aLn 1)) w fun e2 w =>
   fE e2
    (aR pg uV #[eC] w fun e4 w =>
    aC pg (aH .sub 3 aM aM e4 (aLn 1)) w fun e5 w =>
    (dr w) = (dr w) /\
    (dr w) = (dr w) /\
    (dr w) = (dr w) /\
    aC pg (aH .shl 43 aM aM (.int .u32 1) e5) (dr w) fun e9 w_ => w_ = (dr w) /\
    aC pg (aH .sub 43 aM aM eC e9) (dr w) fun f0 w_ => w_ = (dr w) /\
    (dr w) = (dr w) /\
    (dr w) = (dr w) /\
    (dr w) = (dr w) /\
    R (.tuple #[e5, f0, (aLn 0)]) (dr w))
    (aC pg (aH .lss 43 aM aM eC c7) w fun f4 w =>
    fE f4
     (R (.tuple #[(aLn 0), (.int .u32 0), (aLn 17)]) w)
     (aC pg (aH .sub 43 aM aM eC c7) w fun f7 w =>
     aC pg (gF 3 43 c6) w fun i0 w =>
     aC pg (aH .lss 43 aM aM f7 i0) w fun i1 w =>
     fE i1
      (aC pg (gF 43 3 f7) w fun i3 w =>
      R (.tuple #[i3, (.int .u32 0), (aLn 0)]) w)
      (aC pg (gF 3 43 c6) w fun i6 w =>
      aC pg (aH .sub 43 aM aM f7 i6) w fun i7 w =>
      kn i7 c6 c8 w)))))
theorem asG (kn : K3) (R : K1) (hn : N3 Q kn 1 7 9) (hr : HR Az R Q) (h : Uz kn R (g 0) (g 1) w) : bH pg uJ (aE 6 sH) Q g w :=
 dP (l := []) h hn hr trivial
def U0 (R : K1) (aQ eC : aLm) (w : aLl) : Prop :=
 Uz (fun eC rO Py w => T2 R eC rO Py w) R aQ eC w
theorem aqV (R : K1) (hr : HR Az R Q) (h : U0 R (g 0) (g 1) w) : bH pg uJ sH Q g w :=
 gC 6 (asG _ g w (T2 R) R (fun g w h => aJ (gC 1 (asM _ g w (fun  w => Nc R w) R (fun g w h => aJ (aoJ _ g w R hr h)) hr h))) hr h)
def ayD (a0 a1 : aLm) (w : aLl) (R : K1) : Prop :=
 U0 R a0 a1 w
theorem asU {a0 a1 : aLm} {w : aLl} {R : K1} (h : ayD a0 a1 w R) : aR pg Rq #[a0, a1] w R := by
 refine tD (ann := uJ) Tryd.f64 sH [a0, a1] Az 78 TrydM.mixed Tryd.func64 ?_
 exact (aqV _ _ _ R (fun _ _ h => h) h)
def UW : FA := ⟨yK, fun i => .leaf ([], []) []⟩
def Xa : List ResultVar := [.tmp 2]
noncomputable def Sz : Code := cX Tryd.f65
def OU (R : K1) (aQ : aLm) (w : aLl) : Prop :=
 aC pg (aH .eql 3 (.tmp 6) (.const (aLn 1)) aQ (aLn 1)) w fun b7 w =>
 fE b7
  (R (aLn 31) w)
  (aR pg Dl #[aQ] w fun c0 w =>
  aC pg (bD c0 0) w fun c1 w =>
  aC pg (bD c0 1) w fun c2 w =>
  aC pg (bD c0 2) w fun c3 w =>
  aC pg (lF .len #[77] 3 [c3]) w fun c6 w =>
  aC pg (aH .add 3 aM aM c1 c6) w fun c7 w =>
  aC pg (aH .sub 3 aM aM c7 (aLn 1)) w fun c8 w =>
  R c8 w)
theorem afM (R : K1) (hr : HR Xa R Q) (h : OU R (g 0) w) : bH pg UW Sz Q g w :=
 dP (kn := no) (l := []) h eU hr trivial
def arN (a0 : aLm) (w : aLl) (R : K1) : Prop :=
 OU R a0 w
theorem anL {a0 : aLm} {w : aLl} {R : K1} (h : arN a0 w R) : aR pg yK #[a0] w R := by
 refine tD (ann := UW) Tryd.f65 Sz [a0] Xa 19 TrydM.mixed Tryd.func65 ?_
 exact (afM _ _ _ R (fun _ _ h => h) h)
def PU : FA := ⟨Ay, fun i => .leaf ([], []) []⟩
def SQ : List ResultVar := [.cell 2 145]
noncomputable def Na : Code := cX Tryd.f66
def Il (R : K1) (aQ : aLm) (w : aLl) : Prop :=
 aC pg (bV 145) w fun b2 w =>
 aC pg (aH .eql 3 (.tmp 6) (.const (aLn 0)) aQ (aLn 0)) w fun b8 w =>
 fE b8
  (aC pg (aI 174 (.pointer (some ⟨0, 0, none⟩))) w fun b9 w =>
  aC pg (bV 174) w fun l_3 w =>
  aC pg (aK 174 l_3 b9) w fun _u w =>
  aC pg (gB 174 l_3 none none none) w fun c0 w =>
  aC pg (bX 145 [(0, (aLn 6)), (1, c0)]) w fun c1 w =>
  aC pg (aK 145 b2 c1) w fun _u w =>
  mW pg 145 b2 w fun r0 => R r0 w)
  (aC pg (aH .eql 3 (.tmp 6) (.const (aLn 1)) aQ (aLn 1)) w fun c3 w =>
  fE c3
   (aC pg (aI 175 (.pointer (some ⟨1, 0, none⟩))) w fun c4 w =>
   aC pg (bV 175) w fun l_4 w =>
   aC pg (aK 175 l_4 c4) w fun _u w =>
   aC pg (gB 175 l_4 none none none) w fun c5 w =>
   aC pg (bX 145 [(0, (aLn 5)), (1, c5)]) w fun c6 w =>
   aC pg (aK 145 b2 c6) w fun _u w =>
   mW pg 145 b2 w fun r0 => R r0 w)
   (aC pg (aH .eql 3 (.tmp 6) (.const (aLn 2)) aQ (aLn 2)) w fun c8 w =>
   fE c8
    (aC pg (aI 176 (.pointer (some ⟨2, 0, none⟩))) w fun c9 w =>
    aC pg (bV 176) w fun l_5 w =>
    aC pg (aK 176 l_5 c9) w fun _u w =>
    aC pg (gB 176 l_5 none none none) w fun d0 w =>
    aC pg (bX 145 [(0, (aLn 6)), (1, d0)]) w fun d1 w =>
    aC pg (aK 145 b2 d1) w fun _u w =>
    mW pg 145 b2 w fun r0 => R r0 w)
    (aC pg (bX 145 []) w fun d2 w =>
    aC pg (aK 145 b2 d2) w fun _u w =>
    mW pg 145 b2 w fun r0 => R r0 w)))
theorem X2 (R : K1) (hr : HR SQ R Q) (h : Il R (g 0) w) : bH pg PU Na Q g w :=
 dP (kn := no) (l := []) h eU hr trivial
def adW (a0 : aLm) (w : aLl) (R : K1) : Prop :=
 Il R a0 w
theorem abK {a0 : aLm} {w : aLl} {R : K1} (h : adW a0 w R) : aR pg Ay #[a0] w R := by
 refine tD (ann := PU) Tryd.f66 Na [a0] SQ 23 TrydM.mixed Tryd.func66 ?_
 exact (X2 _ _ _ R (fun _ _ h => h) h)
def gO : FA := ⟨uK, fun i => match Nat.beq i 3 with | true => .split 3 5 (.perm [0, 1, 2, 3, 4, 5, 6] [(3, 5)] ([3, 5, 6], [(0, 3), (0, 5), (1, 3), (1, 5), (4, 5)]) [(false, []), (false, []), (false, []), (true, [1, 2]), (false, []), (true, [0, 3, 4]), (true, [])]) (.perm [0, 1, 2, 5, 3, 4, 6] [(5, 3)] ([3, 4, 6], [(0, 3), (0, 4), (1, 3), (1, 4), (2, 3)]) [(false, []), (false, []), (false, []), (true, [0, 1, 2]), (true, [2, 3]), (false, []), (true, [])]) | false => match Nat.beq i 16 with | true => .leaf ([5, 10], [(1, 5), (2, 5)]) [(false, []), (false, []), (false, []), (false, []), (false, []), (true, [2, 3]), (false, []), (false, []), (false, []), (false, []), (true, [])] | false => match Nat.beq i 17 with | true => .leaf ([13], []) [(false, []), (false, []), (false, []), (false, []), (false, []), (false, []), (false, []), (false, []), (false, []), (false, []), (false, []), (false, []), (false, []), (true, [])] | false => .leaf ([], []) []⟩
def J8 : List ResultVar := [.cell 2 27, .tmp 3]
noncomputable def fT : Code := cX Tryd.f67
def JD (R : K1) (b2 b4 : aLm) (w : aLl) : Prop :=
 aC pg (aI 27 b4) w fun n0 w =>
 aC pg (aK 27 b2 n0) w fun _u w =>
 mW pg 27 b2 w fun r0 => R (.tuple #[r0, (aLn 0)]) w
theorem alQ (R : K1) (hr : HR J8 R Q) (h : JD R (g 2) (g 4) w) : bH pg gO (aB 1 (aB 1 (aB 1 (aB 3 fT)))) Q g w :=
 dP (kn := no) (l := []) h eU hr trivial
def JC (kn : K6) (bO b2 b4 eA f2 f3 : aLm) (w : aLl) : Prop :=
 aC pg (aH .add 3 aM aM f3 (aLn 1)) w fun m9 w =>
 kn bO b2 b4 eA f2 m9 w
theorem alR (kn : K6) (hn : N6 Q kn 1 2 4 5 42 43) (h : JC kn (g 1) (g 2) (g 4) (g 5) (g 42) (g 43) w) : bH pg gO (aB 1 (aB 2 (bI (bI (aB 1 (aE 1 (aB 1 (aB 1 (aB 3 fT))))))))) Q g w :=
 dP (kr := no) (l := []) h hn eU trivial
def JB (kn : K6) (bO b2 b4 eA x_9 Zu f2 f3 : aLm) (w : aLl) : Prop :=
 (dr w) = (dr w) /\
 (dr w) = (dr w) /\
 (dr w) = (dr w) /\
 aC pg (sQ x_9) (dr w) fun l9 w_ => w_ = (dr w) /\
 aC pg (aL 123 l9 1) (dr w) fun m0 w_ => w_ = (dr w) /\
 aC pg (aI 3 m0) (dr w) fun m1 w_ => w_ = (dr w) /\
 aC pg (aH .shl 3 aM aM Zu m1) (dr w) fun m2 w_ => w_ = (dr w) /\
 aC pg (aL 27 b4 1) (dr w) fun m3 w_ => w_ = (dr w) /\
 aC pg (aI 25 m3) (dr w) fun m4 w_ => w_ = (dr w) /\
 aC pg (lF .len #[25] 3 [m4]) (dr w) fun m5 w_ => w_ = (dr w) /\
 aC pg (aH .sub 3 aM aM m2 m5) (dr w) fun m6 w_ => w_ = (dr w) /\
 aC pg (sQ x_9) (dr w) fun m7 w_ => w_ = (dr w) /\
 aC pg (aL 123 m7 2) (dr w) fun m8 w_ => w_ = (dr w) /\
 aC pg (aK 3 m8 m6) (dr w) fun _u13 aHq =>
 kn bO b2 b4 eA f2 f3 aHq
theorem alO (kn : K6) (hn : N6 Q kn 1 2 4 5 42 43) (h : JB kn (g 1) (g 2) (g 4) (g 5) (g 9) (g 10) (g 42) (g 43) w) : bH pg gO (aB 1 (aB 4 (bI (aE 1 (aB 2 (bI (bI (aB 1 (aE 1 (aB 1 (aB 1 (aB 3 fT)))))))))))) Q g w :=
 dP (kr := no) (l := []) h hn eU trivial
def Sh (kn : K8) (bO b2 b4 eA x_9 Zu f2 f3 : aLm) (w : aLl) : Prop :=
 (dr w) = (dr w) /\
 aC pg (aL 145 bO 0) (dr w) fun j7 w_ => w_ = (dr w) /\
 aC pg (aI 3 j7) (dr w) fun j8 w_ => w_ = (dr w) /\
 (dr w) = (dr w) /\
 aC pg (gF 3 94 Zu) (dr w) fun l0 w_ => w_ = (dr w) /\
 aR pg uF #[l0] (dr w) fun l1 UC =>
 (dS pg (aI 3 j7) j8 UC /\ dS pg (aL 145 bO 0) j7 UC /\ True) /\
 aC pg (aH .sub 3 aM aM j8 l1) UC fun l2 w_ => w_ = UC /\
 aC pg (aH .add 3 aM aM l2 (aLn 1)) UC fun l3 w_ => w_ = UC /\
 aC pg (sQ x_9) UC fun l4 w_ => w_ = UC /\
 aC pg (aL 123 l4 1) UC fun l5 w_ => w_ = UC /\
 aC pg (aK 3 l5 l3) UC fun _u10 aHy =>
 kn bO b2 b4 eA x_9 Zu f2 f3 aHy
theorem alX (kn : K8) (hn : N8 Q kn 1 2 4 5 9 10 42 43) (h : Sh kn (g 1) (g 2) (g 4) (g 5) (g 9) (g 10) (g 42) (g 43) w) : bH pg gO (aE 1 (aB 4 (bI (aE 1 (aB 2 (bI (bI (aB 1 (aE 1 (aB 1 (aB 1 (aB 3 fT)))))))))))) Q g w :=
 dP (kr := no) (l := []) h hn eU trivial
def R1 (kn : K6) (bO b2 b4 eA x_9 Zu f2 f3 : aLm) (w : aLl) : Prop :=
 Sh (fun bO b2 b4 eA x_9 Zu f2 f3 w => JB kn bO b2 b4 eA x_9 Zu f2 f3 w) bO b2 b4 eA x_9 Zu f2 f3 w
def Q5 (kn : K8) (bO b2 b4 eA f2 f3 : aLm) (w : aLl) : Prop :=
 aC pg (aL 27 b4 1) w fun f6 w =>
 aC pg (aI 25 f6) w fun f7 w =>
 aC pg (aY 25 f7 f3) w fun f9 w =>
 aC pg (sQ f9) w fun i2 w =>
 aC pg (aL 123 i2 0) w fun i3 w =>
 aC pg (aI 5 i3) w fun i4 w =>
 aC pg (aY 77 eA i4) w fun i5 w =>
 aC pg (aI 3 i5) w fun i6 w =>
 aC pg (sQ f9) w fun i9 w =>
 aC pg (aL 123 i9 0) w fun j0 w =>
 aC pg (aI 5 j0) w fun j1 w =>
 aC pg (aY 77 eA j1) w fun j2 w =>
 aC pg (aI 3 j2) w fun j3 w =>
 aC pg (aH .add 3 aM aM j3 (aLn 1)) w fun j4 w =>
 aC pg (aY 77 eA j1) w fun j5 w =>
 aC pg (aK 3 j5 j4) w fun _u w =>
 kn bO b2 b4 eA f9 i6 f2 f3 w
theorem amE (kn : K8) (hn : N8 Q kn 1 2 4 5 9 10 42 43) (h : Q5 kn (g 1) (g 2) (g 4) (g 5) (g 42) (g 43) w) : bH pg gO (aE 4 (bI (aE 1 (aB 2 (bI (bI (aB 1 (aE 1 (aB 1 (aB 1 (aB 3 fT))))))))))) Q g w :=
 dP (kr := no) (l := []) h hn eU trivial
def aaB (kn : K6) (bO b2 b4 eA f2 f3 : aLm) (w : aLl) : Prop :=
 Q5 (fun bO b2 b4 eA x_9 Zu f2 f3 w => R1 kn bO b2 b4 eA x_9 Zu f2 f3 w) bO b2 b4 eA f2 f3 w
def RK (kn : K6) (bO b2 b4 eA f2 f3 : aLm) (w : aLl) : Prop :=
 aaB kn bO b2 b4 eA f2 f3 w
def J0 (kn : K6) (bO b2 b4 eA f2 f3 : aLm) (w : aLl) : Prop :=
 RK (fun bO b2 b4 eA f2 f3 w => JC kn bO b2 b4 eA f2 f3 w) bO b2 b4 eA f2 f3 w
theorem amV (kn : K6) (hn : N6 Q kn 1 2 4 5 42 43) (h : RK kn (g 1) (g 2) (g 4) (g 5) (g 42) (g 43) w) : bH pg gO (aE 1 (aB 2 (bI (bI (aB 1 (aE 1 (aB 1 (aB 1 (aB 3 fT))))))))) Q g w :=
 wD 3 (gC 4 (amE _ g w (R1 kn) (fun g w h => aJ (gC 1 (alX _ g w (JB kn) (fun g w h => aJ (alO _ g w kn hn h)) h))) h))
def Ot (kn : K6) (k2 : K2) (bO b2 b4 eA f2 f3 : aLm) (w : aLl) : Prop :=
 aC pg (aH .lss 3 aM aM f3 f2) w fun f4 w =>
 fE f4
  (kn bO b2 b4 eA f2 f3 w)
  (k2 b2 b4 w)
theorem aiI (kn : K6) (k2 : K2) (hn : N6 Q kn 1 2 4 5 42 43) (h2 : E2 Q k2 2 2 4) (h : Ot kn k2 (g 1) (g 2) (g 4) (g 5) (g 42) (g 43) w) : bH pg gO (aE 2 (bI (bI (aB 1 (aE 1 (aB 1 (aB 1 (aB 3 fT)))))))) Q g w :=
 dP (kr := no) (l := [(2, fun g w => k2 (g 2) (g 4) w)]) h hn eU ⟨h2, trivial⟩
def GJ (kn : K6) (k2 : K2) (bO b2 b4 eA f2 f3 : aLm) (w : aLl) : Prop :=
 Ot (fun bO b2 b4 eA f2 f3 w => J0 kn bO b2 b4 eA f2 f3 w) k2 bO b2 b4 eA f2 f3 w
def Ol (k2 : K2) (bO b2 b4 eA f2 f3 : aLm) (w : aLl) : Prop :=
 cC (fun (X : aLm -> K0) (t : aLm) (w : aLl) => GJ (fun _ _ _ _ _ f3 w => X f3 w) k2 bO b2 b4 eA f2 t w) f3 w
theorem aeL (kn : K6) (k2 : K2) (hn : N6 Q kn 1 2 4 5 42 43) (h2 : E2 Q k2 2 2 4) (h : GJ kn k2 (g 1) (g 2) (g 4) (g 5) (g 42) (g 43) w) : bH pg gO (bI (bI (aB 1 (aE 1 (aB 1 (aB 1 (aB 3 fT))))))) Q g w :=
 gC 2 (aiI _ g w (J0 kn) k2 (fun g w h => aJ (gC 1 (amV _ g w (JC kn) (fun g w h => aJ (alR _ g w kn hn h)) h))) h2 h)
theorem ahF (k2 : K2) (h2 : E2 Q k2 2 2 4) (h : Ol k2 (g 1) (g 2) (g 4) (g 5) (g 42) (g 43) w) : bH pg gO (bI (aB 1 (aE 1 (aB 1 (aB 1 (aB 3 fT)))))) Q g w := by
 refine Cy (fun g : Env => g 43) (fun X t w => GJ (fun _ _ _ _ _ f3 w => X f3 w) k2 (g 1) (g 2) (g 4) (g 5) (g 42) t w) h (fun X g1 w1 ha hL => ?_)
 rw [<- fL 1 ha, <- fL 2 ha, <- fL 4 ha, <- fL 5 ha, <- fL 42 ha] at hL
 exact (aeL _ g1 w1 (fun _ _ _ _ _ f3 w => X f3 w) k2 (fun _ _ h => h) h2 hL)
def OO (kn : K2) (bO b2 b4 eA f2 f3 : aLm) (w : aLl) : Prop :=
 Ol kn bO b2 b4 eA f2 f3 w
def Ok (kn : K6) (bO b2 b4 eA : aLm) (w : aLl) : Prop :=
 aC pg (aL 27 b4 1) w fun f0 w =>
 aC pg (aI 25 f0) w fun f1 w =>
 aC pg (lF .len #[25] 3 [f1]) w fun f2 w =>
 kn bO b2 b4 eA f2 (aLn 0) w
theorem aiT (kn : K6) (hn : N6 Q kn 1 2 4 5 42 43) (h : Ok kn (g 1) (g 2) (g 4) (g 5) w) : bH pg gO (aE 1 (aE 1 (aB 1 (aB 1 (aB 3 fT))))) Q g w :=
 dP (kr := no) (l := []) h hn eU trivial
def NI (kn : K2) (bO b2 b4 eA : aLm) (w : aLl) : Prop :=
 Ok (fun bO b2 b4 eA f2 f3 w => OO kn bO b2 b4 eA f2 f3 w) bO b2 b4 eA w
def GB (R : K1) (bO b2 b4 eA : aLm) (w : aLl) : Prop :=
 NI (fun b2 b4 w => JD R b2 b4 w) bO b2 b4 eA w
theorem aiW (kn : K2) (hn : N2 Q kn 2 4) (h : NI kn (g 1) (g 2) (g 4) (g 5) w) : bH pg gO (aE 1 (aB 1 (aB 1 (aB 3 fT)))) Q g w :=
 gC 1 (aiT _ g w (OO kn) (fun g w h => aJ (wD 2 (ahF _ g w kn hn h))) h)
def BN (kn : K7) (k0 : K4) (bO b2 b4 eA d5 d6 d7 : aLm) (w : aLl) : Prop :=
 aC pg (aH .lss 3 aM aM d7 d6) w fun d8 w =>
 fE d8
  (aC pg (aY 77 d5 d7) w fun e0 w =>
  aC pg (aI 3 e0) w fun e1 w =>
  aC pg (sUn .neg e1) w fun e6 w =>
  aC pg (lF .max #[3, 3] 3 [e1, e6]) w fun e7 w =>
  aC pg (aY 77 eA d7) w fun e8 w =>
  aC pg (aK 3 e8 e7) w fun _u w =>
  aC pg (aH .add 3 aM aM d7 (aLn 1)) w fun e9 w =>
  kn bO b2 b4 eA d5 d6 e9 w)
  (k0 bO b2 b4 eA w)
theorem afI (kn : K7) (k0 : K4) (hn : N7 Q kn 1 2 4 5 25 26 27) (h0 : E4 Q k0 0 1 2 4 5) (h : BN kn k0 (g 1) (g 2) (g 4) (g 5) (g 25) (g 26) (g 27) w) : bH pg gO (bI (bI (aB 1 (aE 1 (aB 1 (aB 3 fT)))))) Q g w :=
 dP (kr := no) (l := [(0, fun g w => k0 (g 1) (g 2) (g 4) (g 5) w)]) h hn eU ⟨h0, trivial⟩
def PA (k0 : K4) (bO b2 b4 eA d5 d6 d7 : aLm) (w : aLl) : Prop :=
 cC (fun (X : aLm -> K0) (t : aLm) (w : aLl) => BN (fun _ _ _ _ _ _ d7 w => X d7 w) k0 bO b2 b4 eA d5 d6 t w) d7 w
theorem ajU (k0 : K4) (h0 : E4 Q k0 0 1 2 4 5) (h : PA k0 (g 1) (g 2) (g 4) (g 5) (g 25) (g 26) (g 27) w) : bH pg gO (bI (aB 1 (aE 1 (aB 1 (aB 3 fT))))) Q g w := by
 refine Cy (fun g : Env => g 27) (fun X t w => BN (fun _ _ _ _ _ _ d7 w => X d7 w) k0 (g 1) (g 2) (g 4) (g 5) (g 25) (g 26) t w) h (fun X g1 w1 ha hL => ?_)
 rw [<- fL 1 ha, <- fL 2 ha, <- fL 4 ha, <- fL 5 ha, <- fL 25 ha, <- fL 26 ha] at hL
 exact (afI _ g1 w1 (fun _ _ _ _ _ _ d7 w => X d7 w) k0 (fun _ _ h => h) h0 hL)
def OR (kn : K4) (bO b2 b4 eA d5 d6 d7 : aLm) (w : aLl) : Prop :=
 PA kn bO b2 b4 eA d5 d6 d7 w
def PD (kn : K7) (bO b2 b4 eA : aLm) (w : aLl) : Prop :=
 aC pg (aL 145 bO 1) w fun d4 w =>
 aC pg (aI 77 d4) w fun d5 w =>
 aC pg (lF .len #[77] 3 [d5]) w fun d6 w =>
 kn bO b2 b4 eA d5 d6 (aLn 0) w
theorem afL (kn : K7) (hn : N7 Q kn 1 2 4 5 25 26 27) (h : PD kn (g 1) (g 2) (g 4) (g 5) w) : bH pg gO (aE 1 (aE 1 (aB 1 (aB 3 fT)))) Q g w :=
 dP (kr := no) (l := []) h hn eU trivial
def NY (kn : K4) (bO b2 b4 eA : aLm) (w : aLl) : Prop :=
 PD (fun bO b2 b4 eA d5 d6 d7 w => OR kn bO b2 b4 eA d5 d6 d7 w) bO b2 b4 eA w
def Od (R : K1) (bO b2 b4 eA : aLm) (w : aLl) : Prop :=
 NY (fun bO b2 b4 eA w => GB R bO b2 b4 eA w) bO b2 b4 eA w
theorem ajJ (kn : K4) (hn : N4 Q kn 1 2 4 5) (h : NY kn (g 1) (g 2) (g 4) (g 5) w) : bH pg gO (aE 1 (aB 1 (aB 3 fT))) Q g w :=
 gC 1 (afL _ g w (OR kn) (fun g w h => aJ (wD 0 (ajU _ g w kn hn h))) h)
def NH (kn : K4) (bO b2 b4 : aLm) (w : aLl) : Prop :=
 aC pg (aL 145 bO 1) w fun d0 w =>
 aC pg (aI 77 d0) w fun d1 w =>
 aC pg (lF .len #[77] 3 [d1]) w fun d2 w =>
 aC pg (AX 77 d2 d2) w fun d3 w =>
 kn bO b2 b4 d3 w
theorem aeR (kn : K4) (hn : N4 Q kn 1 2 4 5) (h : NH kn (g 1) (g 2) (g 4) w) : bH pg gO (aE 1 (aB 3 fT)) Q g w :=
 dP (kr := no) (l := []) h hn eU trivial
def BJ (R : K1) (bO b2 b4 : aLm) (w : aLl) : Prop :=
 NH (fun bO b2 b4 eA w => Od R bO b2 b4 eA w) bO b2 b4 w
def GL (kn : K3) (R : K1) (c_0 : aLm) (w : aLl) : Prop :=
 aC pg (sU 145 c_0) w fun bO w =>
 aC pg (bV 27) w fun b2 w =>
 aC pg (aI 145 bO) w fun c1 w =>
 aR pg DM #[c1, (aLn 15)] w fun c2 w =>
 aC pg (aH .neq 30 (.tmp 12) (.const (aLn 0)) c2 (aLn 0)) w fun c3 w =>
 fE c3
  (aC pg (bX 27 []) w fun c4 w =>
  aC pg (aK 27 b2 c4) w fun _u w =>
  mW pg 27 b2 w fun r0 => R (.tuple #[r0, (aLn 1)]) w)
  (Ord (anA uK 3 (Ft 3 fT) 3 5 w)
   (aC pg (aL 145 bO 0) (dr w) fun c5 w_ => w_ = (dr w) /\
   aC pg (aI 3 c5) (dr w) fun c6 w_ => w_ = (dr w) /\
   aC pg (aI 145 bO) (dr w) fun c7 w_ => w_ = (dr w) /\
   aR pg Ew #[c7] (dr w) fun c8 atC =>
   (dS pg (aI 3 c5) c6 atC /\ dS pg (aL 145 bO 0) c5 atC /\ True) /\
   aC pg (bX 27 [(0, c6), (1, c8)]) atC fun c9 w_ => w_ = atC /\
   aC pg (bV 27) atC fun b4 aFY =>
   (dS pg (bX 27 [(0, c6), (1, c8)]) c9 aFY /\ dS pg (aI 3 c5) c6 aFY /\ dS pg (aL 145 bO 0) c5 aFY /\ True) /\
   aC pg (aK 27 b4 c9) aFY fun _u6 aHE =>
   kn bO b2 b4 aHE)
   (aC pg (aL 145 bO 0) (dr w) fun c5 w_ => w_ = (dr w) /\
   aC pg (aI 3 c5) (dr w) fun c6 w_ => w_ = (dr w) /\
   aC pg (aI 145 bO) (dr w) fun c7 w_ => w_ = (dr w) /\
   aC pg (bV 27) (dr w) fun b4 atC =>
   (dS pg (aI 145 bO) c7 atC /\ dS pg (aI 3 c5) c6 atC /\ dS pg (aL 145 bO 0) c5 atC /\ True) /\
   aR pg Ew #[c7] atC fun c8 U4 =>
   (dS pg (aI 3 c5) c6 U4 /\ dS pg (aL 145 bO 0) c5 U4 /\ True) /\
   aC pg (bX 27 [(0, c6), (1, c8)]) U4 fun c9 w_ => w_ = U4 /\
   aC pg (aK 27 b4 c9) U4 fun _u6 aHE =>
   kn bO b2 b4 aHE))
theorem aiB (kn : K3) (R : K1) (hn : N3 Q kn 1 2 4) (hr : HR J8 R Q) (h : GL kn R (g 0) w) : bH pg gO (aE 3 fT) Q g w :=
 dP (l := []) h hn hr trivial
def G1 (R : K1) (c_0 : aLm) (w : aLl) : Prop :=
 GL (fun bO b2 b4 w => BJ R bO b2 b4 w) R c_0 w
theorem aeD (R : K1) (hr : HR J8 R Q) (h : G1 R (g 0) w) : bH pg gO fT Q g w :=
 gC 3 (aiB _ g w (BJ R) R (fun g w h => aJ (gC 1 (aeR _ g w (Od R) (fun g w h => aJ (gC 1 (ajJ _ g w (GB R) (fun g w h => aJ (gC 1 (aiW _ g w (JD R) (fun g w h => aJ (alQ _ g w R hr h)) h))) h))) h))) hr h)
def ahJ (a0 : aLm) (w : aLl) (R : K1) : Prop :=
 G1 R a0 w
theorem Uy {a0 : aLm} {w : aLl} {R : K1} (h : ahJ a0 w R) : aR pg uK #[a0] w R := by
 refine tD (ann := gO) Tryd.f67 fT [a0] J8 91 TrydM.mixed Tryd.func67 ?_
 exact (aeD _ _ _ R (fun _ _ h => h) h)
def iR : FA := ⟨Ds, fun i => match Nat.beq i 22 with | true => .leaf ([], []) [(false, []), (false, []), (false, []), (false, []), (false, []), (false, []), (false, []), (false, []), (false, []), (false, []), (false, [])] | false => .leaf ([], []) []⟩
def JR : List ResultVar := [.cell 4 145, .tmp 5]
noncomputable def gT : Code := cX Tryd.f68
def DT (R : K1) (b4 vA hJ cQ : aLm) (w : aLl) : Prop :=
 aC pg (aL 145 vA 1) w fun q0 w =>
 aC pg (aI 77 q0) w fun q1 w =>
 aC pg (aY 77 q1 cQ) w fun q3 w =>
 aC pg (aI 3 q3) w fun q4 w =>
 aC pg (aH .add 3 aM aM q4 hJ) w fun q6 w =>
 aC pg (aY 77 q1 cQ) w fun q7 w =>
 aC pg (aK 3 q7 q6) w fun _u w =>
 aC pg (aI 145 vA) w fun q8 w =>
 aC pg (aK 145 b4 q8) w fun _u w =>
 mW pg 145 b4 w fun r0 => R (.tuple #[r0, (aLn 0)]) w
theorem anG (R : K1) (hr : HR JR R Q) (h : DT R (g 4) (g 11) (g 12) (g 13) w) : bH pg iR (aB 1 (aB 4 (aB 1 (aB 3 gT)))) Q g w :=
 dP (kn := no) (l := []) h eU hr trivial
def JM (kn : Fk) (gD b4 gK b7 vA hJ cQ l8 l9 m0 : aLm) (w : aLl) : Prop :=
 aC pg (aH .add 3 aM aM m0 (aLn 1)) w fun p9 w =>
 kn gD b4 gK b7 vA hJ cQ l8 l9 p9 w
theorem anR (kn : Fk) (hn : N10 Q kn 1 4 6 7 11 12 13 78 79 80) (h : JM kn (g 1) (g 4) (g 6) (g 7) (g 11) (g 12) (g 13) (g 78) (g 79) (g 80) w) : bH pg iR (aB 3 (bI (bI (aB 1 (aE 1 (aB 4 (aB 1 (aB 3 gT)))))))) Q g w :=
 dP (kr := no) (l := []) h hn eU trivial
def Rp (kn : Fk) (k2 : K4) (gD b4 gK b7 vA hJ cQ l8 l9 m0 : aLm) (w : aLl) : Prop :=
 aC pg (aH .lss 3 aM aM m0 l9) w fun m1 w =>
 fE m1
  (aC pg (aY 91 l8 m0) w fun m3 w =>
  aC pg (aI 43 m3) w fun m4 w =>
  aC pg (aH .eql 43 (.tmp 85) (.const (.int .u32 0)) m4 (.int .u32 0)) w fun m6 w =>
  fE m6
   (kn gD b4 gK b7 vA hJ cQ l8 l9 m0 w)
   (aC pg (gF 43 73 m4) w fun m8 w =>
   aC pg (aH .shl 3 aM aM (aLn 1) gD) w fun n0 w =>
   aC pg (aH .sub 3 aM aM n0 b7) w fun n2 w =>
   aC pg (gF 3 73 n2) w fun n3 w =>
   aC pg (aH .mul 73 aM aM m8 n3) w fun n4 w =>
   aC pg (aH .quo 73 aM aM n4 gK) w fun n6 w =>
   aC pg (gF 73 3 n6) w fun n7 w =>
   aC pg (aL 145 vA 1) w fun n8 w =>
   aC pg (aI 77 n8) w fun n9 w =>
   aC pg (aH .add 3 aM aM (aLn 1) n7) w fun o2 w =>
   aC pg (aY 77 n9 m0) w fun o3 w =>
   aC pg (aK 3 o3 o2) w fun _u w =>
   aC pg (aH .sub 3 aM aM hJ n7) w fun o6 w =>
   aC pg (aL 145 vA 1) (dr w) fun o7 w_ => w_ = (dr w) /\
   aC pg (aI 77 o7) (dr w) fun o8 w_ => w_ = (dr w) /\
   (dr w) = (dr w) /\
   aC pg (aY 77 o8 m0) (dr w) fun p0 w_ => w_ = (dr w) /\
   aC pg (aI 3 p0) (dr w) fun p1 w_ => w_ = (dr w) /\
   aC pg (aL 145 vA 1) (dr w) fun p2 w_ => w_ = (dr w) /\
   aC pg (aI 77 p2) (dr w) fun p3 w_ => w_ = (dr w) /\
   (dr w) = (dr w) /\
   aC pg (aY 77 p3 cQ) (dr w) fun p5 w_ => w_ = (dr w) /\
   aC pg (aI 3 p5) (dr w) fun p6 w_ => w_ = (dr w) /\
   aC pg (aH .gtr 3 aM aM p1 p6) (dr w) fun p7 w_ => w_ = (dr w) /\
   fE p7
    (kn gD b4 gK b7 vA o6 m0 l8 l9 m0 (dr w))
    (kn gD b4 gK b7 vA o6 cQ l8 l9 m0 (dr w))))
  (k2 b4 vA hJ cQ w)
theorem alJ (kn : Fk) (k2 : K4) (hn : N10 Q kn 1 4 6 7 11 12 13 78 79 80) (h2 : E4 Q k2 2 4 11 12 13) (h : Rp kn k2 (g 1) (g 4) (g 6) (g 7) (g 11) (g 12) (g 13) (g 78) (g 79) (g 80) w) : bH pg iR (aE 3 (bI (bI (aB 1 (aE 1 (aB 4 (aB 1 (aB 3 gT)))))))) Q g w :=
 dP (kr := no) (l := [(2, fun g w => k2 (g 4) (g 11) (g 12) (g 13) w)]) h hn eU ⟨h2, trivial⟩
def JO (kn : Fk) (k2 : K4) (gD b4 gK b7 vA hJ cQ l8 l9 m0 : aLm) (w : aLl) : Prop :=
 Rp (fun gD b4 gK b7 vA hJ cQ l8 l9 m0 w => JM kn gD b4 gK b7 vA hJ cQ l8 l9 m0 w) k2 gD b4 gK b7 vA hJ cQ l8 l9 m0 w
def Rw (k2 : K4) (gD b4 gK b7 vA hJ cQ l8 l9 m0 : aLm) (w : aLl) : Prop :=
 cC (fun (X : (aLm × aLm × aLm) -> K0) (t : aLm × aLm × aLm) (w : aLl) => JO (fun _ _ _ _ _ hJ cQ _ _ m0 w => X (hJ, cQ, m0) w) k2 gD b4 gK b7 vA t.1 t.2.1 l8 l9 t.2.2 w) (hJ, cQ, m0) w
theorem alD (kn : Fk) (k2 : K4) (hn : N10 Q kn 1 4 6 7 11 12 13 78 79 80) (h2 : E4 Q k2 2 4 11 12 13) (h : JO kn k2 (g 1) (g 4) (g 6) (g 7) (g 11) (g 12) (g 13) (g 78) (g 79) (g 80) w) : bH pg iR (bI (bI (aB 1 (aE 1 (aB 4 (aB 1 (aB 3 gT))))))) Q g w :=
 gC 3 (alJ _ g w (JM kn) k2 (fun g w h => aJ (anR _ g w kn hn h)) h2 h)
theorem amX (k2 : K4) (h2 : E4 Q k2 2 4 11 12 13) (h : Rw k2 (g 1) (g 4) (g 6) (g 7) (g 11) (g 12) (g 13) (g 78) (g 79) (g 80) w) : bH pg iR (bI (aB 1 (aE 1 (aB 4 (aB 1 (aB 3 gT)))))) Q g w := by
 refine Cy (fun g : Env => (g 12, g 13, g 80)) (fun X t w => JO (fun _ _ _ _ _ hJ cQ _ _ m0 w => X (hJ, cQ, m0) w) k2 (g 1) (g 4) (g 6) (g 7) (g 11) t.1 t.2.1 (g 78) (g 79) t.2.2 w) h (fun X g1 w1 ha hL => ?_)
 rw [<- fL 1 ha, <- fL 4 ha, <- fL 6 ha, <- fL 7 ha, <- fL 11 ha, <- fL 78 ha, <- fL 79 ha] at hL
 exact (alD _ g1 w1 (fun _ _ _ _ _ hJ cQ _ _ m0 w => X (hJ, cQ, m0) w) k2 (fun _ _ h => h) h2 hL)
def Sn (kn : K4) (gD b4 gK b7 vA hJ cQ l8 l9 m0 : aLm) (w : aLl) : Prop :=
 Rw kn gD b4 gK b7 vA hJ cQ l8 l9 m0 w
def RF (kn : Fk) (eY gD b4 gK b7 cJ vA hJ cQ : aLm) (w : aLl) : Prop :=
 aC pg (aH .add 3 aM aM cJ (aLn 1)) w fun l7 w =>
 aC pg (gB 91 eY none (some l7) none) w fun l8 w =>
 aC pg (lF .len #[91] 3 [l8]) w fun l9 w =>
 kn gD b4 gK b7 vA hJ cQ l8 l9 (aLn 0) w
theorem amP (kn : Fk) (hn : N10 Q kn 1 4 6 7 11 12 13 78 79 80) (h : RF kn (g 0) (g 1) (g 4) (g 6) (g 7) (g 8) (g 11) (g 12) (g 13) w) : bH pg iR (aE 1 (aE 1 (aB 4 (aB 1 (aB 3 gT))))) Q g w :=
 dP (kr := no) (l := []) h hn eU trivial
def RQ (kn : K4) (eY gD b4 gK b7 cJ vA hJ cQ : aLm) (w : aLl) : Prop :=
 RF (fun gD b4 gK b7 vA hJ cQ l8 l9 m0 w => Sn kn gD b4 gK b7 vA hJ cQ l8 l9 m0 w) eY gD b4 gK b7 cJ vA hJ cQ w
def JT (R : K1) (eY gD b4 gK b7 cJ vA hJ cQ : aLm) (w : aLl) : Prop :=
 RQ (fun b4 vA hJ cQ w => DT R b4 vA hJ cQ w) eY gD b4 gK b7 cJ vA hJ cQ w
theorem alF (kn : K4) (hn : N4 Q kn 4 11 12 13) (h : RQ kn (g 0) (g 1) (g 4) (g 6) (g 7) (g 8) (g 11) (g 12) (g 13) w) : bH pg iR (aE 1 (aB 4 (aB 1 (aB 3 gT)))) Q g w :=
 gC 1 (amP _ g w (Sn kn) (fun g w h => aJ (wD 2 (amX _ g w kn hn h))) h)
def Oe (kn : K9) (R : K1) (eY gD b4 gK b7 cJ : aLm) (w : aLl) : Prop :=
 aC pg (aH .lss 3 aM aM gD (aLn 5)) w fun e5 w =>
 Gd (eZ e5 false) (fun K => K gD w) w fun e7 w =>
 Gd (eZ e5 false) (fun K => aC pg (aH .gtr 3 aM aM e7 (aLn 15)) w K) w fun e8 w =>
 aC pg (fV e5 (.bool true) e8) w fun e9 w =>
 Gd (eZ e9 false) (fun K => K eY w) w fun f1 w =>
 Gd (eZ e9 false) (fun K => aC pg (lF .len #[91] 3 [f1]) w K) w fun f2 w =>
 Gd (eZ e9 false) (fun K => aC pg (aH .lss 3 aM aM f2 (aLn 1)) w K) w fun f3 w =>
 aC pg (fV e9 (.bool true) f3) w fun f4 w =>
 Gd (eZ f4 false) (fun K => K eY w) w fun f6 w =>
 Gd (eZ f4 false) (fun K => aC pg (lF .len #[91] 3 [f6]) w K) w fun f7 w =>
 Gd (eZ f4 false) (fun K => aC pg (aH .gtr 3 aM aM f7 (aLn 256)) w K) w fun f8 w =>
 aC pg (fV f4 (.bool true) f8) w fun f9 w =>
 Gd (eZ f9 false) (fun K => K b7 w) w fun i1 w =>
 Gd (eZ f9 false) (fun K => aC pg (aH .lss 3 aM aM i1 (aLn 2)) w K) w fun i2 w =>
 aC pg (fV f9 (.bool true) i2) w fun i3 w =>
 Gd (eZ i3 false) (fun K => K b7 w) w fun i5 w =>
 Gd (eZ i3 false) (fun K => K gD w) w fun i6 w =>
 Gd (eZ i3 false) (fun K => aC pg (aH .shl 3 aM aM (aLn 1) i6) w K) w fun i7 w =>
 Gd (eZ i3 false) (fun K => aC pg (aH .gtr 3 aM aM i5 i7) w K) w fun i8 w =>
 aC pg (fV i3 (.bool true) i8) w fun i9 w =>
 Gd (eZ i9 false) (fun K => K gK w) w fun j1 w =>
 Gd (eZ i9 false) (fun K => aC pg (aH .gtr 73 aM aM j1 (.int .u64 2147483647)) w K) w fun j2 w =>
 aC pg (fV i9 (.bool true) j2) w fun j3 w =>
 fE j3
  (aC pg (bX 145 []) w fun j4 w =>
  aC pg (aK 145 b4 j4) w fun _u w =>
  mW pg 145 b4 w fun r0 => R (.tuple #[r0, (aLn 1)]) w)
  (aC pg (aH .add 3 aM aM cJ (aLn 1)) w fun j7 w =>
  aC pg (AX 77 j7 j7) w fun j8 w =>
  aC pg (bX 145 [(0, gD), (1, j8)]) w fun j9 w =>
  aC pg (bV 145) w fun vA w =>
  aC pg (aK 145 vA j9) w fun _u w =>
  aC pg (aH .shl 3 aM aM (aLn 1) gD) w fun l1 w =>
  aC pg (aH .sub 3 aM aM l1 b7) w fun l3 w =>
  kn eY gD b4 gK b7 cJ vA l3 cJ w)
theorem aeY (kn : K9) (R : K1) (hn : N9 Q kn 0 1 4 6 7 8 11 12 13) (hr : HR JR R Q) (h : Oe kn R (g 0) (g 1) (g 4) (g 6) (g 7) (g 8) w) : bH pg iR (aE 4 (aB 1 (aB 3 gT))) Q g w :=
 dP (l := []) h hn hr trivial
def G9 (R : K1) (eY gD b4 gK b7 cJ : aLm) (w : aLl) : Prop :=
 Oe (fun eY gD b4 gK b7 cJ vA hJ cQ w => JT R eY gD b4 gK b7 cJ vA hJ cQ w) R eY gD b4 gK b7 cJ w
def BP (kn : K9) (eY gD b4 gK b7 cJ c7 c8 c9 : aLm) (w : aLl) : Prop :=
 aC pg (aH .add 3 aM aM c9 (aLn 1)) w fun e3 w =>
 kn eY gD b4 gK b7 cJ c7 c8 e3 w
theorem afV (kn : K9) (hn : N9 Q kn 0 1 4 6 7 8 17 18 19) (h : BP kn (g 0) (g 1) (g 4) (g 6) (g 7) (g 8) (g 17) (g 18) (g 19) w) : bH pg iR (aB 3 (bI (bI (aB 1 (aE 1 (aB 3 gT)))))) Q g w :=
 dP (kr := no) (l := []) h hn eU trivial
def Pf (kn : K9) (k0 : K6) (eY gD b4 gK b7 cJ c7 c8 c9 : aLm) (w : aLl) : Prop :=
 aC pg (aH .lss 3 aM aM c9 c8) w fun d0 w =>
 fE d0
  (aC pg (aY 91 c7 c9) w fun d2 w =>
  aC pg (aI 43 d2) w fun d3 w =>
  aC pg (gF 43 73 d3) w fun d6 w =>
  aC pg (aH .add 73 aM aM gK d6) w fun d7 w =>
  aC pg (aH .gtr 43 aM aM d3 (.int .u32 0)) w fun d9 w =>
  fE d9
   (aC pg (aH .add 3 aM aM b7 (aLn 1)) w fun e1 w =>
   kn eY gD b4 d7 e1 c9 c7 c8 c9 w)
   (kn eY gD b4 d7 b7 cJ c7 c8 c9 w))
  (k0 eY gD b4 gK b7 cJ w)
theorem agJ (kn : K9) (k0 : K6) (hn : N9 Q kn 0 1 4 6 7 8 17 18 19) (h0 : E6 Q k0 0 0 1 4 6 7 8) (h : Pf kn k0 (g 0) (g 1) (g 4) (g 6) (g 7) (g 8) (g 17) (g 18) (g 19) w) : bH pg iR (aE 3 (bI (bI (aB 1 (aE 1 (aB 3 gT)))))) Q g w :=
 dP (kr := no) (l := [(0, fun g w => k0 (g 0) (g 1) (g 4) (g 6) (g 7) (g 8) w)]) h hn eU ⟨h0, trivial⟩
def GX (kn : K9) (k0 : K6) (eY gD b4 gK b7 cJ c7 c8 c9 : aLm) (w : aLl) : Prop :=
 Pf (fun eY gD b4 gK b7 cJ c7 c8 c9 w => BP kn eY gD b4 gK b7 cJ c7 c8 c9 w) k0 eY gD b4 gK b7 cJ c7 c8 c9 w
def OD (k0 : K6) (eY gD b4 gK b7 cJ c7 c8 c9 : aLm) (w : aLl) : Prop :=
 cC (fun (X : (aLm × aLm × aLm × aLm) -> K0) (t : aLm × aLm × aLm × aLm) (w : aLl) => GX (fun _ _ _ gK b7 cJ _ _ c9 w => X (gK, b7, cJ, c9) w) k0 eY gD b4 t.1 t.2.1 t.2.2.1 c7 c8 t.2.2.2 w) (gK, b7, cJ, c9) w
theorem agK (kn : K9) (k0 : K6) (hn : N9 Q kn 0 1 4 6 7 8 17 18 19) (h0 : E6 Q k0 0 0 1 4 6 7 8) (h : GX kn k0 (g 0) (g 1) (g 4) (g 6) (g 7) (g 8) (g 17) (g 18) (g 19) w) : bH pg iR (bI (bI (aB 1 (aE 1 (aB 3 gT))))) Q g w :=
 gC 3 (agJ _ g w (BP kn) k0 (fun g w h => aJ (afV _ g w kn hn h)) h0 h)
theorem adZ (k0 : K6) (h0 : E6 Q k0 0 0 1 4 6 7 8) (h : OD k0 (g 0) (g 1) (g 4) (g 6) (g 7) (g 8) (g 17) (g 18) (g 19) w) : bH pg iR (bI (aB 1 (aE 1 (aB 3 gT)))) Q g w := by
 refine Cy (fun g : Env => (g 6, g 7, g 8, g 19)) (fun X t w => GX (fun _ _ _ gK b7 cJ _ _ c9 w => X (gK, b7, cJ, c9) w) k0 (g 0) (g 1) (g 4) t.1 t.2.1 t.2.2.1 (g 17) (g 18) t.2.2.2 w) h (fun X g1 w1 ha hL => ?_)
 rw [<- fL 0 ha, <- fL 1 ha, <- fL 4 ha, <- fL 17 ha, <- fL 18 ha] at hL
 exact (agK _ g1 w1 (fun _ _ _ gK b7 cJ _ _ c9 w => X (gK, b7, cJ, c9) w) k0 (fun _ _ h => h) h0 hL)
def OI (kn : K6) (eY gD b4 gK b7 cJ c7 c8 c9 : aLm) (w : aLl) : Prop :=
 OD kn eY gD b4 gK b7 cJ c7 c8 c9 w
def Oz (kn : K9) (eY gD b4 gK b7 cJ : aLm) (w : aLl) : Prop :=
 aC pg (lF .len #[91] 3 [eY]) w fun c8 w =>
 kn eY gD b4 gK b7 cJ eY c8 (aLn 0) w
theorem aeM (kn : K9) (hn : N9 Q kn 0 1 4 6 7 8 17 18 19) (h : Oz kn (g 0) (g 1) (g 4) (g 6) (g 7) (g 8) w) : bH pg iR (aE 1 (aE 1 (aB 3 gT))) Q g w :=
 dP (kr := no) (l := []) h hn eU trivial
def OH (kn : K6) (eY gD b4 gK b7 cJ : aLm) (w : aLl) : Prop :=
 Oz (fun eY gD b4 gK b7 cJ c7 c8 c9 w => OI kn eY gD b4 gK b7 cJ c7 c8 c9 w) eY gD b4 gK b7 cJ w
def GC (R : K1) (eY gD b4 gK b7 cJ : aLm) (w : aLl) : Prop :=
 OH (fun eY gD b4 gK b7 cJ w => G9 R eY gD b4 gK b7 cJ w) eY gD b4 gK b7 cJ w
theorem aeF (kn : K6) (hn : N6 Q kn 0 1 4 6 7 8) (h : OH kn (g 0) (g 1) (g 4) (g 6) (g 7) (g 8) w) : bH pg iR (aE 1 (aB 3 gT)) Q g w :=
 gC 1 (aeM _ g w (OI kn) (fun g w h => aJ (wD 0 (adZ _ g w kn hn h))) h)
def Pg (kn : K6) (eY gD : aLm) (w : aLl) : Prop :=
 aC pg (bV 145) w fun b4 w =>
 kn eY gD b4 (.int .u64 0) (aLn 0) (aLn 0) w
theorem ahV (kn : K6) (hn : N6 Q kn 0 1 4 6 7 8) (h : Pg kn (g 0) (g 1) w) : bH pg iR (aE 3 gT) Q g w :=
 dP (kr := no) (l := []) h hn eU trivial
def NS (R : K1) (eY gD : aLm) (w : aLl) : Prop :=
 Pg (fun eY gD b4 gK b7 cJ w => GC R eY gD b4 gK b7 cJ w) eY gD w
theorem agY (R : K1) (hr : HR JR R Q) (h : NS R (g 0) (g 1) w) : bH pg iR gT Q g w :=
 gC 3 (ahV _ g w (GC R) (fun g w h => aJ (gC 1 (aeF _ g w (G9 R) (fun g w h => aJ (gC 4 (aeY _ g w (JT R) R (fun g w h => aJ (gC 1 (alF _ g w (DT R) (fun g w h => aJ (anG _ g w R hr h)) h))) hr h))) h))) h)
def auP (a0 a1 : aLm) (w : aLl) (R : K1) : Prop :=
 NS R a0 a1 w
theorem arU {a0 a1 : aLm} {w : aLl} {R : K1} (h : auP a0 a1 w R) : aR pg Ds #[a0, a1] w R := by
 refine tD (ann := iR) Tryd.f68 gT [a0, a1] JR 129 TrydM.mixed Tryd.func68 ?_
 exact (agY _ _ _ R (fun _ _ h => h) h)
def pT : FA := ⟨vI, fun i => .leaf ([], []) []⟩
def Ap : List ResultVar := [.tmp 2]
noncomputable def oK : Code := cX Tryd.f69
def ED (R : K1)  (w : aLl) : Prop :=
 R (aLn 0) w
theorem abN (R : K1) (hr : HR Ap R Q) (h : ED R w) : bH pg pT (aB 1 (aB 1 oK)) Q g w :=
 dP (kn := no) (l := []) h eU hr trivial
def tH (kn : K0) (R : K1) (b3 b4 : aLm) (w : aLl) : Prop :=
 fE b4
  (R (aLn 9) w)
  (aC pg (aH .eql 3 (.tmp 3) (.const (aLn 1)) b3 (aLn 1)) w fun b8 w =>
  fE b8
   (R (aLn 8) w)
   (kn w))
theorem adS (kn : K0) (R : K1) (hn : N0 Q kn) (hr : HR Ap R Q) (h : tH kn R (g 3) (g 4) w) : bH pg pT (aB 1 (bI (aB 1 (aE 1 (aB 1 oK))))) Q g w :=
 dP (l := []) h hn hr trivial
def KO (kn : K2) (b3 : aLm) (w : aLl) : Prop :=
 aC pg (aH .eql 3 (.tmp 3) (.const (aLn 0)) b3 (aLn 0)) w fun b5 w =>
 fE b5
  (kn b3 b5 w)
  (aC pg (aH .eql 3 (.tmp 3) (.const (aLn 2)) b3 (aLn 2)) w fun b6 w =>
  kn b3 b6 w)
theorem ZR (kn : K2) (hn : N2 Q kn 3 4) (h : KO kn (g 3) w) : bH pg pT (aE 1 (bI (aB 1 (aE 1 (aB 1 oK))))) Q g w :=
 dP (kr := no) (l := []) h hn eU trivial
def UI (kn : K0) (R : K1) (b3 : aLm) (w : aLl) : Prop :=
 KO (fun b3 b4 w => tH kn R b3 b4 w) b3 w
def MC (kn : K0) (R : K1) (b3 : aLm) (w : aLl) : Prop :=
 UI kn R b3 w
def Ly (kn : K1) (aQ : aLm) (w : aLl) : Prop :=
 kn aQ w
theorem Zg (kn : K1) (hn : N1 Q kn 3) (h : Ly kn (g 0) w) : bH pg pT (aE 1 (aE 1 (aB 1 oK))) Q g w :=
 dP (kr := no) (l := []) h hn eU trivial
def LP (kn : K0) (R : K1) (aQ : aLm) (w : aLl) : Prop :=
 Ly (fun b3 w => MC kn R b3 w) aQ w
def KF (R : K1) (aQ : aLm) (w : aLl) : Prop :=
 LP (fun  w => ED R w) R aQ w
theorem aaF (kn : K0) (R : K1) (hn : N0 Q kn) (hr : HR Ap R Q) (h : LP kn R (g 0) w) : bH pg pT (aE 1 (aB 1 oK)) Q g w :=
 gC 1 (Zg _ g w (MC kn R) (fun g w h => aJ (wD 0 (gC 1 (ZR _ g w (tH kn R) (fun g w h => aJ (adS _ g w kn R hn hr h)) h)))) h)
def MU (kn : K1) (aQ : aLm) (w : aLl) : Prop :=
 kn aQ w
theorem adD (kn : K1) (hn : N1 Q kn 0) (h : MU kn (g 0) w) : bH pg pT (aE 1 oK) Q g w :=
 dP (kr := no) (l := []) h hn eU trivial
def Io (R : K1) (aQ : aLm) (w : aLl) : Prop :=
 MU (fun aQ w => KF R aQ w) aQ w
theorem Xo (R : K1) (hr : HR Ap R Q) (h : Io R (g 0) w) : bH pg pT oK Q g w :=
 gC 1 (adD _ g w (KF R) (fun g w h => aJ (gC 1 (aaF _ g w (fun  w => ED R w) R (fun g w h => aJ (abN _ g w R hr h)) hr h))) h)
def akP (a0 : aLm) (w : aLl) (R : K1) : Prop :=
 Io R a0 w
theorem ahU {a0 : aLm} {w : aLl} {R : K1} (h : akP a0 w R) : aR pg vI #[a0] w R := by
 refine tD (ann := pT) Tryd.f69 oK [a0] Ap 9 TrydM.mixed Tryd.func69 ?_
 exact (Xo _ _ _ R (fun _ _ h => h) h)
def eF : FA := ⟨Eu, fun i => .leaf ([], []) []⟩
def B5 : List ResultVar := [.tmp 2, .tmp 3]
noncomputable def dR : Code := cX Tryd.f70
def yS (R : K1) (mP : aLm) (w : aLl) : Prop :=
 aR pg zQ #[mP] w fun o7 w =>
 R (.tuple #[o7, (aLn 0)]) w
theorem XT (R : K1) (hr : HR B5 R Q) (h : yS R (g 4) w) : bH pg eF (aB 1 (aB 5 dR)) Q g w :=
 dP (kn := no) (l := []) h eU hr trivial
def zB (kn : K4) (bO mP cU tF : aLm) (w : aLl) : Prop :=
 aC pg (aH .add 3 aM aM tF (aLn 1)) w fun e1 w =>
 kn bO mP cU e1 w
theorem Yt (kn : K4) (hn : N4 Q kn 1 4 5 6) (h : zB kn (g 1) (g 4) (g 5) (g 6) w) : bH pg eF (aB 1 (aB 1 (bI (bI (aB 1 (aE 1 (aB 5 dR))))))) Q g w :=
 dP (kr := no) (l := []) h hn eU trivial
def B8 (kn : K4) (bO mP cU tF gS : aLm) (w : aLl) : Prop :=
 aC pg (gF 3 73 gS) w fun o4 w =>
 aR pg fO #[mP, o4, (aLn 2)] w fun o5 w =>
 kn bO mP cU tF w
theorem Zd (kn : K4) (hn : N4 Q kn 1 4 5 6) (h : B8 kn (g 1) (g 4) (g 5) (g 6) (g 11) w) : bH pg eF (aB 1 (aB 1 (aB 1 (aB 3 (aB 5 (bI (aE 1 (aB 1 (bI (bI (aB 1 (aE 1 (aB 5 dR))))))))))))) Q g w :=
 dP (kr := no) (l := []) h hn eU trivial
def BW (kn : K5) (k5 : K5) (bO mP cU tF gS : aLm) (w : aLl) : Prop :=
 aC pg (aH .geq 3 aM aM gS (aLn 3)) w fun n7 w =>
 fE n7
  (aR pg fO #[mP, (.int .u64 3), (aLn 2)] w fun o1 w =>
  aC pg (aH .sub 3 aM aM gS (aLn 3)) w fun n9 w =>
  kn bO mP cU tF n9 w)
  (k5 bO mP cU tF gS w)
theorem XP (kn : K5) (k5 : K5) (hn : N5 Q kn 1 4 5 6 11) (h5 : E5 Q k5 5 1 4 5 6 11) (h : BW kn k5 (g 1) (g 4) (g 5) (g 6) (g 11) w) : bH pg eF (bI (bI (aE 1 (aB 1 (aB 1 (aB 3 (aB 5 (bI (aE 1 (aB 1 (bI (bI (aB 1 (aE 1 (aB 5 dR))))))))))))))) Q g w :=
 dP (kr := no) (l := [(5, fun g w => k5 (g 1) (g 4) (g 5) (g 6) (g 11) w)]) h hn eU ⟨h5, trivial⟩
def IP (k5 : K5) (bO mP cU tF gS : aLm) (w : aLl) : Prop :=
 cC (fun (X : aLm -> K0) (t : aLm) (w : aLl) => BW (fun _ _ _ _ gS w => X gS w) k5 bO mP cU tF t w) gS w
theorem Yf (k5 : K5) (h5 : E5 Q k5 5 1 4 5 6 11) (h : IP k5 (g 1) (g 4) (g 5) (g 6) (g 11) w) : bH pg eF (bI (aE 1 (aB 1 (aB 1 (aB 3 (aB 5 (bI (aE 1 (aB 1 (bI (bI (aB 1 (aE 1 (aB 5 dR)))))))))))))) Q g w := by
 refine Cy (fun g : Env => g 11) (fun X t w => BW (fun _ _ _ _ gS w => X gS w) k5 (g 1) (g 4) (g 5) (g 6) t w) h (fun X g1 w1 ha hL => ?_)
 rw [<- fL 1 ha, <- fL 4 ha, <- fL 5 ha, <- fL 6 ha] at hL
 exact (XP _ g1 w1 (fun _ _ _ _ gS w => X gS w) k5 (fun _ _ h => h) h5 hL)
def IQ (kn : K5) (bO mP cU tF gS : aLm) (w : aLl) : Prop :=
 IP kn bO mP cU tF gS w
def Ci (kn : K4) (bO mP cU tF gS : aLm) (w : aLl) : Prop :=
 IQ (fun bO mP cU tF gS w => B8 kn bO mP cU tF gS w) bO mP cU tF gS w
theorem Yw (kn : K5) (hn : N5 Q kn 1 4 5 6 11) (h : IQ kn (g 1) (g 4) (g 5) (g 6) (g 11) w) : bH pg eF (aE 1 (aB 1 (aB 1 (aB 3 (aB 5 (bI (aE 1 (aB 1 (bI (bI (aB 1 (aE 1 (aB 5 dR))))))))))))) Q g w :=
 wD 5 (Yf _ g w kn hn h)
def IU (kn : K5) (bO mP cU tF gS : aLm) (w : aLl) : Prop :=
 aC pg (aH .add 3 aM aM tF gS) w fun n5 w =>
 kn bO mP cU n5 gS w
theorem X9 (kn : K5) (hn : N5 Q kn 1 4 5 6 11) (h : IU kn (g 1) (g 4) (g 5) (g 6) (g 11) w) : bH pg eF (aE 1 (aB 1 (aB 3 (aB 5 (bI (aE 1 (aB 1 (bI (bI (aB 1 (aE 1 (aB 5 dR)))))))))))) Q g w :=
 dP (kr := no) (l := []) h hn eU trivial
def IF (kn : K4) (bO mP cU tF gS : aLm) (w : aLl) : Prop :=
 IU (fun bO mP cU tF gS w => Ci kn bO mP cU tF gS w) bO mP cU tF gS w
def Bg (kn : K5) (k3 : K5) (bO mP cU tF gS : aLm) (w : aLl) : Prop :=
 aC pg (aL 145 bO 1) w fun m2 w =>
 aC pg (aI 77 m2) w fun m3 w =>
 aC pg (aH .add 3 aM aM tF (aLn 1)) w fun m5 w =>
 aC pg (aH .add 3 aM aM m5 gS) w fun m7 w =>
 aC pg (aY 77 m3 m7) w fun m8 w =>
 aC pg (aI 3 m8) w fun m9 w =>
 aC pg (aH .eql 3 (.tmp 89) (.const (aLn 0)) m9 (aLn 0)) w fun n0 w =>
 fE n0
  (aC pg (aH .add 3 aM aM gS (aLn 1)) w fun n2 w =>
  kn bO mP cU tF n2 w)
  (k3 bO mP cU tF gS w)
theorem V5 (kn : K5) (k3 : K5) (hn : N5 Q kn 1 4 5 6 11) (h3 : E5 Q k3 3 1 4 5 6 11) (h : Bg kn k3 (g 1) (g 4) (g 5) (g 6) (g 11) w) : bH pg eF (bI (bI (aE 1 (aB 3 (aB 5 (bI (aE 1 (aB 1 (bI (bI (aB 1 (aE 1 (aB 5 dR))))))))))))) Q g w :=
 dP (kr := no) (l := [(3, fun g w => k3 (g 1) (g 4) (g 5) (g 6) (g 11) w)]) h hn eU ⟨h3, trivial⟩
def A5 (k3 : K5) (bO mP cU tF gS : aLm) (w : aLl) : Prop :=
 cC (fun (X : aLm -> K0) (t : aLm) (w : aLl) => Bg (fun _ _ _ _ gS w => X gS w) k3 bO mP cU tF t w) gS w
theorem Ww (k3 : K5) (h3 : E5 Q k3 3 1 4 5 6 11) (h : A5 k3 (g 1) (g 4) (g 5) (g 6) (g 11) w) : bH pg eF (bI (aE 1 (aB 3 (aB 5 (bI (aE 1 (aB 1 (bI (bI (aB 1 (aE 1 (aB 5 dR)))))))))))) Q g w := by
 refine Cy (fun g : Env => g 11) (fun X t w => Bg (fun _ _ _ _ gS w => X gS w) k3 (g 1) (g 4) (g 5) (g 6) t w) h (fun X g1 w1 ha hL => ?_)
 rw [<- fL 1 ha, <- fL 4 ha, <- fL 5 ha, <- fL 6 ha] at hL
 exact (V5 _ g1 w1 (fun _ _ _ _ gS w => X gS w) k3 (fun _ _ h => h) h3 hL)
def Gt (kn : K5) (bO mP cU tF gS : aLm) (w : aLl) : Prop :=
 A5 kn bO mP cU tF gS w
def FV (kn : K4) (bO mP cU tF gS : aLm) (w : aLl) : Prop :=
 Gt (fun bO mP cU tF gS w => IF kn bO mP cU tF gS w) bO mP cU tF gS w
theorem Wc (kn : K5) (hn : N5 Q kn 1 4 5 6 11) (h : Gt kn (g 1) (g 4) (g 5) (g 6) (g 11) w) : bH pg eF (aE 1 (aB 3 (aB 5 (bI (aE 1 (aB 1 (bI (bI (aB 1 (aE 1 (aB 5 dR))))))))))) Q g w :=
 wD 3 (Ww _ g w kn hn h)
def Gb (kn : K5) (k1 : K4) (bO mP cU tF p_7 : aLm) (w : aLl) : Prop :=
 aR pg sY #[p_7] w fun l8 w =>
 aC pg (aH .sub 3 aM aM cU l8) w fun l9 w =>
 aC pg (aH .neq 3 (.tmp 80) (.const (aLn 0)) p_7 (aLn 0)) w fun m1 w =>
 fE m1
  (k1 bO mP l9 tF w)
  (kn bO mP l9 tF (aLn 0) w)
theorem Wt (kn : K5) (k1 : K4) (hn : N5 Q kn 1 4 5 6 11) (h1 : E4 Q k1 1 1 4 5 6) (h : Gb kn k1 (g 1) (g 4) (g 5) (g 6) (g 7) w) : bH pg eF (aE 3 (aB 5 (bI (aE 1 (aB 1 (bI (bI (aB 1 (aE 1 (aB 5 dR)))))))))) Q g w :=
 dP (kr := no) (l := [(1, fun g w => k1 (g 1) (g 4) (g 5) (g 6) w)]) h hn eU ⟨h1, trivial⟩
def FN (kn : K4) (k1 : K4) (bO mP cU tF p_7 : aLm) (w : aLl) : Prop :=
 Gb (fun bO mP cU tF gS w => FV kn bO mP cU tF gS w) k1 bO mP cU tF p_7 w
def A9 (kn : K5) (bO mP cU tF : aLm) (w : aLl) : Prop :=
 aC pg (aL 145 bO 1) w fun e2 w =>
 aC pg (aI 77 e2) w fun e3 w =>
 aC pg (aY 77 e3 tF) w fun e5 w =>
 aC pg (aI 3 e5) w fun e6 w =>
 aC pg (aH .add 3 aM aM cU (aLn 1)) w fun e8 w =>
 aC pg (gF 3 94 e8) w fun e9 w =>
 aR pg uF #[e9] w fun f0 w =>
 aC pg (aH .shl 3 aM aM (aLn 1) f0) w fun f2 w =>
 aC pg (aH .sub 3 aM aM f2 (aLn 2)) w fun f3 w =>
 aC pg (aH .sub 3 aM aM f3 cU) w fun f5 w =>
 aC pg (aH .add 3 aM aM e6 (aLn 1)) w fun f7 w =>
 aC pg (aH .lss 3 aM aM f7 f5) w fun i8 w =>
 fE i8
  (aC pg (gF 3 73 f7) w fun j1 w =>
  aC pg (aH .sub 3 aM aM f0 (aLn 1)) w fun j3 w =>
  aR pg fO #[mP, j1, j3] w fun j4 w =>
  kn bO mP cU tF e6 w)
  (aC pg (aH .sub 3 aM aM f0 (aLn 1)) w fun j8 w =>
  aC pg (aH .shl 3 aM aM (aLn 1) j8) w fun j9 w =>
  aC pg (aH .lss 3 aM aM f7 j9) w fun l0 w =>
  fE l0
   (aC pg (gF 3 73 f7) w fun l3 w =>
   aR pg fO #[mP, l3, f0] w fun l5 w =>
   kn bO mP cU tF e6 w)
   (aC pg (aH .add 3 aM aM f7 f5) w fun i1 w =>
   aC pg (gF 3 73 i1) w fun i2 w =>
   aR pg fO #[mP, i2, f0] w fun i4 w =>
   kn bO mP cU tF e6 w))
theorem Wd (kn : K5) (hn : N5 Q kn 1 4 5 6 7) (h : A9 kn (g 1) (g 4) (g 5) (g 6) w) : bH pg eF (aE 5 (bI (aE 1 (aB 1 (bI (bI (aB 1 (aE 1 (aB 5 dR))))))))) Q g w :=
 dP (kr := no) (l := []) h hn eU trivial
def PZ (kn : K4) (k1 : K4) (bO mP cU tF : aLm) (w : aLl) : Prop :=
 A9 (fun bO mP cU tF p_7 w => FN kn k1 bO mP cU tF p_7 w) bO mP cU tF w
def F5 (kn : K4) (bO mP cU tF : aLm) (w : aLl) : Prop :=
 PZ kn kn bO mP cU tF w
def FC (kn : K4) (bO mP cU tF : aLm) (w : aLl) : Prop :=
 F5 (fun bO mP cU tF w => zB kn bO mP cU tF w) bO mP cU tF w
theorem WK (kn : K4) (hn : N4 Q kn 1 4 5 6) (h : F5 kn (g 1) (g 4) (g 5) (g 6) w) : bH pg eF (aE 1 (aB 1 (bI (bI (aB 1 (aE 1 (aB 5 dR))))))) Q g w :=
 wD 1 (gC 5 (Wd _ g w (FN kn kn) (fun g w h => aJ (gC 3 (Wt _ g w (FV kn) kn (fun g w h => aJ (gC 1 (Wc _ g w (IF kn) (fun g w h => aJ (gC 1 (X9 _ g w (Ci kn) (fun g w h => aJ (gC 1 (Yw _ g w (B8 kn) (fun g w h => aJ (Zd _ g w kn hn h)) h))) h))) h))) hn h))) h))
def Fw (kn : K4) (k0 : K1) (bO mP cU tF : aLm) (w : aLl) : Prop :=
 aC pg (aL 145 bO 1) w fun d6 w =>
 aC pg (aI 77 d6) w fun d7 w =>
 aC pg (lF .len #[77] 3 [d7]) w fun d8 w =>
 aC pg (aH .lss 3 aM aM tF d8) w fun d9 w =>
 fE d9
  (kn bO mP cU tF w)
  (k0 mP w)
theorem WH (kn : K4) (k0 : K1) (hn : N4 Q kn 1 4 5 6) (h0 : E1 Q k0 0 4) (h : Fw kn k0 (g 1) (g 4) (g 5) (g 6) w) : bH pg eF (aE 1 (bI (bI (aB 1 (aE 1 (aB 5 dR)))))) Q g w :=
 dP (kr := no) (l := [(0, fun g w => k0 (g 4) w)]) h hn eU ⟨h0, trivial⟩
def Bd (kn : K4) (k0 : K1) (bO mP cU tF : aLm) (w : aLl) : Prop :=
 Fw (fun bO mP cU tF w => FC kn bO mP cU tF w) k0 bO mP cU tF w
def FL (k0 : K1) (bO mP cU tF : aLm) (w : aLl) : Prop :=
 cC (fun (X : (aLm × aLm) -> K0) (t : aLm × aLm) (w : aLl) => Bd (fun _ _ cU tF w => X (cU, tF) w) k0 bO mP t.1 t.2 w) (cU, tF) w
theorem Wu (kn : K4) (k0 : K1) (hn : N4 Q kn 1 4 5 6) (h0 : E1 Q k0 0 4) (h : Bd kn k0 (g 1) (g 4) (g 5) (g 6) w) : bH pg eF (bI (bI (aB 1 (aE 1 (aB 5 dR))))) Q g w :=
 gC 1 (WH _ g w (FC kn) k0 (fun g w h => aJ (gC 1 (WK _ g w (zB kn) (fun g w h => aJ (Yt _ g w kn hn h)) h))) h0 h)
theorem WJ (k0 : K1) (h0 : E1 Q k0 0 4) (h : FL k0 (g 1) (g 4) (g 5) (g 6) w) : bH pg eF (bI (aB 1 (aE 1 (aB 5 dR)))) Q g w := by
 refine Cy (fun g : Env => (g 5, g 6)) (fun X t w => Bd (fun _ _ cU tF w => X (cU, tF) w) k0 (g 1) (g 4) t.1 t.2 w) h (fun X g1 w1 ha hL => ?_)
 rw [<- fL 1 ha, <- fL 4 ha] at hL
 exact (Wu _ g1 w1 (fun _ _ cU tF w => X (cU, tF) w) k0 (fun _ _ h => h) h0 hL)
def F9 (kn : K1) (bO mP cU tF : aLm) (w : aLl) : Prop :=
 FL kn bO mP cU tF w
def FD (kn : K4) (bO mP cU : aLm) (w : aLl) : Prop :=
 kn bO mP cU (aLn 0) w
theorem V2 (kn : K4) (hn : N4 Q kn 1 4 5 6) (h : FD kn (g 1) (g 4) (g 5) w) : bH pg eF (aE 1 (aE 1 (aB 5 dR))) Q g w :=
 dP (kr := no) (l := []) h hn eU trivial
def FX (kn : K1) (bO mP cU : aLm) (w : aLl) : Prop :=
 FD (fun bO mP cU tF w => F9 kn bO mP cU tF w) bO mP cU w
def Ba (R : K1) (bO mP cU : aLm) (w : aLl) : Prop :=
 FX (fun mP w => yS R mP w) bO mP cU w
theorem Wy (kn : K1) (hn : N1 Q kn 4) (h : FX kn (g 1) (g 4) (g 5) w) : bH pg eF (aE 1 (aB 5 dR)) Q g w :=
 gC 1 (V2 _ g w (F9 kn) (fun g w h => aJ (wD 0 (WJ _ g w kn hn h))) h)
def FO (kn : K3) (R : K1) (c_0 : aLm) (w : aLl) : Prop :=
 aC pg (sU 145 c_0) w fun bO w =>
 aC pg (aI 145 bO) w fun c2 w =>
 aR pg EF #[c2] w fun c3 w =>
 aC pg (sUn .not c3) w fun c4 w =>
 fE c4
  (R (.tuple #[(.slice none 0 0), (aLn 1)]) w)
  (aR pg sS #[] w fun c5 w =>
  aC pg (aL 145 bO 0) w fun c7 w =>
  aC pg (aI 3 c7) w fun c8 w =>
  aC pg (aH .sub 3 aM aM c8 (aLn 5)) w fun c9 w =>
  aC pg (gF 3 73 c9) w fun d0 w =>
  aR pg fO #[c5, d0, (aLn 4)] w fun d1 w =>
  aC pg (aL 145 bO 0) w fun d2 w =>
  aC pg (aI 3 d2) w fun d3 w =>
  aC pg (aH .shl 3 aM aM (aLn 1) d3) w fun d4 w =>
  kn bO c5 d4 w)
theorem Wl (kn : K3) (R : K1) (hn : N3 Q kn 1 4 5) (hr : HR B5 R Q) (h : FO kn R (g 0) w) : bH pg eF (aE 5 dR) Q g w :=
 dP (l := []) h hn hr trivial
def Gn (R : K1) (c_0 : aLm) (w : aLl) : Prop :=
 FO (fun bO mP cU w => Ba R bO mP cU w) R c_0 w
theorem Wm (R : K1) (hr : HR B5 R Q) (h : Gn R (g 0) w) : bH pg eF dR Q g w :=
 gC 5 (Wl _ g w (Ba R) R (fun g w h => aJ (gC 1 (Wy _ g w (yS R) (fun g w h => aJ (XT _ g w R hr h)) h))) hr h)
def aaA (a0 : aLm) (w : aLl) (R : K1) : Prop :=
 Gn R a0 w
theorem aaK {a0 : aLm} {w : aLl} {R : K1} (h : aaA a0 w R) : aR pg Eu #[a0] w R := by
 refine tD (ann := eF) Tryd.f70 dR [a0] B5 108 TrydM.mixed Tryd.func70 ?_
 exact (Wm _ _ _ R (fun _ _ h => h) h)
def MJ : FA := ⟨sS, fun i => .leaf ([], []) []⟩
def Nj : List ResultVar := [.tmp 0]
noncomputable def Jp : Code := cX Tryd.f71
def Ae (R : K1)  (w : aLl) : Prop :=
 aC pg (bX 183 []) w fun b1 w =>
 aC pg (sU 183 b1) w fun b2 w =>
 R b2 w
theorem Vy (R : K1) (hr : HR Nj R Q) (h : Ae R w) : bH pg MJ Jp Q g w :=
 dP (kn := no) (l := []) h eU hr trivial
def LQ (w : aLl) (R : K1) : Prop :=
 Ae R w
theorem Jq {w : aLl} {R : K1} (h : LQ w R) : aR pg sS #[] w R := by
 refine tD (ann := MJ) Tryd.f71 Jp [] Nj 3 TrydM.mixed Tryd.func71 ?_
 exact (Vy _ _ _ R (fun _ _ h => h) h)
def sK : FA := ⟨Nu, fun i => .leaf ([], []) []⟩
def Bh : List ResultVar := [.tmp 4, .tmp 5]
noncomputable def qU : Code := cX Tryd.f72
def JH (R : K1)  (w : aLl) : Prop :=
 R (.tuple #[(aLn 0), (aLn 21)]) w
theorem anK (R : K1) (hr : HR Bh R Q) (h : JH R w) : bH pg sK (aB 1 (aB 1 qU)) Q g w :=
 dP (kn := no) (l := []) h eU hr trivial
def Kb (kn : K4) (k0 : K0) (R : K1) (lU b9 c0 c1 : aLm) (w : aLl) : Prop :=
 aC pg (aH .lss 3 aM aM c1 c0) w fun c2 w =>
 fE c2
  (aC pg (aY 25 b9 c1) w fun c4 w =>
  aC pg (aI 123 c4) w fun c5 w =>
  aC pg (bV 123) w fun rD w =>
  aC pg (aK 123 rD c5) w fun _u w =>
  aC pg (aL 123 rD 0) w fun c6 w =>
  aC pg (aI 5 c6) w fun c7 w =>
  aC pg (aH .eql 5 (.tmp 17) (.tmp 18) c7 lU) w fun c9 w =>
  fE c9
   (R (.tuple #[c1, (aLn 0)]) w)
   (aC pg (aH .add 3 aM aM c1 (aLn 1)) w fun d1 w =>
   kn lU b9 c0 d1 w))
  (k0 w)
theorem amC (kn : K4) (k0 : K0) (R : K1) (hn : N4 Q kn 1 9 10 11) (h0 : E0 Q k0 0) (hr : HR Bh R Q) (h : Kb kn k0 R (g 1) (g 9) (g 10) (g 11) w) : bH pg sK (bI (bI (aB 1 (aE 1 (aB 1 qU))))) Q g w :=
 dP (l := [(0, fun g w => k0 w)]) h hn hr ⟨h0, trivial⟩
def Q3 (k0 : K0) (R : K1) (lU b9 c0 c1 : aLm) (w : aLl) : Prop :=
 cC (fun (X : aLm -> K0) (t : aLm) (w : aLl) => Kb (fun _ _ _ c1 w => X c1 w) k0 R lU b9 c0 t w) c1 w
theorem amL (k0 : K0) (R : K1) (h0 : E0 Q k0 0) (hr : HR Bh R Q) (h : Q3 k0 R (g 1) (g 9) (g 10) (g 11) w) : bH pg sK (bI (aB 1 (aE 1 (aB 1 qU)))) Q g w := by
 refine Cy (fun g : Env => g 11) (fun X t w => Kb (fun _ _ _ c1 w => X c1 w) k0 R (g 1) (g 9) (g 10) t w) h (fun X g1 w1 ha hL => ?_)
 rw [<- fL 1 ha, <- fL 9 ha, <- fL 10 ha] at hL
 exact (amC _ g1 w1 (fun _ _ _ c1 w => X c1 w) k0 R (fun _ _ h => h) h0 hr hL)
def RJ (kn : K0) (R : K1) (lU b9 c0 c1 : aLm) (w : aLl) : Prop :=
 Q3 kn R lU b9 c0 c1 w
def Rb (kn : K4) (lU b2 : aLm) (w : aLl) : Prop :=
 aC pg (aL 27 b2 1) w fun b8 w =>
 aC pg (aI 25 b8) w fun b9 w =>
 aC pg (lF .len #[25] 3 [b9]) w fun c0 w =>
 kn lU b9 c0 (aLn 0) w
theorem amD (kn : K4) (hn : N4 Q kn 1 9 10 11) (h : Rb kn (g 1) (g 2) w) : bH pg sK (aE 1 (aE 1 (aB 1 qU))) Q g w :=
 dP (kr := no) (l := []) h hn eU trivial
def Ro (kn : K0) (R : K1) (lU b2 : aLm) (w : aLl) : Prop :=
 Rb (fun lU b9 c0 c1 w => RJ kn R lU b9 c0 c1 w) lU b2 w
def Rn (R : K1) (lU b2 : aLm) (w : aLl) : Prop :=
 Ro (fun  w => JH R w) R lU b2 w
theorem anC (kn : K0) (R : K1) (hn : N0 Q kn) (hr : HR Bh R Q) (h : Ro kn R (g 1) (g 2) w) : bH pg sK (aE 1 (aB 1 qU)) Q g w :=
 gC 1 (amD _ g w (RJ kn R) (fun g w h => aJ (wD 0 (amL _ g w kn R hn hr h))) h)
def Ru (kn : K2) (b0 lU : aLm) (w : aLl) : Prop :=
 aC pg (sU 27 b0) w fun b2 w =>
 kn lU b2 w
theorem amS (kn : K2) (hn : N2 Q kn 1 2) (h : Ru kn (g 0) (g 1) w) : bH pg sK (aE 1 qU) Q g w :=
 dP (kr := no) (l := []) h hn eU trivial
def R4 (R : K1) (b0 lU : aLm) (w : aLl) : Prop :=
 Ru (fun lU b2 w => Rn R lU b2 w) b0 lU w
theorem alC (R : K1) (hr : HR Bh R Q) (h : R4 R (g 0) (g 1) w) : bH pg sK qU Q g w :=
 gC 1 (amS _ g w (Rn R) (fun g w h => aJ (gC 1 (anC _ g w (fun  w => JH R w) R (fun g w h => aJ (anK _ g w R hr h)) hr h))) h)
def auS (a0 a1 : aLm) (w : aLl) (R : K1) : Prop :=
 R4 R a0 a1 w
theorem aqC {a0 a1 : aLm} {w : aLl} {R : K1} (h : auS a0 a1 w R) : aR pg Nu #[a0, a1] w R := by
 refine tD (ann := sK) Tryd.f72 qU [a0, a1] Bh 22 TrydM.mixed Tryd.func72 ?_
 exact (alC _ _ _ R (fun _ _ h => h) h)
def qR : FA := ⟨J2, fun i => match Nat.beq i 8 with | true => .leaf ([], []) [(false, []), (false, []), (false, []), (false, []), (false, []), (false, []), (false, []), (false, []), (false, [])] | false => .leaf ([], []) []⟩
def vT : List ResultVar := [.tmp 6, .tmp 7, .tmp 8, .tmp 9]
noncomputable def pL : Code := cX Tryd.f73
def G5 (R : K1)  (w : aLl) : Prop :=
 R (.tuple #[(aLn 0), (.int .u64 0), (aLn 0), (aLn 21)]) w
theorem aeV (R : K1) (hr : HR vT R Q) (h : G5 R w) : bH pg qR (aB 1 (aB 2 pL)) Q g w :=
 dP (kn := no) (l := []) h eU hr trivial
def GV (kn : K5) (k0 : K0) (R : K1) (jD lS d3 d4 d5 : aLm) (w : aLl) : Prop :=
 aC pg (aH .lss 3 aM aM d5 d4) w fun d6 w =>
 fE d6
  (aC pg (aY 25 d3 d5) w fun d8 w =>
  aC pg (aI 123 d8) w fun d9 w =>
  aC pg (bV 123) w fun aE4 w =>
  aC pg (aK 123 aE4 d9) w fun _u w =>
  aC pg (aL 123 aE4 2) w fun e1 w =>
  aC pg (aI 3 e1) w fun e2 w =>
  aC pg (aH .sub 3 aM aM jD e2) w fun e3 w =>
  aC pg (aL 123 aE4 0) w fun e4 w =>
  aC pg (aI 5 e4) w fun e5 w =>
  aC pg (aH .eql 5 (.tmp 35) (.tmp 36) e5 lS) w fun e7 w =>
  Gd (eZ e7 true) (fun K => K e3 w) w fun e9 w =>
  Gd (eZ e7 true) (fun K => aC pg (aH .geq 3 aM aM e9 (aLn 0)) w K) w fun f0 w =>
  aC pg (fV e7 f0 (.bool false)) w fun f1 w =>
  Gd (eZ f1 true) (fun K => K e3 w) w fun f3 w =>
  Gd (eZ f1 true) (fun K => aC pg (aL 123 aE4 1) w K) w fun f4 w =>
  Gd (eZ f1 true) (fun K => aC pg (aI 3 f4) w K) w fun f5 w =>
  Gd (eZ f1 true) (fun K => aC pg (aH .shl 3 aM aM (aLn 1) f5) w K) w fun f6 w =>
  Gd (eZ f1 true) (fun K => aC pg (aH .lss 3 aM aM f3 f6) w K) w fun f7 w =>
  aC pg (fV f1 f7 (.bool false)) w fun f8 w =>
  fE f8
   ((dr w) = (dr w) /\
   (dr w) = (dr w) /\
   aC pg (gF 3 73 e3) (dr w) fun i1 w_ => w_ = (dr w) /\
   aC pg (aL 123 aE4 1) (dr w) fun i2 w_ => w_ = (dr w) /\
   aC pg (aI 3 i2) (dr w) fun i3 w_ => w_ = (dr w) /\
   (dr w) = (dr w) /\
   (dr w) = (dr w) /\
   (dr w) = (dr w) /\
   (dr w) = (dr w) /\
   R (.tuple #[d5, i1, i3, (aLn 0)]) (dr w))
   (aC pg (aH .add 3 aM aM d5 (aLn 1)) w fun i4 w =>
   kn jD lS d3 d4 i4 w))
  (k0 w)
theorem ajQ (kn : K5) (k0 : K0) (R : K1) (hn : N5 Q kn 1 2 23 24 25) (h0 : E0 Q k0 0) (hr : HR vT R Q) (h : GV kn k0 R (g 1) (g 2) (g 23) (g 24) (g 25) w) : bH pg qR (bI (bI (aB 1 (aE 1 (aB 2 pL))))) Q g w :=
 dP (l := [(0, fun g w => k0 w)]) h hn hr ⟨h0, trivial⟩
def O3 (k0 : K0) (R : K1) (jD lS d3 d4 d5 : aLm) (w : aLl) : Prop :=
 cC (fun (X : aLm -> K0) (t : aLm) (w : aLl) => GV (fun _ _ _ _ d5 w => X d5 w) k0 R jD lS d3 d4 t w) d5 w
theorem aiA (k0 : K0) (R : K1) (h0 : E0 Q k0 0) (hr : HR vT R Q) (h : O3 k0 R (g 1) (g 2) (g 23) (g 24) (g 25) w) : bH pg qR (bI (aB 1 (aE 1 (aB 2 pL)))) Q g w := by
 refine Cy (fun g : Env => g 25) (fun X t w => GV (fun _ _ _ _ d5 w => X d5 w) k0 R (g 1) (g 2) (g 23) (g 24) t w) h (fun X g1 w1 ha hL => ?_)
 rw [<- fL 1 ha, <- fL 2 ha, <- fL 23 ha, <- fL 24 ha] at hL
 exact (ajQ _ g1 w1 (fun _ _ _ _ d5 w => X d5 w) k0 R (fun _ _ h => h) h0 hr hL)
def OC (kn : K0) (R : K1) (jD lS d3 d4 d5 : aLm) (w : aLl) : Prop :=
 O3 kn R jD lS d3 d4 d5 w
def Pc (kn : K5) (jD lS b3 : aLm) (w : aLl) : Prop :=
 aC pg (aL 27 b3 1) w fun d2 w =>
 aC pg (aI 25 d2) w fun d3 w =>
 aC pg (lF .len #[25] 3 [d3]) w fun d4 w =>
 kn jD lS d3 d4 (aLn 0) w
theorem aeA (kn : K5) (hn : N5 Q kn 1 2 23 24 25) (h : Pc kn (g 1) (g 2) (g 3) w) : bH pg qR (aE 1 (aE 1 (aB 2 pL))) Q g w :=
 dP (kr := no) (l := []) h hn eU trivial
def Pn (kn : K0) (R : K1) (jD lS b3 : aLm) (w : aLl) : Prop :=
 Pc (fun jD lS d3 d4 d5 w => OC kn R jD lS d3 d4 d5 w) jD lS b3 w
def PE (R : K1) (jD lS b3 : aLm) (w : aLl) : Prop :=
 Pn (fun  w => G5 R w) R jD lS b3 w
theorem aiR (kn : K0) (R : K1) (hn : N0 Q kn) (hr : HR vT R Q) (h : Pn kn R (g 1) (g 2) (g 3) w) : bH pg qR (aE 1 (aB 2 pL)) Q g w :=
 gC 1 (aeA _ g w (OC kn R) (fun g w h => aJ (wD 0 (aiA _ g w kn R hn hr h))) h)
def Oh (kn : K3) (R : K1) (b0 jD lS : aLm) (w : aLl) : Prop :=
 aC pg (sU 27 b0) w fun b3 w =>
 aC pg (aH .lss 3 aM aM jD (aLn 0)) w fun c4 w =>
 Gd (eZ c4 false) (fun K => K jD w) w fun c6 w =>
 Gd (eZ c4 false) (fun K => aC pg (aL 27 b3 1) w K) w fun c7 w =>
 Gd (eZ c4 false) (fun K => aC pg (aI 25 c7) w K) w fun c8 w =>
 Gd (eZ c4 false) (fun K => aC pg (lF .len #[25] 3 [c8]) w K) w fun c9 w =>
 Gd (eZ c4 false) (fun K => aC pg (aH .geq 3 aM aM c6 c9) w K) w fun d0 w =>
 aC pg (fV c4 (.bool true) d0) w fun d1 w =>
 fE d1
  (R (.tuple #[(aLn 0), (.int .u64 0), (aLn 0), (aLn 1)]) w)
  (kn jD lS b3 w)
theorem ahB (kn : K3) (R : K1) (hn : N3 Q kn 1 2 3) (hr : HR vT R Q) (h : Oh kn R (g 0) (g 1) (g 2) w) : bH pg qR (aE 2 pL) Q g w :=
 dP (l := []) h hn hr trivial
def NL (R : K1) (b0 jD lS : aLm) (w : aLl) : Prop :=
 Oh (fun jD lS b3 w => PE R jD lS b3 w) R b0 jD lS w
theorem aeX (R : K1) (hr : HR vT R Q) (h : NL R (g 0) (g 1) (g 2) w) : bH pg qR pL Q g w :=
 gC 2 (ahB _ g w (PE R) R (fun g w h => aJ (gC 1 (aiR _ g w (fun  w => G5 R w) R (fun g w h => aJ (aeV _ g w R hr h)) hr h))) hr h)
def apM (a0 a1 a2 : aLm) (w : aLl) (R : K1) : Prop :=
 NL R a0 a1 a2 w
theorem amW {a0 a1 a2 : aLm} {w : aLl} {R : K1} (h : apM a0 a1 a2 w R) : aR pg J2 #[a0, a1, a2] w R := by
 refine tD (ann := qR) Tryd.f73 pL [a0, a1, a2] vT 55 TrydM.mixed Tryd.func73 ?_
 exact (aeX _ _ _ R (fun _ _ h => h) h)
def iA : FA := ⟨fO, fun i => match Nat.beq i 6 with | true => .leaf ([25], []) [(false, []), (false, []), (false, []), (false, []), (false, []), (false, []), (false, []), (false, []), (false, []), (false, []), (false, []), (false, []), (false, []), (false, []), (false, []), (false, []), (false, []), (false, []), (false, []), (false, []), (false, []), (false, []), (false, []), (false, []), (false, []), (true, [])] | false => .leaf ([], []) []⟩
def A0 : List ResultVar := []
noncomputable def gP : Code := cX Tryd.f74
def qX (kn : K4) (xH Fi c7 c8 : aLm) (w : aLl) : Prop :=
 aC pg (aH .add 3 aM aM c8 (aLn 1)) w fun j8 w =>
 kn xH Fi c7 j8 w
theorem PK (kn : K4) (hn : N4 Q kn 0 1 17 18) (h : qX kn (g 0) (g 1) (g 17) (g 18) w) : bH pg iA (aB 1 (aB 2 (bI (bI (aB 2 gP))))) Q g w :=
 dP (kr := no) (l := []) h hn eU trivial
def mI (kn : K4) (xH Fi tF c7 c8 : aLm) (w : aLl) : Prop :=
 (dr w) = (dr w) /\
 aC pg (sQ xH) (dr w) fun e7 w_ => w_ = (dr w) /\
 aC pg (aL 183 e7 0) (dr w) fun e8 w_ => w_ = (dr w) /\
 aC pg (aI 22 e8) (dr w) fun e9 w_ => w_ = (dr w) /\
 (dr w) = (dr w) /\
 aC pg (sQ xH) (dr w) fun f1 w_ => w_ = (dr w) /\
 aC pg (aL 183 f1 1) (dr w) fun f2 w_ => w_ = (dr w) /\
 aC pg (aI 3 f2) (dr w) fun f3 w_ => w_ = (dr w) /\
 aC pg (aH .quo 3 aM aM f3 (aLn 8)) (dr w) fun f4 w_ => w_ = (dr w) /\
 aC pg (aY 22 e9 f4) (dr w) fun f5 w_ => w_ = (dr w) /\
 aC pg (aI 5 f5) (dr w) fun f6 w_ => w_ = (dr w) /\
 (dr w) = (dr w) /\
 (dr w) = (dr w) /\
 aC pg (gF 3 94 tF) (dr w) fun f9 w_ => w_ = (dr w) /\
 aC pg (aH .shr 73 aM aM Fi f9) (dr w) fun i0 w_ => w_ = (dr w) /\
 aC pg (aH .and 73 aM aM i0 (.int .u64 1)) (dr w) fun i1 w_ => w_ = (dr w) /\
 aC pg (gF 73 5 i1) (dr w) fun i2 w_ => w_ = (dr w) /\
 (dr w) = (dr w) /\
 aC pg (sQ xH) (dr w) fun i4 w_ => w_ = (dr w) /\
 aC pg (aL 183 i4 1) (dr w) fun i5 w_ => w_ = (dr w) /\
 aC pg (aI 3 i5) (dr w) fun i6 w_ => w_ = (dr w) /\
 aC pg (aH .rem 3 aM aM i6 (aLn 8)) (dr w) fun i7 w_ => w_ = (dr w) /\
 aC pg (aH .shl 5 aM aM i2 i7) (dr w) fun i8 w_ => w_ = (dr w) /\
 aC pg (aH .or 5 aM aM f6 i8) (dr w) fun i9 w_ => w_ = (dr w) /\
 aC pg (aY 22 e9 f4) (dr w) fun j0 w_ => w_ = (dr w) /\
 aC pg (aK 5 j0 i9) (dr w) fun _u25 aIp =>
 aC pg (sQ xH) aIp fun j2 w =>
 aC pg (aL 183 j2 1) w fun j3 w =>
 aC pg (aI 3 j3) w fun j4 w =>
 aC pg (aH .add 3 aM aM j4 (aLn 1)) w fun j5 w =>
 aC pg (sQ xH) w fun j6 w =>
 aC pg (aL 183 j6 1) w fun j7 w =>
 aC pg (aK 3 j7 j5) w fun _u w =>
 kn xH Fi c7 c8 w
theorem QO (kn : K4) (hn : N4 Q kn 0 1 17 18) (h : mI kn (g 0) (g 1) (g 6) (g 17) (g 18) w) : bH pg iA (aB 2 (bI (aE 1 (aB 2 (bI (bI (aB 2 gP))))))) Q g w :=
 dP (kr := no) (l := []) h hn eU trivial
def uY (kn : K5) (xH Fi c7 c8 : aLm) (w : aLl) : Prop :=
 aC pg (sQ xH) w fun d2 w =>
 aC pg (aL 183 d2 1) w fun d3 w =>
 aC pg (aI 3 d3) w fun d4 w =>
 aC pg (aH .rem 3 aM aM d4 (aLn 8)) w fun d5 w =>
 aC pg (aH .eql 3 (.tmp 25) (.const (aLn 0)) d5 (aLn 0)) w fun d6 w =>
 fE d6
  (aC pg (sQ xH) w fun d9 w =>
  aC pg (aL 183 d9 0) w fun e0 w =>
  aC pg (aI 22 e0) w fun e1 w =>
  aC pg (cD 22 1 [(0, (.int .u8 0))]) w fun e2 w =>
  aC pg (lF .append #[22, 22] 22 [e1, e2]) w fun e3 w =>
  aC pg (sQ xH) w fun e4 w =>
  aC pg (aL 183 e4 0) w fun e5 w =>
  aC pg (aK 22 e5 e3) w fun _u w =>
  kn xH Fi c8 c7 c8 w)
  (kn xH Fi c8 c7 c8 w)
theorem P5 (kn : K5) (hn : N5 Q kn 0 1 6 17 18) (h : uY kn (g 0) (g 1) (g 17) (g 18) w) : bH pg iA (aE 2 (bI (aE 1 (aB 2 (bI (bI (aB 2 gP))))))) Q g w :=
 dP (kr := no) (l := []) h hn eU trivial
def qO (kn : K4) (xH Fi c7 c8 : aLm) (w : aLl) : Prop :=
 uY (fun xH Fi tF c7 c8 w => mI kn xH Fi tF c7 c8 w) xH Fi c7 c8 w
def uR (kn : K4) (xH Fi c7 c8 : aLm) (w : aLl) : Prop :=
 qO kn xH Fi c7 c8 w
def uP (kn : K4) (xH Fi c7 c8 : aLm) (w : aLl) : Prop :=
 uR (fun xH Fi c7 c8 w => qX kn xH Fi c7 c8 w) xH Fi c7 c8 w
theorem Ql (kn : K4) (hn : N4 Q kn 0 1 17 18) (h : uR kn (g 0) (g 1) (g 17) (g 18) w) : bH pg iA (aE 1 (aB 2 (bI (bI (aB 2 gP))))) Q g w :=
 wD 1 (gC 2 (P5 _ g w (mI kn) (fun g w h => aJ (QO _ g w kn hn h)) h))
def uW (kn : K4) (k0 : K0) (xH Fi c7 c8 : aLm) (w : aLl) : Prop :=
 aC pg (aH .lss 3 aM aM c8 c7) w fun c9 w =>
 fE c9
  (kn xH Fi c7 c8 w)
  (k0 w)
theorem P8 (kn : K4) (k0 : K0) (hn : N4 Q kn 0 1 17 18) (h0 : E0 Q k0 0) (h : uW kn k0 (g 0) (g 1) (g 17) (g 18) w) : bH pg iA (aE 2 (bI (bI (aB 2 gP)))) Q g w :=
 dP (kr := no) (l := [(0, fun g w => k0 w)]) h hn eU ⟨h0, trivial⟩
def rA (kn : K4) (k0 : K0) (xH Fi c7 c8 : aLm) (w : aLl) : Prop :=
 uW (fun xH Fi c7 c8 w => uP kn xH Fi c7 c8 w) k0 xH Fi c7 c8 w
def uI (k0 : K0) (xH Fi c7 c8 : aLm) (w : aLl) : Prop :=
 cC (fun (X : aLm -> K0) (t : aLm) (w : aLl) => rA (fun _ _ _ c8 w => X c8 w) k0 xH Fi c7 t w) c8 w
theorem PT (kn : K4) (k0 : K0) (hn : N4 Q kn 0 1 17 18) (h0 : E0 Q k0 0) (h : rA kn k0 (g 0) (g 1) (g 17) (g 18) w) : bH pg iA (bI (bI (aB 2 gP))) Q g w :=
 gC 2 (P8 _ g w (uP kn) k0 (fun g w h => aJ (gC 1 (Ql _ g w (qX kn) (fun g w h => aJ (PK _ g w kn hn h)) h))) h0 h)
theorem Qy (k0 : K0) (h0 : E0 Q k0 0) (h : uI k0 (g 0) (g 1) (g 17) (g 18) w) : bH pg iA (bI (aB 2 gP)) Q g w := by
 refine Cy (fun g : Env => g 18) (fun X t w => rA (fun _ _ _ c8 w => X c8 w) k0 (g 0) (g 1) (g 17) t w) h (fun X g1 w1 ha hL => ?_)
 rw [<- fL 0 ha, <- fL 1 ha, <- fL 17 ha] at hL
 exact (PT _ g1 w1 (fun _ _ _ c8 w => X c8 w) k0 (fun _ _ h => h) h0 hL)
def tV (kn : K0) (xH Fi c7 c8 : aLm) (w : aLl) : Prop :=
 uI kn xH Fi c7 c8 w
def tT (kn : K4) (R : K1) (xH Fi BZ : aLm) (w : aLl) : Prop :=
 aC pg (aH .eql 151 (.tmp 7) (.const (.pointer none)) xH (.pointer none)) w fun b8 w =>
 Gd (eZ b8 false) (fun K => K BZ w) w fun c0 w =>
 Gd (eZ b8 false) (fun K => aC pg (aH .lss 3 aM aM c0 (aLn 1)) w K) w fun c1 w =>
 aC pg (fV b8 (.bool true) c1) w fun c2 w =>
 Gd (eZ c2 false) (fun K => K BZ w) w fun c4 w =>
 Gd (eZ c2 false) (fun K => aC pg (aH .gtr 3 aM aM c4 (aLn 56)) w K) w fun c5 w =>
 aC pg (fV c2 (.bool true) c5) w fun c6 w =>
 fE c6
  (R (.tuple #[]) w)
  (kn xH Fi BZ (aLn 0) w)
theorem OW (kn : K4) (R : K1) (hn : N4 Q kn 0 1 17 18) (hr : HR A0 R Q) (h : tT kn R (g 0) (g 1) (g 2) w) : bH pg iA (aE 2 gP) Q g w :=
 dP (l := []) h hn hr trivial
def tU (kn : K0) (R : K1) (xH Fi BZ : aLm) (w : aLl) : Prop :=
 tT (fun xH Fi c7 c8 w => tV kn xH Fi c7 c8 w) R xH Fi BZ w
theorem Oj (kn : K0) (R : K1) (hn : N0 Q kn) (hr : HR A0 R Q) (h : tU kn R (g 0) (g 1) (g 2) w) : bH pg iA gP Q g w :=
 gC 2 (OW _ g w (tV kn) R (fun g w h => aJ (wD 0 (Qy _ g w kn hn h))) hr h)
def DU (a0 a1 a2 : aLm) (w : aLl) (R : K1) : Prop :=
 tU (fun  w => R (.tuple #[]) w) R a0 a1 a2 w
theorem EV {a0 a1 a2 : aLm} {w : aLl} {R : K1} (h : DU a0 a1 a2 w R) : aR pg fO #[a0, a1, a2] w R := by
 refine tD (ann := iA) Tryd.f74 gP [a0, a1, a2] A0 69 TrydM.mixed Tryd.func74 ?_
 exact (Oj _ _ _ (fun  w => R (.tuple #[]) w) R (fun _ _ h => h) (fun _ _ h => h) h)
def Dv : FA := ⟨uM, fun i => match Nat.beq i 3 with | true => .leaf ([4, 10], [(4, 6), (4, 7), (4, 8)]) [(false, []), (false, []), (false, []), (false, []), (true, []), (false, []), (false, [1]), (false, [2]), (false, [3]), (false, []), (true, []), (false, [])] | false => .leaf ([], []) []⟩
def Fv : List ResultVar := [.tmp 2]
noncomputable def Dp : Code := cX Tryd.f75
def zL (R : K1) (xH : aLm) (w : aLl) : Prop :=
 aC pg (aH .eql 151 (.tmp 4) (.const (.pointer none)) xH (.pointer none)) w fun b5 w =>
 fE b5
  (R (.slice none 0 0) w)
  ((dr w) = (dr w) /\
  aC pg (sQ xH) (dr w) fun b7 w_ => w_ = (dr w) /\
  aC pg (aL 183 b7 0) (dr w) fun b8 w_ => w_ = (dr w) /\
  aC pg (aI 22 b8) (dr w) fun b9 w_ => w_ = (dr w) /\
  aR pg kA #[b9] (dr w) fun c0 U4 =>
  U4 = U4 /\
  aC pg (sQ xH) U4 fun c2 w_ => w_ = U4 /\
  (dS pg (sQ xH) c2 (dr w) /\ True) /\
  aC pg (aL 183 c2 1) U4 fun c3 w_ => w_ = U4 /\
  (dS pg (aL 183 c2 1) c3 (dr w) /\ True) /\
  aC pg (aI 3 c3) U4 fun c4 w_ => w_ = U4 /\
  (dS pg (aI 3 c3) c4 (dr w) /\ True) /\
  aC pg (bX 183 [(0, c0), (1, c4)]) U4 fun c5 w_ => w_ = U4 /\
  aC pg (sU 183 c5) U4 fun c6 aFc =>
  aFc = aFc /\
  aR pg fO #[c6, (.int .u64 1), (aLn 1)] aFc fun c8 w =>
  aC pg (sQ c6) w fun d0 w =>
  aC pg (aL 183 d0 0) w fun d1 w =>
  aC pg (aI 22 d1) w fun d2 w =>
  R d2 w)
theorem Po (R : K1) (hr : HR Fv R Q) (h : zL R (g 0) w) : bH pg Dv Dp Q g w :=
 dP (kn := no) (l := []) h eU hr trivial
def MW (a0 : aLm) (w : aLl) (R : K1) : Prop :=
 zL R a0 w
theorem QC {a0 : aLm} {w : aLl} {R : K1} (h : MW a0 w R) : aR pg uM #[a0] w R := by
 refine tD (ann := Dv) Tryd.f75 Dp [a0] Fv 23 TrydM.mixed Tryd.func75 ?_
 exact (Po _ _ _ R (fun _ _ h => h) h)
def mN : FA := ⟨Gw, fun i => match Nat.beq i 25 with | true => .leaf ([2, 3], [(0, 2)]) [(false, []), (false, []), (true, [1]), (true, []), (false, []), (false, [])] | false => .leaf ([], []) []⟩
def pC : List ResultVar := [.cell 6 145, .tmp 7, .tmp 8]
noncomputable def lM : Code := cX Tryd.f76
def Ee (R : K1) (b6 mA dW : aLm) (w : aLl) : Prop :=
 aC pg (aI 145 dW) (dr w) fun o1 w_ => w_ = (dr w) /\
 (dr w) = (dr w) /\
 aR pg wB #[mA] (dr w) fun o3 aGG =>
 (dS pg (aI 145 dW) o1 aGG /\ True) /\
 aC pg (aK 145 b6 o1) aGG fun _u3 auX =>
 auX = auX /\
 auX = auX /\
 mW pg 145 b6 auX fun r0 => R (.tuple #[r0, o3, (aLn 0)]) auX
theorem acY (R : K1) (hr : HR pC R Q) (h : Ee R (g 6) (g 9) (g 12) w) : bH pg mN (aB 1 (aB 7 lM)) Q g w :=
 dP (kn := no) (l := []) h eU hr trivial
def Aw (kn : K5) (R : K1) (aO b6 mA dW aX : aLm) (w : aLl) : Prop :=
 aC pg (aL 145 dW 1) w fun n1 w =>
 aC pg (aI 77 n1) w fun n2 w =>
 aC pg (lF .len #[77] 3 [n2]) w fun n3 w =>
 aC pg (aH .gtr 3 aM aM n3 aO) w fun n5 w =>
 Gd (eZ n5 false) (fun K => K aX w) w fun n7 w =>
 Gd (eZ n5 false) (fun K => aC pg (aH .lss 3 aM aM n7 (aLn 0)) w K) w fun n8 w =>
 aC pg (fV n5 (.bool true) n8) w fun n9 w =>
 fE n9
  (aC pg (bX 145 []) w fun o0 w =>
  aC pg (aK 145 b6 o0) w fun _u w =>
  mW pg 145 b6 w fun r0 => R (.tuple #[r0, (aLn 0), (aLn 11)]) w)
  (kn aO b6 mA dW aX w)
theorem Zn (kn : K5) (R : K1) (hn : N5 Q kn 2 6 9 12 13) (hr : HR pC R Q) (h : Aw kn R (g 2) (g 6) (g 9) (g 12) (g 13) w) : bH pg mN (aB 6 (bI (aB 1 (bI (bI (aE 1 (aB 7 lM))))))) Q g w :=
 dP (l := []) h hn hr trivial
def KL (kn : K5) (R : K1) (aO b6 mA dW aX : aLm) (w : aLl) : Prop :=
 aR pg DQ #[mA, aX] w fun i2 w =>
 aC pg (bD i2 0) w fun i3 w =>
 aC pg (bD i2 1) w fun i4 w =>
 aC pg (aH .neq 30 (.tmp 55) (.const (aLn 0)) i4 (aLn 0)) w fun i6 w =>
 fE i6
  (aC pg (bX 145 []) w fun i7 w =>
  aC pg (aK 145 b6 i7) w fun _u w =>
  mW pg 145 b6 w fun r0 => R (.tuple #[r0, (aLn 0), i4]) w)
  (aC pg (aH .sub 3 aM aM i3 (aLn 1)) w fun j0 w =>
  aR pg sY #[j0] w fun j3 w =>
  aC pg (aH .sub 3 aM aM aX j3) w fun j4 w =>
  aC pg (aL 145 dW 1) w fun j5 w =>
  aC pg (aI 77 j5) w fun j6 w =>
  aC pg (cD 77 1 [(0, j0)]) w fun j8 w =>
  aC pg (lF .append #[77, 77] 77 [j6, j8]) w fun j9 w =>
  aC pg (aL 145 dW 1) w fun l0 w =>
  aC pg (aK 77 l0 j9) w fun _u w =>
  aC pg (aH .eql 3 (.tmp 71) (.const (aLn 0)) j0 (aLn 0)) w fun l2 w =>
  fE l2
   (aR pg Bk #[mA] w fun l5 w =>
   aC pg (bD l5 0) w fun l6 w =>
   aC pg (bD l5 1) w fun l7 w =>
   aC pg (aH .neq 30 (.tmp 78) (.const (aLn 0)) l7 (aLn 0)) w fun l9 w =>
   fE l9
    (aC pg (bX 145 []) w fun m0 w =>
    aC pg (aK 145 b6 m0) w fun _u w =>
    mW pg 145 b6 w fun r0 => R (.tuple #[r0, (aLn 0), l7]) w)
    (aC pg (aH .gtr 3 aM aM l6 aO) w fun m4 w =>
    fE m4
     (aC pg (bX 145 []) w fun m5 w =>
     aC pg (aK 145 b6 m5) w fun _u w =>
     mW pg 145 b6 w fun r0 => R (.tuple #[r0, (aLn 0), (aLn 11)]) w)
     (aC pg (aL 145 dW 1) w fun m6 w =>
     aC pg (aI 77 m6) w fun m7 w =>
     aC pg (lF .append #[77, 3] 77 [m7, l6]) w fun m9 w =>
     aC pg (aL 145 dW 1) w fun n0 w =>
     aC pg (aK 77 n0 m9) w fun _u w =>
     kn aO b6 mA dW j4 w)))
   (kn aO b6 mA dW j4 w))
theorem Zt (kn : K5) (R : K1) (hn : N5 Q kn 2 6 9 12 13) (hr : HR pC R Q) (h : KL kn R (g 2) (g 6) (g 9) (g 12) (g 13) w) : bH pg mN (aE 6 (bI (aB 1 (bI (bI (aE 1 (aB 7 lM))))))) Q g w :=
 dP (l := []) h hn hr trivial
def T1 (kn : K5) (R : K1) (aO b6 mA dW aX : aLm) (w : aLl) : Prop :=
 KL (fun aO b6 mA dW aX w => Aw kn R aO b6 mA dW aX w) R aO b6 mA dW aX w
def Lh (kn : K5) (R : K1) (aO b6 mA dW aX : aLm) (w : aLl) : Prop :=
 T1 kn R aO b6 mA dW aX w
def KV (kn : K5) (k0 : K3) (aO b6 mA dW aX : aLm) (w : aLl) : Prop :=
 aC pg (aH .gtr 3 aM aM aX (aLn 0)) w fun f8 w =>
 fE f8
  (kn aO b6 mA dW aX w)
  (k0 b6 mA dW w)
theorem ZE (kn : K5) (k0 : K3) (hn : N5 Q kn 2 6 9 12 13) (h0 : E3 Q k0 0 6 9 12) (h : KV kn k0 (g 2) (g 6) (g 9) (g 12) (g 13) w) : bH pg mN (aE 1 (bI (bI (aE 1 (aB 7 lM))))) Q g w :=
 dP (kr := no) (l := [(0, fun g w => k0 (g 6) (g 9) (g 12) w)]) h hn eU ⟨h0, trivial⟩
def DY (kn : K5) (k0 : K3) (R : K1) (aO b6 mA dW aX : aLm) (w : aLl) : Prop :=
 KV (fun aO b6 mA dW aX w => Lh kn R aO b6 mA dW aX w) k0 aO b6 mA dW aX w
def ME (k0 : K3) (R : K1) (aO b6 mA dW aX : aLm) (w : aLl) : Prop :=
 cC (fun (X : aLm -> K0) (t : aLm) (w : aLl) => DY (fun _ _ _ _ aX w => X aX w) k0 R aO b6 mA dW t w) aX w
theorem abJ (kn : K5) (k0 : K3) (R : K1) (hn : N5 Q kn 2 6 9 12 13) (h0 : E3 Q k0 0 6 9 12) (hr : HR pC R Q) (h : DY kn k0 R (g 2) (g 6) (g 9) (g 12) (g 13) w) : bH pg mN (bI (bI (aE 1 (aB 7 lM)))) Q g w :=
 gC 1 (ZE _ g w (Lh kn R) k0 (fun g w h => aJ (wD 1 (gC 6 (Zt _ g w (Aw kn R) R (fun g w h => aJ (Zn _ g w kn R hn hr h)) hr h)))) h0 h)
theorem ZC (k0 : K3) (R : K1) (h0 : E3 Q k0 0 6 9 12) (hr : HR pC R Q) (h : ME k0 R (g 2) (g 6) (g 9) (g 12) (g 13) w) : bH pg mN (bI (aE 1 (aB 7 lM))) Q g w := by
 refine Cy (fun g : Env => g 13) (fun X t w => DY (fun _ _ _ _ aX w => X aX w) k0 R (g 2) (g 6) (g 9) (g 12) t w) h (fun X g1 w1 ha hL => ?_)
 rw [<- fL 2 ha, <- fL 6 ha, <- fL 9 ha, <- fL 12 ha] at hL
 exact (abJ _ g1 w1 (fun _ _ _ _ aX w => X aX w) k0 R (fun _ _ h => h) h0 hr hL)
def LZ (kn : K3) (R : K1) (aO b6 mA dW aX : aLm) (w : aLl) : Prop :=
 ME kn R aO b6 mA dW aX w
def Ch (R : K1) (aO b6 mA dW aX : aLm) (w : aLl) : Prop :=
 LZ (fun b6 mA dW w => Ee R b6 mA dW w) R aO b6 mA dW aX w
theorem abF (kn : K3) (R : K1) (hn : N3 Q kn 6 9 12) (hr : HR pC R Q) (h : LZ kn R (g 2) (g 6) (g 9) (g 12) (g 13) w) : bH pg mN (aE 1 (aB 7 lM)) Q g w :=
 wD 0 (ZC _ g w kn R hn hr h)
def H7 (kn : K5) (R : K1) (EW KJ aO : aLm) (w : aLl) : Prop :=
 aC pg (bV 145) w fun b6 w =>
 aR pg zR #[EW] w fun d0 w =>
 aR pg nA #[d0, (aLn 4)] w fun d3 w =>
 aC pg (bD d3 0) w fun d4 w =>
 aC pg (bD d3 1) w fun d5 w =>
 aC pg (aH .neq 30 (.tmp 26) (.const (aLn 0)) d5 (aLn 0)) w fun d7 w =>
 fE d7
  (aC pg (bX 145 []) w fun d8 w =>
  aC pg (aK 145 b6 d8) w fun _u w =>
  mW pg 145 b6 w fun r0 => R (.tuple #[r0, (aLn 0), d5]) w)
  (aC pg (gF 73 3 d4) w fun e1 w =>
  aC pg (aH .add 3 aM aM e1 (aLn 5)) w fun e2 w =>
  aC pg (bX 145 [(0, e2)]) w fun e3 w =>
  aC pg (bV 145) w fun dW w =>
  aC pg (aK 145 dW e3) w fun _u w =>
  aC pg (aL 145 dW 0) w fun e4 w =>
  aC pg (aI 3 e4) w fun e5 w =>
  aC pg (aH .gtr 3 aM aM e5 KJ) w fun e7 w =>
  Gd (eZ e7 false) (fun K => aC pg (aL 145 dW 0) w K) w fun e9 w =>
  Gd (eZ e7 false) (fun K => aC pg (aI 3 e9) w K) w fun f0 w =>
  Gd (eZ e7 false) (fun K => aC pg (aH .gtr 3 aM aM f0 (aLn 15)) w K) w fun f1 w =>
  aC pg (fV e7 (.bool true) f1) w fun f2 w =>
  fE f2
   (aC pg (bX 145 []) w fun f3 w =>
   aC pg (aK 145 b6 f3) w fun _u w =>
   mW pg 145 b6 w fun r0 => R (.tuple #[r0, (aLn 0), (aLn 12)]) w)
   (aC pg (aL 145 dW 0) w fun f4 w =>
   aC pg (aI 3 f4) w fun f5 w =>
   aC pg (aH .shl 3 aM aM (aLn 1) f5) w fun f6 w =>
   kn aO b6 d0 dW f6 w))
theorem XX (kn : K5) (R : K1) (hn : N5 Q kn 2 6 9 12 13) (hr : HR pC R Q) (h : H7 kn R (g 0) (g 1) (g 2) w) : bH pg mN (aE 7 lM) Q g w :=
 dP (l := []) h hn hr trivial
def I9 (R : K1) (EW KJ aO : aLm) (w : aLl) : Prop :=
 H7 (fun aO b6 mA dW aX w => Ch R aO b6 mA dW aX w) R EW KJ aO w
theorem XU (R : K1) (hr : HR pC R Q) (h : I9 R (g 0) (g 1) (g 2) w) : bH pg mN lM Q g w :=
 gC 7 (XX _ g w (Ch R) R (fun g w h => aJ (gC 1 (abF _ g w (Ee R) R (fun g w h => aJ (acY _ g w R hr h)) hr h))) hr h)
def akQ (a0 a1 a2 : aLm) (w : aLl) (R : K1) : Prop :=
 I9 R a0 a1 a2 w
theorem aiF {a0 a1 a2 : aLm} {w : aLl} {R : K1} (h : akQ a0 a1 a2 w R) : aR pg Gw #[a0, a1, a2] w R := by
 refine tD (ann := mN) Tryd.f76 lM [a0, a1, a2] pC 104 TrydM.mixed Tryd.func76 ?_
 exact (XU _ _ _ R (fun _ _ h => h) h)
def sJ : FA := ⟨HE, fun i => .leaf ([], []) []⟩
def Sk : List ResultVar := [.tmp 6]
noncomputable def qV : Code := cX Tryd.f77
def J1 (R : K1) (rD : aLm) (w : aLl) : Prop :=
 R rD w
theorem anO (R : K1) (hr : HR Sk R Q) (h : J1 R (g 7) w) : bH pg sJ (aB 1 (aB 2 qV)) Q g w :=
 dP (kn := no) (l := []) h eU hr trivial
def JZ (kn : K5) (k0 : K1) (EW JP rD c0 c1 : aLm) (w : aLl) : Prop :=
 aC pg (aH .lss 3 aM aM c1 c0) w fun c2 w =>
 fE c2
  (aC pg (aH .add 3 aM aM JP c1) w fun c6 w =>
  aC pg (aH .quo 3 aM aM c6 (aLn 8)) w fun d0 w =>
  aC pg (aY 22 EW d0) w fun d1 w =>
  aC pg (aI 5 d1) w fun d2 w =>
  aC pg (aH .rem 3 aM aM c6 (aLn 8)) w fun d4 w =>
  aC pg (aH .shr 5 aM aM d2 d4) w fun d5 w =>
  aC pg (aH .and 5 aM aM d5 (.int .u8 1)) w fun d6 w =>
  aC pg (gF 5 73 d6) w fun d7 w =>
  aC pg (gF 3 94 c1) w fun d9 w =>
  aC pg (aH .shl 73 aM aM d7 d9) w fun e0 w =>
  aC pg (aH .or 73 aM aM rD e0) w fun e1 w =>
  aC pg (aH .add 3 aM aM c1 (aLn 1)) w fun e2 w =>
  kn EW JP e1 c0 e2 w)
  (k0 rD w)
theorem anF (kn : K5) (k0 : K1) (hn : N5 Q kn 0 1 7 10 11) (h0 : E1 Q k0 0 7) (h : JZ kn k0 (g 0) (g 1) (g 7) (g 10) (g 11) w) : bH pg sJ (bI (bI (aB 1 (aE 1 (aB 2 qV))))) Q g w :=
 dP (kr := no) (l := [(0, fun g w => k0 (g 7) w)]) h hn eU ⟨h0, trivial⟩
def RI (k0 : K1) (EW JP rD c0 c1 : aLm) (w : aLl) : Prop :=
 cC (fun (X : (aLm × aLm) -> K0) (t : aLm × aLm) (w : aLl) => JZ (fun _ _ rD _ c1 w => X (rD, c1) w) k0 EW JP t.1 c0 t.2 w) (rD, c1) w
theorem amK (k0 : K1) (h0 : E1 Q k0 0 7) (h : RI k0 (g 0) (g 1) (g 7) (g 10) (g 11) w) : bH pg sJ (bI (aB 1 (aE 1 (aB 2 qV)))) Q g w := by
 refine Cy (fun g : Env => (g 7, g 11)) (fun X t w => JZ (fun _ _ rD _ c1 w => X (rD, c1) w) k0 (g 0) (g 1) t.1 (g 10) t.2 w) h (fun X g1 w1 ha hL => ?_)
 rw [<- fL 0 ha, <- fL 1 ha, <- fL 10 ha] at hL
 exact (anF _ g1 w1 (fun _ _ rD _ c1 w => X (rD, c1) w) k0 (fun _ _ h => h) h0 hL)
def QX (kn : K1) (EW JP rD c0 c1 : aLm) (w : aLl) : Prop :=
 RI kn EW JP rD c0 c1 w
def Rz (kn : K5) (EW JP BZ rD : aLm) (w : aLl) : Prop :=
 kn EW JP rD BZ (aLn 0) w
theorem alM (kn : K5) (hn : N5 Q kn 0 1 7 10 11) (h : Rz kn (g 0) (g 1) (g 2) (g 7) w) : bH pg sJ (aE 1 (aE 1 (aB 2 qV))) Q g w :=
 dP (kr := no) (l := []) h hn eU trivial
def Rd (kn : K1) (EW JP BZ rD : aLm) (w : aLl) : Prop :=
 Rz (fun EW JP rD c0 c1 w => QX kn EW JP rD c0 c1 w) EW JP BZ rD w
def QW (R : K1) (EW JP BZ rD : aLm) (w : aLl) : Prop :=
 Rd (fun rD w => J1 R rD w) EW JP BZ rD w
theorem amT (kn : K1) (hn : N1 Q kn 7) (h : Rd kn (g 0) (g 1) (g 2) (g 7) w) : bH pg sJ (aE 1 (aB 2 qV)) Q g w :=
 gC 1 (alM _ g w (QX kn) (fun g w h => aJ (wD 0 (amK _ g w kn hn h))) h)
def Si (kn : K4) (EW JP BZ : aLm) (w : aLl) : Prop :=
 kn EW JP BZ (.int .u64 0) w
theorem anJ (kn : K4) (hn : N4 Q kn 0 1 2 7) (h : Si kn (g 0) (g 1) (g 2) w) : bH pg sJ (aE 2 qV) Q g w :=
 dP (kr := no) (l := []) h hn eU trivial
def RG (R : K1) (EW JP BZ : aLm) (w : aLl) : Prop :=
 Si (fun EW JP BZ rD w => QW R EW JP BZ rD w) EW JP BZ w
theorem anV (R : K1) (hr : HR Sk R Q) (h : RG R (g 0) (g 1) (g 2) w) : bH pg sJ qV Q g w :=
 gC 2 (anJ _ g w (QW R) (fun g w h => aJ (gC 1 (amT _ g w (J1 R) (fun g w h => aJ (anO _ g w R hr h)) h))) h)
def auT (a0 a1 a2 : aLm) (w : aLl) (R : K1) : Prop :=
 RG R a0 a1 a2 w
theorem arT {a0 a1 a2 : aLm} {w : aLl} {R : K1} (h : auT a0 a1 a2 w R) : aR pg HE #[a0, a1, a2] w R := by
 refine tD (ann := sJ) Tryd.f77 qV [a0, a1, a2] Sk 34 TrydM.mixed Tryd.func77 ?_
 exact (anV _ _ _ R (fun _ _ h => h) h)
def WZ : FA := ⟨Dl, fun i => match Nat.beq i 4 with | true => .leaf ([], []) [(false, []), (false, []), (false, []), (false, [])] | false => match Nat.beq i 7 with | true => .leaf ([], []) [(false, []), (false, []), (false, []), (false, [])] | false => .leaf ([], []) []⟩
def aaV : List ResultVar := [.tmp 2, .tmp 3, .tmp 4]
noncomputable def T0 : Code := cX Tryd.f78
def RA (R : K1) (aQ : aLm) (w : aLl) : Prop :=
 aC pg (aH .eql 3 (.tmp 7) (.const (aLn 0)) aQ (aLn 0)) w fun b9 w =>
 fE b9
  (aC pg (aI 190 (.pointer (some ⟨3, 0, none⟩))) w fun c0 w =>
  aC pg (bV 190) w fun l_5 w =>
  aC pg (aK 190 l_5 c0) w fun _u w =>
  aC pg (gB 190 l_5 none none none) (dr w) fun c1 w_ => w_ = (dr w) /\
  (dr w) = (dr w) /\
  (dr w) = (dr w) /\
  (dr w) = (dr w) /\
  R (.tuple #[(aLn 16), (.int .u32 0), c1]) (dr w))
  (aC pg (aH .eql 3 (.tmp 7) (.const (aLn 2)) aQ (aLn 2)) w fun c3 w =>
  fE c3
   (aC pg (aI 191 (.pointer (some ⟨4, 0, none⟩))) w fun c4 w =>
   aC pg (bV 191) w fun l_6 w =>
   aC pg (aK 191 l_6 c4) w fun _u w =>
   aC pg (gB 191 l_6 none none none) (dr w) fun c5 w_ => w_ = (dr w) /\
   (dr w) = (dr w) /\
   (dr w) = (dr w) /\
   (dr w) = (dr w) /\
   R (.tuple #[(aLn 32), (.int .u32 3), c5]) (dr w))
   (R (.tuple #[(aLn 0), (.int .u32 0), (.slice none 0 0)]) w))
theorem anW (R : K1) (hr : HR aaV R Q) (h : RA R (g 0) w) : bH pg WZ T0 Q g w :=
 dP (kn := no) (l := []) h eU hr trivial
def auV (a0 : aLm) (w : aLl) (R : K1) : Prop :=
 RA R a0 w
theorem aqH {a0 : aLm} {w : aLl} {R : K1} (h : auV a0 w R) : aR pg Dl #[a0] w R := by
 refine tD (ann := WZ) Tryd.f78 T0 [a0] aaV 16 TrydM.mixed Tryd.func78 ?_
 exact (anW _ _ _ R (fun _ _ h => h) h)
def SJ : FA := ⟨GS, fun i => .leaf ([], []) []⟩
def TU : List ResultVar := [.cell 2 130]
noncomputable def QD : Code := cX Tryd.f79
def MR (R : K1) (aQ : aLm) (w : aLl) : Prop :=
 aC pg (bV 130) w fun b2 w =>
 aC pg (aH .eql 3 (.tmp 3) (.const (aLn 0)) aQ (aLn 0)) w fun b4 w =>
 fE b4
  (aC pg (cD 77 36 [(0, (aLn 4)), (1, (aLn 3)), (2, (aLn 2)), (3, (aLn 2)), (4, (aLn 2)), (5, (aLn 2)), (6, (aLn 2)), (7, (aLn 2)), (8, (aLn 2)), (9, (aLn 2)), (10, (aLn 2)), (11, (aLn 2)), (12, (aLn 2)), (13, (aLn 1)), (14, (aLn 1)), (15, (aLn 1)), (16, (aLn 2)), (17, (aLn 2)), (18, (aLn 2)), (19, (aLn 2)), (20, (aLn 2)), (21, (aLn 2)), (22, (aLn 2)), (23, (aLn 2)), (24, (aLn 2)), (25, (aLn 3)), (26, (aLn 2)), (27, (aLn 1)), (28, (aLn 1)), (29, (aLn 1)), (30, (aLn 1)), (31, (aLn 1)), (32, (aLn (-1))), (33, (aLn (-1))), (34, (aLn (-1))), (35, (aLn (-1)))]) w fun b5 w =>
  aC pg (bX 130 [(0, (aLn 6)), (1, b5)]) w fun b6 w =>
  aC pg (aK 130 b2 b6) w fun _u w =>
  mW pg 130 b2 w fun r0 => R r0 w)
  (aC pg (aH .eql 3 (.tmp 7) (.const (aLn 1)) aQ (aLn 1)) w fun b8 w =>
  fE b8
   (aC pg (cD 77 29 [(0, (aLn 1)), (1, (aLn 1)), (2, (aLn 1)), (3, (aLn 1)), (4, (aLn 1)), (5, (aLn 1)), (6, (aLn 2)), (7, (aLn 2)), (8, (aLn 2)), (9, (aLn 1)), (10, (aLn 1)), (11, (aLn 1)), (12, (aLn 1)), (13, (aLn 1)), (14, (aLn 1)), (15, (aLn 1)), (16, (aLn 1)), (17, (aLn 1)), (18, (aLn 1)), (19, (aLn 1)), (20, (aLn 1)), (21, (aLn 1)), (22, (aLn 1)), (23, (aLn 1)), (24, (aLn (-1))), (25, (aLn (-1))), (26, (aLn (-1))), (27, (aLn (-1))), (28, (aLn (-1)))]) w fun b9 w =>
   aC pg (bX 130 [(0, (aLn 5)), (1, b9)]) w fun c0 w =>
   aC pg (aK 130 b2 c0) w fun _u w =>
   mW pg 130 b2 w fun r0 => R r0 w)
   (aC pg (cD 77 53 [(0, (aLn 1)), (1, (aLn 4)), (2, (aLn 3)), (3, (aLn 2)), (4, (aLn 2)), (5, (aLn 2)), (6, (aLn 2)), (7, (aLn 2)), (8, (aLn 2)), (9, (aLn 1)), (10, (aLn 1)), (11, (aLn 1)), (12, (aLn 1)), (13, (aLn 1)), (14, (aLn 1)), (15, (aLn 1)), (16, (aLn 1)), (17, (aLn 1)), (18, (aLn 1)), (19, (aLn 1)), (20, (aLn 1)), (21, (aLn 1)), (22, (aLn 1)), (23, (aLn 1)), (24, (aLn 1)), (25, (aLn 1)), (26, (aLn 1)), (27, (aLn 1)), (28, (aLn 1)), (29, (aLn 1)), (30, (aLn 1)), (31, (aLn 1)), (32, (aLn 1)), (33, (aLn 1)), (34, (aLn 1)), (35, (aLn 1)), (36, (aLn 1)), (37, (aLn 1)), (38, (aLn 1)), (39, (aLn 1)), (40, (aLn 1)), (41, (aLn 1)), (42, (aLn 1)), (43, (aLn 1)), (44, (aLn 1)), (45, (aLn 1)), (46, (aLn (-1))), (47, (aLn (-1))), (48, (aLn (-1))), (49, (aLn (-1))), (50, (aLn (-1))), (51, (aLn (-1))), (52, (aLn (-1)))]) w fun c1 w =>
   aC pg (bX 130 [(0, (aLn 6)), (1, c1)]) w fun c2 w =>
   aC pg (aK 130 b2 c2) w fun _u w =>
   mW pg 130 b2 w fun r0 => R r0 w))
theorem abP (R : K1) (hr : HR TU R Q) (h : MR R (g 0) w) : bH pg SJ QD Q g w :=
 dP (kn := no) (l := []) h eU hr trivial
def ajX (a0 : aLm) (w : aLl) (R : K1) : Prop :=
 MR R a0 w
theorem ahE {a0 : aLm} {w : aLl} {R : K1} (h : ajX a0 w R) : aR pg GS #[a0] w R := by
 refine tD (ann := SJ) Tryd.f79 QD [a0] TU 13 TrydM.mixed Tryd.func79 ?_
 exact (abP _ _ _ R (fun _ _ h => h) h)
def U1 : FA := ⟨xM, fun i => .leaf ([], []) []⟩
def W6 : List ResultVar := [.cell 4 164, .tmp 5, .tmp 6]
noncomputable def SX : Code := cX Tryd.f80
def Oi (R : K1) (MY sC : aLm) (w : aLl) : Prop :=
 aC pg (sU 164 MY) w fun f_2 w =>
 aC pg (bV 164) w fun b4 w =>
 aC pg (aH .lss 3 aM aM sC (aLn 0)) w fun b9 w =>
 Gd (eZ b9 false) (fun K => K sC w) w fun c1 w =>
 Gd (eZ b9 false) (fun K => aC pg (aH .gtr 3 aM aM c1 (aLn 32)) w K) w fun c2 w =>
 aC pg (fV b9 (.bool true) c2) w fun c3 w =>
 fE c3
  (aC pg (aI 164 f_2) w fun c4 w =>
  aC pg (aK 164 b4 c4) w fun _u w =>
  mW pg 164 b4 w fun r0 => R (.tuple #[r0, (.int .u64 0), (aLn 1)]) w)
  (aC pg (aL 164 f_2 0) w fun c5 w =>
  aC pg (aI 80 c5) w fun c6 w =>
  aC pg (lF .len #[80] 3 [c6]) w fun c7 w =>
  aC pg (aL 164 f_2 1) w fun c8 w =>
  aC pg (aI 3 c8) w fun c9 w =>
  aC pg (aH .sub 3 aM aM c7 c9) w fun d0 w =>
  aC pg (aH .lss 3 aM aM d0 sC) w fun d2 w =>
  fE d2
   (aC pg (aI 164 f_2) w fun d3 w =>
   aC pg (aK 164 b4 d3) w fun _u w =>
   mW pg 164 b4 w fun r0 => R (.tuple #[r0, (.int .u64 0), (aLn 10)]) w)
   (aC pg (aL 164 f_2 0) w fun d4 w =>
   aC pg (aI 80 d4) w fun d5 w =>
   aC pg (aL 164 f_2 1) w fun d6 w =>
   aC pg (aI 3 d6) w fun d7 w =>
   aC pg (aL 164 f_2 1) w fun d8 w =>
   aC pg (aI 3 d8) w fun d9 w =>
   aC pg (aH .add 3 aM aM d9 sC) w fun e1 w =>
   aC pg (gB 80 d5 (some d7) (some e1) none) w fun e2 w =>
   aR pg Ar #[e2] w fun e3 w =>
   aC pg (aL 164 f_2 1) w fun e4 w =>
   aC pg (aI 3 e4) w fun e5 w =>
   aC pg (aH .add 3 aM aM e5 sC) w fun e7 w =>
   aC pg (aL 164 f_2 1) w fun e8 w =>
   aC pg (aK 3 e8 e7) w fun _u w =>
   aC pg (aI 164 f_2) w fun e9 w =>
   aC pg (aK 164 b4 e9) w fun _u w =>
   mW pg 164 b4 w fun r0 => R (.tuple #[r0, e3, (aLn 0)]) w))
theorem ahT (R : K1) (hr : HR W6 R Q) (h : Oi R (g 0) (g 1) w) : bH pg U1 SX Q g w :=
 dP (kn := no) (l := []) h eU hr trivial
def asF (a0 a1 : aLm) (w : aLl) (R : K1) : Prop :=
 Oi R a0 a1 w
theorem alG {a0 a1 : aLm} {w : aLl} {R : K1} (h : asF a0 a1 w R) : aR pg xM #[a0, a1] w R := by
 refine tD (ann := U1) Tryd.f80 SX [a0, a1] W6 41 TrydM.mixed Tryd.func80 ?_
 exact (ahT _ _ _ R (fun _ _ h => h) h)
def pN : FA := ⟨qG, fun i => .leaf ([], []) []⟩
def MO : List ResultVar := [.tmp 2]
noncomputable def oH : Code := cX Tryd.f81
def Ev (R : K1) (Af : aLm) (w : aLl) : Prop :=
 R Af w
theorem aaI (R : K1) (hr : HR MO R Q) (h : Ev R (g 3) w) : bH pg pN (aB 1 (aB 2 oH)) Q g w :=
 dP (kn := no) (l := []) h eU hr trivial
def AM (kn : K3) (k0 : K1) (n_0 Af iV : aLm) (w : aLl) : Prop :=
 aC pg (aH .lss 3 aM aM iV n_0) w fun b7 w =>
 Gd (eZ b7 true) (fun K => K iV w) w fun b9 w =>
 Gd (eZ b7 true) (fun K => aC pg (aH .lss 3 aM aM b9 (aLn 40)) w K) w fun c0 w =>
 aC pg (fV b7 c0 (.bool false)) w fun c1 w =>
 fE c1
  (aC pg (aH .mul 3 aM aM Af (aLn 2)) w fun c5 w =>
  aC pg (aH .add 3 aM aM iV (aLn 1)) w fun c3 w =>
  kn n_0 c5 c3 w)
  (k0 Af w)
theorem abI (kn : K3) (k0 : K1) (hn : N3 Q kn 0 3 4) (h0 : E1 Q k0 0 3) (h : AM kn k0 (g 0) (g 3) (g 4) w) : bH pg pN (bI (bI (aB 1 (aE 1 (aB 2 oH))))) Q g w :=
 dP (kr := no) (l := [(0, fun g w => k0 (g 3) w)]) h hn eU ⟨h0, trivial⟩
def Mk (k0 : K1) (n_0 Af iV : aLm) (w : aLl) : Prop :=
 cC (fun (X : (aLm × aLm) -> K0) (t : aLm × aLm) (w : aLl) => AM (fun _ Af iV w => X (Af, iV) w) k0 n_0 t.1 t.2 w) (Af, iV) w
theorem Zq (k0 : K1) (h0 : E1 Q k0 0 3) (h : Mk k0 (g 0) (g 3) (g 4) w) : bH pg pN (bI (aB 1 (aE 1 (aB 2 oH)))) Q g w := by
 refine Cy (fun g : Env => (g 3, g 4)) (fun X t w => AM (fun _ Af iV w => X (Af, iV) w) k0 (g 0) t.1 t.2 w) h (fun X g1 w1 ha hL => ?_)
 rw [<- fL 0 ha] at hL
 exact (abI _ g1 w1 (fun _ Af iV w => X (Af, iV) w) k0 (fun _ _ h => h) h0 hL)
def KH (kn : K1) (n_0 Af iV : aLm) (w : aLl) : Prop :=
 Mk kn n_0 Af iV w
def MF (kn : K3) (n_0 Af : aLm) (w : aLl) : Prop :=
 kn n_0 Af (aLn 0) w
theorem aaZ (kn : K3) (hn : N3 Q kn 0 3 4) (h : MF kn (g 0) (g 3) w) : bH pg pN (aE 1 (aE 1 (aB 2 oH))) Q g w :=
 dP (kr := no) (l := []) h hn eU trivial
def MV (kn : K1) (n_0 Af : aLm) (w : aLl) : Prop :=
 MF (fun n_0 Af iV w => KH kn n_0 Af iV w) n_0 Af w
def Kz (R : K1) (n_0 Af : aLm) (w : aLl) : Prop :=
 MV (fun Af w => Ev R Af w) n_0 Af w
theorem ZA (kn : K1) (hn : N1 Q kn 3) (h : MV kn (g 0) (g 3) w) : bH pg pN (aE 1 (aB 2 oH)) Q g w :=
 gC 1 (aaZ _ g w (KH kn) (fun g w h => aJ (wD 0 (Zq _ g w kn hn h))) h)
def KC (kn : K2) (n_0 : aLm) (w : aLl) : Prop :=
 kn n_0 (aLn 1) w
theorem acM (kn : K2) (hn : N2 Q kn 0 3) (h : KC kn (g 0) w) : bH pg pN (aE 2 oH) Q g w :=
 dP (kr := no) (l := []) h hn eU trivial
def Lk (R : K1) (n_0 : aLm) (w : aLl) : Prop :=
 KC (fun n_0 Af w => Kz R n_0 Af w) n_0 w
theorem ZS (R : K1) (hr : HR MO R Q) (h : Lk R (g 0) w) : bH pg pN oH Q g w :=
 gC 2 (acM _ g w (Kz R) (fun g w h => aJ (gC 1 (ZA _ g w (Ev R) (fun g w h => aJ (aaI _ g w R hr h)) h))) h)
def akS (a0 : aLm) (w : aLl) (R : K1) : Prop :=
 Lk R a0 w
theorem afS {a0 : aLm} {w : aLl} {R : K1} (h : akS a0 w R) : aR pg qG #[a0] w R := by
 refine tD (ann := pN) Tryd.f81 oH [a0] MO 17 TrydM.mixed Tryd.func81 ?_
 exact (ZS _ _ _ R (fun _ _ h => h) h)
def U8 : FA := ⟨JJ, fun i => .leaf ([], []) []⟩
def Xe : List ResultVar := [.cell 4 164, .tmp 5, .tmp 6]
noncomputable def SF : Code := cX Tryd.f82
def PH (R : K1) (MY aoU : aLm) (w : aLl) : Prop :=
 aC pg (sU 164 MY) w fun f_2 w =>
 aC pg (bV 164) w fun b4 w =>
 aC pg (aH .add 3 aM aM aoU (aLn 1)) w fun c4 w =>
 aR pg Gz #[c4] w fun c5 w =>
 aC pg (aI 164 f_2) w fun c7 w =>
 aC pg (aH .sub 3 aM aM c5 (aLn 1)) w fun c9 w =>
 aR pg xM #[c7, c9] w fun d0 w =>
 aC pg (bD d0 0) w fun d1 w =>
 aC pg (bD d0 1) w fun d2 w =>
 aC pg (bD d0 2) w fun d3 w =>
 aC pg (aK 164 f_2 d1) w fun _u w =>
 aC pg (aH .neq 30 (.tmp 24) (.const (aLn 0)) d3 (aLn 0)) w fun d5 w =>
 fE d5
  (aC pg (aI 164 f_2) w fun d6 w =>
  aC pg (aK 164 b4 d6) w fun _u w =>
  mW pg 164 b4 w fun r0 => R (.tuple #[r0, (aLn 0), d3]) w)
  (aC pg (aH .sub 3 aM aM c5 (aLn 1)) w fun d9 w =>
  aR pg qG #[d9] w fun e0 w =>
  aC pg (aH .mul 3 aM aM (aLn 2) e0) w fun e2 w =>
  aC pg (aH .sub 3 aM aM e2 (aLn 2)) w fun e3 w =>
  aC pg (aH .sub 3 aM aM e3 aoU) w fun e5 w =>
  aC pg (gF 73 3 d2) w fun e7 w =>
  aC pg (aH .lss 3 aM aM e7 e5) w fun e9 w =>
  fE e9
   (aC pg (aI 164 f_2) w fun f0 w =>
   aC pg (gF 73 3 d2) w fun f2 w =>
   aC pg (aK 164 b4 f0) w fun _u w =>
   mW pg 164 b4 w fun r0 => R (.tuple #[r0, f2, (aLn 0)]) w)
   (aC pg (aI 164 f_2) w fun f4 w =>
   aR pg xM #[f4, (aLn 1)] w fun f5 w =>
   aC pg (bD f5 0) w fun f6 w =>
   aC pg (bD f5 1) w fun f7 w =>
   aC pg (bD f5 2) w fun f8 w =>
   aC pg (aK 164 f_2 f6) w fun _u w =>
   aC pg (aH .neq 30 (.tmp 49) (.const (aLn 0)) f8 (aLn 0)) w fun i0 w =>
   fE i0
    (aC pg (aI 164 f_2) w fun i1 w =>
    aC pg (aK 164 b4 i1) w fun _u w =>
    mW pg 164 b4 w fun r0 => R (.tuple #[r0, (aLn 0), f8]) w)
    (aC pg (aH .eql 73 (.tmp 53) (.const (.int .u64 1)) f7 (.int .u64 1)) w fun i4 w =>
    fE i4
     (aC pg (aI 164 f_2) w fun i5 w =>
     aC pg (gF 73 3 d2) w fun i7 w =>
     aC pg (aH .add 3 aM aM i7 e0) w fun i9 w =>
     aC pg (aH .sub 3 aM aM i9 e5) w fun j1 w =>
     aC pg (aK 164 b4 i5) w fun _u w =>
     mW pg 164 b4 w fun r0 => R (.tuple #[r0, j1, (aLn 0)]) w)
     (aC pg (aI 164 f_2) w fun j2 w =>
     aC pg (gF 73 3 d2) w fun j4 w =>
     aC pg (aK 164 b4 j2) w fun _u w =>
     mW pg 164 b4 w fun r0 => R (.tuple #[r0, j4, (aLn 0)]) w))))
theorem aiV (R : K1) (hr : HR Xe R Q) (h : PH R (g 0) (g 1) w) : bH pg U8 SF Q g w :=
 dP (kn := no) (l := []) h eU hr trivial
def arV (a0 a1 : aLm) (w : aLl) (R : K1) : Prop :=
 PH R a0 a1 w
theorem amI {a0 a1 : aLm} {w : aLl} {R : K1} (h : arV a0 a1 w R) : aR pg JJ #[a0, a1] w R := by
 refine tD (ann := U8) Tryd.f82 SF [a0, a1] Xe 65 TrydM.mixed Tryd.func82 ?_
 exact (aiV _ _ _ R (fun _ _ h => h) h)
def Uo : FA := ⟨JL, fun i => .leaf ([], []) []⟩
def WS : List ResultVar := [.tmp 2]
noncomputable def St : Code := cX Tryd.f83
def Pk (R : K1) (MY : aLm) (w : aLl) : Prop :=
 aC pg (sU 164 MY) w fun f_1 w =>
 aC pg (aL 164 f_1 1) w fun b3 w =>
 aC pg (aI 3 b3) w fun b4 w =>
 aC pg (aH .add 3 aM aM b4 (aLn 7)) w fun b5 w =>
 aC pg (aH .quo 3 aM aM b5 (aLn 8)) w fun b6 w =>
 R b6 w
theorem aiC (R : K1) (hr : HR WS R Q) (h : Pk R (g 0) w) : bH pg Uo St Q g w :=
 dP (kn := no) (l := []) h eU hr trivial
def aoV (a0 : aLm) (w : aLl) (R : K1) : Prop :=
 Pk R a0 w
theorem anP {a0 : aLm} {w : aLl} {R : K1} (h : aoV a0 w R) : aR pg JL #[a0] w R := by
 refine tD (ann := Uo) Tryd.f83 St [a0] WS 7 TrydM.mixed Tryd.func83 ?_
 exact (aiC _ _ _ R (fun _ _ h => h) h)
def SA : FA := ⟨Hf, fun i => .leaf ([], []) []⟩
def Uf : List ResultVar := [.tmp 4]
noncomputable def QK : Code := cX Tryd.f84
def KM (R : K1) (c_0 KJ : aLm) (w : aLl) : Prop :=
 aC pg (sU 130 c_0) w fun c_2 w =>
 aC pg (aI 130 c_2) w fun b6 w =>
 aR pg Nx #[b6] w fun b7 w =>
 aC pg (sUn .not b7) w fun b9 w =>
 fE b9
  (R (aLn 1) w)
  (aC pg (aL 130 c_2 0) w fun c0 w =>
  aC pg (aI 3 c0) w fun c1 w =>
  aC pg (aH .gtr 3 aM aM c1 KJ) w fun c3 w =>
  fE c3
   (R (aLn 12) w)
   (R (aLn 0) w))
theorem abV (R : K1) (hr : HR Uf R Q) (h : KM R (g 0) (g 1) w) : bH pg SA QK Q g w :=
 dP (kn := no) (l := []) h eU hr trivial
def akU (a0 a1 : aLm) (w : aLl) (R : K1) : Prop :=
 KM R a0 a1 w
theorem aiS {a0 a1 : aLm} {w : aLl} {R : K1} (h : akU a0 a1 w R) : aR pg Hf #[a0, a1] w R := by
 refine tD (ann := SA) Tryd.f84 QK [a0, a1] Uf 14 TrydM.mixed Tryd.func84 ?_
 exact (abV _ _ _ R (fun _ _ h => h) h)
def lJ : FA := ⟨Ar, fun i => .leaf ([], []) []⟩
def HJ : List ResultVar := [.tmp 2]
noncomputable def kQ : Code := cX Tryd.f85
def BV (R : K1) (Af : aLm) (w : aLl) : Prop :=
 R Af w
theorem Xu (R : K1) (hr : HR HJ R Q) (h : BV R (g 3) w) : bH pg lJ (aB 1 (aB 2 kQ)) Q g w :=
 dP (kn := no) (l := []) h eU hr trivial
def zA (kn : K3) (hY Af iV : aLm) (w : aLl) : Prop :=
 aC pg (aH .sub 3 aM aM iV (aLn 1)) w fun c1 w =>
 kn hY Af c1 w
theorem XQ (kn : K3) (hn : N3 Q kn 0 3 4) (h : zA kn (g 0) (g 3) (g 4) w) : bH pg lJ (aB 2 (bI (bI (aB 1 (aE 1 (aB 2 kQ)))))) Q g w :=
 dP (kr := no) (l := []) h hn eU trivial
def I8 (kn : K3) (k0 : K1) (hY Af iV : aLm) (w : aLl) : Prop :=
 aC pg (aH .geq 3 aM aM iV (aLn 0)) w fun b9 w =>
 fE b9
  (aC pg (aH .mul 73 aM aM Af (.int .u64 2)) w fun c3 w =>
  aC pg (aY 80 hY iV) w fun c6 w =>
  aC pg (aI 4 c6) w fun c7 w =>
  fE c7
   (aC pg (aH .add 73 aM aM c3 (.int .u64 1)) w fun c9 w =>
   kn hY c9 iV w)
   (kn hY c3 iV w))
  (k0 Af w)
theorem YA (kn : K3) (k0 : K1) (hn : N3 Q kn 0 3 4) (h0 : E1 Q k0 0 3) (h : I8 kn k0 (g 0) (g 3) (g 4) w) : bH pg lJ (aE 2 (bI (bI (aB 1 (aE 1 (aB 2 kQ)))))) Q g w :=
 dP (kr := no) (l := [(0, fun g w => k0 (g 3) w)]) h hn eU ⟨h0, trivial⟩
def Cc (kn : K3) (k0 : K1) (hY Af iV : aLm) (w : aLl) : Prop :=
 I8 (fun hY Af iV w => zA kn hY Af iV w) k0 hY Af iV w
def IC (k0 : K1) (hY Af iV : aLm) (w : aLl) : Prop :=
 cC (fun (X : (aLm × aLm) -> K0) (t : aLm × aLm) (w : aLl) => Cc (fun _ Af iV w => X (Af, iV) w) k0 hY t.1 t.2 w) (Af, iV) w
theorem Zc (kn : K3) (k0 : K1) (hn : N3 Q kn 0 3 4) (h0 : E1 Q k0 0 3) (h : Cc kn k0 (g 0) (g 3) (g 4) w) : bH pg lJ (bI (bI (aB 1 (aE 1 (aB 2 kQ))))) Q g w :=
 gC 2 (YA _ g w (zA kn) k0 (fun g w h => aJ (XQ _ g w kn hn h)) h0 h)
theorem Yp (k0 : K1) (h0 : E1 Q k0 0 3) (h : IC k0 (g 0) (g 3) (g 4) w) : bH pg lJ (bI (aB 1 (aE 1 (aB 2 kQ)))) Q g w := by
 refine Cy (fun g : Env => (g 3, g 4)) (fun X t w => Cc (fun _ Af iV w => X (Af, iV) w) k0 (g 0) t.1 t.2 w) h (fun X g1 w1 ha hL => ?_)
 rw [<- fL 0 ha] at hL
 exact (Zc _ g1 w1 (fun _ Af iV w => X (Af, iV) w) k0 (fun _ _ h => h) h0 hL)
def HX (kn : K1) (hY Af iV : aLm) (w : aLl) : Prop :=
 IC kn hY Af iV w
def Ja (kn : K3) (hY Af : aLm) (w : aLl) : Prop :=
 aC pg (lF .len #[80] 3 [hY]) w fun b6 w =>
 aC pg (aH .sub 3 aM aM b6 (aLn 1)) w fun b7 w =>
 kn hY Af b7 w
theorem YX (kn : K3) (hn : N3 Q kn 0 3 4) (h : Ja kn (g 0) (g 3) w) : bH pg lJ (aE 1 (aE 1 (aB 2 kQ))) Q g w :=
 dP (kr := no) (l := []) h hn eU trivial
def IV (kn : K1) (hY Af : aLm) (w : aLl) : Prop :=
 Ja (fun hY Af iV w => HX kn hY Af iV w) hY Af w
def IZ (R : K1) (hY Af : aLm) (w : aLl) : Prop :=
 IV (fun Af w => BV R Af w) hY Af w
theorem Yn (kn : K1) (hn : N1 Q kn 3) (h : IV kn (g 0) (g 3) w) : bH pg lJ (aE 1 (aB 2 kQ)) Q g w :=
 gC 1 (YX _ g w (HX kn) (fun g w h => aJ (wD 0 (Yp _ g w kn hn h))) h)
def FK (kn : K2) (hY : aLm) (w : aLl) : Prop :=
 kn hY (.int .u64 0) w
theorem V7 (kn : K2) (hn : N2 Q kn 0 3) (h : FK kn (g 0) w) : bH pg lJ (aE 2 kQ) Q g w :=
 dP (kr := no) (l := []) h hn eU trivial
def Fx (R : K1) (hY : aLm) (w : aLl) : Prop :=
 FK (fun hY Af w => IZ R hY Af w) hY w
theorem Wa (R : K1) (hr : HR HJ R Q) (h : Fx R (g 0) w) : bH pg lJ kQ Q g w :=
 gC 2 (V7 _ g w (IZ R) (fun g w h => aJ (gC 1 (Yn _ g w (BV R) (fun g w h => aJ (Xu _ g w R hr h)) h))) h)
def acS (a0 : aLm) (w : aLl) (R : K1) : Prop :=
 Fx R a0 w
theorem adJ {a0 : aLm} {w : aLl} {R : K1} (h : acS a0 w R) : aR pg Ar #[a0] w R := by
 refine tD (ann := lJ) Tryd.f85 kQ [a0] HJ 21 TrydM.mixed Tryd.func85 ?_
 exact (Wa _ _ _ R (fun _ _ h => h) h)
def sB : FA := ⟨uV, fun i => .leaf ([], []) []⟩
def CN : List ResultVar := [.tmp 2]
noncomputable def qN : Code := cX Tryd.f86
def tG (R : K1) (xG BZ : aLm) (w : aLl) : Prop :=
 aC pg (gF 43 5 xG) w fun c5 w =>
 aC pg (IM 9 (.string ⟨#[0, 1, 2, 2, 3, 3, 3, 3, 4, 4, 4, 4, 4, 4, 4, 4, 5, 5, 5, 5, 5, 5, 5, 5, 5, 5, 5, 5, 5, 5, 5, 5, 6, 6, 6, 6, 6, 6, 6, 6, 6, 6, 6, 6, 6, 6, 6, 6, 6, 6, 6, 6, 6, 6, 6, 6, 6, 6, 6, 6, 6, 6, 6, 6, 7, 7, 7, 7, 7, 7, 7, 7, 7, 7, 7, 7, 7, 7, 7, 7, 7, 7, 7, 7, 7, 7, 7, 7, 7, 7, 7, 7, 7, 7, 7, 7, 7, 7, 7, 7, 7, 7, 7, 7, 7, 7, 7, 7, 7, 7, 7, 7, 7, 7, 7, 7, 7, 7, 7, 7, 7, 7, 7, 7, 7, 7, 7, 7, 8, 8, 8, 8, 8, 8, 8, 8, 8, 8, 8, 8, 8, 8, 8, 8, 8, 8, 8, 8, 8, 8, 8, 8, 8, 8, 8, 8, 8, 8, 8, 8, 8, 8, 8, 8, 8, 8, 8, 8, 8, 8, 8, 8, 8, 8, 8, 8, 8, 8, 8, 8, 8, 8, 8, 8, 8, 8, 8, 8, 8, 8, 8, 8, 8, 8, 8, 8, 8, 8, 8, 8, 8, 8, 8, 8, 8, 8, 8, 8, 8, 8, 8, 8, 8, 8, 8, 8, 8, 8, 8, 8, 8, 8, 8, 8, 8, 8, 8, 8, 8, 8, 8, 8, 8, 8, 8, 8, 8, 8, 8, 8, 8, 8, 8, 8, 8, 8, 8, 8, 8, 8, 8, 8, 8, 8, 8, 8]⟩) c5) w fun c6 w =>
 aC pg (gF 5 3 c6) w fun c7 w =>
 aC pg (aH .add 3 aM aM BZ c7) w fun c8 w =>
 R c8 w
theorem TI (R : K1) (hr : HR CN R Q) (h : tG R (g 0) (g 2) w) : bH pg sB (aB 1 (aB 2 qN)) Q g w :=
 dP (kn := no) (l := []) h eU hr trivial
def CD (kn : K2) (xG BZ : aLm) (w : aLl) : Prop :=
 aC pg (aH .geq 43 aM aM xG (.int .u32 256)) w fun b8 w =>
 fE b8
  (aC pg (aH .shr 43 aM aM xG (.int .u64 8)) w fun c0 w =>
  aC pg (aH .add 3 aM aM BZ (aLn 8)) w fun c2 w =>
  kn c0 c2 w)
  (kn xG BZ w)
theorem S8 (kn : K2) (hn : N2 Q kn 0 2) (h : CD kn (g 0) (g 2) w) : bH pg sB (aE 1 (aB 2 qN)) Q g w :=
 dP (kr := no) (l := []) h hn eU trivial
def xP (R : K1) (xG BZ : aLm) (w : aLl) : Prop :=
 CD (fun xG BZ w => tG R xG BZ w) xG BZ w
def CB (kn : K2) (xG : aLm) (w : aLl) : Prop :=
 aC pg (aH .geq 43 aM aM xG (.int .u32 65536)) w fun b4 w =>
 fE b4
  (aC pg (aH .shr 43 aM aM xG (.int .u64 16)) w fun b6 w =>
  kn b6 (aLn 16) w)
  (kn xG (aLn 0) w)
theorem TL (kn : K2) (hn : N2 Q kn 0 2) (h : CB kn (g 0) w) : bH pg sB (aE 2 qN) Q g w :=
 dP (kr := no) (l := []) h hn eU trivial
def C7 (R : K1) (xG : aLm) (w : aLl) : Prop :=
 CB (fun xG BZ w => xP R xG BZ w) xG w
theorem S7 (R : K1) (hr : HR CN R Q) (h : C7 R (g 0) w) : bH pg sB qN Q g w :=
 gC 2 (TL _ g w (xP R) (fun g w h => aJ (gC 1 (S8 _ g w (tG R) (fun g w h => aJ (TI _ g w R hr h)) h))) h)
def SW (a0 : aLm) (w : aLl) (R : K1) : Prop :=
 C7 R a0 w
theorem VG {a0 : aLm} {w : aLl} {R : K1} (h : SW a0 w R) : aR pg uV #[a0] w R := by
 refine tD (ann := sB) Tryd.f86 qN [a0] CN 19 TrydM.mixed Tryd.func86 ?_
 exact (S7 _ _ _ R (fun _ _ h => h) h)
def Qp : FA := ⟨DM, fun i => .leaf ([], []) []⟩
def S0 : List ResultVar := [.tmp 4]
noncomputable def M6 : Code := cX Tryd.f87
def HI (R : K1) (c_0 KJ : aLm) (w : aLl) : Prop :=
 aC pg (sU 145 c_0) w fun c_2 w =>
 aC pg (aI 145 c_2) w fun b6 w =>
 aR pg EF #[b6] w fun b7 w =>
 aC pg (sUn .not b7) w fun b8 w =>
 fE b8
  (R (aLn 1) w)
  (aC pg (aL 145 c_2 0) w fun c0 w =>
  aC pg (aI 3 c0) w fun c1 w =>
  aC pg (aH .gtr 3 aM aM c1 KJ) w fun c3 w =>
  fE c3
   (R (aLn 12) w)
   (R (aLn 0) w))
theorem Xr (R : K1) (hr : HR S0 R Q) (h : HI R (g 0) (g 1) w) : bH pg Qp M6 Q g w :=
 dP (kn := no) (l := []) h eU hr trivial
def aaR (a0 a1 : aLm) (w : aLl) (R : K1) : Prop :=
 HI R a0 a1 w
theorem adP {a0 a1 : aLm} {w : aLl} {R : K1} (h : aaR a0 a1 w R) : aR pg DM #[a0, a1] w R := by
 refine tD (ann := Qp) Tryd.f87 M6 [a0, a1] S0 14 TrydM.mixed Tryd.func87 ?_
 exact (Xr _ _ _ R (fun _ _ h => h) h)
def dI : FA := ⟨Ew, fun i => .leaf ([], []) []⟩
def Ow : List ResultVar := [.tmp 2]
noncomputable def cY : Code := cX Tryd.f88
def GI (R : K1) (bJ : aLm) (w : aLl) : Prop :=
 R bJ w
theorem agW (R : K1) (hr : HR Ow R Q) (h : GI R (g 4) w) : bH pg dI (aB 1 (aB 1 (aB 1 (aB 4 cY)))) Q g w :=
 dP (kn := no) (l := []) h eU hr trivial
def GZ (kn : K7) (lE bJ bQ gR e7 e8 e9 : aLm) (w : aLl) : Prop :=
 aC pg (aH .add 3 aM aM e9 (aLn 1)) w fun j8 w =>
 kn lE bJ bQ gR e7 e8 j8 w
theorem adY (kn : K7) (hn : N7 Q kn 3 4 5 8 37 38 39) (h : GZ kn (g 3) (g 4) (g 5) (g 8) (g 37) (g 38) (g 39) w) : bH pg dI (aB 1 (aB 2 (bI (bI (aB 1 (aE 1 (aB 1 (aB 1 (aB 4 cY))))))))) Q g w :=
 dP (kr := no) (l := []) h hn eU trivial
def GK (kn : Fk) (lE bJ bQ gR xO e7 e8 e9 f5 f6 : aLm) (w : aLl) : Prop :=
 aC pg (aH .add 3 aM aM f6 (aLn 1)) w fun j7 w =>
 kn lE bJ bQ gR xO e7 e8 e9 f5 j7 w
theorem aiZ (kn : Fk) (hn : N10 Q kn 3 4 5 8 9 37 38 39 45 46) (h : GK kn (g 3) (g 4) (g 5) (g 8) (g 9) (g 37) (g 38) (g 39) (g 45) (g 46) w) : bH pg dI (aB 1 (aB 2 (bI (bI (aB 2 (bI (aB 1 (bI (aE 1 (aB 2 (bI (bI (aB 1 (aE 1 (aB 1 (aB 1 (aB 4 cY))))))))))))))))) Q g w :=
 dP (kr := no) (l := []) h hn eU trivial
def GO (kn : Fk) (k5 : Fk) (lE bJ bQ gR xO e7 e8 e9 f5 f6 : aLm) (w : aLl) : Prop :=
 aC pg (aH .shr 3 aM aM lE (.int .u64 1)) w fun i6 w =>
 aC pg (aH .add 3 aM aM gR i6) w fun i7 w =>
 aC pg (aH .shr 3 aM aM lE (.int .u64 3)) w fun i9 w =>
 aC pg (aH .add 3 aM aM i7 i9) w fun j0 w =>
 aC pg (aH .add 3 aM aM j0 (aLn 3)) w fun j1 w =>
 aC pg (aH .rem 3 aM aM j1 lE) w fun j3 w =>
 aC pg (aH .lss 3 aM aM j3 bQ) w fun j6 w =>
 fE j6
  (k5 lE bJ bQ j3 xO e7 e8 e9 f5 f6 w)
  (kn lE bJ bQ j3 xO e7 e8 e9 f5 f6 w)
theorem ahL (kn : Fk) (k5 : Fk) (hn : N10 Q kn 3 4 5 8 9 37 38 39 45 46) (h5 : E10 Q k5 5 3 4 5 8 9 37 38 39 45 46) (h : GO kn k5 (g 3) (g 4) (g 5) (g 8) (g 9) (g 37) (g 38) (g 39) (g 45) (g 46) w) : bH pg dI (bI (bI (aB 1 (bI (aE 1 (aB 2 (bI (bI (aB 2 (bI (aB 1 (bI (aE 1 (aB 2 (bI (bI (aB 1 (aE 1 (aB 1 (aB 1 (aB 4 cY))))))))))))))))))))) Q g w :=
 dP (kr := no) (l := [(5, fun g w => k5 (g 3) (g 4) (g 5) (g 8) (g 9) (g 37) (g 38) (g 39) (g 45) (g 46) w)]) h hn eU ⟨h5, trivial⟩
def G4 (k5 : Fk) (lE bJ bQ gR xO e7 e8 e9 f5 f6 : aLm) (w : aLl) : Prop :=
 cC (fun (X : aLm -> K0) (t : aLm) (w : aLl) => GO (fun _ _ _ gR _ _ _ _ _ _ w => X gR w) k5 lE bJ bQ t xO e7 e8 e9 f5 f6 w) gR w
theorem ahX (k5 : Fk) (h5 : E10 Q k5 5 3 4 5 8 9 37 38 39 45 46) (h : G4 k5 (g 3) (g 4) (g 5) (g 8) (g 9) (g 37) (g 38) (g 39) (g 45) (g 46) w) : bH pg dI (bI (aB 1 (bI (aE 1 (aB 2 (bI (bI (aB 2 (bI (aB 1 (bI (aE 1 (aB 2 (bI (bI (aB 1 (aE 1 (aB 1 (aB 1 (aB 4 cY)))))))))))))))))))) Q g w := by
 refine Cy (fun g : Env => g 8) (fun X t w => GO (fun _ _ _ gR _ _ _ _ _ _ w => X gR w) k5 (g 3) (g 4) (g 5) t (g 9) (g 37) (g 38) (g 39) (g 45) (g 46) w) h (fun X g1 w1 ha hL => ?_)
 rw [<- fL 3 ha, <- fL 4 ha, <- fL 5 ha, <- fL 9 ha, <- fL 37 ha, <- fL 38 ha, <- fL 39 ha, <- fL 45 ha, <- fL 46 ha] at hL
 exact (ahL _ g1 w1 (fun _ _ _ gR _ _ _ _ _ _ w => X gR w) k5 (fun _ _ h => h) h5 hL)
def Px (k5 : Fk) (lE bJ bQ gR xO e7 e8 e9 f5 f6 : aLm) (w : aLl) : Prop :=
 G4 k5 lE bJ bQ gR xO e7 e8 e9 f5 f6 w
def Pe (kn : Fk) (lE bJ bQ gR xO e7 e8 e9 f5 f6 : aLm) (w : aLl) : Prop :=
 aC pg (gF 3 5 xO) w fun i1 w =>
 aC pg (aY 25 bJ gR) w fun i2 w =>
 aC pg (aL 123 i2 0) w fun i3 w =>
 aC pg (aK 5 i3 i1) w fun _u w =>
 kn lE bJ bQ gR xO e7 e8 e9 f5 f6 w
theorem ahY (kn : Fk) (hn : N10 Q kn 3 4 5 8 9 37 38 39 45 46) (h : Pe kn (g 3) (g 4) (g 5) (g 8) (g 9) (g 37) (g 38) (g 39) (g 45) (g 46) w) : bH pg dI (aE 1 (bI (aE 1 (aB 2 (bI (bI (aB 2 (bI (aB 1 (bI (aE 1 (aB 2 (bI (bI (aB 1 (aE 1 (aB 1 (aB 1 (aB 4 cY))))))))))))))))))) Q g w :=
 dP (kr := no) (l := []) h hn eU trivial
def W0 (k5 : Fk) (lE bJ bQ gR xO e7 e8 e9 f5 f6 : aLm) (w : aLl) : Prop :=
 Pe (fun lE bJ bQ gR xO e7 e8 e9 f5 f6 w => Px k5 lE bJ bQ gR xO e7 e8 e9 f5 f6 w) lE bJ bQ gR xO e7 e8 e9 f5 f6 w
def OG (kn : Fk) (lE bJ bQ gR xO e7 e8 e9 f5 f6 : aLm) (w : aLl) : Prop :=
 W0 kn lE bJ bQ gR xO e7 e8 e9 f5 f6 w
def KK (kn : Fk) (lE bJ bQ gR xO e7 e8 e9 f5 f6 : aLm) (w : aLl) : Prop :=
 OG (fun lE bJ bQ gR xO e7 e8 e9 f5 f6 w => GK kn lE bJ bQ gR xO e7 e8 e9 f5 f6 w) lE bJ bQ gR xO e7 e8 e9 f5 f6 w
theorem aiN (kn : Fk) (hn : N10 Q kn 3 4 5 8 9 37 38 39 45 46) (h : OG kn (g 3) (g 4) (g 5) (g 8) (g 9) (g 37) (g 38) (g 39) (g 45) (g 46) w) : bH pg dI (aE 1 (aB 2 (bI (bI (aB 2 (bI (aB 1 (bI (aE 1 (aB 2 (bI (bI (aB 1 (aE 1 (aB 1 (aB 1 (aB 4 cY))))))))))))))))) Q g w :=
 wD 5 (gC 1 (ahY _ g w (Px kn) (fun g w h => aJ (wD 6 (ahX _ g w kn hn h))) h))
def DC (kn : Fk) (k4 : K7) (lE bJ bQ gR xO e7 e8 e9 f5 f6 : aLm) (w : aLl) : Prop :=
 aC pg (aH .lss 3 aM aM f6 f5) w fun f7 w =>
 fE f7
  (kn lE bJ bQ gR xO e7 e8 e9 f5 f6 w)
  (k4 lE bJ bQ gR e7 e8 e9 w)
theorem Zl (kn : Fk) (k4 : K7) (hn : N10 Q kn 3 4 5 8 9 37 38 39 45 46) (h4 : E7 Q k4 4 3 4 5 8 37 38 39) (h : DC kn k4 (g 3) (g 4) (g 5) (g 8) (g 9) (g 37) (g 38) (g 39) (g 45) (g 46) w) : bH pg dI (aE 2 (bI (bI (aB 2 (bI (aB 1 (bI (aE 1 (aB 2 (bI (bI (aB 1 (aE 1 (aB 1 (aB 1 (aB 4 cY)))))))))))))))) Q g w :=
 dP (kr := no) (l := [(4, fun g w => k4 (g 3) (g 4) (g 5) (g 8) (g 37) (g 38) (g 39) w)]) h hn eU ⟨h4, trivial⟩
def AY (kn : Fk) (k4 : K7) (lE bJ bQ gR xO e7 e8 e9 f5 f6 : aLm) (w : aLl) : Prop :=
 DC (fun lE bJ bQ gR xO e7 e8 e9 f5 f6 w => KK kn lE bJ bQ gR xO e7 e8 e9 f5 f6 w) k4 lE bJ bQ gR xO e7 e8 e9 f5 f6 w
def LV (k4 : K7) (lE bJ bQ gR xO e7 e8 e9 f5 f6 : aLm) (w : aLl) : Prop :=
 cC (fun (X : (aLm × aLm) -> K0) (t : aLm × aLm) (w : aLl) => AY (fun _ _ _ gR _ _ _ _ _ f6 w => X (gR, f6) w) k4 lE bJ bQ t.1 xO e7 e8 e9 f5 t.2 w) (gR, f6) w
theorem adT (kn : Fk) (k4 : K7) (hn : N10 Q kn 3 4 5 8 9 37 38 39 45 46) (h4 : E7 Q k4 4 3 4 5 8 37 38 39) (h : AY kn k4 (g 3) (g 4) (g 5) (g 8) (g 9) (g 37) (g 38) (g 39) (g 45) (g 46) w) : bH pg dI (bI (bI (aB 2 (bI (aB 1 (bI (aE 1 (aB 2 (bI (bI (aB 1 (aE 1 (aB 1 (aB 1 (aB 4 cY))))))))))))))) Q g w :=
 gC 2 (Zl _ g w (KK kn) k4 (fun g w h => aJ (gC 1 (aiN _ g w (GK kn) (fun g w h => aJ (aiZ _ g w kn hn h)) h))) h4 h)
theorem adM (k4 : K7) (h4 : E7 Q k4 4 3 4 5 8 37 38 39) (h : LV k4 (g 3) (g 4) (g 5) (g 8) (g 9) (g 37) (g 38) (g 39) (g 45) (g 46) w) : bH pg dI (bI (aB 2 (bI (aB 1 (bI (aE 1 (aB 2 (bI (bI (aB 1 (aE 1 (aB 1 (aB 1 (aB 4 cY)))))))))))))) Q g w := by
 refine Cy (fun g : Env => (g 8, g 46)) (fun X t w => AY (fun _ _ _ gR _ _ _ _ _ f6 w => X (gR, f6) w) k4 (g 3) (g 4) (g 5) t.1 (g 9) (g 37) (g 38) (g 39) (g 45) t.2 w) h (fun X g1 w1 ha hL => ?_)
 rw [<- fL 3 ha, <- fL 4 ha, <- fL 5 ha, <- fL 9 ha, <- fL 37 ha, <- fL 38 ha, <- fL 39 ha, <- fL 45 ha] at hL
 exact (adT _ g1 w1 (fun _ _ _ gR _ _ _ _ _ f6 w => X (gR, f6) w) k4 (fun _ _ h => h) h4 hL)
def Mr (kn : K7) (lE bJ bQ gR xO e7 e8 e9 f5 f6 : aLm) (w : aLl) : Prop :=
 LV kn lE bJ bQ gR xO e7 e8 e9 f5 f6 w
def Lf (kn : Fk) (lE bJ bQ gR xO axH e7 e8 e9 : aLm) (w : aLl) : Prop :=
 aC pg (lF .max #[3, 3] 3 [axH, (aLn 0)]) w fun f5 w =>
 kn lE bJ bQ gR xO e7 e8 e9 f5 (aLn 0) w
theorem adC (kn : Fk) (hn : N10 Q kn 3 4 5 8 9 37 38 39 45 46) (h : Lf kn (g 3) (g 4) (g 5) (g 8) (g 9) (g 10) (g 37) (g 38) (g 39) w) : bH pg dI (aE 2 (bI (aB 1 (bI (aE 1 (aB 2 (bI (bI (aB 1 (aE 1 (aB 1 (aB 1 (aB 4 cY))))))))))))) Q g w :=
 dP (kr := no) (l := []) h hn eU trivial
def Vv (kn : K7) (lE bJ bQ gR xO axH e7 e8 e9 : aLm) (w : aLl) : Prop :=
 Lf (fun lE bJ bQ gR xO e7 e8 e9 f5 f6 w => Mr kn lE bJ bQ gR xO e7 e8 e9 f5 f6 w) lE bJ bQ gR xO axH e7 e8 e9 w
def LN (kn : K7) (lE bJ bQ gR xO axH e7 e8 e9 : aLm) (w : aLl) : Prop :=
 Vv kn lE bJ bQ gR xO axH e7 e8 e9 w
def KB (kn : K9) (lE bJ bQ gR e7 e8 e9 : aLm) (w : aLl) : Prop :=
 aC pg (aY 77 e7 e9) w fun f2 w =>
 aC pg (aI 3 f2) w fun f3 w =>
 kn lE bJ bQ gR e9 f3 e7 e8 e9 w
theorem acN (kn : K9) (hn : N9 Q kn 3 4 5 8 9 10 37 38 39) (h : KB kn (g 3) (g 4) (g 5) (g 8) (g 37) (g 38) (g 39) w) : bH pg dI (aE 1 (bI (aE 1 (aB 2 (bI (bI (aB 1 (aE 1 (aB 1 (aB 1 (aB 4 cY))))))))))) Q g w :=
 dP (kr := no) (l := []) h hn eU trivial
def UP (kn : K7) (lE bJ bQ gR e7 e8 e9 : aLm) (w : aLl) : Prop :=
 KB (fun lE bJ bQ gR xO axH e7 e8 e9 w => LN kn lE bJ bQ gR xO axH e7 e8 e9 w) lE bJ bQ gR e7 e8 e9 w
def KW (kn : K7) (lE bJ bQ gR e7 e8 e9 : aLm) (w : aLl) : Prop :=
 UP kn lE bJ bQ gR e7 e8 e9 w
def Li (kn : K7) (lE bJ bQ gR e7 e8 e9 : aLm) (w : aLl) : Prop :=
 KW (fun lE bJ bQ gR e7 e8 e9 w => GZ kn lE bJ bQ gR e7 e8 e9 w) lE bJ bQ gR e7 e8 e9 w
theorem ZD (kn : K7) (hn : N7 Q kn 3 4 5 8 37 38 39) (h : KW kn (g 3) (g 4) (g 5) (g 8) (g 37) (g 38) (g 39) w) : bH pg dI (aE 1 (aB 2 (bI (bI (aB 1 (aE 1 (aB 1 (aB 1 (aB 4 cY))))))))) Q g w :=
 wD 3 (gC 1 (acN _ g w (LN kn) (fun g w h => aJ (scD (gC 2 (adC _ g w (Mr kn) (fun g w h => aJ (wD 4 (adM _ g w kn hn h))) h)))) h))
def Dx (kn : K7) (k2 : K1) (lE bJ bQ gR e7 e8 e9 : aLm) (w : aLl) : Prop :=
 aC pg (aH .lss 3 aM aM e9 e8) w fun f0 w =>
 fE f0
  (kn lE bJ bQ gR e7 e8 e9 w)
  (k2 bJ w)
theorem abD (kn : K7) (k2 : K1) (hn : N7 Q kn 3 4 5 8 37 38 39) (h2 : E1 Q k2 2 4) (h : Dx kn k2 (g 3) (g 4) (g 5) (g 8) (g 37) (g 38) (g 39) w) : bH pg dI (aE 2 (bI (bI (aB 1 (aE 1 (aB 1 (aB 1 (aB 4 cY)))))))) Q g w :=
 dP (kr := no) (l := [(2, fun g w => k2 (g 4) w)]) h hn eU ⟨h2, trivial⟩
def A1 (kn : K7) (k2 : K1) (lE bJ bQ gR e7 e8 e9 : aLm) (w : aLl) : Prop :=
 Dx (fun lE bJ bQ gR e7 e8 e9 w => Li kn lE bJ bQ gR e7 e8 e9 w) k2 lE bJ bQ gR e7 e8 e9 w
def Mo (k2 : K1) (lE bJ bQ gR e7 e8 e9 : aLm) (w : aLl) : Prop :=
 cC (fun (X : (aLm × aLm) -> K0) (t : aLm × aLm) (w : aLl) => A1 (fun _ _ _ gR _ _ e9 w => X (gR, e9) w) k2 lE bJ bQ t.1 e7 e8 t.2 w) (gR, e9) w
theorem aaC (kn : K7) (k2 : K1) (hn : N7 Q kn 3 4 5 8 37 38 39) (h2 : E1 Q k2 2 4) (h : A1 kn k2 (g 3) (g 4) (g 5) (g 8) (g 37) (g 38) (g 39) w) : bH pg dI (bI (bI (aB 1 (aE 1 (aB 1 (aB 1 (aB 4 cY))))))) Q g w :=
 gC 2 (abD _ g w (Li kn) k2 (fun g w h => aJ (gC 1 (ZD _ g w (GZ kn) (fun g w h => aJ (adY _ g w kn hn h)) h))) h2 h)
theorem aaT (k2 : K1) (h2 : E1 Q k2 2 4) (h : Mo k2 (g 3) (g 4) (g 5) (g 8) (g 37) (g 38) (g 39) w) : bH pg dI (bI (aB 1 (aE 1 (aB 1 (aB 1 (aB 4 cY)))))) Q g w := by
 refine Cy (fun g : Env => (g 8, g 39)) (fun X t w => A1 (fun _ _ _ gR _ _ e9 w => X (gR, e9) w) k2 (g 3) (g 4) (g 5) t.1 (g 37) (g 38) t.2 w) h (fun X g1 w1 ha hL => ?_)
 rw [<- fL 3 ha, <- fL 4 ha, <- fL 5 ha, <- fL 37 ha, <- fL 38 ha] at hL
 exact (aaC _ g1 w1 (fun _ _ _ gR _ _ e9 w => X (gR, e9) w) k2 (fun _ _ h => h) h2 hL)
def KE (kn : K1) (lE bJ bQ gR e7 e8 e9 : aLm) (w : aLl) : Prop :=
 Mo kn lE bJ bQ gR e7 e8 e9 w
def MA (kn : K7) (bO lE bJ bQ gR : aLm) (w : aLl) : Prop :=
 aC pg (aL 145 bO 1) w fun e6 w =>
 aC pg (aI 77 e6) w fun e7 w =>
 aC pg (lF .len #[77] 3 [e7]) w fun e8 w =>
 kn lE bJ bQ gR e7 e8 (aLn 0) w
theorem ZO (kn : K7) (hn : N7 Q kn 3 4 5 8 37 38 39) (h : MA kn (g 1) (g 3) (g 4) (g 5) (g 8) w) : bH pg dI (aE 1 (aE 1 (aB 1 (aB 1 (aB 4 cY))))) Q g w :=
 dP (kr := no) (l := []) h hn eU trivial
def Kr (kn : K1) (bO lE bJ bQ gR : aLm) (w : aLl) : Prop :=
 MA (fun lE bJ bQ gR e7 e8 e9 w => KE kn lE bJ bQ gR e7 e8 e9 w) bO lE bJ bQ gR w
def LW (R : K1) (bO lE bJ bQ gR : aLm) (w : aLl) : Prop :=
 Kr (fun bJ w => GI R bJ w) bO lE bJ bQ gR w
theorem acW (kn : K1) (hn : N1 Q kn 4) (h : Kr kn (g 1) (g 3) (g 4) (g 5) (g 8) w) : bH pg dI (aE 1 (aB 1 (aB 1 (aB 4 cY)))) Q g w :=
 gC 1 (ZO _ g w (KE kn) (fun g w h => aJ (wD 2 (aaT _ g w kn hn h))) h)
def LC (kn : K5) (bO lE bJ bQ : aLm) (w : aLl) : Prop :=
 kn bO lE bJ bQ (aLn 0) w
theorem abQ (kn : K5) (hn : N5 Q kn 1 3 4 5 8) (h : LC kn (g 1) (g 3) (g 4) (g 5) w) : bH pg dI (aE 1 (aB 1 (aB 4 cY))) Q g w :=
 dP (kr := no) (l := []) h hn eU trivial
def LD (R : K1) (bO lE bJ bQ : aLm) (w : aLl) : Prop :=
 LC (fun bO lE bJ bQ gR w => LW R bO lE bJ bQ gR w) bO lE bJ bQ w
def DA (kn : K7) (bO lE bJ bQ c8 c9 d0 : aLm) (w : aLl) : Prop :=
 aC pg (aH .add 3 aM aM d0 (aLn 1)) w fun e5 w =>
 kn bO lE bJ bQ c8 c9 e5 w
theorem aaH (kn : K7) (hn : N7 Q kn 1 3 4 5 18 19 20) (h : DA kn (g 1) (g 3) (g 4) (g 5) (g 18) (g 19) (g 20) w) : bH pg dI (aB 3 (bI (bI (aB 1 (aE 1 (aB 4 cY)))))) Q g w :=
 dP (kr := no) (l := []) h hn eU trivial
def Ed (kn : K7) (k0 : K4) (bO lE bJ bQ c8 c9 d0 : aLm) (w : aLl) : Prop :=
 aC pg (aH .lss 3 aM aM d0 c9) w fun d1 w =>
 fE d1
  (aC pg (aY 77 c8 d0) w fun d3 w =>
  aC pg (aI 3 d3) w fun d4 w =>
  aC pg (aH .eql 3 (.tmp 25) (.const (aLn (-1))) d4 (aLn (-1))) w fun d6 w =>
  fE d6
   (aC pg (aH .sub 3 aM aM bQ (aLn 1)) w fun d8 w =>
   aC pg (gF 3 5 d0) w fun e2 w =>
   aC pg (aY 25 bJ d8) w fun e3 w =>
   aC pg (aL 123 e3 0) w fun e4 w =>
   aC pg (aK 5 e4 e2) w fun _u w =>
   kn bO lE bJ d8 c8 c9 d0 w)
   (kn bO lE bJ bQ c8 c9 d0 w))
  (k0 bO lE bJ bQ w)
theorem acI (kn : K7) (k0 : K4) (hn : N7 Q kn 1 3 4 5 18 19 20) (h0 : E4 Q k0 0 1 3 4 5) (h : Ed kn k0 (g 1) (g 3) (g 4) (g 5) (g 18) (g 19) (g 20) w) : bH pg dI (aE 3 (bI (bI (aB 1 (aE 1 (aB 4 cY)))))) Q g w :=
 dP (kr := no) (l := [(0, fun g w => k0 (g 1) (g 3) (g 4) (g 5) w)]) h hn eU ⟨h0, trivial⟩
def AS (kn : K7) (k0 : K4) (bO lE bJ bQ c8 c9 d0 : aLm) (w : aLl) : Prop :=
 Ed (fun bO lE bJ bQ c8 c9 d0 w => DA kn bO lE bJ bQ c8 c9 d0 w) k0 bO lE bJ bQ c8 c9 d0 w
def Lx (k0 : K4) (bO lE bJ bQ c8 c9 d0 : aLm) (w : aLl) : Prop :=
 cC (fun (X : (aLm × aLm) -> K0) (t : aLm × aLm) (w : aLl) => AS (fun _ _ _ bQ _ _ d0 w => X (bQ, d0) w) k0 bO lE bJ t.1 c8 c9 t.2 w) (bQ, d0) w
theorem ZN (kn : K7) (k0 : K4) (hn : N7 Q kn 1 3 4 5 18 19 20) (h0 : E4 Q k0 0 1 3 4 5) (h : AS kn k0 (g 1) (g 3) (g 4) (g 5) (g 18) (g 19) (g 20) w) : bH pg dI (bI (bI (aB 1 (aE 1 (aB 4 cY))))) Q g w :=
 gC 3 (acI _ g w (DA kn) k0 (fun g w h => aJ (aaH _ g w kn hn h)) h0 h)
theorem acD (k0 : K4) (h0 : E4 Q k0 0 1 3 4 5) (h : Lx k0 (g 1) (g 3) (g 4) (g 5) (g 18) (g 19) (g 20) w) : bH pg dI (bI (aB 1 (aE 1 (aB 4 cY)))) Q g w := by
 refine Cy (fun g : Env => (g 5, g 20)) (fun X t w => AS (fun _ _ _ bQ _ _ d0 w => X (bQ, d0) w) k0 (g 1) (g 3) (g 4) t.1 (g 18) (g 19) t.2 w) h (fun X g1 w1 ha hL => ?_)
 rw [<- fL 1 ha, <- fL 3 ha, <- fL 4 ha, <- fL 18 ha, <- fL 19 ha] at hL
 exact (ZN _ g1 w1 (fun _ _ _ bQ _ _ d0 w => X (bQ, d0) w) k0 (fun _ _ h => h) h0 hL)
def My (kn : K4) (bO lE bJ bQ c8 c9 d0 : aLm) (w : aLl) : Prop :=
 Lx kn bO lE bJ bQ c8 c9 d0 w
def LF (kn : K7) (bO lE bJ bQ : aLm) (w : aLl) : Prop :=
 aC pg (aL 145 bO 1) w fun c7 w =>
 aC pg (aI 77 c7) w fun c8 w =>
 aC pg (lF .len #[77] 3 [c8]) w fun c9 w =>
 kn bO lE bJ bQ c8 c9 (aLn 0) w
theorem acV (kn : K7) (hn : N7 Q kn 1 3 4 5 18 19 20) (h : LF kn (g 1) (g 3) (g 4) (g 5) w) : bH pg dI (aE 1 (aE 1 (aB 4 cY))) Q g w :=
 dP (kr := no) (l := []) h hn eU trivial
def Ms (kn : K4) (bO lE bJ bQ : aLm) (w : aLl) : Prop :=
 LF (fun bO lE bJ bQ c8 c9 d0 w => My kn bO lE bJ bQ c8 c9 d0 w) bO lE bJ bQ w
def MT (R : K1) (bO lE bJ bQ : aLm) (w : aLl) : Prop :=
 Ms (fun bO lE bJ bQ w => LD R bO lE bJ bQ w) bO lE bJ bQ w
theorem abE (kn : K4) (hn : N4 Q kn 1 3 4 5) (h : Ms kn (g 1) (g 3) (g 4) (g 5) w) : bH pg dI (aE 1 (aB 4 cY)) Q g w :=
 gC 1 (acV _ g w (My kn) (fun g w h => aJ (wD 0 (acD _ g w kn hn h))) h)
def MD (kn : K4) (c_0 : aLm) (w : aLl) : Prop :=
 aC pg (sU 145 c_0) w fun bO w =>
 aC pg (aL 145 bO 0) w fun c1 w =>
 aC pg (aI 3 c1) w fun c2 w =>
 aC pg (aH .shl 3 aM aM (aLn 1) c2) w fun c3 w =>
 aC pg (AX 25 c3 c3) w fun c5 w =>
 kn bO c3 c5 c3 w
theorem abL (kn : K4) (hn : N4 Q kn 1 3 4 5) (h : MD kn (g 0) w) : bH pg dI (aE 4 cY) Q g w :=
 dP (kr := no) (l := []) h hn eU trivial
def Mg (R : K1) (c_0 : aLm) (w : aLl) : Prop :=
 MD (fun bO lE bJ bQ w => MT R bO lE bJ bQ w) c_0 w
theorem Zv (R : K1) (hr : HR Ow R Q) (h : Mg R (g 0) w) : bH pg dI cY Q g w :=
 gC 4 (abL _ g w (MT R) (fun g w h => aJ (gC 1 (abE _ g w (LD R) (fun g w h => aJ (gC 1 (abQ _ g w (LW R) (fun g w h => aJ (gC 1 (acW _ g w (GI R) (fun g w h => aJ (agW _ g w R hr h)) h))) h))) h))) h)
def aqT (a0 : aLm) (w : aLl) (R : K1) : Prop :=
 Mg R a0 w
theorem anD {a0 : aLm} {w : aLl} {R : K1} (h : aqT a0 w R) : aR pg Ew #[a0] w R := by
 refine tD (ann := dI) Tryd.f88 cY [a0] Ow 70 TrydM.mixed Tryd.func88 ?_
 exact (Zv _ _ _ R (fun _ _ h => h) h)
def Nz : FA := ⟨uF, fun i => .leaf ([], []) []⟩
def P7 : List ResultVar := [.tmp 2]
noncomputable def L6 : Code := cX Tryd.f89
def FR (R : K1) (xG : aLm) (w : aLl) : Prop :=
 fE (.bool false)
  (aC pg (gF 94 43 xG) w fun b4 w =>
  aR pg uV #[b4] w fun b5 w =>
  R b5 w)
  (aR pg zV #[xG] w fun b7 w =>
  R b7 w)
theorem WB (R : K1) (hr : HR P7 R Q) (h : FR R (g 0) w) : bH pg Nz L6 Q g w :=
 dP (kn := no) (l := []) h eU hr trivial
def Xg (a0 : aLm) (w : aLl) (R : K1) : Prop :=
 FR R a0 w
theorem Xn {a0 : aLm} {w : aLl} {R : K1} (h : Xg a0 w R) : aR pg uF #[a0] w R := by
 refine tD (ann := Nz) Tryd.f89 L6 [a0] P7 8 TrydM.mixed Tryd.func89 ?_
 exact (WB _ _ _ R (fun _ _ h => h) h)
def qJ : FA := ⟨EF, fun i => .leaf ([], []) []⟩
def vU : List ResultVar := [.tmp 2]
noncomputable def pQ : Code := cX Tryd.f90
def G0 (R : K1) (nB : aLm) (w : aLl) : Prop :=
 aC pg (aH .eql 3 (.tmp 60) (.const (aLn 0)) nB (aLn 0)) w fun j1 w =>
 R j1 w
theorem aeN (R : K1) (hr : HR vU R Q) (h : G0 R (g 3) w) : bH pg qJ (aB 1 (aB 3 pQ)) Q g w :=
 dP (kn := no) (l := []) h eU hr trivial
def zF (kn : K4) (k0 : K1) (R : K1) (nB f1 f2 f3 : aLm) (w : aLl) : Prop :=
 aC pg (aH .lss 3 aM aM f3 f2) w fun f4 w =>
 fE f4
  (aC pg (aY 77 f1 f3) w fun f5 w =>
  aC pg (aI 3 f5) w fun f6 w =>
  aC pg (aH .lss 3 aM aM f6 (aLn (-1))) w fun f8 w =>
  Gd (eZ f8 false) (fun K => K f6 w) w fun i0 w =>
  Gd (eZ f8 false) (fun K => aR pg sY #[i0] w K) w fun i1 w =>
  Gd (eZ f8 false) (fun K => K nB w) w fun i2 w =>
  Gd (eZ f8 false) (fun K => aC pg (aH .gtr 3 aM aM i1 i2) w K) w fun i3 w =>
  aC pg (fV f8 (.bool true) i3) w fun i4 w =>
  fE i4
   (R (.bool false) w)
   (aR pg sY #[f6] w fun i7 w =>
   aC pg (aH .sub 3 aM aM nB i7) w fun i8 w =>
   aC pg (aH .add 3 aM aM f3 (aLn 1)) w fun i9 w =>
   kn i8 f1 f2 i9 w))
  (k0 nB w)
theorem agV (kn : K4) (k0 : K1) (R : K1) (hn : N4 Q kn 3 41 42 43) (h0 : E1 Q k0 0 3) (hr : HR vU R Q) (h : zF kn k0 R (g 3) (g 41) (g 42) (g 43) w) : bH pg qJ (bI (bI (aB 1 (aE 1 (aB 3 pQ))))) Q g w :=
 dP (l := [(0, fun g w => k0 (g 3) w)]) h hn hr ⟨h0, trivial⟩
def PG (k0 : K1) (R : K1) (nB f1 f2 f3 : aLm) (w : aLl) : Prop :=
 cC (fun (X : (aLm × aLm) -> K0) (t : aLm × aLm) (w : aLl) => zF (fun nB _ _ f3 w => X (nB, f3) w) k0 R t.1 f1 f2 t.2 w) (nB, f3) w
theorem agI (k0 : K1) (R : K1) (h0 : E1 Q k0 0 3) (hr : HR vU R Q) (h : PG k0 R (g 3) (g 41) (g 42) (g 43) w) : bH pg qJ (bI (aB 1 (aE 1 (aB 3 pQ)))) Q g w := by
 refine Cy (fun g : Env => (g 3, g 43)) (fun X t w => zF (fun nB _ _ f3 w => X (nB, f3) w) k0 R t.1 (g 41) (g 42) t.2 w) h (fun X g1 w1 ha hL => ?_)
 rw [<- fL 41 ha, <- fL 42 ha] at hL
 exact (agV _ g1 w1 (fun nB _ _ f3 w => X (nB, f3) w) k0 R (fun _ _ h => h) h0 hr hL)
def OZ (kn : K1) (R : K1) (nB f1 f2 f3 : aLm) (w : aLl) : Prop :=
 PG kn R nB f1 f2 f3 w
def OL (kn : K4) (bO nB : aLm) (w : aLl) : Prop :=
 aC pg (aL 145 bO 1) w fun f0 w =>
 aC pg (aI 77 f0) w fun f1 w =>
 aC pg (lF .len #[77] 3 [f1]) w fun f2 w =>
 kn nB f1 f2 (aLn 0) w
theorem ahK (kn : K4) (hn : N4 Q kn 3 41 42 43) (h : OL kn (g 1) (g 3) w) : bH pg qJ (aE 1 (aE 1 (aB 3 pQ))) Q g w :=
 dP (kr := no) (l := []) h hn eU trivial
def Pp (kn : K1) (R : K1) (bO nB : aLm) (w : aLl) : Prop :=
 OL (fun nB f1 f2 f3 w => OZ kn R nB f1 f2 f3 w) bO nB w
def O2 (R : K1) (bO nB : aLm) (w : aLl) : Prop :=
 Pp (fun nB w => G0 R nB w) R bO nB w
theorem afR (kn : K1) (R : K1) (hn : N1 Q kn 3) (hr : HR vU R Q) (h : Pp kn R (g 1) (g 3) w) : bH pg qJ (aE 1 (aB 3 pQ)) Q g w :=
 gC 1 (ahK _ g w (OZ kn R) (fun g w h => aJ (wD 0 (agI _ g w kn R hn hr h))) h)
def Om (kn : K2) (R : K1) (c_0 : aLm) (w : aLl) : Prop :=
 aC pg (sU 145 c_0) w fun bO w =>
 aC pg (aL 145 bO 0) w fun b6 w =>
 aC pg (aI 3 b6) w fun b7 w =>
 aC pg (aH .lss 3 aM aM b7 (aLn 5)) w fun b8 w =>
 Gd (eZ b8 false) (fun K => aC pg (aL 145 bO 0) w K) w fun c0 w =>
 Gd (eZ b8 false) (fun K => aC pg (aI 3 c0) w K) w fun c1 w =>
 Gd (eZ b8 false) (fun K => aC pg (aH .gtr 3 aM aM c1 (aLn 15)) w K) w fun c2 w =>
 aC pg (fV b8 (.bool true) c2) w fun c3 w =>
 Gd (eZ c3 false) (fun K => aC pg (aL 145 bO 1) w K) w fun c5 w =>
 Gd (eZ c3 false) (fun K => aC pg (aI 77 c5) w K) w fun c6 w =>
 Gd (eZ c3 false) (fun K => aC pg (lF .len #[77] 3 [c6]) w K) w fun c7 w =>
 Gd (eZ c3 false) (fun K => aC pg (aH .lss 3 aM aM c7 (aLn 1)) w K) w fun c8 w =>
 aC pg (fV c3 (.bool true) c8) w fun c9 w =>
 Gd (eZ c9 false) (fun K => aC pg (aL 145 bO 1) w K) w fun d1 w =>
 Gd (eZ c9 false) (fun K => aC pg (aI 77 d1) w K) w fun d2 w =>
 Gd (eZ c9 false) (fun K => aC pg (lF .len #[77] 3 [d2]) w K) w fun d3 w =>
 Gd (eZ c9 false) (fun K => aC pg (aH .gtr 3 aM aM d3 (aLn 256)) w K) w fun d4 w =>
 aC pg (fV c9 (.bool true) d4) w fun d5 w =>
 Gd (eZ d5 false) (fun K => aC pg (aL 145 bO 1) w K) w fun d7 w =>
 Gd (eZ d5 false) (fun K => aC pg (aI 77 d7) w K) w fun d8 w =>
 Gd (eZ d5 false) (fun K => aC pg (aL 145 bO 1) w K) w fun d9 w =>
 Gd (eZ d5 false) (fun K => aC pg (aI 77 d9) w K) w fun e0 w =>
 Gd (eZ d5 false) (fun K => aC pg (lF .len #[77] 3 [e0]) w K) w fun e1 w =>
 Gd (eZ d5 false) (fun K => aC pg (aH .sub 3 aM aM e1 (aLn 1)) w K) w fun e2 w =>
 Gd (eZ d5 false) (fun K => aC pg (aY 77 d8 e2) w K) w fun e3 w =>
 Gd (eZ d5 false) (fun K => aC pg (aI 3 e3) w K) w fun e4 w =>
 Gd (eZ d5 false) (fun K => aC pg (aH .eql 3 (.tmp 34) (.const (aLn 0)) e4 (aLn 0)) w K) w fun e5 w =>
 aC pg (fV d5 (.bool true) e5) w fun e6 w =>
 fE e6
  (R (.bool false) w)
  (aC pg (aL 145 bO 0) w fun e7 w =>
  aC pg (aI 3 e7) w fun e8 w =>
  aC pg (aH .shl 3 aM aM (aLn 1) e8) w fun e9 w =>
  kn bO e9 w)
theorem agQ (kn : K2) (R : K1) (hn : N2 Q kn 1 3) (hr : HR vU R Q) (h : Om kn R (g 0) w) : bH pg qJ (aE 3 pQ) Q g w :=
 dP (l := []) h hn hr trivial
def OM (R : K1) (c_0 : aLm) (w : aLl) : Prop :=
 Om (fun bO nB w => O2 R bO nB w) R c_0 w
theorem ajF (R : K1) (hr : HR vU R Q) (h : OM R (g 0) w) : bH pg qJ pQ Q g w :=
 gC 3 (agQ _ g w (O2 R) R (fun g w h => aJ (gC 1 (afR _ g w (G0 R) R (fun g w h => aJ (aeN _ g w R hr h)) hr h))) hr h)
def asJ (a0 : aLm) (w : aLl) (R : K1) : Prop :=
 OM R a0 w
theorem anI {a0 : aLm} {w : aLl} {R : K1} (h : asJ a0 w R) : aR pg EF #[a0] w R := by
 refine tD (ann := qJ) Tryd.f90 pQ [a0] vU 62 TrydM.mixed Tryd.func90 ?_
 exact (ajF _ _ _ R (fun _ _ h => h) h)
def Qu : FA := ⟨sY, fun i => .leaf ([], []) []⟩
def SS : List ResultVar := [.tmp 2]
noncomputable def Nd : Code := cX Tryd.f91
def BY (R : K1) (p_0 : aLm) (w : aLl) : Prop :=
 aC pg (aH .lss 3 aM aM p_0 (aLn 0)) w fun b4 w =>
 fE b4
  (R (aLn 1) w)
  (R p_0 w)
theorem Xy (R : K1) (hr : HR SS R Q) (h : BY R (g 0) w) : bH pg Qu Nd Q g w :=
 dP (kn := no) (l := []) h eU hr trivial
def RS (a0 : aLm) (w : aLl) (R : K1) : Prop :=
 BY R a0 w
theorem abO {a0 : aLm} {w : aLl} {R : K1} (h : RS a0 w R) : aR pg sY #[a0] w R := by
 refine tD (ann := Qu) Tryd.f91 Nd [a0] SS 6 TrydM.mixed Tryd.func91 ?_
 exact (Xy _ _ _ R (fun _ _ h => h) h)
def Ju : FA := ⟨zQ, fun i => .leaf ([], []) []⟩
def Lw : List ResultVar := [.tmp 2]
noncomputable def Hj : Code := cX Tryd.f92
def CQ (R : K1) (xH : aLm) (w : aLl) : Prop :=
 aC pg (aH .eql 151 (.tmp 3) (.const (.pointer none)) xH (.pointer none)) w fun b4 w =>
 fE b4
  (R (.slice none 0 0) w)
  (aC pg (sQ xH) w fun b6 w =>
  aC pg (aL 183 b6 0) w fun b7 w =>
  aC pg (aI 22 b7) w fun b8 w =>
  aR pg kA #[b8] w fun b9 w =>
  R b9 w)
theorem Tx (R : K1) (hr : HR Lw R Q) (h : CQ R (g 0) w) : bH pg Ju Hj Q g w :=
 dP (kn := no) (l := []) h eU hr trivial
def Su (a0 : aLm) (w : aLl) (R : K1) : Prop :=
 CQ R a0 w
theorem Us {a0 : aLm} {w : aLl} {R : K1} (h : Su a0 w R) : aR pg zQ #[a0] w R := by
 refine tD (ann := Ju) Tryd.f92 Hj [a0] Lw 10 TrydM.mixed Tryd.func92 ?_
 exact (Tx _ _ _ R (fun _ _ h => h) h)
def Jt : FA := ⟨zR, fun i => .leaf ([], []) []⟩
def KR : List ResultVar := [.tmp 2]
noncomputable def Hs : Code := cX Tryd.f93
def CJ (R : K1) (EW : aLm) (w : aLl) : Prop :=
 aR pg kA #[EW] w fun b4 w =>
 aC pg (bX 195 [(0, b4)]) w fun b5 w =>
 aC pg (sU 195 b5) w fun b6 w =>
 R b6 w
theorem Tt (R : K1) (hr : HR KR R Q) (h : CJ R (g 0) w) : bH pg Jt Hs Q g w :=
 dP (kn := no) (l := []) h eU hr trivial
def SE (a0 : aLm) (w : aLl) (R : K1) : Prop :=
 CJ R a0 w
theorem Vl {a0 : aLm} {w : aLl} {R : K1} (h : SE a0 w R) : aR pg zR #[a0] w R := by
 refine tD (ann := Jt) Tryd.f93 Hs [a0] KR 7 TrydM.mixed Tryd.func93 ?_
 exact (Tt _ _ _ R (fun _ _ h => h) h)
def Fh : FA := ⟨nA, fun i => match Nat.beq i 3 with | true => .leaf ([], []) [(false, []), (false, []), (false, []), (false, []), (false, []), (false, []), (false, []), (false, []), (false, []), (false, []), (false, []), (false, []), (false, []), (false, [])] | false => match Nat.beq i 5 with | true => .leaf ([9], []) [(false, []), (false, []), (false, []), (false, []), (false, []), (false, []), (false, []), (false, []), (false, []), (true, []), (false, [])] | false => .leaf ([], []) []⟩
def Hn : List ResultVar := [.tmp 4, .tmp 5]
noncomputable def D9 : Code := cX Tryd.f94
def AG (R : K1) (MY sC : aLm) (w : aLl) : Prop :=
 aC pg (aH .eql 184 (.tmp 8) (.const (.pointer none)) MY (.pointer none)) w fun b9 w =>
 Gd (eZ b9 false) (fun K => K sC w) w fun c1 w =>
 Gd (eZ b9 false) (fun K => aC pg (aH .lss 3 aM aM c1 (aLn 0)) w K) w fun c2 w =>
 aC pg (fV b9 (.bool true) c2) w fun c3 w =>
 Gd (eZ c3 false) (fun K => K sC w) w fun c5 w =>
 Gd (eZ c3 false) (fun K => aC pg (aH .gtr 3 aM aM c5 (aLn 32)) w K) w fun c6 w =>
 aC pg (fV c3 (.bool true) c6) w fun c7 w =>
 fE c7
  (R (.tuple #[(.int .u64 0), (aLn 1)]) w)
  ((dr w) = (dr w) /\
  aC pg (sQ MY) (dr w) fun d0 w_ => w_ = (dr w) /\
  aC pg (aL 195 d0 0) (dr w) fun d1 w_ => w_ = (dr w) /\
  aC pg (aI 22 d1) (dr w) fun d2 w_ => w_ = (dr w) /\
  aC pg (lF .len #[22] 3 [d2]) (dr w) fun d3 w_ => w_ = (dr w) /\
  aC pg (aH .mul 3 aM aM (aLn 8) d3) (dr w) fun d4 w_ => w_ = (dr w) /\
  (dr w) = (dr w) /\
  aC pg (sQ MY) (dr w) fun d6 w_ => w_ = (dr w) /\
  aC pg (aL 195 d6 1) (dr w) fun d7 w_ => w_ = (dr w) /\
  aC pg (aI 3 d7) (dr w) fun d8 w_ => w_ = (dr w) /\
  aC pg (aH .sub 3 aM aM d4 d8) (dr w) fun d9 w_ => w_ = (dr w) /\
  (dr w) = (dr w) /\
  aC pg (aH .lss 3 aM aM d9 sC) (dr w) fun e1 w_ => w_ = (dr w) /\
  (dr w) = (dr w) /\
  fE e1
   (R (.tuple #[(.int .u64 0), (aLn 10)]) (dr w))
   ((dr (dr w)) = (dr (dr w)) /\
   aC pg (sQ MY) (dr (dr w)) fun e3 w_ => w_ = (dr (dr w)) /\
   aC pg (aL 195 e3 0) (dr (dr w)) fun e4 w_ => w_ = (dr (dr w)) /\
   aC pg (aI 22 e4) (dr (dr w)) fun e5 w_ => w_ = (dr (dr w)) /\
   (dr (dr w)) = (dr (dr w)) /\
   aC pg (sQ MY) (dr (dr w)) fun e7 w_ => w_ = (dr (dr w)) /\
   aC pg (aL 195 e7 1) (dr (dr w)) fun e8 w_ => w_ = (dr (dr w)) /\
   aC pg (aI 3 e8) (dr (dr w)) fun e9 w_ => w_ = (dr (dr w)) /\
   (dr (dr w)) = (dr (dr w)) /\
   aR pg HE #[e5, e9, sC] (dr (dr w)) fun f1 aGW =>
   aGW = aGW /\
   aC pg (sQ MY) aGW fun f3 w =>
   aC pg (aL 195 f3 1) w fun f4 w =>
   aC pg (aI 3 f4) w fun f5 w =>
   aC pg (aH .add 3 aM aM f5 sC) w fun f7 w =>
   aC pg (sQ MY) w fun f8 w =>
   aC pg (aL 195 f8 1) w fun f9 w =>
   aC pg (aK 3 f9 f7) w fun _u w =>
   R (.tuple #[f1, (aLn 0)]) w))
theorem Qj (R : K1) (hr : HR Hn R Q) (h : AG R (g 0) (g 1) w) : bH pg Fh D9 Q g w :=
 dP (kn := no) (l := []) h eU hr trivial
def Nn (a0 a1 : aLm) (w : aLl) (R : K1) : Prop :=
 AG R a0 a1 w
theorem Rh {a0 a1 : aLm} {w : aLl} {R : K1} (h : Nn a0 a1 w R) : aR pg nA #[a0, a1] w R := by
 refine tD (ann := Fh) Tryd.f94 D9 [a0, a1] Hn 51 TrydM.mixed Tryd.func94 ?_
 exact (Qj _ _ _ R (fun _ _ h => h) h)
def QF : FA := ⟨DQ, fun i => .leaf ([], []) []⟩
def SC : List ResultVar := [.tmp 4, .tmp 5]
noncomputable def Nm : Code := cX Tryd.f95
def Iq (R : K1) (MY aoU : aLm) (w : aLl) : Prop :=
 aC pg (aH .add 3 aM aM aoU (aLn 1)) w fun c2 w =>
 aC pg (gF 3 94 c2) w fun c3 w =>
 aR pg uF #[c3] w fun c4 w =>
 aC pg (aH .sub 3 aM aM c4 (aLn 1)) w fun c8 w =>
 aR pg nA #[MY, c8] w fun c9 w =>
 aC pg (bD c9 0) w fun d0 w =>
 aC pg (bD c9 1) w fun d1 w =>
 aC pg (aH .neq 30 (.tmp 22) (.const (aLn 0)) d1 (aLn 0)) w fun d3 w =>
 fE d3
  (R (.tuple #[(aLn 0), d1]) w)
  (aC pg (aH .shl 3 aM aM (aLn 1) c4) w fun d6 w =>
  aC pg (aH .sub 3 aM aM d6 (aLn 2)) w fun d7 w =>
  aC pg (aH .sub 3 aM aM d7 aoU) w fun d9 w =>
  aC pg (gF 73 3 d0) w fun e1 w =>
  aC pg (aH .lss 3 aM aM e1 d9) w fun e3 w =>
  fE e3
   (aC pg (gF 73 3 d0) w fun e5 w =>
   R (.tuple #[e5, (aLn 0)]) w)
   (aR pg nA #[MY, (aLn 1)] w fun e8 w =>
   aC pg (bD e8 0) w fun e9 w =>
   aC pg (bD e8 1) w fun f0 w =>
   aC pg (aH .neq 30 (.tmp 42) (.const (aLn 0)) f0 (aLn 0)) w fun f3 w =>
   fE f3
    (R (.tuple #[(aLn 0), f0]) w)
    (aC pg (aH .eql 73 (.tmp 46) (.const (.int .u64 0)) e9 (.int .u64 0)) w fun f7 w =>
    fE f7
     (aC pg (gF 73 3 d0) w fun f9 w =>
     R (.tuple #[f9, (aLn 0)]) w)
     (aC pg (gF 73 3 d0) w fun i1 w =>
     aC pg (aH .sub 3 aM aM c4 (aLn 1)) w fun i3 w =>
     aC pg (aH .shl 3 aM aM (aLn 1) i3) w fun i4 w =>
     aC pg (aH .add 3 aM aM i1 i4) w fun i5 w =>
     aC pg (aH .sub 3 aM aM i5 d9) w fun i7 w =>
     R (.tuple #[i7, (aLn 0)]) w))))
theorem YT (R : K1) (hr : HR SC R Q) (h : Iq R (g 0) (g 1) w) : bH pg QF Nm Q g w :=
 dP (kn := no) (l := []) h eU hr trivial
def abS (a0 a1 : aLm) (w : aLl) (R : K1) : Prop :=
 Iq R a0 a1 w
theorem acO {a0 a1 : aLm} {w : aLl} {R : K1} (h : abS a0 a1 w R) : aR pg DQ #[a0, a1] w R := by
 refine tD (ann := QF) Tryd.f95 Nm [a0, a1] SC 58 TrydM.mixed Tryd.func95 ?_
 exact (YT _ _ _ R (fun _ _ h => h) h)
def mK : FA := ⟨Bk, fun i => .leaf ([], []) []⟩
def rN : List ResultVar := [.tmp 2, .tmp 3]
noncomputable def lP : Code := cX Tryd.f96
def Ad (R : K1) (n_4 : aLm) (w : aLl) : Prop :=
 R (.tuple #[n_4, (aLn 0)]) w
theorem US (R : K1) (hr : HR rN R Q) (h : Ad R (g 4) w) : bH pg mK (aB 1 (aB 2 (bI (aB 1 lP)))) Q g w :=
 dP (kn := no) (l := []) h eU hr trivial
def zO (kn : K2) (k0 : K1) (R : K1) (MY n_4 : aLm) (w : aLl) : Prop :=
 aR pg nA #[MY, (aLn 2)] w fun b9 w =>
 aC pg (bD b9 0) w fun c0 w =>
 aC pg (bD b9 1) w fun c1 w =>
 aC pg (aH .neq 30 (.tmp 12) (.const (aLn 0)) c1 (aLn 0)) w fun c3 w =>
 fE c3
  (R (.tuple #[(aLn 0), c1]) w)
  (aC pg (gF 73 3 c0) w fun c7 w =>
  aC pg (aH .add 3 aM aM n_4 c7) w fun c8 w =>
  aC pg (aH .lss 73 aM aM c0 (.int .u64 3)) w fun d0 w =>
  fE d0
   (k0 c8 w)
   (kn MY c8 w))
theorem Vw (kn : K2) (k0 : K1) (R : K1) (hn : N2 Q kn 0 4) (h0 : E1 Q k0 0 4) (hr : HR rN R Q) (h : zO kn k0 R (g 0) (g 4) w) : bH pg mK (bI (bI (aE 1 (aB 2 (bI (aB 1 lP)))))) Q g w :=
 dP (l := [(0, fun g w => k0 (g 4) w)]) h hn hr ⟨h0, trivial⟩
def EE (k0 : K1) (R : K1) (MY n_4 : aLm) (w : aLl) : Prop :=
 cC (fun (X : aLm -> K0) (t : aLm) (w : aLl) => zO (fun _ n_4 w => X n_4 w) k0 R MY t w) n_4 w
theorem T4 (k0 : K1) (R : K1) (h0 : E1 Q k0 0 4) (hr : HR rN R Q) (h : EE k0 R (g 0) (g 4) w) : bH pg mK (bI (aE 1 (aB 2 (bI (aB 1 lP))))) Q g w := by
 refine Cy (fun g : Env => g 4) (fun X t w => zO (fun _ n_4 w => X n_4 w) k0 R (g 0) t w) h (fun X g1 w1 ha hL => ?_)
 rw [<- fL 0 ha] at hL
 exact (Vw _ g1 w1 (fun _ n_4 w => X n_4 w) k0 R (fun _ _ h => h) h0 hr hL)
def ER (kn : K1) (R : K1) (MY n_4 : aLm) (w : aLl) : Prop :=
 EE kn R MY n_4 w
def Dy (R : K1) (MY n_4 : aLm) (w : aLl) : Prop :=
 ER (fun n_4 w => Ad R n_4 w) R MY n_4 w
theorem U2 (kn : K1) (R : K1) (hn : N1 Q kn 4) (hr : HR rN R Q) (h : ER kn R (g 0) (g 4) w) : bH pg mK (aE 1 (aB 2 (bI (aB 1 lP)))) Q g w :=
 wD 0 (T4 _ g w kn R hn hr h)
def ET (kn : K2) (MY : aLm) (w : aLl) : Prop :=
 kn MY (aLn 0) w
theorem TW (kn : K2) (hn : N2 Q kn 0 4) (h : ET kn (g 0) w) : bH pg mK (aE 2 (bI (aB 1 lP))) Q g w :=
 dP (kr := no) (l := []) h hn eU trivial
def No (R : K1) (MY : aLm) (w : aLl) : Prop :=
 ET (fun MY n_4 w => Dy R MY n_4 w) MY w
def Ec (R : K1) (MY : aLm) (w : aLl) : Prop :=
 No R MY w
def EK (kn : K1) (MY : aLm) (w : aLl) : Prop :=
 kn MY w
theorem TV (kn : K1) (hn : N1 Q kn 0) (h : EK kn (g 0) w) : bH pg mK (aE 1 lP) Q g w :=
 dP (kr := no) (l := []) h hn eU trivial
def C8 (R : K1) (MY : aLm) (w : aLl) : Prop :=
 EK (fun MY w => Ec R MY w) MY w
theorem Tb (R : K1) (hr : HR rN R Q) (h : C8 R (g 0) w) : bH pg mK lP Q g w :=
 gC 1 (TV _ g w (Ec R) (fun g w h => aJ (scD (gC 2 (TW _ g w (Dy R) (fun g w h => aJ (gC 1 (U2 _ g w (Ad R) R (fun g w h => aJ (US _ g w R hr h)) hr h))) h)))) h)
def UG (a0 : aLm) (w : aLl) (R : K1) : Prop :=
 C8 R a0 w
theorem Wx {a0 : aLm} {w : aLl} {R : K1} (h : UG a0 w R) : aR pg Bk #[a0] w R := by
 refine tD (ann := mK) Tryd.f96 lP [a0] rN 22 TrydM.mixed Tryd.func96 ?_
 exact (Tb _ _ _ R (fun _ _ h => h) h)
def Ff : FA := ⟨wB, fun i => .leaf ([], []) []⟩
def Hr : List ResultVar := [.tmp 2]
noncomputable def DX : Code := cX Tryd.f97
def AD (R : K1) (MY : aLm) (w : aLl) : Prop :=
 aC pg (aH .eql 184 (.tmp 3) (.const (.pointer none)) MY (.pointer none)) w fun b4 w =>
 fE b4
  (R (aLn 0) w)
  (aC pg (sQ MY) w fun b6 w =>
  aC pg (aL 195 b6 1) w fun b7 w =>
  aC pg (aI 3 b7) w fun b8 w =>
  aC pg (aH .add 3 aM aM b8 (aLn 7)) w fun b9 w =>
  aC pg (aH .quo 3 aM aM b9 (aLn 8)) w fun c0 w =>
  R c0 w)
theorem Qf (R : K1) (hr : HR Hr R Q) (h : AD R (g 0) w) : bH pg Ff DX Q g w :=
 dP (kn := no) (l := []) h eU hr trivial
def Ny (a0 : aLm) (w : aLl) (R : K1) : Prop :=
 AD R a0 w
theorem Se {a0 : aLm} {w : aLl} {R : K1} (h : Ny a0 w R) : aR pg wB #[a0] w R := by
 refine tD (ann := Ff) Tryd.f97 DX [a0] Hr 11 TrydM.mixed Tryd.func97 ?_
 exact (Qf _ _ _ R (fun _ _ h => h) h)
def rR : FA := ⟨Gz, fun i => .leaf ([], []) []⟩
def Lt : List ResultVar := [.tmp 2]
noncomputable def qE : Code := cX Tryd.f98
def DE (R : K1) (lE : aLm) (w : aLl) : Prop :=
 R lE w
theorem acT (R : K1) (hr : HR Lt R Q) (h : DE R (g 3) w) : bH pg rR (aB 1 (aB 2 qE)) Q g w :=
 dP (kn := no) (l := []) h eU hr trivial
def Eo (kn : K2) (k0 : K1) (xG lE : aLm) (w : aLl) : Prop :=
 aC pg (aH .gtr 3 aM aM xG (aLn 0)) w fun b5 w =>
 fE b5
  (aC pg (aH .quo 3 aM aM xG (aLn 2)) w fun b7 w =>
  aC pg (aH .add 3 aM aM lE (aLn 1)) w fun b9 w =>
  kn b7 b9 w)
  (k0 lE w)
theorem aaX (kn : K2) (k0 : K1) (hn : N2 Q kn 0 3) (h0 : E1 Q k0 0 3) (h : Eo kn k0 (g 0) (g 3) w) : bH pg rR (bI (bI (aE 1 (aB 2 qE)))) Q g w :=
 dP (kr := no) (l := [(0, fun g w => k0 (g 3) w)]) h hn eU ⟨h0, trivial⟩
def LL (k0 : K1) (xG lE : aLm) (w : aLl) : Prop :=
 cC (fun (X : (aLm × aLm) -> K0) (t : aLm × aLm) (w : aLl) => Eo (fun xG lE w => X (xG, lE) w) k0 t.1 t.2 w) (xG, lE) w
theorem ZQ (k0 : K1) (h0 : E1 Q k0 0 3) (h : LL k0 (g 0) (g 3) w) : bH pg rR (bI (aE 1 (aB 2 qE))) Q g w := by
 refine Cy (fun g : Env => (g 0, g 3)) (fun X t w => Eo (fun xG lE w => X (xG, lE) w) k0 t.1 t.2 w) h (fun X g1 w1 ha hL => ?_)
 exact (aaX _ g1 w1 (fun xG lE w => X (xG, lE) w) k0 (fun _ _ h => h) h0 hL)
def KQ (kn : K1) (xG lE : aLm) (w : aLl) : Prop :=
 LL kn xG lE w
def Lb (R : K1) (xG lE : aLm) (w : aLl) : Prop :=
 KQ (fun lE w => DE R lE w) xG lE w
theorem Z4 (kn : K1) (hn : N1 Q kn 3) (h : KQ kn (g 0) (g 3) w) : bH pg rR (aE 1 (aB 2 qE)) Q g w :=
 wD 0 (ZQ _ g w kn hn h)
def Mm (kn : K2) (xG : aLm) (w : aLl) : Prop :=
 kn xG (aLn 0) w
theorem abA (kn : K2) (hn : N2 Q kn 0 3) (h : Mm kn (g 0) w) : bH pg rR (aE 2 qE) Q g w :=
 dP (kr := no) (l := []) h hn eU trivial
def LM (R : K1) (xG : aLm) (w : aLl) : Prop :=
 Mm (fun xG lE w => Lb R xG lE w) xG w
theorem acZ (R : K1) (hr : HR Lt R Q) (h : LM R (g 0) w) : bH pg rR qE Q g w :=
 gC 2 (abA _ g w (Lb R) (fun g w h => aJ (gC 1 (Z4 _ g w (DE R) (fun g w h => aJ (acT _ g w R hr h)) h))) h)
def akO (a0 : aLm) (w : aLl) (R : K1) : Prop :=
 LM R a0 w
theorem ajP {a0 : aLm} {w : aLl} {R : K1} (h : akO a0 w R) : aR pg Gz #[a0] w R := by
 refine tD (ann := rR) Tryd.f98 qE [a0] Lt 11 TrydM.mixed Tryd.func98 ?_
 exact (acZ _ _ _ R (fun _ _ h => h) h)
def lO : FA := ⟨Nx, fun i => .leaf ([], []) []⟩
def sF : List ResultVar := [.tmp 2]
noncomputable def kK : Code := cX Tryd.f99
def JI (R : K1) (bO jN : aLm) (w : aLl) : Prop :=
 aC pg (aL 130 bO 0) w fun j1 w =>
 aC pg (aI 3 j1) w fun j2 w =>
 aR pg qG #[j2] w fun j3 w =>
 aC pg (aH .eql 3 (.tmp 60) (.tmp 63) jN j3) w fun j4 w =>
 R j4 w
theorem akZ (R : K1) (hr : HR sF R Q) (h : JI R (g 1) (g 3) w) : bH pg lO (aB 1 (aB 3 kK)) Q g w :=
 dP (kn := no) (l := []) h eU hr trivial
def Ex (kn : K3) (bO jN iV : aLm) (w : aLl) : Prop :=
 aC pg (aH .add 3 aM aM iV (aLn 1)) w fun f3 w =>
 kn bO jN f3 w
theorem amR (kn : K3) (hn : N3 Q kn 1 3 4) (h : Ex kn (g 1) (g 3) (g 4) w) : bH pg lO (aB 1 (aB 1 (bI (bI (aB 1 (aE 1 (aB 3 kK))))))) Q g w :=
 dP (kr := no) (l := []) h hn eU trivial
def DL (kn : K3) (bO jN iV p_5 : aLm) (w : aLl) : Prop :=
 aC pg (aH .add 3 aM aM jN p_5) w fun i9 w =>
 kn bO i9 iV w
theorem amN (kn : K3) (hn : N3 Q kn 1 3 4) (h : DL kn (g 1) (g 3) (g 4) (g 5) w) : bH pg lO (aB 3 (bI (aE 1 (aB 1 (bI (bI (aB 1 (aE 1 (aB 3 kK))))))))) Q g w :=
 dP (kr := no) (l := []) h hn eU trivial
def Dw (kn : K4) (R : K1) (bO jN iV : aLm) (w : aLl) : Prop :=
 aC pg (aL 130 bO 1) w fun f4 w =>
 aC pg (aI 77 f4) w fun f5 w =>
 aC pg (aY 77 f5 iV) w fun f7 w =>
 aC pg (aI 3 f7) w fun f8 w =>
 aC pg (aH .lss 3 aM aM f8 (aLn (-1))) w fun i0 w =>
 Gd (eZ i0 false) (fun K => K f8 w) w fun i2 w =>
 Gd (eZ i0 false) (fun K => aC pg (aH .gtr 3 aM aM i2 (aLn 32768)) w K) w fun i3 w =>
 aC pg (fV i0 (.bool true) i3) w fun i4 w =>
 fE i4
  (R (.bool false) w)
  (aC pg (aH .lss 3 aM aM f8 (aLn 0)) w fun i6 w =>
  fE i6
   (kn bO jN iV (aLn 1) w)
   (kn bO jN iV f8 w))
theorem amH (kn : K4) (R : K1) (hn : N4 Q kn 1 3 4 5) (hr : HR sF R Q) (h : Dw kn R (g 1) (g 3) (g 4) w) : bH pg lO (aE 3 (bI (aE 1 (aB 1 (bI (bI (aB 1 (aE 1 (aB 3 kK))))))))) Q g w :=
 dP (l := []) h hn hr trivial
def JQ (kn : K3) (R : K1) (bO jN iV : aLm) (w : aLl) : Prop :=
 Dw (fun bO jN iV p_5 w => DL kn bO jN iV p_5 w) R bO jN iV w
def Ej (kn : K3) (R : K1) (bO jN iV : aLm) (w : aLl) : Prop :=
 JQ kn R bO jN iV w
def DS (kn : K3) (R : K1) (bO jN iV : aLm) (w : aLl) : Prop :=
 Ej (fun bO jN iV w => Ex kn bO jN iV w) R bO jN iV w
theorem alA (kn : K3) (R : K1) (hn : N3 Q kn 1 3 4) (hr : HR sF R Q) (h : Ej kn R (g 1) (g 3) (g 4) w) : bH pg lO (aE 1 (aB 1 (bI (bI (aB 1 (aE 1 (aB 3 kK))))))) Q g w :=
 wD 1 (gC 3 (amH _ g w (DL kn) R (fun g w h => aJ (amN _ g w kn hn h)) hr h))
def Bi (kn : K3) (k0 : K2) (bO jN iV : aLm) (w : aLl) : Prop :=
 aC pg (aL 130 bO 1) w fun e8 w =>
 aC pg (aI 77 e8) w fun e9 w =>
 aC pg (lF .len #[77] 3 [e9]) w fun f0 w =>
 aC pg (aH .lss 3 aM aM iV f0) w fun f1 w =>
 fE f1
  (kn bO jN iV w)
  (k0 bO jN w)
theorem amA (kn : K3) (k0 : K2) (hn : N3 Q kn 1 3 4) (h0 : E2 Q k0 0 1 3) (h : Bi kn k0 (g 1) (g 3) (g 4) w) : bH pg lO (aE 1 (bI (bI (aB 1 (aE 1 (aB 3 kK)))))) Q g w :=
 dP (kr := no) (l := [(0, fun g w => k0 (g 1) (g 3) w)]) h hn eU ⟨h0, trivial⟩
def yP (kn : K3) (k0 : K2) (R : K1) (bO jN iV : aLm) (w : aLl) : Prop :=
 Bi (fun bO jN iV w => DS kn R bO jN iV w) k0 bO jN iV w
def NG (k0 : K2) (R : K1) (bO jN iV : aLm) (w : aLl) : Prop :=
 cC (fun (X : (aLm × aLm) -> K0) (t : aLm × aLm) (w : aLl) => yP (fun _ jN iV w => X (jN, iV) w) k0 R bO t.1 t.2 w) (jN, iV) w
theorem anE (kn : K3) (k0 : K2) (R : K1) (hn : N3 Q kn 1 3 4) (h0 : E2 Q k0 0 1 3) (hr : HR sF R Q) (h : yP kn k0 R (g 1) (g 3) (g 4) w) : bH pg lO (bI (bI (aB 1 (aE 1 (aB 3 kK))))) Q g w :=
 gC 1 (amA _ g w (DS kn R) k0 (fun g w h => aJ (gC 1 (alA _ g w (Ex kn) R (fun g w h => aJ (amR _ g w kn hn h)) hr h))) h0 h)
theorem aiU (k0 : K2) (R : K1) (h0 : E2 Q k0 0 1 3) (hr : HR sF R Q) (h : NG k0 R (g 1) (g 3) (g 4) w) : bH pg lO (bI (aB 1 (aE 1 (aB 3 kK)))) Q g w := by
 refine Cy (fun g : Env => (g 3, g 4)) (fun X t w => yP (fun _ jN iV w => X (jN, iV) w) k0 R (g 1) t.1 t.2 w) h (fun X g1 w1 ha hL => ?_)
 rw [<- fL 1 ha] at hL
 exact (anE _ g1 w1 (fun _ jN iV w => X (jN, iV) w) k0 R (fun _ _ h => h) h0 hr hL)
def OE (kn : K2) (R : K1) (bO jN iV : aLm) (w : aLl) : Prop :=
 NG kn R bO jN iV w
def On (kn : K3) (bO jN : aLm) (w : aLl) : Prop :=
 kn bO jN (aLn 0) w
theorem agX (kn : K3) (hn : N3 Q kn 1 3 4) (h : On kn (g 1) (g 3) w) : bH pg lO (aE 1 (aE 1 (aB 3 kK))) Q g w :=
 dP (kr := no) (l := []) h hn eU trivial
def Of (kn : K2) (R : K1) (bO jN : aLm) (w : aLl) : Prop :=
 On (fun bO jN iV w => OE kn R bO jN iV w) bO jN w
def O4 (R : K1) (bO jN : aLm) (w : aLl) : Prop :=
 Of (fun bO jN w => JI R bO jN w) R bO jN w
theorem afG (kn : K2) (R : K1) (hn : N2 Q kn 1 3) (hr : HR sF R Q) (h : Of kn R (g 1) (g 3) w) : bH pg lO (aE 1 (aB 3 kK)) Q g w :=
 gC 1 (agX _ g w (OE kn R) (fun g w h => aJ (wD 0 (aiU _ g w kn R hn hr h))) h)
def Pt (kn : K2) (R : K1) (c_0 : aLm) (w : aLl) : Prop :=
 aC pg (sU 130 c_0) w fun bO w =>
 aC pg (aL 130 bO 0) w fun b6 w =>
 aC pg (aI 3 b6) w fun b7 w =>
 aC pg (aH .lss 3 aM aM b7 (aLn 5)) w fun b8 w =>
 Gd (eZ b8 false) (fun K => aC pg (aL 130 bO 0) w K) w fun c0 w =>
 Gd (eZ b8 false) (fun K => aC pg (aI 3 c0) w K) w fun c1 w =>
 Gd (eZ b8 false) (fun K => aC pg (aH .gtr 3 aM aM c1 (aLn 15)) w K) w fun c2 w =>
 aC pg (fV b8 (.bool true) c2) w fun c3 w =>
 Gd (eZ c3 false) (fun K => aC pg (aL 130 bO 1) w K) w fun c5 w =>
 Gd (eZ c3 false) (fun K => aC pg (aI 77 c5) w K) w fun c6 w =>
 Gd (eZ c3 false) (fun K => aC pg (lF .len #[77] 3 [c6]) w K) w fun c7 w =>
 Gd (eZ c3 false) (fun K => aC pg (aH .eql 3 (.tmp 17) (.const (aLn 0)) c7 (aLn 0)) w K) w fun c8 w =>
 aC pg (fV c3 (.bool true) c8) w fun c9 w =>
 Gd (eZ c9 false) (fun K => aC pg (aL 130 bO 1) w K) w fun d1 w =>
 Gd (eZ c9 false) (fun K => aC pg (aI 77 d1) w K) w fun d2 w =>
 Gd (eZ c9 false) (fun K => aC pg (lF .len #[77] 3 [d2]) w K) w fun d3 w =>
 Gd (eZ c9 false) (fun K => aC pg (aH .gtr 3 aM aM d3 (aLn 256)) w K) w fun d4 w =>
 aC pg (fV c9 (.bool true) d4) w fun d5 w =>
 Gd (eZ d5 false) (fun K => aC pg (aL 130 bO 1) w K) w fun d7 w =>
 Gd (eZ d5 false) (fun K => aC pg (aI 77 d7) w K) w fun d8 w =>
 Gd (eZ d5 false) (fun K => aC pg (aL 130 bO 1) w K) w fun d9 w =>
 Gd (eZ d5 false) (fun K => aC pg (aI 77 d9) w K) w fun e0 w =>
 Gd (eZ d5 false) (fun K => aC pg (lF .len #[77] 3 [e0]) w K) w fun e1 w =>
 Gd (eZ d5 false) (fun K => aC pg (aH .sub 3 aM aM e1 (aLn 1)) w K) w fun e2 w =>
 Gd (eZ d5 false) (fun K => aC pg (aY 77 d8 e2) w K) w fun e3 w =>
 Gd (eZ d5 false) (fun K => aC pg (aI 3 e3) w K) w fun e4 w =>
 Gd (eZ d5 false) (fun K => aC pg (aH .eql 3 (.tmp 34) (.const (aLn 0)) e4 (aLn 0)) w K) w fun e5 w =>
 aC pg (fV d5 (.bool true) e5) w fun e6 w =>
 fE e6
  (R (.bool false) w)
  (kn bO (aLn 0) w)
theorem aeO (kn : K2) (R : K1) (hn : N2 Q kn 1 3) (hr : HR sF R Q) (h : Pt kn R (g 0) w) : bH pg lO (aE 3 kK) Q g w :=
 dP (l := []) h hn hr trivial
def O0 (R : K1) (c_0 : aLm) (w : aLl) : Prop :=
 Pt (fun bO jN w => O4 R bO jN w) R c_0 w
theorem ahA (R : K1) (hr : HR sF R Q) (h : O0 R (g 0) w) : bH pg lO kK Q g w :=
 gC 3 (aeO _ g w (O4 R) R (fun g w h => aJ (gC 1 (afG _ g w (JI R) R (fun g w h => aJ (akZ _ g w R hr h)) hr h))) hr h)
def auJ (a0 : aLm) (w : aLl) (R : K1) : Prop :=
 O0 R a0 w
theorem apN {a0 : aLm} {w : aLl} {R : K1} (h : auJ a0 w R) : aR pg Nx #[a0] w R := by
 refine tD (ann := lO) Tryd.f99 kK [a0] sF 65 TrydM.mixed Tryd.func99 ?_
 exact (ahA _ _ _ R (fun _ _ h => h) h)
def pJ : FA := ⟨zV, fun i => .leaf ([], []) []⟩
def CZ : List ResultVar := [.tmp 2]
noncomputable def oL : Code := cX Tryd.f100
def tP (R : K1) (xG BZ : aLm) (w : aLl) : Prop :=
 aC pg (gF 73 5 xG) w fun d1 w =>
 aC pg (IM 9 (.string ⟨#[0, 1, 2, 2, 3, 3, 3, 3, 4, 4, 4, 4, 4, 4, 4, 4, 5, 5, 5, 5, 5, 5, 5, 5, 5, 5, 5, 5, 5, 5, 5, 5, 6, 6, 6, 6, 6, 6, 6, 6, 6, 6, 6, 6, 6, 6, 6, 6, 6, 6, 6, 6, 6, 6, 6, 6, 6, 6, 6, 6, 6, 6, 6, 6, 7, 7, 7, 7, 7, 7, 7, 7, 7, 7, 7, 7, 7, 7, 7, 7, 7, 7, 7, 7, 7, 7, 7, 7, 7, 7, 7, 7, 7, 7, 7, 7, 7, 7, 7, 7, 7, 7, 7, 7, 7, 7, 7, 7, 7, 7, 7, 7, 7, 7, 7, 7, 7, 7, 7, 7, 7, 7, 7, 7, 7, 7, 7, 7, 8, 8, 8, 8, 8, 8, 8, 8, 8, 8, 8, 8, 8, 8, 8, 8, 8, 8, 8, 8, 8, 8, 8, 8, 8, 8, 8, 8, 8, 8, 8, 8, 8, 8, 8, 8, 8, 8, 8, 8, 8, 8, 8, 8, 8, 8, 8, 8, 8, 8, 8, 8, 8, 8, 8, 8, 8, 8, 8, 8, 8, 8, 8, 8, 8, 8, 8, 8, 8, 8, 8, 8, 8, 8, 8, 8, 8, 8, 8, 8, 8, 8, 8, 8, 8, 8, 8, 8, 8, 8, 8, 8, 8, 8, 8, 8, 8, 8, 8, 8, 8, 8, 8, 8, 8, 8, 8, 8, 8, 8, 8, 8, 8, 8, 8, 8, 8, 8, 8, 8, 8, 8, 8, 8, 8, 8, 8, 8]⟩) d1) w fun d2 w =>
 aC pg (gF 5 3 d2) w fun d3 w =>
 aC pg (aH .add 3 aM aM BZ d3) w fun d4 w =>
 R d4 w
theorem Tj (R : K1) (hr : HR CZ R Q) (h : tP R (g 0) (g 2) w) : bH pg pJ (aB 1 (aB 1 (aB 2 oL))) Q g w :=
 dP (kn := no) (l := []) h eU hr trivial
def CX (kn : K2) (xG BZ : aLm) (w : aLl) : Prop :=
 aC pg (aH .geq 73 aM aM xG (.int .u64 256)) w fun c4 w =>
 fE c4
  (aC pg (aH .shr 73 aM aM xG (.int .u64 8)) w fun c6 w =>
  aC pg (aH .add 3 aM aM BZ (aLn 8)) w fun c8 w =>
  kn c6 c8 w)
  (kn xG BZ w)
theorem TC (kn : K2) (hn : N2 Q kn 0 2) (h : CX kn (g 0) (g 2) w) : bH pg pJ (aE 1 (aB 1 (aB 2 oL))) Q g w :=
 dP (kr := no) (l := []) h hn eU trivial
def xZ (R : K1) (xG BZ : aLm) (w : aLl) : Prop :=
 CX (fun xG BZ w => tP R xG BZ w) xG BZ w
def C6 (kn : K2) (xG BZ : aLm) (w : aLl) : Prop :=
 aC pg (aH .geq 73 aM aM xG (.int .u64 65536)) w fun b8 w =>
 fE b8
  (aC pg (aH .shr 73 aM aM xG (.int .u64 16)) w fun c0 w =>
  aC pg (aH .add 3 aM aM BZ (aLn 16)) w fun c2 w =>
  kn c0 c2 w)
  (kn xG BZ w)
theorem Te (kn : K2) (hn : N2 Q kn 0 2) (h : C6 kn (g 0) (g 2) w) : bH pg pJ (aE 1 (aB 2 oL)) Q g w :=
 dP (kr := no) (l := []) h hn eU trivial
def yO (R : K1) (xG BZ : aLm) (w : aLl) : Prop :=
 C6 (fun xG BZ w => xZ R xG BZ w) xG BZ w
def Cx (kn : K2) (xG : aLm) (w : aLl) : Prop :=
 aC pg (aH .geq 73 aM aM xG (.int .u64 4294967296)) w fun b4 w =>
 fE b4
  (aC pg (aH .shr 73 aM aM xG (.int .u64 32)) w fun b6 w =>
  kn b6 (aLn 32) w)
  (kn xG (aLn 0) w)
theorem Tn (kn : K2) (hn : N2 Q kn 0 2) (h : Cx kn (g 0) w) : bH pg pJ (aE 2 oL) Q g w :=
 dP (kr := no) (l := []) h hn eU trivial
def CV (R : K1) (xG : aLm) (w : aLl) : Prop :=
 Cx (fun xG BZ w => yO R xG BZ w) xG w
theorem Tv (R : K1) (hr : HR CZ R Q) (h : CV R (g 0) w) : bH pg pJ oL Q g w :=
 gC 2 (Tn _ g w (yO R) (fun g w h => aJ (gC 1 (Te _ g w (xZ R) (fun g w h => aJ (gC 1 (TC _ g w (tP R) (fun g w h => aJ (Tj _ g w R hr h)) h))) h))) h)
def SN (a0 : aLm) (w : aLl) (R : K1) : Prop :=
 CV R a0 w
theorem Ue {a0 : aLm} {w : aLl} {R : K1} (h : SN a0 w R) : aR pg zV #[a0] w R := by
 refine tD (ann := pJ) Tryd.f100 oL [a0] CZ 25 TrydM.mixed Tryd.func100 ?_
 exact (Tv _ _ _ R (fun _ _ h => h) h)
end Go.Proofs.YtaggdjhhmbnhoaaDoor
namespace Go.En
open Go
section
variable {P : Program} {w : aLl} {t : TypeId} {ox oy : Operand} {k : IntKind} {a b : Int}
theorem sO (s : Sem aLm) : (V s).run P w = (s.run P w).andThen fun v w => .ok (.value v) w := by
 unfold V; rw [Sem.run_bind] <;> rfl
theorem aIE (s : Sem Unit) : (U s).run P w = (s.run P w).andThen fun _ w => .ok .skip w := by
 unfold U; rw [Sem.run_bind] <;> rfl
theorem bN : (aH .add t ox oy (.int k a) (.int k b)).run P w = .ok (.value (.int k (k.wrap (a + b)))) w := by
 simp [aH, L8, sO, binOp, Op.intArith]
theorem dZ : (aH .sub t ox oy (.int k a) (.int k b)).run P w = .ok (.value (.int k (k.wrap (a - b)))) w := by
 simp [aH, L8, sO, binOp, Op.intArith]
theorem pX : (aH .mul t ox oy (.int k a) (.int k b)).run P w = .ok (.value (.int k (k.wrap (a * b)))) w := by
 simp [aH, L8, sO, binOp, Op.intArith]
theorem zX (h : b ≠ 0) : (aH .quo t ox oy (.int k a) (.int k b)).run P w = .ok (.value (.int k (k.wrap (a.tdiv b)))) w := by
 simp [aH, L8, sO, binOp, Op.intDiv, h]
theorem yV (h : b ≠ 0) : (aH .rem t ox oy (.int k a) (.int k b)).run P w = .ok (.value (.int k (a.tmod b))) w := by
 simp [aH, L8, sO, binOp, Op.intDiv, h]
def aeC (k : IntKind) (a b : Int) : Int := k.wrap (BitVec.ofInt k.bits a &&& BitVec.ofInt k.bits b).toNat
def orI (k : IntKind) (a b : Int) : Int := k.wrap (BitVec.ofInt k.bits a ||| BitVec.ofInt k.bits b).toNat
def aGq (k : IntKind) (a b : Int) : Int := k.wrap (BitVec.ofInt k.bits a ^^^ BitVec.ofInt k.bits b).toNat
def aCw (k : IntKind) (a b : Int) : Int := k.wrap (BitVec.ofInt k.bits a &&& ~~~BitVec.ofInt k.bits b).toNat
theorem EN : (aH .and t ox oy (.int k a) (.int k b)).run P w = .ok (.value (.int k (aeC k a b))) w := by
 simp [aH, L8, sO, binOp, Op.intBits, aeC]
theorem ahI : (aH .or t ox oy (.int k a) (.int k b)).run P w = .ok (.value (.int k (orI k a b))) w := by
 simp [aH, L8, sO, binOp, Op.intBits, orI]
theorem auB : (aH .xor t ox oy (.int k a) (.int k b)).run P w = .ok (.value (.int k (aGq k a b))) w := by
 simp [aH, L8, sO, binOp, Op.intBits, aGq]
theorem Qh : (aH .andNot t ox oy (.int k a) (.int k b)).run P w = .ok (.value (.int k (aCw k a b))) w := by
 simp [aH, L8, sO, binOp, Op.intBits, aCw]
theorem mO {k' : IntKind} (h : 0 <= b) : (aH .shl t ox oy (.int k a) (.int k' b)).run P w = .ok (.value (.int k (k.wrap (a * 2 ^ (min b.toNat k.bits))))) w := by
 simp [aH, L8, sO, binOp, Op.shift, Int.not_lt.2 h]
theorem vY {k' : IntKind} (h : 0 <= b) : (aH .shr t ox oy (.int k a) (.int k' b)).run P w = .ok (.value (.int k (a.fdiv (2 ^ (min b.toNat k.bits))))) w := by
 simp [aH, L8, sO, binOp, Op.shift, Int.not_lt.2 h]
theorem cK : (aH .eql t ox oy (.int k a) (.int k b)).run P w = .ok (.value (.bool (a == b))) w := by
 simp [aH, L8, sO, binOp, Op.intCmp, eqGuard]
theorem fB : (aH .neq t ox oy (.int k a) (.int k b)).run P w = .ok (.value (.bool (a != b))) w := by
 simp [aH, L8, sO, binOp, Op.intCmp, eqGuard]
theorem aW : (aH .lss t ox oy (.int k a) (.int k b)).run P w = .ok (.value (.bool (decide (a < b)))) w := by
 simp [aH, L8, sO, binOp, Op.intCmp]
theorem ZH : (aH .leq t ox oy (.int k a) (.int k b)).run P w = .ok (.value (.bool (decide (a <= b)))) w := by
 simp [aH, L8, sO, binOp, Op.intCmp]
theorem dO : (aH .gtr t ox oy (.int k a) (.int k b)).run P w = .ok (.value (.bool (decide (b < a)))) w := by
 simp [aH, L8, sO, binOp, Op.intCmp]
theorem oD : (aH .geq t ox oy (.int k a) (.int k b)).run P w = .ok (.value (.bool (decide (b <= a)))) w := by
 simp [aH, L8, sO, binOp, Op.intCmp]
theorem arW : (sUn .neg (.int k a)).run P w = .ok (.value (.int k (k.wrap (0 - a)))) w := by
 simp [sUn, sO, Op.unary, Op.intArith]
theorem auF : (sUn .xor (.int k a)).run P w = .ok (.value (.int k (aGq k (if k.signed then -1 else k.max) a))) w := by
 simp [sUn, sO, Op.unary, Op.intBits, aGq]
theorem Bm (c : Bool) : (sUn .not (.bool c)).run P w = .ok (.value (.bool !c)) w := by
 simp [sUn, sO, Op.unary]
theorem bM (c : Bool) (x y : aLm) : (fV (.bool c) x y).run P w = .ok (.value (if c then x else y)) w := by
 simp [fV, asBool]
theorem aAb {x y : aLm} {r : Bool} (hg : eqGuard .eql t ox oy x y = pure ()) (hb : binOp .eql t x y = (do pure (.bool (<- Op.equal t x y)))) (he : (Op.equal t x y).run P w = .ok r w) :
 (aH .eql t ox oy x y).run P w = .ok (.value (.bool r)) w := by
 unfold aH
 simp only [L8, sO, hg, hb, pure_bind]
 rw [Sem.run_bind, he] <;> rfl
theorem aEn {x y : aLm} {r : Bool} (hg : eqGuard .neq t ox oy x y = pure ()) (hb : binOp .neq t x y = (do pure (.bool (!(<- Op.equal t x y))))) (he : (Op.equal t x y).run P w = .ok r w) :
 (aH .neq t ox oy x y).run P w = .ok (.value (.bool (!r))) w := by
 unfold aH
 simp only [L8, sO, hg, hb, pure_bind]
 rw [Sem.run_bind, he] <;> rfl
theorem aT {n : Int} (h0 : -9223372036854775808 <= n) (h1 : n <= 9223372036854775807) : IntKind.i64.wrap n = n := by
 unfold IntKind.wrap; simp [IntKind.bits, IntKind.signed]; split <;> omega
theorem iI {n : Int} (h0 : 0 <= n) (h1 : n <= 18446744073709551615) : IntKind.u64.wrap n = n := by
 unfold IntKind.wrap; simp [IntKind.bits, IntKind.signed]; omega
theorem avD {n : Int} (h0 : -2147483648 <= n) (h1 : n <= 2147483647) : IntKind.i32.wrap n = n := by
 unfold IntKind.wrap; simp [IntKind.bits, IntKind.signed]; split <;> omega
theorem Qe {n : Int} (h0 : 0 <= n) (h1 : n <= 4294967295) : IntKind.u32.wrap n = n := by
 unfold IntKind.wrap; simp [IntKind.bits, IntKind.signed]; omega
theorem auY {n : Int} (h0 : 0 <= n) (h1 : n <= 65535) : IntKind.u16.wrap n = n := by
 unfold IntKind.wrap; simp [IntKind.bits, IntKind.signed]; omega
theorem JG {n : Int} (h0 : 0 <= n) (h1 : n <= 255) : IntKind.u8.wrap n = n := by
 unfold IntKind.wrap; simp [IntKind.bits, IntKind.signed]; omega
theorem aeS (x y : ByteArray) : (aH .eql t ox oy (.string x) (.string y)).run P w = .ok (.value (.bool (x.toList == y.toList))) w := by
 simp [aH, L8, sO, binOp, Op.stringOp, eqGuard]
theorem aEJ (n : Nat) {e : TypeId} (hu : P.underlying t = some (.pointer e)) (x : Option Addr) : (Op.equalIn (n + 1) t (.pointer x) (.pointer none)).run P w = .ok x.isNone w := by
 simp only [Op.equalIn, underlying]
 cases x <;> simp [hu]
theorem aD3 {e : TypeId} (hu : P.underlying t = some (.pointer e)) (x : Option Addr) : (Op.equal t (.pointer x) (.pointer none)).run P w = .ok x.isNone w := aEJ 9999 hu x
theorem aGh (m : Nat) {e : TypeId} (hu : P.underlying t = some (.slice e)) (x : Option Addr) (n c : Nat) : (Op.equalIn (m + 1) t (.slice x n c) (.slice none 0 0)).run P w = .ok x.isNone w := by
 simp only [Op.equalIn, underlying]
 cases x <;> simp [hu]
theorem aHW {e : TypeId} (hu : P.underlying t = some (.slice e)) (x : Option Addr) (n c : Nat) : (Op.equal t (.slice x n c) (.slice none 0 0)).run P w = .ok x.isNone w := aGh 9999 hu x n c
theorem aqZ {e : TypeId} (hu : P.underlying t = some (.pointer e)) (x : Option Addr) : (aH .eql t ox oy (.pointer x) (.pointer none)).run P w = .ok (.value (.bool x.isNone)) w :=
 aAb rfl rfl (aD3 hu x)
theorem aHF {e : TypeId} (hu : P.underlying t = some (.pointer e)) (x : Option Addr) : (aH .neq t ox oy (.pointer x) (.pointer none)).run P w = .ok (.value (.bool (!x.isNone))) w :=
 aEn rfl rfl (aD3 hu x)
theorem aGx {e : TypeId} (hu : P.underlying t = some (.slice e)) (x : Option Addr) (n c : Nat) : (aH .eql t ox oy (.slice x n c) (.slice none 0 0)).run P w = .ok (.value (.bool x.isNone)) w :=
 aAb rfl rfl (aHW hu x n c)
theorem DR {s : TypeId} {d : TypeDesc} {kd : IntKind} (hs : P.underlying s = some d) (hu : P.underlying t = some (.int kd)) : (gF s t (.int k a)).run P w = .ok (.value (.int kd (kd.wrap a))) w := by
 cases d <;> simp [gF, sO, convert, underlying, hs, hu, Conv.intToInt]
theorem Zb {ty : TypeId} {e : TypeId} (hu : P.underlying t = some (.slice e)) (x : Option Addr) (n c : Nat) : (lF .len #[t] ty [.slice x n c]).run P w = .ok (.value (.int .i64 n)) w := by
 simp [lF, builtin, Builtin.len_, underlying, hu, goInt]
theorem aGV {ty : TypeId} (hu : P.underlying t = some .string) (x : ByteArray) : (lF .len #[t] ty [.string x]).run P w = .ok (.value (.int .i64 x.size)) w := by
 simp [lF, builtin, Builtin.len_, underlying, hu, goInt]
theorem aoT {ats : Array TypeId} {ty : TypeId} : (lF .min ats ty [.int k a, .int k b]).run P w = .ok (.value (.int k (if b < a then b else a))) w := by
 simp [lF, builtin, Builtin.min_, Builtin.min2]
theorem Vf {ats : Array TypeId} {ty : TypeId} : (lF .max ats ty [.int k a, .int k b]).run P w = .ok (.value (.int k (if b > a then b else a))) w := by
 simp [lF, builtin, Builtin.max_, Builtin.max2]
theorem Bc (a b : aLm) : (bD (.tuple #[a, b]) 0).run P w = .ok (.value a) w := Eq.trans rfl rfl
theorem A6 (a b : aLm) : (bD (.tuple #[a, b]) 1).run P w = .ok (.value b) w := Eq.trans rfl rfl
theorem Kh (a b c : aLm) : (bD (.tuple #[a, b, c]) 0).run P w = .ok (.value a) w := Eq.trans rfl rfl
theorem Ka (a b c : aLm) : (bD (.tuple #[a, b, c]) 1).run P w = .ok (.value b) w := Eq.trans rfl rfl
theorem J3 (a b c : aLm) : (bD (.tuple #[a, b, c]) 2).run P w = .ok (.value c) w := Eq.trans rfl rfl
theorem x40 (a b c d : aLm) : (bD (.tuple #[a, b, c, d]) 0).run P w = .ok (.value a) w := Eq.trans rfl rfl
theorem x41 (a b c d : aLm) : (bD (.tuple #[a, b, c, d]) 1).run P w = .ok (.value b) w := Eq.trans rfl rfl
theorem x42 (a b c d : aLm) : (bD (.tuple #[a, b, c, d]) 2).run P w = .ok (.value c) w := Eq.trans rfl rfl
theorem x43 (a b c d : aLm) : (bD (.tuple #[a, b, c, d]) 3).run P w = .ok (.value d) w := Eq.trans rfl rfl
theorem rI (x : Addr) : (sQ (.pointer (some x))).run P w = .ok (.value (.pointer (some x))) w := Eq.trans rfl rfl
theorem kM {fs : Array Field} {f : Field} {i : Nat} {inf : TypeInfo} (hu : P.underlying t = some (.struct fs)) (hf : fs[i]? = some f)
 (hi : P.info? f.type = some inf) (hz : inf.size ≠ 0) (x : Addr) : (aL t (.pointer (some x)) i).run P w = .ok (.value (.pointer (some (x.add f.offset)))) w := by
 simp [aL, sO, Instr.fieldAt, underlying, hu, hf, Instr.sureAddr, fieldPlace, sizeOf, typeInfo, hi, hz]
theorem aAl {e : TypeId} {inf : TypeInfo} (hu : P.underlying t = some (.slice e)) (hi : P.info? e = some inf) (x : Addr) (n c : Nat) (h0 : 0 <= a) (h1 : a < n) :
 (aY t (.slice (some x) n c) (.int k a)).run P w = .ok (.value (.pointer (some (x.add (a.toNat * inf.size))))) w := by
 simp [aY, sO, Instr.indexAt, asIntOf, underlying, hu, h0, h1, sizeOf, typeInfo, hi]
theorem aAa {e : TypeId} {len : Nat} {inf : TypeInfo} (hu : P.underlying t = some (.array len e)) (hi : P.info? e = some inf) (x : Addr) (h0 : 0 <= a) (h1 : a < len) :
 (aY t (.pointer (some x)) (.int k a)).run P w = .ok (.value (.pointer (some (x.add (a.toNat * inf.size))))) w := by
 simp [aY, sO, Instr.indexAt, asIntOf, underlying, hu, h0, h1, sizeOf, typeInfo, hi, Instr.sureAddr]
theorem aG6 (hu : P.underlying t = some .string) (x : ByteArray) (h0 : 0 <= a) (h1 : a.toNat < x.size) :
 (IM t (.string x) (.int k a)).run P w = .ok (.value (.int .u8 (x[a.toNat]'h1).toNat)) w := by
 simp [IM, sO, Instr.index, asIntOf, underlying, hu, h0, h1]
end
end Go.En

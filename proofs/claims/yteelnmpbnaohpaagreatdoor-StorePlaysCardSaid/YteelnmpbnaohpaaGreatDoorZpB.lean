/- Parts of the proof of StorePlays: merged and given short names by a program of ours. -/
import Derived.Laws.IdiomStrings
import Derived.Test.YteelnmpbnaohpaaGreatDoorZpA
set_option linter.unusedVariables false
set_option linter.unusedSimpArgs false
open Array renaming getElem?_eq_getElem → aJ2, getElem?_setIfInBounds_self_of_lt → aJ4, getElem?_setIfInBounds_ne → aJ6, getElem?_modify → aK0, getElem?_eq_none → aKj, length_toList → aLC, getElem?_toList → aLc
open Bool renaming false_eq_true → aJI, not_false → aKD, not_true → aKU, or_eq_false_iff → aLi
open List renaming getElem?_map → aJ0, mem_cons_self → aJ3, length_replicate → aJ5, map_append → aJ7, length_eq_zero_iff → aJ9, getElem?_eq_getElem → aJA, length_append → aJB, take_of_length_le → aJD, getElem?_cons_succ → aJF, mem_cons → aJG, length_take → aJL, length_drop → aJO, mem_cons_of_mem → aJP, map_cons → aJQ, set_cons_zero → aJR, append_assoc → aJS, length_cons → aJT, getElem?_append_left → aJW, nil_append → aJX, length_map → aJy, getElem?_cons_zero → aJz, getElem?_drop → aK1, size_toArray → aKG, eraseIdx_cons_succ → aKM, getElem?_toArray → aKP, length_singleton → aKQ, pairwise_cons → aKS, pairwise_append → aKV, nodup_cons → aKY, mem_append → aKc, set_cons_succ → aKe, set_append_right → aKf, getElem_mem → aKl, mem_map → aKm, getElem?_eq_none → aKp, drop_eq_getElem_cons → aKx, length_nil → aKy, getElem?_take_of_lt → aKz, getElem?_set → aLJ, take_add_one → aLK, cons_append → aLa, ext_getElem? → aLh, mem_of_mem_take → aLj
open List.cons renaming injEq → aLq
open Nat renaming zero_add → aJC, le_refl → aJK, le_add_right → aKE, sub_self → aKO, le_trans → aKZ, lt_of_lt_of_le → aKa, add_assoc → aKu, lt_or_ge → aKw, add_mul → aLL, add_zero → aLT, mul_le_mul_right → aLU, mod_lt → aLk, mul_one → aLl, ne_of_lt → aLu
open Option renaming getD_some → aKA, map_some → aKo, isSome_none → aLI
open Option.some renaming injEq → aJ8, inj → aKJ
open Prod.mk renaming injEq → aLB
namespace Go.Proofs.YteelnmpbnaohpaaGreatDoor
open Go Go.En
set_option maxRecDepth 20000
attribute [local irreducible] Go.En.dM
variable (Q : Exit -> Env -> aLW -> Prop) (g : Env) (w : aLW)
def Px:FA:=⟨lN,λi=>match Nat.beq i 1 with|true=> .leaf ([12],[]) (fz 12 (ft [] (fz 7 [])))|false=>match Nat.beq i 2 with|true=> .leaf ([10],[(10,12),(10,13),(10,14),(10,15),(10,17),(10,18)]) (fz 10 (ft [] (fz 1 (fu [1] (fu [2] (fu [3] (fu [4] (fz 1 (fu [6] (fu [7] (fz 3 [])))))))))))|false=> .leaf ([],[]) []⟩
def SF:List ResultVar:=[.tmp 6]
noncomputable def Nj:Code:=bA Tryz.f43
def FQ(R:K1) eY i_1 rP w:=
 (dr w)=(dr w)/\
 aA pg (cL eY) (dr w) λc2 w_=>w_=(dr w)/\
 aA pg (aD 99 c2 2) (dr w) λc3 w_=>w_=(dr w)/\
 aA pg (aD 30 c3 0) (dr w) λc4 w_=>w_=(dr w)/\
 aA pg (aB 26 c4) (dr w) λc5 w_=>w_=(dr w)/\
 (dr w)=(dr w)/\
 aA pg (cL eY) (dr w) λc7 w_=>w_=(dr w)/\
 aA pg (aD 99 c7 2) (dr w) λc8 w_=>w_=(dr w)/\
 aA pg (aD 30 c8 1) (dr w) λc9 w_=>w_=(dr w)/\
 aA pg (aB 27 c9) (dr w) λd0 w_=>w_=(dr w)/\
 aA pg (cJ 27 3 d0) (dr w) λd1 w_=>w_=(dr w)/\
 (dr w)=(dr w)/\
 aG pg oN #[c5,d1,i_1] (dr w) λd3 fT=>
 fT=fT/\
 aA pg (aP d3 0) fT λd4 w_=>w_=fT/\
 aA pg (aP d3 1) fT λd5 w_=>w_=fT/\
 aA pg (aP d3 2) fT λd6 w_=>w_=fT/\
 fT=fT/\
 fT=fT/\
 fT=fT/\
 (dr fT)=(dr fT)/\
 aA pg (aE .eql 31 (.tmp 27) (.const (aLY 0)) d6 (aLY 0)) (dr fT) λd8 w_=>w_=(dr fT)/\
 (dr fT)=(dr fT)/\
 Gd (bG d8 true) (λK=>K rP (dr fT)) (dr fT) λe0 w_=>w_=(dr fT)/\
 Gd (bG d8 true) (λK=>aA pg (eI .len #[22] 3 [e0]) (dr fT) K) (dr fT) λe1 w_=>w_=(dr fT)/\
 Gd (bG d8 true) (λK=>K d5 (dr fT)) (dr fT) λe2 w_=>w_=(dr fT)/\
 Gd (bG d8 true) (λK=>aA pg (aE .eql 3 (.tmp 31) (.tmp 32) e1 e2) (dr fT) K) (dr fT) λe3 w_=>w_=(dr fT)/\
 aA pg (cG d8 e3 (.bool false)) (dr fT) λe4 w_=>w_=(dr fT)/\
 (dr fT)=(dr fT)/\
 Gd (bG e4 true) (λK=>K rP (dr fT)) (dr fT) λe6 w_=>w_=(dr fT)/\
 Gd (bG e4 true) (λK=>aG pg Ag #[e6] (dr fT) K) (dr fT) λe7 cQ=>
 Gd (bG e4 true) (λK=>K eY cQ) cQ λe8 w_=>w_=cQ/\
 Gd (bG e4 true) (λK=>aA pg (cL e8) cQ K) cQ λe9 w_=>w_=cQ/\
 (Gs (bG e4 true) (aO pg (cL e8) e9 (dr fT))/\True)/\
 Gd (bG e4 true) (λK=>aA pg (aD 99 e9 2) cQ K) cQ λf0 w_=>w_=cQ/\
 (Gs (bG e4 true) (aO pg (aD 99 e9 2) f0 (dr fT))/\True)/\
 Gd (bG e4 true) (λK=>aA pg (aD 30 f0 2) cQ K) cQ λf1 w_=>w_=cQ/\
 (Gs (bG e4 true) (aO pg (aD 30 f0 2) f1 (dr fT))/\True)/\
 Gd (bG e4 true) (λK=>aA pg (aB 28 f1) cQ K) cQ λf2 w_=>w_=cQ/\
 (Gs (bG e4 true) (aO pg (aB 28 f1) f2 (dr fT))/\True)/\
 Gd (bG e4 true) (λK=>K i_1 cQ) cQ λf3 w_=>w_=cQ/\
 Gd (bG e4 true) (λK=>aA pg (aR 28 f2 f3) cQ K) cQ λf4 w_=>w_=cQ/\
 (Gs (bG e4 true) (aO pg (aR 28 f2 f3) f4 (dr fT))/\True)/\
 Gd (bG e4 true) (λK=>aA pg (aB 70 f4) cQ K) cQ λf5 w_=>w_=cQ/\
 (Gs (bG e4 true) (aO pg (aB 70 f4) f5 (dr fT))/\True)/\
 Gd (bG e4 true) (λK=>aA pg (aE .eql 70 (.tmp 37) (.tmp 45) e7 f5) cQ K) cQ λf6 w_=>w_=cQ/\
 aA pg (cG e4 f6 (.bool false)) cQ λf7 w_=>w_=cQ/\
 cQ=cQ/\
 R f7 cQ
def Kn a0 a1 a2 w(R:K1):=
 FQ R a0 a1 a2 w
theorem OG{a0 a1 a2 w R}(h:Kn a0 a1 a2 w R):aG pg lN #[a0,a1,a2] w R:=
 jF (ann:=Px) Tryz.f43 Nj [a0,a1,a2] SF 48 TryzM.mixed Tryz.func43 (jP h dE)
def FX:FA:=⟨Am,λi=> .leaf ([],[]) []⟩
def I1:List ResultVar:=[.tmp 2]
noncomputable def DR:Code:=bA Tryz.f44
def Jn(R:K1) w:=
 R (aLY 0) w
def Jo(kn:K3)(k0:K0)(R:K1) b6 b7 b8 w:=
 aA pg (aE .lss 3 aM aM b8 b7) w λb9 w=>
 cP b9
  (aA pg (aR 151 b6 b8) w λc0 w=>
  aA pg (aB 60 c0) w λc1 w=>
  aA pg (Ac c1 []) w λc3 w=>
  aA pg (aE .neq 31 (.tmp 14) (.const (aLY 0)) c3 (aLY 0)) w λc5 w=>
  cP c5
   (R c3 w)
   (aA pg (aE .add 3 aM aM b8 (aLY 1)) w λc7 w=>
   kn b6 b7 c7 w))
  (k0 w)
def Df(k0:K0)(R:K1) b6 b7 b8 w:=
 bM (λ(X:aLX->K0) (t:aLX) (w:aLW)=>Jo (λ_ _ b8 w=>X b8 w) k0 R b6 b7 t w) b8 w
theorem Yx(k0:K0)(R:K1)(h0:E0 Q k0 0)(hr:HR I1 R Q)(h:Df k0 R (g 6) (g 7) (g 8) w):dM pg FX (bI (aN 1 (bK 1 (aN 1 DR)))) Q g w:=by
 refine EN (λg:Env=>g 8) (λX t w=>Jo (λ_ _ b8 w=>X b8 w) k0 R (g 6) (g 7) t w) h (λX g1 w1 ha hL=> ?_)
 rw[<-eZ 6 ha,<-eZ 7 ha]at hL
 exact(DT [(0,(Mq0 k0))] (Gu (λ_ _ b8 w=>X b8 w) 6 7 8) hL dE hr ⟨h0,trivial⟩)
def SU(kn:K3) EX w:=
 aA pg (eI .len #[151] 3 [EX]) w λb7 w=>
 kn EX b7 (aLY 0) w
def Jp(kn:K0)(R:K1) EX w:=
 SU (Df kn R) EX w
def Jq(R:K1) EX w:=
 Jp (Jn R) R EX w
theorem Yy(kn:K0)(R:K1)(hn:N0 Q kn)(hr:HR I1 R Q)(h:Jp kn R (g 0) w):dM pg FX (bK 1 (aN 1 DR)) Q g w:=
 dN 1 (iK (Gu (Df kn R) 6 7 8) h (λg w h=>aJ (A7 0 (Yx _ g w kn R hn hr h))))
def SV(kn:K1) EX w:=
 kn EX w
def SW(R:K1) EX w:=
 SV (Jq R) EX w
def abQ a0 w(R:K1):=
 SW R a0 w
theorem Z6 {a0 w R}(h:abQ a0 w R):aG pg Am #[a0] w R:=
 jF (ann:=FX) Tryz.f44 DR [a0] I1 18 TryzM.mixed Tryz.func44 (dN 1 (iK (Mq1 (Jq R) 0) h (λg w h=>aJ (dN 1 (Yy _ g w (Jn R) R (λg w h=>aJ (jP h dE)) dE h)))))
def Pv:FA:=⟨lL,λi=>match Nat.beq i 1 with|true=> .leaf ([12],[]) (fz 12 (ft [] (fz 1 [])))|false=> .leaf ([],[]) []⟩
def SD:List ResultVar:=[.tmp 3]
noncomputable def Nh:Code:=bA Tryz.f45
def FO(R:K1) b0 b1 b2 w:=
 aA pg (aB 43 b0) (dr w) λb4 w_=>w_=(dr w)/\
 aA pg (cL b4) (dr w) λb5 w_=>w_=(dr w)/\
 aA pg (aD 99 b5 0) (dr w) λb6 w_=>w_=(dr w)/\
 aA pg (aB 34 b6) (dr w) λb7 w_=>w_=(dr w)/\
 aA pg (aB 43 b0) (dr w) λb8 w_=>w_=(dr w)/\
 aA pg (cL b8) (dr w) λb9 w_=>w_=(dr w)/\
 aA pg (aD 99 b9 1) (dr w) λc0 w_=>w_=(dr w)/\
 aA pg (aB 9 c0) (dr w) λc1 w_=>w_=(dr w)/\
 aA pg (aE .add 9 aM aM c1 (.string ⟨#[46,112,97,114,116]⟩)) (dr w) λc2 w_=>w_=(dr w)/\
 aA pg (aB 26 b1) (dr w) λc3 w_=>w_=(dr w)/\
 aA pg (cJ 26 3 c3) (dr w) λc4 w_=>w_=(dr w)/\
 aA pg (aB 22 b2) (dr w) λc5 w_=>w_=(dr w)/\
 aG pg gA #[b7,c2,c4,c5] (dr w) λc6 fT=>
 fT=fT/\
 R c6 fT
def Kl a0 a1 a2 w(R:K1):=
 FO R a0 a1 a2 w
theorem OE{a0 a1 a2 w R}(h:Kl a0 a1 a2 w R):aG pg lL #[a0,a1,a2] w R:=
 jF (ann:=Pv) Tryz.f45 Nh [a0,a1,a2] SD 17 TryzM.mixed Tryz.func45 (jP h dE)
def Pw:FA:=⟨lM,λi=> .leaf ([],[]) []⟩
def SE:List ResultVar:=[.tmp 2]
noncomputable def Ni:Code:=bA Tryz.f46
def FP(R:K1) b0 b1 w:=
 aA pg (aB 43 b0) w λb3 w=>
 aA pg (aB 3 b1) w λb4 w=>
 aA pg (cJ 3 26 b4) w λb5 w=>
 aA pg (bV 109 [(0,(.int .u8 2)),(1,b5)]) w λb6 w=>
 aG pg kL #[b3,b6] w λb7 w=>
 R b7 w
def Km a0 a1 w(R:K1):=
 FP R a0 a1 w
theorem OF{a0 a1 w R}(h:Km a0 a1 w R):aG pg lM #[a0,a1] w R:=
 jF (ann:=Pw) Tryz.f46 Ni [a0,a1] SE 8 TryzM.mixed Tryz.func46 (jP h dE)
def M8:FA:=⟨kL,λi=>match Nat.beq i 3 with|true=> .leaf ([14],[]) (fz 14 (ft [] (fz 1 [])))|false=> .leaf ([],[]) []⟩
def Qa:List ResultVar:=[.tmp 4]
noncomputable def LX:Code:=bA Tryz.f47
def vA(R:K1) e_6 w:=
 R e_6 w
def Dz(kn:K1) eY b_5 e_6 w:=
 aA pg (aE .eql 31 (.tmp 29) (.const (aLY 0)) e_6 (aLY 0)) w λe0 w=>
 cP e0
  (aA pg (cL eY) w λe2 w=>
  aA pg (aD 99 e2 5) w λe3 w=>
  aA pg (aB 3 e3) w λe4 w=>
  aA pg (eI .len #[22] 3 [b_5]) w λe6 w=>
  aA pg (aE .add 3 aM aM e4 e6) w λe7 w=>
  aA pg (cL eY) w λe8 w=>
  aA pg (aD 99 e8 5) w λe9 w=>
  aA pg (aF 3 e9 e7) w λ_u w=>
  kn e_6 w)
  (kn e_6 w)
def vB(R:K1) eY b_5 e_6 w:=
 Dz (vA R) eY b_5 e_6 w
def DA(kn:K3) eY r_1 w:=
 aA pg (iX 109 r_1) w λr_3 w=>
 aA pg (aB 109 r_3) w λb8 w=>
 aG pg B7 #[b8] w λb9 w=>
 aA pg (aP b9 0) w λc0 w=>
 aA pg (aP b9 1) w λc1 w=>
 aA pg (aE .eql 31 (.tmp 12) (.const (aLY 0)) c1 (aLY 0)) w λc3 w=>
 cP c3
  ((dr w)=(dr w)/\
  aA pg (cL eY) (dr w) λc5 w_=>w_=(dr w)/\
  aA pg (aD 99 c5 0) (dr w) λc6 w_=>w_=(dr w)/\
  aA pg (aB 34 c6) (dr w) λc7 w_=>w_=(dr w)/\
  (dr w)=(dr w)/\
  aA pg (cL eY) (dr w) λc9 w_=>w_=(dr w)/\
  aA pg (aD 99 c9 1) (dr w) λd0 w_=>w_=(dr w)/\
  aA pg (aB 9 d0) (dr w) λd1 w_=>w_=(dr w)/\
  aA pg (aE .add 9 aM aM d1 (.string ⟨#[46,108,111,103]⟩)) (dr w) λd2 w_=>w_=(dr w)/\
  (dr w)=(dr w)/\
  aA pg (cL eY) (dr w) λd4 w_=>w_=(dr w)/\
  aA pg (aD 99 d4 5) (dr w) λd5 w_=>w_=(dr w)/\
  aA pg (aB 3 d5) (dr w) λd6 w_=>w_=(dr w)/\
  (dr w)=(dr w)/\
  aG pg gA #[c7,d2,d6,c0] (dr w) λd8 aEv=>
  aEv=aEv/\
  kn eY c0 d8 aEv)
  (kn eY c0 c1 w)
def DB(R:K1) eY r_1 w:=
 DA (vB R) eY r_1 w
def Jl a0 a1 w(R:K1):=
 DB R a0 a1 w
theorem MU{a0 a1 w R}(h:Jl a0 a1 w R):aG pg kL #[a0,a1] w R:=
 jF (ann:=M8) Tryz.f47 LX [a0,a1] Qa 41 TryzM.mixed Tryz.func47 (dN 3 (iK (Gu (vB R) 0 5 6) h (λg w h=>aJ (dN 1 (iK (Mq1 (vA R) 6) h (λg w h=>aJ (jP h dE)))))))
def Kz:FA:=⟨jD,λi=>match Nat.beq i 1 with|true=> .leaf ([13],[]) (fz 13 (ft [] (fz 1 [])))|false=> .leaf ([],[]) []⟩
def MB:List ResultVar:=[.tmp 1]
noncomputable def JD:Code:=bA Tryz.f48
def B0 (R:K1) b0 w:=
 aA pg (aB 43 b0) (dr w) λb2 w_=>w_=(dr w)/\
 aA pg (cL b2) (dr w) λb3 w_=>w_=(dr w)/\
 aA pg (aD 99 b3 0) (dr w) λb4 w_=>w_=(dr w)/\
 aA pg (aB 34 b4) (dr w) λb5 w_=>w_=(dr w)/\
 aA pg (aB 43 b0) (dr w) λb6 w_=>w_=(dr w)/\
 aA pg (cL b6) (dr w) λb7 w_=>w_=(dr w)/\
 aA pg (aD 99 b7 1) (dr w) λb8 w_=>w_=(dr w)/\
 aA pg (aB 9 b8) (dr w) λb9 w_=>w_=(dr w)/\
 aA pg (aE .add 9 aM aM b9 (.string ⟨#[46,112,97,114,116]⟩)) (dr w) λc0 w_=>w_=(dr w)/\
 aA pg (aB 43 b0) (dr w) λc1 w_=>w_=(dr w)/\
 aA pg (cL c1) (dr w) λc2 w_=>w_=(dr w)/\
 aA pg (aD 99 c2 1) (dr w) λc3 w_=>w_=(dr w)/\
 aA pg (aB 9 c3) (dr w) λc4 w_=>w_=(dr w)/\
 aG pg sG #[b5,c0,c4] (dr w) λc5 aEu=>
 aEu=aEu/\
 R c5 aEu
def FM a0 w(R:K1):=
 B0 R a0 w
theorem JL{a0 w R}(h:FM a0 w R):aG pg jD #[a0] w R:=
 jF (ann:=Kz) Tryz.f48 JD [a0] MB 16 TryzM.mixed Tryz.func48 (jP h dE)
def QB:FA:=⟨sG,λi=> .leaf ([],[]) []⟩
def TY:List ResultVar:=[.tmp 6]
noncomputable def PB:Code:=bA Tryz.f49
def GC(R:K1) fG aDA aDx w:=
 aG pg kJ #[fG] w λc1 w=>
 aA pg (aE .neq 31 (.tmp 12) (.const (aLY 0)) c1 (aLY 0)) w λc3 w=>
 cP c3
  (R c1 w)
  (aG pg DI #[aDA] w λc6 w=>
  aA pg (GI .not c6) w λc7 w=>
  Gd (bG c7 false) (λK=>K aDx w) w λc9 w=>
  Gd (bG c7 false) (λK=>aG pg DI #[c9] w K) w λd0 w=>
  Gd (bG c7 false) (λK=>aA pg (GI .not d0) w K) w λd1 w=>
  aA pg (cG c7 (.bool true) d1) w λd2 w=>
  cP d2
   (R (aLY 1) w)
   (aA pg (cL fG) w λd5 w=>
   aA pg (aD 76 d5 2) w λd6 w=>
   aA pg (aB 73 d6) w λd7 w=>
   aA pg (CT 73 d7 aDA true) w λd9 w=>
   aA pg (aP d9 0) w λe0 w=>
   aA pg (aP d9 1) w λe1 w=>
   aA pg (GI .not e1) w λe3 w=>
   cP e3
    (R (aLY 21) w)
    (aA pg (bV 137 [(0,(aLY 1)),(1,aDA),(2,aDx)]) w λe7 w=>
    aG pg mL #[fG,e7] w λe8 w=>
    R e8 w)))
def L3 a0 a1 a2 w(R:K1):=
 GC R a0 a1 a2 w
theorem PN{a0 a1 a2 w R}(h:L3 a0 a1 a2 w R):aG pg sG #[a0,a1,a2] w R:=
 jF (ann:=QB) Tryz.f49 PB [a0,a1,a2] TY 39 TryzM.mixed Tryz.func49 (jP h dE)
def YN:FA:=⟨kJ,λi=> .leaf ([],[]) []⟩
def aeK:List ResultVar:=[.tmp 2]
noncomputable def Wf:Code:=bA Tryz.f50
def OO(R:K1) fG w:=
 aA pg (aE .eql 34 (.tmp 4) (.const (.pointer none)) fG (.pointer none)) w λb5 w=>
 cP b5
  (R (aLY 1) w)
  (aA pg (cL fG) w λb8 w=>
  aA pg (aD 76 b8 5) w λb9 w=>
  aA pg (aB 4 b9) w λc0 w=>
  cP c0
   (R (aLY 20) w)
   (R (aLY 0) w))
def Wn a0 w(R:K1):=
 OO R a0 w
theorem Wo{a0 w R}(h:Wn a0 w R):aG pg kJ #[a0] w R:=
 jF (ann:=YN) Tryz.f50 Wf [a0] aeK 11 TryzM.mixed Tryz.func50 (jP h dE)
def Kw:FA:=⟨fL,λi=> .leaf ([],[]) []⟩
def My:List ResultVar:=[.tmp 2]
noncomputable def JA:Code:=bA Tryz.f51
def BV(R:K1) eY w:=
 aA pg (aE .eql 22 (.tmp 3) (.const (.slice none 0 0)) eY (.slice none 0 0)) w λb4 w=>
 cP b4
  (R (.slice none 0 0) w)
  (aA pg (bB 22 0 []) w λb5 w=>
  aA pg (eI .append #[22,22] 22 [b5,eY]) w λb7 w=>
  R b7 w)
def Fx a0 w(R:K1):=
 BV R a0 w
theorem JI{a0 w R}(h:Fx a0 w R):aG pg fL #[a0] w R:=
 jF (ann:=Kw) Tryz.f51 JA [a0] My 8 TryzM.mixed Tryz.func51 (jP h dE)
def Kx:FA:=⟨lT,λi=> .leaf ([],[]) []⟩
def Mz:List ResultVar:=[.tmp 2]
noncomputable def JB:Code:=bA Tryz.f52
def BW(R:K1) eY w:=
 aA pg (aE .eql 45 (.tmp 3) (.const (.slice none 0 0)) eY (.slice none 0 0)) w λb4 w=>
 cP b4
  (R (.slice none 0 0) w)
  (aA pg (bB 45 0 []) w λb5 w=>
  aA pg (eI .append #[45,45] 45 [b5,eY]) w λb7 w=>
  R b7 w)
def Fy a0 w(R:K1):=
 BW R a0 w
theorem JJ{a0 w R}(h:Fy a0 w R):aG pg lT #[a0] w R:=
 jF (ann:=Kx) Tryz.f52 JB [a0] Mz 8 TryzM.mixed Tryz.func52 (jP h dE)
def axF:FA:=⟨Qr,λi=> .leaf ([],[]) []⟩
def aBY:List ResultVar:=[.cell 2 70]
noncomputable def asK:Code:=bA Tryz.f53
def aoJ(R:K1) DM w:=
 aA pg (bE 70) w λb2 w=>
 aG pg Tb #[] w λb4 w=>
 aG pg iL #[b4,DM] w λb7 w=>
 aG pg Cc #[b4] w λb9 w=>
 aA pg (aF 70 b2 b9) w λ_u w=>
 kD pg 70 b2 w λr0=>R r0 w
def aEd a0 w(R:K1):=
 aoJ R a0 w
theorem avU{a0 w R}(h:aEd a0 w R):aG pg Qr #[a0] w R:=
 jF (ann:=axF) Tryz.f53 asK [a0] aBY 10 TryzM.mixed Tryz.func53 (jP h dE)
def FV:FA:=⟨Ah,λi=> .leaf ([],[]) []⟩
def I0:List ResultVar:=[.tmp 4,.tmp 5]
noncomputable def DP:Code:=bA Tryz.f54
def R6 (R:K1) w:=
 R (.tuple #[(aLY 0),(aLY 12)]) w
def IG(kn:K3)(k0:K0)(R:K1) kU cZ n_6 w:=
 aA pg (aE .leq 26 aM aM n_6 (.int .u64 1024)) w λc4 w=>
 cP c4
  (aA pg (cJ 3 26 cZ) w λc9 w=>
  aA pg (aE .mul 26 aM aM n_6 c9) w λd0 w=>
  aA pg (aE .geq 26 aM aM d0 kU) w λd2 w=>
  cP d2
   (aA pg (cJ 26 3 n_6) w λd4 w=>
   R (.tuple #[d4,(aLY 0)]) w)
   (aA pg (aE .add 26 aM aM n_6 (.int .u64 1)) w λc6 w=>
   kn kU cZ c6 w))
  (k0 w)
def CO(k0:K0)(R:K1) kU cZ n_6 w:=
 bM (λ(X:aLX->K0) (t:aLX) (w:aLW)=>IG (λ_ _ n_6 w=>X n_6 w) k0 R kU cZ t w) n_6 w
theorem XA(k0:K0)(R:K1)(h0:E0 Q k0 0)(hr:HR I0 R Q)(h:CO k0 R (g 0) (g 1) (g 6) w):dM pg FV (bI (aN 1 (bK 1 (aN 2 DP)))) Q g w:=by
 refine EN (λg:Env=>g 6) (λX t w=>IG (λ_ _ n_6 w=>X n_6 w) k0 R (g 0) (g 1) t w) h (λX g1 w1 ha hL=> ?_)
 rw[<-eZ 0 ha,<-eZ 1 ha]at hL
 exact(DT [(0,(Mq0 k0))] (Gu (λ_ _ n_6 w=>X n_6 w) 0 1 6) hL dE hr ⟨h0,trivial⟩)
def R7 (kn:K3) kU cZ w:=
 kn kU cZ (.int .u64 0) w
def IH(kn:K0)(R:K1) kU cZ w:=
 R7 (CO kn R) kU cZ w
def II(R:K1) kU cZ w:=
 IH (R6 R) R kU cZ w
theorem XB(kn:K0)(R:K1)(hn:N0 Q kn)(hr:HR I0 R Q)(h:IH kn R (g 0) (g 1) w):dM pg FV (bK 1 (aN 2 DP)) Q g w:=
 dN 1 (iK (Gu (CO kn R) 0 1 6) h (λg w h=>aJ (A7 0 (XA _ g w kn R hn hr h))))
def R8 (kn:K2)(R:K1) kU cZ w:=
 aA pg (aE .lss 3 aM aM cZ (aLY 1)) w λb8 w=>
 Gd (bG b8 false) (λK=>K cZ w) w λc0 w=>
 Gd (bG b8 false) (λK=>aA pg (aE .gtr 3 aM aM c0 (aLY 65536)) w K) w λc1 w=>
 aA pg (cG b8 (.bool true) c1) w λc2 w=>
 cP c2
  (R (.tuple #[(aLY 0),(aLY 1)]) w)
  (kn kU cZ w)
def R9 (R:K1) kU cZ w:=
 R8 (II R) R kU cZ w
def abF a0 a1 w(R:K1):=
 R9 R a0 a1 w
theorem ZD{a0 a1 w R}(h:abF a0 a1 w R):aG pg Ah #[a0,a1] w R:=
 jF (ann:=FV) Tryz.f54 DP [a0,a1] I0 25 TryzM.mixed Tryz.func54 (dN 2 (Ui (Qq (II R) 0 1) h (λg w h=>aJ (dN 1 (XB _ g w (R6 R) R (λg w h=>aJ (jP h dE)) dE h))) dE))
def agJ:FA:=⟨sI,λi=> .leaf ([],[]) []⟩
def amN:List ResultVar:=[.tmp 4,.tmp 5,.tmp 6]
noncomputable def acN:Code:=bA Tryz.f55
def UQ(R:K1) fG cR w:=
 aA pg (iX 40 fG) w λpX w=>
 aA pg (aB 40 pX) w λc0 w=>
 aG pg yT #[c0,cR] w λc2 w=>
 aA pg (aP c2 0) w λc3 w=>
 aA pg (aP c2 1) w λc4 w=>
 aA pg (aE .eql 31 (.tmp 15) (.const (aLY 21)) c4 (aLY 21)) w λc6 w=>
 cP c6
  (R (.tuple #[(.string ⟨#[]⟩),(.bool false),(aLY 0)]) w)
  (aA pg (aE .eql 31 (.tmp 18) (.const (aLY 0)) c4 (aLY 0)) w λc9 w=>
  R (.tuple #[c3,c9,c4]) w)
def aiZ a0 a1 w(R:K1):=
 UQ R a0 a1 w
theorem aeH{a0 a1 w R}(h:aiZ a0 a1 w R):aG pg sI #[a0,a1] w R:=
 jF (ann:=agJ) Tryz.f55 acN [a0,a1] amN 21 TryzM.mixed Tryz.func55 (jP h dE)
def yX:FA:=⟨qI,λi=>match Nat.beq i 8 with|true=> .leaf ([10],[]) (fz 10 (ft [] (fz 1 [])))|false=> .leaf ([],[]) []⟩
def aeO:List ResultVar:=[.tmp 4]
noncomputable def vN:Code:=bA Tryz.f56
def Gf(R:K1) bT w:=
 R bT w
def AS(kn:K4) yM MX bT nN w:=
 aA pg (aE .add 3 aM aM nN (aLY 1)) w λc7 w=>
 kn yM MX bT c7 w
def AT(kn:K4) yM MX bT nN aHT w:=
 aA pg (bB 45 1 [(0,aHT)]) w λi4 w=>
 aA pg (eI .append #[45,45] 45 [bT,i4]) w λi5 w=>
 kn yM MX i5 nN w
def O9 (kn:K5) yM MX bT nN w:=
 aA pg (aD 44 MX 0) w λc9 w=>
 aA pg (aB 26 c9) w λd0 w=>
 aA pg (aD 44 MX 1) w λd1 w=>
 aA pg (aB 27 d1) w λd2 w=>
 aA pg (cJ 27 3 d2) w λd3 w=>
 aG pg yR #[d0,d3,nN] w λd5 w=>
 aA pg (aP d5 0) w λd6 w=>
 aA pg (aP d5 1) w λd7 w=>
 aA pg (aP d5 2) w λd8 w=>
 aA pg (aE .eql 31 (.tmp 29) (.const (aLY 0)) d8 (aLY 0)) w λe0 w=>
 Gd (bG e0 true) (λK=>K d6 w) w λe2 w=>
 Gd (bG e0 true) (λK=>K d7 w) w λe3 w=>
 Gd (bG e0 true) (λK=>aA pg (cJ 3 26 e3) w K) w λe4 w=>
 Gd (bG e0 true) (λK=>aA pg (aE .add 26 aM aM e2 e4) w K) w λe5 w=>
 Gd (bG e0 true) (λK=>K yM w) w λe6 w=>
 Gd (bG e0 true) (λK=>aA pg (eI .len #[9] 3 [e6]) w K) w λe7 w=>
 Gd (bG e0 true) (λK=>aA pg (cJ 3 26 e7) w K) w λe8 w=>
 Gd (bG e0 true) (λK=>aA pg (aE .leq 26 aM aM e5 e8) w K) w λe9 w=>
 aA pg (cG e0 e9 (.bool false)) w λf0 w=>
 cP f0
  (aA pg (aB 44 MX) (dr w) λf1 w_=>w_=(dr w)/\
  (dr w)=(dr w)/\
  (dr w)=(dr w)/\
  (dr w)=(dr w)/\
  aA pg (cJ 26 3 d6) (dr w) λf5 w_=>w_=(dr w)/\
  (dr w)=(dr w)/\
  aA pg (cJ 26 3 d6) (dr w) λf7 w_=>w_=(dr w)/\
  (dr w)=(dr w)/\
  aA pg (aE .add 3 aM aM f7 d7) (dr w) λf9 w_=>w_=(dr w)/\
  aA pg (dG 9 yM (some f5) (some f9) none) (dr w) λi0 w_=>w_=(dr w)/\
  aG pg Ak #[f1,nN,i0] (dr w) λi1 aEz=>
  aEz=aEz/\
  kn yM MX bT nN i1 aEz)
  (kn yM MX bT nN (.bool false) w)
def Gg(kn:K4) yM MX bT nN w:=
 O9 (AT kn) yM MX bT nN w
def Gh(kn:K4) yM MX bT nN w:=
 Gg (AS kn) yM MX bT nN w
theorem Vy(kn:K4)(hn:N4 Q kn 1 2 5 6)(h:Gg kn (g 1) (g 2) (g 5) (g 6) w):dM pg yX (bK 1 (aN 1 (bI (bI (aN 1 (bK 1 (aN 2 vN))))))) Q g w:=
 A7 1 (dN 3 (iK (YG (AT kn) 1 2 5 6 10) h (λg w h=>aJ (iK _ h hn))))
def Pa(kn:K4)(k0:K1) yM MX bT nN w:=
 aA pg (aD 44 MX 2) w λc2 w=>
 aA pg (aB 28 c2) w λc3 w=>
 aA pg (eI .len #[28] 3 [c3]) w λc4 w=>
 aA pg (aE .lss 3 aM aM nN c4) w λc5 w=>
 cP c5
  (kn yM MX bT nN w)
  (k0 bT w)
def Gi(kn:K4)(k0:K1) yM MX bT nN w:=
 Pa (Gh kn) k0 yM MX bT nN w
def zC(k0:K1) yM MX bT nN w:=
 bM (λ(X:(aLX×aLX)->K0) (t:aLX×aLX) (w:aLW)=>Gi (λ_ _ bT nN w=>X (bT,nN) w) k0 yM MX t.1 t.2 w) (bT,nN) w
theorem TT(k0:K1)(h0:E1 Q k0 0 5)(h:zC k0 (g 1) (g 2) (g 5) (g 6) w):dM pg yX (bI (aN 1 (bK 1 (aN 2 vN)))) Q g w:=by
 refine EN (λg:Env=>(g 5,g 6)) (λX t w=>Gi (λ_ _ bT nN w=>X (bT,nN) w) k0 (g 1) (g 2) t.1 t.2 w) h (λX g1 w1 ha hL=> ?_)
 rw[<-eZ 1 ha,<-eZ 2 ha]at hL
 exact(dN 1 (DT [(0,(Mq1 k0 5))] (kr:=no) (Ch (Gh (λ_ _ bT nN w=>X (bT,nN) w)) 1 2 5 6) hL (λg w h=>aJ (dN 1 (Vy _ g w (AS (λ_ _ bT nN w=>X (bT,nN) w)) (λg w h=>aJ (iK (Ch (λ_ _ bT nN w=>X (bT,nN) w) 1 2 5 6) h dE)) h))) Jx ⟨h0,trivial⟩))
def Ms(kn:K4) yM MX bT w:=
 kn yM MX bT (aLY 0) w
def Ef(kn:K1) yM MX bT w:=
 Ms (zC kn) yM MX bT w
def Eg(R:K1) yM MX bT w:=
 Ef (Gf R) yM MX bT w
theorem TU(kn:K1)(hn:N1 Q kn 5)(h:Ef kn (g 1) (g 2) (g 5) w):dM pg yX (bK 1 (aN 2 vN)) Q g w:=
 dN 1 (iK (Ch (zC kn) 1 2 5 6) h (λg w h=>aJ (A7 0 (TT _ g w kn hn h))))
def Mt(kn:K3) m_0 yM w:=
 aA pg (iX 44 m_0) w λMX w=>
 kn yM MX (.slice none 0 0) w
def Mu(R:K1) m_0 yM w:=
 Mt (Eg R) m_0 yM w
def X5 a0 a1 w(R:K1):=
 Mu R a0 a1 w
theorem X6 {a0 a1 w R}(h:X5 a0 a1 w R):aG pg qI #[a0,a1] w R:=
 jF (ann:=yX) Tryz.f56 vN [a0,a1] aeO 57 TryzM.mixed Tryz.func56 (dN 2 (iK (Gu (Eg R) 1 2 5) h (λg w h=>aJ (dN 1 (TU _ g w (Gf R) (λg w h=>aJ (jP h dE)) h)))))
def Kv:FA:=⟨BH,λi=> .leaf ([],[]) []⟩
def Ou:List ResultVar:=[.tmp 2]
noncomputable def HO:Code:=bA Tryz.f57
def Ol(R:K1) w:=
 R (.bool true) w
def Om(kn:K2)(k0:K0)(R:K1) iD i_3 w:=
 aA pg (eI .len #[45] 3 [iD]) w λb6 w=>
 aA pg (aE .lss 3 aM aM i_3 b6) w λb7 w=>
 cP b7
  (aA pg (aR 45 iD i_3) w λc2 w=>
  aA pg (aB 4 c2) w λc3 w=>
  aA pg (GI .not c3) w λc4 w=>
  cP c4
   (R (.bool false) w)
   (aA pg (aE .add 3 aM aM i_3 (aLY 1)) w λb9 w=>
   kn iD b9 w))
  (k0 w)
def Hi(k0:K0)(R:K1) iD i_3 w:=
 bM (λ(X:aLX->K0) (t:aLX) (w:aLW)=>Om (λ_ i_3 w=>X i_3 w) k0 R iD t w) i_3 w
theorem aeE(k0:K0)(R:K1)(h0:E0 Q k0 0)(hr:HR Ou R Q)(h:Hi k0 R (g 0) (g 3) w):dM pg Kv (bI (aN 1 (bK 1 (aN 1 HO)))) Q g w:=by
 refine EN (λg:Env=>g 3) (λX t w=>Om (λ_ i_3 w=>X i_3 w) k0 R (g 0) t w) h (λX g1 w1 ha hL=> ?_)
 rw[<-eZ 0 ha]at hL
 exact(DT [(0,(Mq0 k0))] (Qq (λ_ i_3 w=>X i_3 w) 0 3) hL dE hr ⟨h0,trivial⟩)
def XO(kn:K2) iD w:=
 kn iD (aLY 0) w
def On(kn:K0)(R:K1) iD w:=
 XO (Hi kn R) iD w
def Oo(R:K1) iD w:=
 On (Ol R) R iD w
theorem aeF(kn:K0)(R:K1)(hn:N0 Q kn)(hr:HR Ou R Q)(h:On kn R (g 0) w):dM pg Kv (bK 1 (aN 1 HO)) Q g w:=
 dN 1 (iK (Qq (Hi kn R) 0 3) h (λg w h=>aJ (A7 0 (aeE _ g w kn R hn hr h))))
def XP(kn:K1) iD w:=
 kn iD w
def XQ(R:K1) iD w:=
 XP (Oo R) iD w
def aoB a0 w(R:K1):=
 XQ R a0 w
theorem aiW{a0 w R}(h:aoB a0 w R):aG pg BH #[a0] w R:=
 jF (ann:=Kv) Tryz.f57 HO [a0] Ou 15 TryzM.mixed Tryz.func57 (dN 1 (iK (Mq1 (Oo R) 0) h (λg w h=>aJ (dN 1 (aeF _ g w (Ol R) R (λg w h=>aJ (jP h dE)) dE h)))))
def HJ:FA:=⟨GS,λi=>match Nat.beq i 6 with|true=> .leaf ([1],[(1,5),(1,6)]) (fz 1 (ft [] (fz 3 (fu [3] (fu [4] (fz 1 []))))))|false=> .leaf ([],[]) []⟩
def Lv:List ResultVar:=[.tmp 2,.tmp 3]
noncomputable def F4:Code:=bA Tryz.f58
def Lm(R:K1) iY rR w:=
 R (.tuple #[iY,rR]) w
def Ln(kn:K3)(k0:K2)(R:K1) DM iY rR w:=
 aA pg (aE .add 3 aM aM rR (aLY 13)) w λc0 w=>
 aA pg (eI .len #[9] 3 [DM]) w λc2 w=>
 aA pg (aE .leq 3 aM aM c0 c2) w λc3 w=>
 cP c3
  (aA pg (aE .add 3 aM aM rR (aLY 1)) w λc7 w=>
  aA pg (dG 9 DM (some c7) none none) w λc8 w=>
  aA pg (bV 158 [(0,c8)]) w λc9 w=>
  aG pg B8 #[c9,(aLY 8)] w λd0 w=>
  aA pg (aP d0 0) w λd1 w=>
  aA pg (aP d0 1) w λd2 w=>
  aA pg (bE 158) w λb6 w=>
  aA pg (aF 158 b6 d1) w λ_u w=>
  aA pg (VL 9 DM rR) w λd5 w=>
  aA pg (bV 123 [(0,d5),(1,d2)]) w λd7 w=>
  aA pg (bE 123) w λr_8 w=>
  aA pg (aF 123 r_8 d7) w λ_u w=>
  aA pg (aB 123 r_8) (dr w) λd8 w_=>w_=(dr w)/\
  aG pg BG #[d8] (dr w) λd9 YD=>
  YD=YD/\
  YD=YD/\
  YD=YD/\
  aA pg (aE .add 3 aM aM rR (aLY 13)) YD λe3 w_=>w_=YD/\
  (aO pg (aE .add 3 aM aM rR (aLY 13)) e3 (dr w)/\True)/\
  aA pg (dG 9 DM (some rR) (some e3) none) YD λe4 w_=>w_=YD/\
  (aO pg (dG 9 DM (some rR) (some e3) none) e4 (dr w)/\True)/\
  aA pg (aE .neq 9 (.tmp 29) (.tmp 34) d9 e4) YD λe5 w_=>w_=YD/\
  cP e5
   (R (.tuple #[iY,rR]) YD)
   (aA pg (aB 123 r_8) YD λe9 w=>
   aA pg (bB 120 1 [(0,e9)]) w λf0 w=>
   aA pg (eI .append #[120,120] 120 [iY,f0]) w λf1 w=>
   aA pg (aE .add 3 aM aM rR (aLY 13)) w λf3 w=>
   kn DM f1 f3 w))
  (k0 iY rR w)
def EV(k0:K2)(R:K1) DM iY rR w:=
 bM (λ(X:(aLX×aLX)->K0) (t:aLX×aLX) (w:aLW)=>Ln (λ_ iY rR w=>X (iY,rR) w) k0 R DM t.1 t.2 w) (iY,rR) w
theorem ZO(k0:K2)(R:K1)(h0:E2 Q k0 0 4 5)(hr:HR Lv R Q)(h:EV k0 R (g 0) (g 4) (g 5) w):dM pg HJ (bI (bK 1 (aN 3 F4))) Q g w:=by
 refine EN (λg:Env=>(g 4,g 5)) (λX t w=>Ln (λ_ iY rR w=>X (iY,rR) w) k0 R (g 0) t.1 t.2 w) h (λX g1 w1 ha hL=> ?_)
 rw[<-eZ 0 ha]at hL
 exact(DT [(0,(Qq k0 4 5))] (Gu (λ_ iY rR w=>X (iY,rR) w) 0 4 5) hL dE hr ⟨h0,trivial⟩)
def Lo(R:K1) DM iY rR w:=
 EV (Lm R) R DM iY rR w
theorem ZP(kn:K2)(R:K1)(hn:N2 Q kn 4 5)(hr:HR Lv R Q)(h:EV kn R (g 0) (g 4) (g 5) w):dM pg HJ (bK 1 (aN 3 F4)) Q g w:=
 A7 0 (ZO _ g w kn R hn hr h)
def UN(kn:K3) DM w:=
 kn DM (.slice none 0 0) (aLY 0) w
def UO(R:K1) DM w:=
 UN (Lo R) DM w
def aiV a0 w(R:K1):=
 UO R a0 w
theorem aeD{a0 w R}(h:aiV a0 w R):aG pg GS #[a0] w R:=
 jF (ann:=HJ) Tryz.f58 F4 [a0] Lv 46 TryzM.mixed Tryz.func58 (dN 3 (iK (Gu (Lo R) 0 4 5) h (λg w h=>aJ (dN 1 (ZP _ g w (Lm R) R (λg w h=>aJ (jP h dE)) dE h)))))
def YR:FA:=⟨wE,λi=>match Nat.beq i 5 with|true=> .leaf ([3,4],[(1,3)]) (fz 3 (ft [1] (ft [] (fz 1 []))))|false=> .leaf ([],[]) []⟩
def aeQ:List ResultVar:=[.cell 6 40,.cell 7 47,.tmp 8]
noncomputable def Wj:Code:=bA Tryz.f59
def AV(R:K1) oJ s_4 b6 b7 aIW w:=
 aA pg (aB 40 oJ) (dr w) λe3 w_=>w_=(dr w)/\
 aA pg (aB 47 s_4) (dr w) λe4 w_=>w_=(dr w)/\
 (dr w)=(dr w)/\
 aA pg (aF 40 b6 e3) (dr w) λ_u3 YC=>
 (aO pg (aB 47 s_4) e4 YC/\True)/\
 aA pg (aF 47 b7 e4) YC λ_u4 S7=>
 S7=S7/\
 kD pg 40 b6 S7 λr0=>kD pg 47 b7 S7 λr1=>R (.tuple #[r0,r1,aIW]) S7
def Pd(kn:K5) fG SG Ny w:=
 aA pg (iX 40 fG) w λoJ w=>
 aA pg (iX 47 SG) w λs_4 w=>
 aA pg (iX 123 Ny) w λr_5 w=>
 aA pg (bE 40) w λb6 w=>
 aA pg (bE 47) w λb7 w=>
 aA pg (aB 123 r_5) w λc1 w=>
 aG pg BG #[c1] w λc2 w=>
 aA pg (aB 40 oJ) w λc4 w=>
 aA pg (aD 47 s_4 0) w λc5 w=>
 aA pg (aB 9 c5) w λc6 w=>
 aA pg (aE .add 9 aM aM c6 (.string ⟨#[46,108,111,103]⟩)) w λc7 w=>
 aA pg (aD 47 s_4 4) w λc8 w=>
 aA pg (aB 3 c8) w λc9 w=>
 aA pg (bV 96 [(1,c7),(3,c9),(4,c2)]) w λd1 w=>
 aG pg gX #[c4,d1] w λd2 w=>
 aA pg (aP d2 0) w λd3 w=>
 aA pg (aP d2 1) w λd4 w=>
 aA pg (aF 40 oJ d3) w λ_u w=>
 aA pg (aE .eql 31 (.tmp 25) (.const (aLY 0)) d4 (aLY 0)) w λd6 w=>
 cP d6
  (aA pg (aD 47 s_4 4) w λd7 w=>
  aA pg (aB 3 d7) w λd8 w=>
  aA pg (eI .len #[9] 3 [c2]) w λe0 w=>
  aA pg (aE .add 3 aM aM d8 e0) w λe1 w=>
  aA pg (aD 47 s_4 4) w λe2 w=>
  aA pg (aF 3 e2 e1) w λ_u w=>
  kn oJ s_4 b6 b7 d4 w)
  (kn oJ s_4 b6 b7 d4 w)
def Pe(R:K1) fG SG Ny w:=
 Pd (AV R) fG SG Ny w
def X9 a0 a1 a2 w(R:K1):=
 Pe R a0 a1 a2 w
theorem Ya{a0 a1 a2 w R}(h:X9 a0 a1 a2 w R):aG pg wE #[a0,a1,a2] w R:=
 jF (ann:=YR) Tryz.f59 Wj [a0,a1,a2] aeQ 36 TryzM.mixed Tryz.func59 (dN 4 (iK (YG (AV R) 3 4 6 7 10) h (λg w h=>aJ (jP h dE))))
def YQ:FA:=⟨Cb,λi=>match Nat.beq i 13 with|true=> .leaf ([11,14,18],[(0,11),(3,11),(17,18)]) (fz 11 (ft [7,10] (fz 2 (ft [] (fz 3 (ft [0] (fz 1 [])))))))|false=> .leaf ([],[]) []⟩
def aeP:List ResultVar:=[.cell 4 40,.tmp 5,.tmp 6]
noncomputable def Wh:Code:=bA Tryz.f60
def AU(R:K1) pX Ay b4 aGS b_8 b9 w:=
 aA pg (eI .len #[9] 3 [b_8]) w λf4 w=>
 aA pg (cJ 3 26 f4) w λf5 w=>
 aA pg (aD 47 Ay 1) w λf6 w=>
 aA pg (aD 44 f6 0) w λf7 w=>
 aA pg (aB 26 f7) w λf8 w=>
 aA pg (aE .eql 26 (.tmp 45) (.tmp 48) f5 f8) w λf9 w=>
 Gd (bG f9 true) (λK=>K b9 w) w λi1 w=>
 aA pg (cG f9 i1 (.bool false)) w λi2 w=>
 cP i2
  (aA pg (aB 40 pX) w λi3 w=>
  aA pg (aF 40 b4 i3) w λ_u w=>
  kD pg 40 b4 w λr0=>R (.tuple #[r0,b_8,(aLY 0)]) w)
  (aA pg (aB 40 pX) (dr w) λi6 w_=>w_=(dr w)/\
  (dr w)=(dr w)/\
  (dr w)=(dr w)/\
  aA pg (eI .len #[9] 3 [b_8]) (dr w) λi9 w_=>w_=(dr w)/\
  aA pg (aD 47 Ay 1) (dr w) λj0 w_=>w_=(dr w)/\
  aA pg (aD 44 j0 0) (dr w) λj1 w_=>w_=(dr w)/\
  aA pg (aB 26 j1) (dr w) λj2 w_=>w_=(dr w)/\
  aA pg (cJ 26 3 j2) (dr w) λj3 w_=>w_=(dr w)/\
  (dr w)=(dr w)/\
  aA pg (eI .len #[9] 3 [b_8]) (dr w) λj5 w_=>w_=(dr w)/\
  aA pg (aE .sub 3 aM aM j3 j5) (dr w) λj6 w_=>w_=(dr w)/\
  aA pg (xP 22 j6 j6) (dr w) λj7 VV=>
  (aO pg (eI .len #[9] 3 [b_8]) i9 VV/\aO pg (aB 40 pX) i6 VV/\True)/\
  aA pg (cJ 22 9 j7) VV λj8 w_=>w_=VV/\
  aA pg (bV 96 [(1,aGS),(3,i9),(4,j8)]) VV λj9 w_=>w_=VV/\
  aG pg gX #[i6,j9] VV λl0 VW=>
  VW=VW/\
  aA pg (aP l0 0) VW λl1 w_=>w_=VW/\
  aA pg (aP l0 1) VW λl2 w_=>w_=VW/\
  aA pg (aF 40 pX l1) VW λ_u18 arE=>
  (aO pg (aP l0 1) l2 arE/\True)/\
  arE=arE/\
  aA pg (aB 40 pX) arE λl3 w=>
  aA pg (aF 40 b4 l3) w λ_u w=>
  kD pg 40 b4 w λr0=>R (.tuple #[r0,b_8,l2]) w)
def Pb(kn:K6)(R:K1) fG SG w:=
 aA pg (iX 40 fG) w λpX w=>
 aA pg (iX 47 SG) w λAy w=>
 aA pg (bE 40) w λb4 w=>
 aA pg (aD 47 Ay 0) w λc1 w=>
 aA pg (aB 9 c1) w λc2 w=>
 aA pg (aE .add 9 aM aM c2 (.string ⟨#[46,112,97,114,116]⟩)) w λc3 w=>
 aA pg (aB 40 pX) w λc5 w=>
 aG pg sI #[c5,c3] w λc7 w=>
 aA pg (aP c7 0) w λc8 w=>
 aA pg (aP c7 1) w λc9 w=>
 aA pg (aP c7 2) w λd0 w=>
 aA pg (aE .neq 31 (.tmp 21) (.const (aLY 0)) d0 (aLY 0)) w λd2 w=>
 cP d2
  (aA pg (aB 40 pX) w λd3 w=>
  aA pg (aF 40 b4 d3) w λ_u w=>
  kD pg 40 b4 w λr0=>R (.tuple #[r0,(.string ⟨#[]⟩),d0]) w)
  (aA pg (eI .len #[9] 3 [c8]) w λd6 w=>
  aA pg (cJ 3 26 d6) w λd7 w=>
  aA pg (aD 47 Ay 1) w λd8 w=>
  aA pg (aD 44 d8 0) w λd9 w=>
  aA pg (aB 26 d9) w λe0 w=>
  aA pg (aE .gtr 26 aM aM d7 e0) w λe1 w=>
  cP e1
   (aA pg (aB 40 pX) w λe3 w=>
   aA pg (bV 96 [(0,(aLY 2)),(1,c3)]) w λe5 w=>
   aG pg gX #[e3,e5] w λe6 w=>
   aA pg (aP e6 0) w λe7 w=>
   aA pg (aP e6 1) w λe8 w=>
   aA pg (aF 40 pX e7) w λ_u w=>
   aA pg (aE .neq 31 (.tmp 39) (.const (aLY 0)) e8 (aLY 0)) w λf0 w=>
   cP f0
    (aA pg (aB 40 pX) w λf1 w=>
    aA pg (aF 40 b4 f1) w λ_u w=>
    kD pg 40 b4 w λr0=>R (.tuple #[r0,(.string ⟨#[]⟩),e8]) w)
    (kn pX Ay b4 c3 (.string ⟨#[]⟩) (.bool false) w))
   (kn pX Ay b4 c3 c8 c9 w))
def Pc(R:K1) fG SG w:=
 Pb (AU R) R fG SG w
def X7 a0 a1 w(R:K1):=
 Pc R a0 a1 w
theorem X8 {a0 a1 w R}(h:X7 a0 a1 w R):aG pg Cb #[a0,a1] w R:=
 jF (ann:=YQ) Tryz.f60 Wh [a0,a1] aeP 76 TryzM.mixed Tryz.func60 (dN 5 (Ui (Mq6 (AU R) 2 3 4 7 8 9) h (λg w h=>aJ (jP h dE)) dE))
def agI:FA:=⟨oX,λi=> .leaf ([],[]) []⟩
def amK:List ResultVar:=[.cell 2 40,.tmp 3]
noncomputable def acM:Code:=bA Tryz.f61
def UG(R:K1) fG w:=
 aA pg (iX 40 fG) w λQU w=>
 aA pg (bE 40) w λb2 w=>
 aA pg (aD 40 QU 4) w λb5 w=>
 aA pg (aB 4 b5) w λb6 w=>
 cP b6
  (aA pg (aB 40 QU) w λb7 w=>
  aA pg (aF 40 b2 b7) w λ_u w=>
  kD pg 40 b2 w λr0=>R (.tuple #[r0,(aLY 20)]) w)
  (aA pg (aB 40 QU) w λb9 w=>
  aG pg Aj #[b9] w λc0 w=>
  aA pg (aP c0 0) w λc1 w=>
  aA pg (aP c0 1) w λc2 w=>
  aA pg (aF 40 QU c1) w λ_u w=>
  cP c2
   (aA pg (aB 40 QU) w λc4 w=>
   aA pg (aF 40 b2 c4) w λ_u w=>
   kD pg 40 b2 w λr0=>R (.tuple #[r0,(aLY 20)]) w)
   (aA pg (aB 40 QU) w λc5 w=>
   aG pg sH #[c5] w λc6 w=>
   aA pg (aD 40 QU 1) w λc7 w=>
   aA pg (aF 37 c7 c6) w λ_u w=>
   aA pg (aD 40 QU 2) w λc8 w=>
   aA pg (aF 38 c8 (.slice none 0 0)) w λ_u w=>
   aA pg (aB 40 QU) w λc9 w=>
   aA pg (aF 40 b2 c9) w λ_u w=>
   kD pg 40 b2 w λr0=>R (.tuple #[r0,(aLY 0)]) w))
def aiR a0 w(R:K1):=
 UG R a0 w
theorem aeA{a0 w R}(h:aiR a0 w R):aG pg oX #[a0] w R:=
 jF (ann:=agI) Tryz.f61 acM [a0] amK 20 TryzM.mixed Tryz.func61 (jP h dE)
def M4:FA:=⟨oY,λi=> .leaf ([],[]) []⟩
def P6:List ResultVar:=[.tmp 2]
noncomputable def LS:Code:=bA Tryz.f62
def Du(R:K1) aD7 w:=
 aG pg uK #[aD7] w λb5 w=>
 aG pg mO #[b5] w λb7 w=>
 R b5 w
def Jb a0 w(R:K1):=
 Du R a0 w
theorem ML{a0 w R}(h:Jb a0 w R):aG pg oY #[a0] w R:=
 jF (ann:=M4) Tryz.f62 LS [a0] P6 9 TryzM.mixed Tryz.func62 (jP h dE)
def Vd:FA:=⟨yQ,λi=> .leaf ([],[]) []⟩
def Yl:List ResultVar:=[.tmp 2]
noncomputable def TE:Code:=bA Tryz.f63
def J3 (R:K1) m_0 w:=
 aA pg (iX 73 m_0) w λm_1 w=>
 aA pg (Pf (.func 88) [] [m_1]) w λb3 w=>
 R b3 w
def RH a0 w(R:K1):=
 J3 R a0 w
theorem TO{a0 w R}(h:RH a0 w R):aG pg yQ #[a0] w R:=
 jF (ann:=Vd) Tryz.f63 TE [a0] Yl 4 TryzM.mixed Tryz.func63 (jP h dE)
def yW:FA:=⟨AY,λi=>match Nat.beq i 12 with|true=> .leaf ([10],[]) (fz 10 (ft [] []))|false=> .leaf ([],[]) []⟩
def abL:List ResultVar:=[.tmp 4]
noncomputable def uH:Code:=bA Tryz.f64
def Sc(R:K1) iD w:=
 R iD w
def abH(kn:K1)(R:K1) iD rU vQ Dq w:=
 aA pg (aE .lss 3 aM aM vQ (aLY 0)) w λj2 w=>
 cP j2
  (R iD w)
  (aA pg (aD 96 rU 1) w λj5 w=>
  aA pg (aB 9 j5) w λj6 w=>
  aG pg tT #[iD,j6] w λj7 w=>
  aA pg (aD 96 rU 0) w λj8 w=>
  aA pg (aB 3 j8) w λj9 w=>
  aA pg (aE .eql 3 (.tmp 69) (.const (aLY 1)) j9 (aLY 1)) w λl0 w=>
  cP l0
   (aA pg (aD 96 rU 2) w λl2 w=>
   aA pg (aB 9 l2) w λl3 w=>
   aA pg (bV 85 [(0,l3),(1,Dq)]) w λl5 w=>
   aG pg B9 #[j7,l5] w λl6 w=>
   kn l6 w)
   (kn j7 w))
def Sd(R:K1) iD rU vQ Dq w:=
 abH (Sc R) R iD rU vQ Dq w
def Se(R:K1) iD rU YS w:=
 aA pg (aD 96 rU 1) w λi5 w=>
 aA pg (aB 9 i5) w λi6 w=>
 aA pg (cJ 22 9 YS) w λi8 w=>
 aA pg (bV 85 [(0,i6),(1,i8)]) w λi9 w=>
 aG pg B9 #[iD,i9] w λj0 w=>
 R j0 w
def Sf(kn:K4)(k2:K3) iD rU YS k_8 w:=
 aA pg (aD 96 rU 4) w λe8 w=>
 aA pg (aB 9 e8) w λe9 w=>
 aA pg (eI .len #[9] 3 [e9]) w λf0 w=>
 aA pg (aE .lss 3 aM aM k_8 f0) w λf1 w=>
 cP f1
  ((dr w)=(dr w)/\
  aA pg (aD 96 rU 3) (dr w) λf5 w_=>w_=(dr w)/\
  aA pg (aB 3 f5) (dr w) λf6 w_=>w_=(dr w)/\
  (dr w)=(dr w)/\
  aA pg (aE .add 3 aM aM f6 k_8) (dr w) λf8 w_=>w_=(dr w)/\
  aA pg (aD 96 rU 4) (dr w) λf9 w_=>w_=(dr w)/\
  aA pg (aB 9 f9) (dr w) λi0 w_=>w_=(dr w)/\
  (dr w)=(dr w)/\
  aA pg (VL 9 i0 k_8) (dr w) λi2 w_=>w_=(dr w)/\
  aA pg (aR 22 YS f8) (dr w) λi3 w_=>w_=(dr w)/\
  aA pg (aF 5 i3 i2) (dr w) λ_u10 aHm=>
  aA pg (aE .add 3 aM aM k_8 (aLY 1)) aHm λf3 w=>
  kn iD rU YS f3 w)
  (k2 iD rU YS w)
def J7 (k2:K3) iD rU YS k_8 w:=
 bM (λ(X:aLX->K0) (t:aLX) (w:aLW)=>Sf (λ_ _ _ k_8 w=>X k_8 w) k2 iD rU YS t w) k_8 w
theorem aiL(k2:K3)(h2:E3 Q k2 2 0 3 7)(h:J7 k2 (g 0) (g 3) (g 7) (g 8) w):dM pg yW (bI (aN 1 (bK 1 (aN 1 (aN 1 (cT (aN 1 (bK 1 (aN 4 uH))))))))) Q g w:=by
 refine EN (λg:Env=>g 8) (λX t w=>Sf (λ_ _ _ k_8 w=>X k_8 w) k2 (g 0) (g 3) (g 7) t w) h (λX g1 w1 ha hL=> ?_)
 rw[<-eZ 0 ha,<-eZ 3 ha,<-eZ 7 ha]at hL
 exact(DT [(2,(Gu k2 0 3 7))] (kr:=no) (Ch (λ_ _ _ k_8 w=>X k_8 w) 0 3 7 8) hL dE Jx ⟨h2,trivial⟩)
def abI(kn:K4) iD rU YS w:=
 kn iD rU YS (aLY 0) w
def Sg(kn:K3) iD rU YS w:=
 abI (J7 kn) iD rU YS w
def Og(R:K1) iD rU YS w:=
 Sg (Se R) iD rU YS w
theorem aiM(kn:K3)(hn:N3 Q kn 0 3 7)(h:Sg kn (g 0) (g 3) (g 7) w):dM pg yW (bK 1 (aN 1 (aN 1 (cT (aN 1 (bK 1 (aN 4 uH))))))) Q g w:=
 dN 1 (iK (Ch (J7 kn) 0 3 7 8) h (λg w h=>aJ (A7 2 (aiL _ g w kn hn h))))
def Oh(kn:K3)(k0:K3) iD rU YS w:=
 aA pg (eI .len #[22] 3 [YS]) w λd6 w=>
 aA pg (aD 96 rU 3) w λd7 w=>
 aA pg (aB 3 d7) w λd8 w=>
 aA pg (aD 96 rU 4) w λd9 w=>
 aA pg (aB 9 d9) w λe0 w=>
 aA pg (eI .len #[9] 3 [e0]) w λe1 w=>
 aA pg (aE .add 3 aM aM d8 e1) w λe2 w=>
 aA pg (aE .lss 3 aM aM d6 e2) w λe3 w=>
 cP e3
  (aA pg (bB 22 1 [(0,(.int .u8 0))]) w λe5 w=>
  aA pg (eI .append #[22,22] 22 [YS,e5]) w λe6 w=>
  kn iD rU e6 w)
  (k0 iD rU YS w)
def Hf(k0:K3) iD rU YS w:=
 bM (λ(X:aLX->K0) (t:aLX) (w:aLW)=>Oh (λ_ _ YS w=>X YS w) k0 iD rU t w) YS w
theorem adU(k0:K3)(h0:E3 Q k0 0 0 3 7)(h:Hf k0 (g 0) (g 3) (g 7) w):dM pg yW (bI (bK 1 (aN 1 (cT (aN 1 (bK 1 (aN 4 uH))))))) Q g w:=by
 refine EN (λg:Env=>g 7) (λX t w=>Oh (λ_ _ YS w=>X YS w) k0 (g 0) (g 3) t w) h (λX g1 w1 ha hL=> ?_)
 rw[<-eZ 0 ha,<-eZ 3 ha]at hL
 exact(DT [(0,(Gu k0 0 3 7))] (kr:=no) (Gu (λ_ _ YS w=>X YS w) 0 3 7) hL dE Jx ⟨h0,trivial⟩)
def Oi(R:K1) iD rU YS w:=
 Hf (Og R) iD rU YS w
theorem adV(kn:K3)(hn:N3 Q kn 0 3 7)(h:Hf kn (g 0) (g 3) (g 7) w):dM pg yW (bK 1 (aN 1 (cT (aN 1 (bK 1 (aN 4 uH)))))) Q g w:=
 A7 0 (adU _ g w kn hn h)
def XF(kn:K3) iD rU Dq w:=
 aA pg (cJ 9 22 Dq) w λd4 w=>
 kn iD rU d4 w
def XG(R:K1) iD rU Dq w:=
 XF (Oi R) iD rU Dq w
def XH(kn:K4) iD rU vQ Dq w:=
 kn iD rU vQ Dq w
def Oj(kn:K4)(R:K1) iD rU vQ Dq d2 w:=
 cP d2 (XG R iD rU Dq w) (XH kn iD rU vQ Dq w)
def XI(kn:K5) iD rU vQ Dq w:=
 aA pg (aD 96 rU 0) w λd0 w=>
 aA pg (aB 3 d0) w λd1 w=>
 aA pg (aE .eql 3 (.tmp 21) (.const (aLY 0)) d1 (aLY 0)) w λd2 w=>
 kn iD rU vQ Dq d2 w
def Ok(kn:K4)(R:K1) iD rU vQ Dq w:=
 XI (Oj kn R) iD rU vQ Dq w
def Hg(R:K1) iD rU vQ Dq w:=
 Ok (Sd R) R iD rU vQ Dq w
theorem adW(kn:K4)(R:K1)(hn:N4 Q kn 0 3 5 6)(hr:HR abL R Q)(h:Ok kn R (g 0) (g 3) (g 5) (g 6) w):dM pg yW (bK 1 (aN 4 uH)) Q g w:=
 dN 1 (iK (YG (Oj kn R) 0 3 5 6 22) h (λg w h=>aJ (cdD (.tmp 22) (λh=>(dN 1 (iK (Gu (Oi R) 0 3 7) h (λg w h=>aJ (dN 1 (adV _ g w (Og R) (λg w h=>aJ (dN 1 (aiM _ g w (Se R) (λg w h=>aJ (jP h hr)) h))) h)))))) (λh=>(iK _ h hn)) h)))
def XJ(kn:K4) iD o_1 w:=
 aA pg (iX 96 o_1) w λrU w=>
 aA pg (aD 96 rU 1) w λc0 w=>
 aA pg (aB 9 c0) w λc1 w=>
 aG pg yS #[iD,c1] w λc2 w=>
 aA pg (aE .geq 3 aM aM c2 (aLY 0)) w λc4 w=>
 cP c4
  (aA pg (aR 37 iD c2) w λc7 w=>
  aA pg (aD 85 c7 1) w λc8 w=>
  aA pg (aB 9 c8) w λc9 w=>
  kn iD rU c2 c9 w)
  (kn iD rU c2 (.string ⟨#[]⟩) w)
def XK(R:K1) iD o_1 w:=
 XJ (Hg R) iD o_1 w
def avB a0 a1 w(R:K1):=
 XK R a0 a1 w
theorem alZ{a0 a1 w R}(h:avB a0 a1 w R):aG pg AY #[a0,a1] w R:=
 jF (ann:=yW) Tryz.f64 uH [a0,a1] abL 78 TryzM.mixed Tryz.func64 (dN 4 (iK (Ch (Hg R) 0 3 5 6) h (λg w h=>aJ (dN 1 (adW _ g w (Sd R) R (λg w h=>aJ (dN 3 (Ui (Mq1 (Sc R) 0) h (λg w h=>aJ (jP h dE)) dE))) dE h)))))
def acE:FA:=⟨Ak,λi=>match Nat.beq i 2 with|true=> .leaf ([10],[(10,11),(10,12),(10,14),(10,15)]) (fz 10 (ft [] (fu [0] (fu [1] (fz 1 (fu [3] (fu [4] (fz 3 []))))))))|false=> .leaf ([],[]) []⟩
def ajV:List ResultVar:=[.tmp 6]
noncomputable def Y6:Code:=bA Tryz.f65
def Su(R:K1) m_0 i_1 rP w:=
 aA pg (iX 44 m_0) w λWR w=>
 aA pg (aD 44 WR 0) w λc1 w=>
 aA pg (aB 26 c1) w λc2 w=>
 aA pg (aD 44 WR 1) w λc3 w=>
 aA pg (aB 27 c3) w λc4 w=>
 aA pg (cJ 27 3 c4) w λc5 w=>
 aG pg yR #[c2,c5,i_1] w λc7 w=>
 aA pg (aP c7 0) w λc8 w=>
 aA pg (aP c7 1) w λc9 w=>
 aA pg (aP c7 2) w λd0 w=>
 (dr w)=(dr w)/\
 aA pg (aE .eql 31 (.tmp 21) (.const (aLY 0)) d0 (aLY 0)) (dr w) λd2 w_=>w_=(dr w)/\
 (dr w)=(dr w)/\
 Gd (bG d2 true) (λK=>K rP (dr w)) (dr w) λd4 w_=>w_=(dr w)/\
 Gd (bG d2 true) (λK=>aA pg (eI .len #[9] 3 [d4]) (dr w) K) (dr w) λd5 w_=>w_=(dr w)/\
 Gd (bG d2 true) (λK=>K c9 (dr w)) (dr w) λd6 w_=>w_=(dr w)/\
 Gd (bG d2 true) (λK=>aA pg (aE .eql 3 (.tmp 25) (.tmp 26) d5 d6) (dr w) K) (dr w) λd7 w_=>w_=(dr w)/\
 aA pg (cG d2 d7 (.bool false)) (dr w) λd8 w_=>w_=(dr w)/\
 (dr w)=(dr w)/\
 Gd (bG d8 true) (λK=>K rP (dr w)) (dr w) λe0 w_=>w_=(dr w)/\
 Gd (bG d8 true) (λK=>aG pg GQ #[e0] (dr w) K) (dr w) λe1 cQ=>
 Gd (bG d8 true) (λK=>aA pg (aD 44 WR 2) cQ K) cQ λe2 w_=>w_=cQ/\
 (Gs (bG d8 true) (aO pg (aD 44 WR 2) e2 (dr w))/\True)/\
 Gd (bG d8 true) (λK=>aA pg (aB 28 e2) cQ K) cQ λe3 w_=>w_=cQ/\
 (Gs (bG d8 true) (aO pg (aB 28 e2) e3 (dr w))/\True)/\
 Gd (bG d8 true) (λK=>K i_1 cQ) cQ λe4 w_=>w_=cQ/\
 Gd (bG d8 true) (λK=>aA pg (aR 28 e3 e4) cQ K) cQ λe5 w_=>w_=cQ/\
 (Gs (bG d8 true) (aO pg (aR 28 e3 e4) e5 (dr w))/\True)/\
 Gd (bG d8 true) (λK=>aA pg (aB 70 e5) cQ K) cQ λe6 w_=>w_=cQ/\
 (Gs (bG d8 true) (aO pg (aB 70 e5) e6 (dr w))/\True)/\
 Gd (bG d8 true) (λK=>aA pg (aE .eql 70 (.tmp 31) (.tmp 36) e1 e6) cQ K) cQ λe7 w_=>w_=cQ/\
 aA pg (cG d8 e7 (.bool false)) cQ λe8 w_=>w_=cQ/\
 cQ=cQ/\
 R e8 cQ
def abK a0 a1 a2 w(R:K1):=
 Su R a0 a1 a2 w
theorem ZS{a0 a1 a2 w R}(h:abK a0 a1 a2 w R):aG pg Ak #[a0,a1,a2] w R:=
 jF (ann:=acE) Tryz.f65 Y6 [a0,a1,a2] ajV 39 TryzM.mixed Tryz.func65 (jP h dE)
def agF:FA:=⟨yR,λi=> .leaf ([],[]) []⟩
def amG:List ResultVar:=[.tmp 6,.tmp 7,.tmp 8]
noncomputable def acJ:Code:=bA Tryz.f66
def Ux(R:K1) kU cZ Uk w:=
 aG pg Ah #[kU,cZ] w λc5 w=>
 aA pg (aP c5 0) w λc6 w=>
 aA pg (aP c5 1) w λc7 w=>
 aA pg (aE .neq 31 (.tmp 18) (.const (aLY 0)) c7 (aLY 0)) w λc9 w=>
 cP c9
  (R (.tuple #[(.int .u64 0),(aLY 0),c7]) w)
  (aA pg (aE .lss 3 aM aM Uk (aLY 0)) w λd2 w=>
  Gd (bG d2 false) (λK=>K Uk w) w λd4 w=>
  Gd (bG d2 false) (λK=>K c6 w) w λd5 w=>
  Gd (bG d2 false) (λK=>aA pg (aE .geq 3 aM aM d4 d5) w K) w λd6 w=>
  aA pg (cG d2 (.bool true) d6) w λd7 w=>
  cP d7
   (R (.tuple #[(.int .u64 0),(aLY 0),(aLY 17)]) w)
   (aA pg (cJ 3 26 cZ) w λd9 w=>
   aA pg (cJ 3 26 Uk) w λe1 w=>
   aA pg (aE .mul 26 aM aM d9 e1) w λe2 w=>
   aA pg (aE .sub 26 aM aM kU e2) w λe5 w=>
   aA pg (cJ 3 26 cZ) w λe7 w=>
   aA pg (aE .lss 26 aM aM e5 e7) w λe8 w=>
   cP e8
    (aA pg (aE .sub 26 aM aM kU e2) w λf2 w=>
    aA pg (cJ 26 3 f2) w λf3 w=>
    R (.tuple #[e2,f3,(aLY 0)]) w)
    (R (.tuple #[e2,cZ,(aLY 0)]) w)))
def aiI a0 a1 a2 w(R:K1):=
 Ux R a0 a1 a2 w
theorem adS{a0 a1 a2 w R}(h:aiI a0 a1 a2 w R):aG pg yR #[a0,a1,a2] w R:=
 jF (ann:=agF) Tryz.f66 acJ [a0,a1,a2] amG 46 TryzM.mixed Tryz.func66 (jP h dE)
def agH:FA:=⟨yT,λi=> .leaf ([],[]) []⟩
def amI:List ResultVar:=[.tmp 4,.tmp 5]
noncomputable def acL:Code:=bA Tryz.f67
def UC(R:K1) fG cR w:=
 aA pg (iX 40 fG) w λpX w=>
 aA pg (aD 40 pX 4) w λb8 w=>
 aA pg (aB 4 b8) w λb9 w=>
 cP b9
  (R (.tuple #[(.string ⟨#[]⟩),(aLY 20)]) w)
  (aA pg (aB 40 pX) w λc0 w=>
  aG pg sH #[c0] w λc1 w=>
  aG pg yS #[c1,cR] w λc4 w=>
  aA pg (aE .lss 3 aM aM c4 (aLY 0)) w λc6 w=>
  cP c6
   (R (.tuple #[(.string ⟨#[]⟩),(aLY 21)]) w)
   (aA pg (aR 37 c1 c4) w λc9 w=>
   aA pg (aD 85 c9 1) w λd0 w=>
   aA pg (aB 9 d0) w λd1 w=>
   R (.tuple #[d1,(aLY 0)]) w))
def aiP a0 a1 w(R:K1):=
 UC R a0 a1 w
theorem adY{a0 a1 w R}(h:aiP a0 a1 w R):aG pg yT #[a0,a1] w R:=
 jF (ann:=agH) Tryz.f67 acL [a0,a1] amI 22 TryzM.mixed Tryz.func67 (jP h dE)
def V9:FA:=⟨tS,λi=>match Nat.beq i 6 with|true=> .leaf ([6],[]) (fz 6 (ft [] []))|false=> .leaf ([],[]) []⟩
def ZW:List ResultVar:=[]
noncomputable def Vh:Code:=bA Tryz.f68
def L4 (kn:K0) f_0 o_1 w:=
 aA pg (iX 137 o_1) w λrU w=>
 aA pg (aD 137 rU 1) w λb9 w=>
 aA pg (aB 9 b9) w λc0 w=>
 aA pg (CT 73 f_0 c0 true) w λc1 w=>
 aA pg (aP c1 0) w λc2 w=>
 aA pg (aP c1 1) w λc3 w=>
 aA pg (aD 137 rU 0) w λc4 w=>
 aA pg (aB 3 c4) w λc5 w=>
 aA pg (aE .eql 3 (.tmp 15) (.const (aLY 0)) c5 (aLY 0)) w λc7 w=>
 cP c7
  (aA pg (eI .len #[22] 3 [c2]) w λc9 w=>
  aA pg (aD 137 rU 3) w λd0 w=>
  aA pg (aB 3 d0) w λd1 w=>
  aA pg (aD 137 rU 4) w λd2 w=>
  aA pg (aB 22 d2) w λd3 w=>
  aA pg (eI .len #[22] 3 [d3]) w λd4 w=>
  aA pg (aE .add 3 aM aM d1 d4) w λd5 w=>
  aA pg (eI .max #[3,3] 3 [c9,d5]) w λd6 w=>
  aA pg (xP 22 d6 d6) w λd7 w=>
  aA pg (eI .copy #[22,22] 3 [d7,c2]) w λe0 w=>
  (dr w)=(dr w)/\
  aA pg (aD 137 rU 3) (dr w) λe2 w_=>w_=(dr w)/\
  aA pg (aB 3 e2) (dr w) λe3 w_=>w_=(dr w)/\
  aA pg (dG 22 d7 (some e3) none none) (dr w) λe4 w_=>w_=(dr w)/\
  aA pg (aD 137 rU 4) (dr w) λe5 w_=>w_=(dr w)/\
  aA pg (aB 22 e5) (dr w) λe6 w_=>w_=(dr w)/\
  aA pg (eI .copy #[22,22] 3 [e4,e6]) (dr w) λe7 aI9=>
  aA pg (aD 137 rU 1) aI9 λe9 w=>
  aA pg (aB 9 e9) w λf0 w=>
  aA pg (VM 73 f_0 f0 d7) w λ_u w=>
  kn w)
  (aA pg (aE .eql 3 (.tmp 15) (.const (aLY 1)) c5 (aLY 1)) w λf3 w=>
  cP f3
   (cP c3
    (aA pg (aD 137 rU 1) w λf6 w=>
    aA pg (aB 9 f6) w λf7 w=>
    aA pg (eI .delete #[73,9] 0 [f_0,f7]) w λ_u w=>
    aA pg (aD 137 rU 2) w λf9 w=>
    aA pg (aB 9 f9) w λi0 w=>
    aA pg (VM 73 f_0 i0 c2) w λ_u w=>
    kn w)
    (kn w))
   (aA pg (aE .eql 3 (.tmp 15) (.const (aLY 2)) c5 (aLY 2)) w λi3 w=>
   cP i3
    (aA pg (aD 137 rU 1) w λi5 w=>
    aA pg (aB 9 i5) w λi6 w=>
    aA pg (eI .delete #[73,9] 0 [f_0,i6]) w λ_u w=>
    kn w)
    (kn w)))
def Ug a0 a1 w(R:K1):=
 L4 (λw=>R (.tuple #[]) w) a0 a1 w
theorem Vl{a0 a1 w R}(h:Ug a0 a1 w R):aG pg tS #[a0,a1] w R:=
 jF (ann:=V9) Tryz.f68 Vh [a0,a1] ZW 57 TryzM.mixed Tryz.func68 (iK (Mq0 (λw=>R (.tuple #[]) w)) h dE)
def apC:FA:=⟨DI,λi=> .leaf ([],[]) []⟩
def avG:List ResultVar:=[.tmp 2]
noncomputable def alI:Code:=bA Tryz.f70
def aaH(R:K1) aDw w:=
 aA pg (eI .len #[9] 3 [aDw]) w λb4 w=>
 aA pg (aE .geq 3 aM aM b4 (aLY 1)) w λb5 w=>
 Gd (bG b5 true) (λK=>K aDw w) w λb7 w=>
 Gd (bG b5 true) (λK=>aA pg (eI .len #[9] 3 [b7]) w K) w λb8 w=>
 Gd (bG b5 true) (λK=>aA pg (aE .leq 3 aM aM b8 (aLY 32)) w K) w λb9 w=>
 aA pg (cG b5 b9 (.bool false)) w λc0 w=>
 R c0 w
def asS a0 w(R:K1):=
 aaH R a0 w
theorem alM{a0 w R}(h:asS a0 w R):aG pg DI #[a0] w R:=
 jF (ann:=apC) Tryz.f70 alI [a0] avG 11 TryzM.mixed Tryz.func70 (jP h dE)
def zP:FA:=⟨vK,λi=> .leaf ([],[]) []⟩
def VG:List ResultVar:=[.tmp 2]
noncomputable def wP:Code:=bA Tryz.f71
def Be(R:K1) P0 w:=
 R P0 w
def Bf(kn:K2)(k0:K1) P0 b7 w:=
 aA pg (avP b7 false 0) w λb8 w=>
 aA pg (aP b8 0) w λb9 w=>
 cP b9
  (aA pg (aqW b7) w λc0 w=>
  aA pg (aP c0 1) w λc1 w=>
  aA pg (eI .len #[22] 3 [c1]) w λc4 w=>
  aA pg (aE .add 3 aM aM P0 c4) w λc5 w=>
  kn c5 b7 w)
  (k0 P0 w)
def sR(k0:K1) P0 b7 w:=
 bM (λ(X:aLX->K0) (t:aLX) (w:aLW)=>Bf (λP0 _ w=>X P0 w) k0 t b7 w) P0 w
theorem PO(k0:K1)(h0:E1 Q k0 0 3)(h:sR k0 (g 3) (g 7) w):dM pg zP (bI (aN 1 (bK 1 (aN 2 wP)))) Q g w:=by
 refine EN (λg:Env=>g 3) (λX t w=>Bf (λP0 _ w=>X P0 w) k0 t (g 7) w) h (λX g1 w1 ha hL=> ?_)
 rw[<-eZ 7 ha]at hL
 exact(DT [(0,(Mq1 k0 3))] (kr:=no) (Qq (λP0 _ w=>X P0 w) 3 7) hL dE Jx ⟨h0,trivial⟩)
def H3 (kn:K2) f_0 P0 w:=
 aA pg (Z1 73 f_0) w λb7 w=>
 kn P0 b7 w
def Bg(kn:K1) f_0 P0 w:=
 H3 (sR kn) f_0 P0 w
def Bh(R:K1) f_0 P0 w:=
 Bg (Be R) f_0 P0 w
theorem PQ(kn:K1)(hn:N1 Q kn 3)(h:Bg kn (g 0) (g 3) w):dM pg zP (bK 1 (aN 2 wP)) Q g w:=
 dN 1 (iK (Qq (sR kn) 3 7) h (λg w h=>aJ (A7 0 (PO _ g w kn hn h))))
def H4 (kn:K2) f_0 w:=
 kn f_0 (aLY 0) w
def H5 (R:K1) f_0 w:=
 H4 (Bh R) f_0 w
def OP a0 w(R:K1):=
 H5 R a0 w
theorem Q3 {a0 w R}(h:OP a0 w R):aG pg vK #[a0] w R:=
 jF (ann:=zP) Tryz.f71 wP [a0] VG 17 TryzM.mixed Tryz.func71 (dN 2 (iK (Qq (Bh R) 0 3) h (λg w h=>aJ (dN 1 (PQ _ g w (Be R) (λg w h=>aJ (jP h dE)) h)))))
def Vc:FA:=⟨mL,λi=>match Nat.beq i 3 with|true=> .leaf ([6,7,10],[(2,6),(3,6),(4,6)]) (fz 6 (ft [1,2,3] (ft [] (fz 2 (ft [] [])))))|false=>match Nat.beq i 4 with|true=> .leaf ([5],[]) (fz 5 (ft [] []))|false=> .leaf ([],[]) []⟩
def Yk:List ResultVar:=[.tmp 4]
noncomputable def TD:Code:=bA Tryz.f72
def JY(R:K1) fG o_1 w:=
 aA pg (iX 137 o_1) w λrU w=>
 aG pg oU #[fG] w λb6 w=>
 cP b6
  (R (aLY 20) w)
  ((dr w)=(dr w)/\
  (dr w)=(dr w)/\
  aA pg (cL fG) (dr w) λb9 w_=>w_=(dr w)/\
  aA pg (aD 76 b9 3) (dr w) λc0 w_=>w_=(dr w)/\
  aA pg (aB 74 c0) (dr w) λc1 w_=>w_=(dr w)/\
  aA pg (aB 137 rU) (dr w) λc2 w_=>w_=(dr w)/\
  aA pg (bB 74 1 [(0,c2)]) (dr w) λc3 akU=>
  (aO pg (aB 74 c0) c1 akU/\aO pg (aD 76 b9 3) c0 akU/\aO pg (cL fG) b9 akU/\True)/\
  aA pg (eI .append #[74,74] 74 [c1,c3]) akU λc4 aEw=>
  aA pg (cL fG) aEw λc5 w_=>w_=aEw/\
  aA pg (aD 76 c5 3) aEw λc6 w_=>w_=aEw/\
  aA pg (aF 74 c6 c4) aEw λ_u10 S6=>
  (dr S6)=(dr S6)/\
  aA pg (cL fG) (dr S6) λc8 w_=>w_=(dr S6)/\
  aA pg (aD 76 c8 2) (dr S6) λc9 w_=>w_=(dr S6)/\
  aA pg (aB 73 c9) (dr S6) λd0 w_=>w_=(dr S6)/\
  aA pg (aB 137 rU) (dr S6) λd1 w_=>w_=(dr S6)/\
  aG pg tS #[d0,d1] (dr S6) λd2 aI7=>
  R (aLY 0) aI7)
def Q1 a0 a1 w(R:K1):=
 JY R a0 a1 w
theorem TK{a0 a1 w R}(h:Q1 a0 a1 w R):aG pg mL #[a0,a1] w R:=
 jF (ann:=Vc) Tryz.f72 TD [a0,a1] Yk 23 TryzM.mixed Tryz.func72 (jP h dE)
def HH:FA:=⟨GR,λi=>match Nat.beq i 12 with|true=> .leaf ([],[]) (fz 22 [])|false=> .leaf ([],[]) []⟩
def amL:List ResultVar:=[.tmp 4]
noncomputable def F2:Code:=bA Tryz.f73
def Lh(R:K1) pX LG w:=
 aA pg (aD 40 pX 0) w λo4 w=>
 aA pg (aB 3 o4) w λo5 w=>
 aA pg (aE .gtr 3 aM aM LG o5) w λo6 w=>
 cP o6
  (R (aLY 22) w)
  (R (aLY 0) w)
def Li(kn:K4)(k0:K2) pX l_6 LG k_9 w:=
 aA pg (eI .len #[37] 3 [l_6]) w λn1 w=>
 aA pg (aE .lss 3 aM aM k_9 n1) w λn2 w=>
 cP n2
  (aA pg (aR 37 l_6 k_9) w λn8 w=>
  aA pg (aD 85 n8 1) w λn9 w=>
  aA pg (aB 9 n9) w λo0 w=>
  aA pg (eI .len #[9] 3 [o0]) w λo1 w=>
  aA pg (aE .add 3 aM aM LG o1) w λo2 w=>
  aA pg (aE .add 3 aM aM k_9 (aLY 1)) w λn4 w=>
  kn pX l_6 o2 n4 w)
  (k0 pX LG w)
def ES(k0:K2) pX l_6 LG k_9 w:=
 bM (λ(X:(aLX×aLX)->K0) (t:aLX×aLX) (w:aLW)=>Li (λ_ _ LG k_9 w=>X (LG,k_9) w) k0 pX l_6 t.1 t.2 w) (LG,k_9) w
theorem ZJ(k0:K2)(h0:E2 Q k0 0 2 8)(h:ES k0 (g 2) (g 6) (g 8) (g 9) w):dM pg HH (bI (aN 1 (bK 1 (aN 10 F2)))) Q g w:=by
 refine EN (λg:Env=>(g 8,g 9)) (λX t w=>Li (λ_ _ LG k_9 w=>X (LG,k_9) w) k0 (g 2) (g 6) t.1 t.2 w) h (λX g1 w1 ha hL=> ?_)
 rw[<-eZ 2 ha,<-eZ 6 ha]at hL
 exact(DT [(0,(Qq k0 2 8))] (kr:=no) (Ch (λ_ _ LG k_9 w=>X (LG,k_9) w) 2 6 8 9) hL dE Jx ⟨h0,trivial⟩)
def UH(kn:K4) pX l_6 LG w:=
 kn pX l_6 LG (aLY 0) w
def Lj(kn:K2) pX l_6 LG w:=
 UH (ES kn) pX l_6 LG w
def Au(R:K1) pX l_6 LG w:=
 Lj (Lh R) pX l_6 LG w
theorem ZK(kn:K2)(hn:N2 Q kn 2 8)(h:Lj kn (g 2) (g 6) (g 8) w):dM pg HH (bK 1 (aN 10 F2)) Q g w:=
 dN 1 (iK (Ch (ES kn) 2 6 8 9) h (λg w h=>aJ (A7 0 (ZJ _ g w kn hn h))))
def UI(kn:K3)(R:K1) fG o_1 w:=
 aA pg (iX 40 fG) w λpX w=>
 aA pg (iX 96 o_1) w λrU w=>
 aA pg (aD 40 pX 4) w λc0 w=>
 aA pg (aB 4 c0) w λc1 w=>
 cP c1
  (R (aLY 20) w)
  (aA pg (aD 96 rU 1) w λc2 w=>
  aA pg (aB 9 c2) w λc3 w=>
  aA pg (aE .eql 9 (.tmp 13) (.const (.string ⟨#[]⟩)) c3 (.string ⟨#[]⟩)) w λc4 w=>
  Gd (bG c4 false) (λK=>aA pg (aD 96 rU 1) w K) w λc6 w=>
  Gd (bG c4 false) (λK=>aA pg (aB 9 c6) w K) w λc7 w=>
  Gd (bG c4 false) (λK=>aA pg (eI .len #[9] 3 [c7]) w K) w λc8 w=>
  Gd (bG c4 false) (λK=>aA pg (aE .gtr 3 aM aM c8 (aLY 32)) w K) w λc9 w=>
  aA pg (cG c4 (.bool true) c9) w λd0 w=>
  aA pg (aD 96 rU 0) w λd1 w=>
  aA pg (aB 3 d1) w λd2 w=>
  aA pg (aE .eql 3 (.tmp 22) (.const (aLY 1)) d2 (aLY 1)) w λd3 w=>
  Gd (bG d3 true) (λK=>aA pg (aD 96 rU 2) w K) w λd5 w=>
  Gd (bG d3 true) (λK=>aA pg (aB 9 d5) w K) w λd6 w=>
  Gd (bG d3 true) (λK=>aA pg (aE .eql 9 (.tmp 26) (.const (.string ⟨#[]⟩)) d6 (.string ⟨#[]⟩)) w K) w λd7 w=>
  Gd (bG d3 true) (λK=>K d7 w) w λd8 w=>
  Gd (bG d8 false) (λK=>aA pg (aD 96 rU 2) w K) w λd9 w=>
  Gd (bG d8 false) (λK=>aA pg (aB 9 d9) w K) w λe0 w=>
  Gd (bG d8 false) (λK=>aA pg (eI .len #[9] 3 [e0]) w K) w λe1 w=>
  Gd (bG d8 false) (λK=>aA pg (aE .gtr 3 aM aM e1 (aLY 32)) w K) w λe2 w=>
  Gd (bG d3 true) (λK=>aA pg (cG d8 (.bool true) e2) w K) w λe3 w=>
  aA pg (cG d3 e3 (.bool false)) w λe4 w=>
  Gd (bG e4 false) (λK=>aA pg (aD 96 rU 0) w K) w λe6 w=>
  Gd (bG e4 false) (λK=>aA pg (aB 3 e6) w K) w λe7 w=>
  Gd (bG e4 false) (λK=>aA pg (aE .eql 3 (.tmp 37) (.const (aLY 0)) e7 (aLY 0)) w K) w λe8 w=>
  Gd (bG e4 false) (λK=>K e8 w) w λe9 w=>
  Gd (bG e9 true) (λK=>aA pg (aD 96 rU 3) w K) w λf0 w=>
  Gd (bG e9 true) (λK=>aA pg (aB 3 f0) w K) w λf1 w=>
  Gd (bG e9 true) (λK=>aA pg (aE .lss 3 aM aM f1 (aLY 0)) w K) w λf2 w=>
  Gd (bG e4 false) (λK=>aA pg (cG e9 f2 (.bool false)) w K) w λf3 w=>
  aA pg (cG e4 (.bool true) f3) w λf4 w=>
  Gd (bG f4 false) (λK=>aA pg (aD 96 rU 0) w K) w λf6 w=>
  Gd (bG f4 false) (λK=>aA pg (aB 3 f6) w K) w λf7 w=>
  Gd (bG f4 false) (λK=>aA pg (aE .lss 3 aM aM f7 (aLY 2)) w K) w λf8 w=>
  Gd (bG f4 false) (λK=>K f8 w) w λf9 w=>
  Gd (bG f9 true) (λK=>K d0 w) w λi0 w=>
  Gd (bG f4 false) (λK=>aA pg (cG f9 i0 (.bool false)) w K) w λi1 w=>
  aA pg (cG f4 (.bool true) i1) w λi2 w=>
  cP i2
   (R (aLY 1) w)
   (aA pg (aB 40 pX) w λi3 w=>
   aG pg sH #[i3] w λi4 w=>
   aA pg (aD 96 rU 1) w λi6 w=>
   aA pg (aB 9 i6) w λi7 w=>
   aG pg yS #[i4,i7] w λi8 w=>
   aA pg (aD 96 rU 0) w λi9 w=>
   aA pg (aB 3 i9) w λj0 w=>
   aA pg (aE .gtr 3 aM aM j0 (aLY 0)) w λj1 w=>
   cP j1
    (aA pg (aE .lss 3 aM aM i8 (aLY 0)) w λj3 w=>
    cP j3
     (R (aLY 21) w)
     (R (aLY 0) w))
    ((dr w)=(dr w)/\
    aA pg (aE .lss 3 aM aM i8 (aLY 0)) (dr w) λj5 w_=>w_=(dr w)/\
    (dr w)=(dr w)/\
    Gd (bG j5 true) (λK=>aA pg (aD 96 rU 3) (dr w) K) (dr w) λj7 w_=>w_=(dr w)/\
    Gd (bG j5 true) (λK=>aA pg (aB 3 j7) (dr w) K) (dr w) λj8 w_=>w_=(dr w)/\
    Gd (bG j5 true) (λK=>aA pg (aE .gtr 3 aM aM j8 (aLY 0)) (dr w) K) (dr w) λj9 w_=>w_=(dr w)/\
    aA pg (cG j5 j9 (.bool false)) (dr w) λl0 w_=>w_=(dr w)/\
    (dr w)=(dr w)/\
    Gd (bG l0 false) (λK=>K i8 (dr w)) (dr w) λl2 w_=>w_=(dr w)/\
    Gd (bG l0 false) (λK=>aA pg (aE .geq 3 aM aM l2 (aLY 0)) (dr w) K) (dr w) λl3 w_=>w_=(dr w)/\
    Gd (bG l0 false) (λK=>K l3 (dr w)) (dr w) λl4 w_=>w_=(dr w)/\
    Gd (bG l4 true) (λK=>aA pg (aD 96 rU 3) (dr w) K) (dr w) λl5 w_=>w_=(dr w)/\
    Gd (bG l4 true) (λK=>aA pg (aB 3 l5) (dr w) K) (dr w) λl6 w_=>w_=(dr w)/\
    Gd (bG l4 true) (λK=>K i4 (dr w)) (dr w) λl7 w_=>w_=(dr w)/\
    Gd (bG l4 true) (λK=>K i8 (dr w)) (dr w) λl8 w_=>w_=(dr w)/\
    Gd (bG l4 true) (λK=>aA pg (aR 37 l7 l8) (dr w) K) (dr w) λl9 w_=>w_=(dr w)/\
    Gd (bG l4 true) (λK=>aA pg (aD 85 l9 1) (dr w) K) (dr w) λm0 w_=>w_=(dr w)/\
    Gd (bG l4 true) (λK=>aA pg (aB 9 m0) (dr w) K) (dr w) λm1 w_=>w_=(dr w)/\
    Gd (bG l4 true) (λK=>aA pg (eI .len #[9] 3 [m1]) (dr w) K) (dr w) λm2 w_=>w_=(dr w)/\
    Gd (bG l4 true) (λK=>aA pg (aE .gtr 3 aM aM l6 m2) (dr w) K) (dr w) λm3 w_=>w_=(dr w)/\
    Gd (bG l0 false) (λK=>aA pg (cG l4 m3 (.bool false)) (dr w) K) (dr w) λm4 w_=>w_=(dr w)/\
    aA pg (cG l0 (.bool true) m4) (dr w) λm5 w_=>w_=(dr w)/\
    cP m5
     (R (aLY 17) (dr w))
     (aA pg (aB 96 rU) (dr w) λm7 w=>
     aG pg AY #[i4,m7] w λm8 w=>
     kn pX m8 (aLY 0) w))))
def UJ(R:K1) fG o_1 w:=
 UI (Au R) R fG o_1 w
def aiS a0 a1 w(R:K1):=
 UJ R a0 a1 w
theorem aeB{a0 a1 w R}(h:aiS a0 a1 w R):aG pg GR #[a0,a1] w R:=
 jF (ann:=HH) Tryz.f73 F2 [a0,a1] amL 107 TryzM.mixed Tryz.func73 (dN 10 (Ui (Gu (Au R) 2 6 8) h (λg w h=>aJ (dN 1 (ZK _ g w (Lh R) (λg w h=>aJ (jP h dE)) h))) dE))
def acD:FA:=⟨Aj,λi=> .leaf ([],[]) []⟩
def ajU:List ResultVar:=[.cell 2 40,.tmp 3]
noncomputable def Y5:Code:=bA Tryz.f74
def IN(R:K1) QU b2 w:=
 aA pg (aB 40 QU) w λc6 w=>
 aA pg (aF 40 b2 c6) w λ_u w=>
 kD pg 40 b2 w λr0=>R (.tuple #[r0,(.bool false)]) w
def Sh(kn:K2)(R:K1) fG w:=
 aA pg (iX 40 fG) w λQU w=>
 aA pg (bE 40) w λb2 w=>
 aA pg (aD 40 QU 3) w λb4 w=>
 aA pg (aB 3 b4) w λb5 w=>
 aA pg (aE .eql 3 (.tmp 5) (.const (aLY 0)) b5 (aLY 0)) w λb6 w=>
 cP b6
  (aA pg (aD 40 QU 4) w λb7 w=>
  aA pg (aF 4 b7 (.bool true)) w λ_u w=>
  aA pg (aB 40 QU) w λb8 w=>
  aA pg (aF 40 b2 b8) w λ_u w=>
  kD pg 40 b2 w λr0=>R (.tuple #[r0,(.bool true)]) w)
  (aA pg (aD 40 QU 3) w λb9 w=>
  aA pg (aB 3 b9) w λc0 w=>
  aA pg (aE .gtr 3 aM aM c0 (aLY 0)) w λc1 w=>
  cP c1
   (aA pg (aD 40 QU 3) w λc2 w=>
   aA pg (aB 3 c2) w λc3 w=>
   aA pg (aE .sub 3 aM aM c3 (aLY 1)) w λc4 w=>
   aA pg (aD 40 QU 3) w λc5 w=>
   aA pg (aF 3 c5 c4) w λ_u w=>
   kn QU b2 w)
   (kn QU b2 w))
def Si(R:K1) fG w:=
 Sh (IN R) R fG w
def abJ a0 w(R:K1):=
 Si R a0 w
theorem ZL{a0 w R}(h:abJ a0 w R):aG pg Aj #[a0] w R:=
 jF (ann:=acD) Tryz.f74 Y5 [a0] ajU 17 TryzM.mixed Tryz.func74 (dN 3 (Ui (Qq (IN R) 1 2) h (λg w h=>aJ (jP h dE)) dE))
def Ky:FA:=⟨sJ,λi=> .leaf ([],[]) []⟩
def MA:List ResultVar:=[.tmp 4]
noncomputable def JC:Code:=bA Tryz.f75
def BX(R:K1) eY v_1 w:=
 aG pg zM #[eY,v_1] w λb7 w=>
 aA pg (aE .geq 3 aM aM b7 (aLY 0)) w λb8 w=>
 R b8 w
def FC a0 a1 w(R:K1):=
 BX R a0 a1 w
theorem JK{a0 a1 w R}(h:FC a0 a1 w R):aG pg sJ #[a0,a1] w R:=
 jF (ann:=Ky) Tryz.f75 JC [a0,a1] MA 9 TryzM.mixed Tryz.func75 (jP h dE)
def lG:FA:=⟨fV,λi=>match Nat.beq i 12 with|true=> .leaf ([],[]) (fz 4 [])|false=> .leaf ([],[]) []⟩
def ajO:List ResultVar:=[.tmp 2,.tmp 3]
noncomputable def bX:Code:=bA Tryz.f76
def vS(kn:K0)(k0:K0) iY n_5 Zu w:=
 aG pg sB #[Zu] w λc5 w=>
 aG pg jC #[c5,(aLY 1)] w λc7 w=>
 aA pg (cJ 26 5 c7) w λc8 w=>
 aG pg jC #[c5,(aLY 8)] w λd0 w=>
 aA pg (bV 109 [(0,c8),(1,d0)]) w λd1 w=>
 aA pg (bE 109) w λr_8 w=>
 aA pg (aF 109 r_8 d1) w λ_u w=>
 aA pg (aB 109 r_8) w λd2 w=>
 aA pg (bV 109 []) w λd3 w=>
 aA pg (aE .eql 109 (.tmp 22) (.tmp 23) d2 d3) w λd4 w=>
 cP d4
  (k0 w)
  (aA pg (aB 109 r_8) w λd6 w=>
  aG pg B7 #[d6] w λd7 w=>
  aA pg (aP d7 0) w λd8 w=>
  aA pg (aP d7 1) w λd9 w=>
  aA pg (aE .neq 31 (.tmp 30) (.const (aLY 0)) d9 (aLY 0)) w λe1 w=>
  Gd (bG e1 false) (λK=>K d8 w) w λe3 w=>
  Gd (bG e1 false) (λK=>K Zu w) w λe4 w=>
  Gd (bG e1 false) (λK=>aG pg qA #[e3,e4] w K) w λe5 w=>
  Gd (bG e1 false) (λK=>aA pg (GI .not e5) w K) w λe6 w=>
  aA pg (cG e1 (.bool true) e6) w λe7 w=>
  cP e7
   (k0 w)
   (aA pg (aB 104 iY) w λe8 w=>
   aA pg (aB 109 r_8) w λe9 w=>
   aA pg (bB 104 1 [(0,e9)]) w λf0 w=>
   aA pg (eI .append #[104,104] 104 [e8,f0]) w λf1 w=>
   aA pg (aF 104 iY f1) w λ_u w=>
   aA pg (aB 3 n_5) w λf2 w=>
   aA pg (aE .add 3 aM aM f2 (aLY 13)) w λf3 w=>
   aA pg (aF 3 n_5 f3) w λ_u w=>
   kn w))
theorem RB(kn:K0)(k0:K0)(hn:N0 Q kn)(h0:E0 Q k0 0)(h:vS kn k0 (g 4) (g 5) (g 6) w):dM pg lG (Yb bX) Q g w:=
 DT [(0,(Mq0 k0))] (kr:=no) _ h hn Jx ⟨h0,trivial⟩
def CI(kn:K3) iY n_5 c3 w:=
 kn iY n_5 c3 w
theorem RA(kn:K3)(hn:N3 Q kn 4 5 6)(h:CI kn (g 4) (g 5) (g 13) w):dM pg lG (aeI bX) Q g w:=
 iK _ h hn
def OZ(l:Nat)(R:K1)(iY n_5 c3:aLX)(w:aLW):Prop:=
 CI (λiY n_5 Zu w=>Rdy l w λw=>vS (λw=>afW l none R w) (λw=>afW l (some (.exit 0)) R w) iY n_5 Zu w) iY n_5 c3 w
theorem WJ{l:Nat}{tmps:Array aLX}{w:aLW}{R:K1}(hsz:tmps.size=46)(h:OZ l R (KG tmps 4) (KG tmps 5) (KG tmps 13) w):aaB pg l fV tmps (aeI bX) (Yb bX) w R:=
 dsR (ann:=lG) 46 TryzM.mixed hsz (RA (asQ pg lG l (Yb bX) R) (KG tmps) w (λiY n_5 Zu w=>Rdy l w λw=>vS (afW l none R) (λw=>afW l (some (.exit 0)) R w) iY n_5 Zu w) (λg w h=>let⟨r,h1,h2,h3⟩:=h;⟨r,h1,h2,(RB (ajG l R) g _ (afW l none R) (λw=>afW l (some (.exit 0)) R w) (λ_ _ h=>h) (λ_ _ h=>h) h3)⟩) h) (by kernel_rfl) (by kernel_rfl) (by kernel_rfl)
def rC(R:K1) iY n_5 t1000003 w:=
 aA pg (aB 104 iY) (dr w) λf4 w_=>w_=(dr w)/\
 aA pg (aB 3 n_5) (dr w) λf5 w_=>w_=(dr w)/\
 (dr w)=(dr w)/\
 (dr w)=(dr w)/\
 GJ t1000003 (dr w) λw=>R (.tuple #[f4,f5]) w
def Ir(kn:K3)(k0:K3) iY n_5 c2 t1000003 w:=
 ∀g:Env,g 4=iY->g 5=n_5->g 12=c2->g 1000003=t1000003->RF pg fV (.tmp 12) (amC bX) (aeI bX) (Yb bX) (exQ (λg w=>kn (g 4) (g 5) (g 1000003) w) no [(0,(λg w=>k0 (g 4) (g 5) (g 1000003) w))]) g w
theorem WH(kn:K3)(k0:K3)(hn:N3 Q kn 4 5 1000003)(h0:E3 Q k0 0 4 5 1000003)(h:Ir kn k0 (g 4) (g 5) (g 12) (g 1000003) w):dM pg lG (bI (aN 1 (bK 1 (aN 3 (bI (aN 1 bX)))))) Q g w:=
 exD (kr:=no) (l:=[(0,λg w=>k0 (g 4) (g 5) (g 1000003) w)]) (h g rfl rfl rfl rfl) hn Jx ⟨h0,trivial⟩
def Is(kn:K3) iY n_5 c2 t1000003 w:=
 Ir kn kn iY n_5 c2 t1000003 w
def RC(kn:K4) DM iY n_5 t1000003 w:=
 aG pg zL #[DM,(aLY 13)] w λc2 w=>
 kn iY n_5 c2 t1000003 w
def It(kn:K3) DM iY n_5 t1000003 w:=
 RC (Is kn) DM iY n_5 t1000003 w
def Iu(R:K1) DM iY n_5 t1000003 w:=
 It (rC R) DM iY n_5 t1000003 w
theorem WI(kn:K3)(hn:N3 Q kn 4 5 1000003)(h:It kn (g 0) (g 4) (g 5) (g 1000003) w):dM pg lG (bK 1 (aN 3 (bI (aN 1 bX)))) Q g w:=
 dN 1 (iK (Ch (Is kn) 4 5 12 1000003) h (λg w h=>aJ (A7 0 (WH _ g w kn kn hn hn h))))
def RD(kn:K4) DM t1000003 w:=
 aA pg (bE 104) w λiY w=>
 aA pg (bE 3) w λn_5 w=>
 aA pg (aF 3 n_5 (aLY 0)) w λ_u w=>
 kn DM iY n_5 t1000003 w
def Iv(R:K1) DM t1000003 w:=
 RD (Iu R) DM t1000003 w
def OX(kn:K2) DM t1000003 w:=
 kn DM t1000003 w
def OY(R:K1) DM t1000003 w:=
 OX (Iv R) DM t1000003 w
def aaT a0 w(R:K1):=
 OY R a0 undef w
theorem Zm{a0 w R}(h:aaT a0 w R):aG pg fV #[a0] w R:=
 dsF (ann:=lG) Tryz.f76 bX [a0] ajO 46 TryzM.mixed Tryz.func76 (dN 1 (iK (Qq (Iv R) 0 1000003) h (λg w h=>aJ (scD (dN 3 (iK (Ch (Iu R) 0 4 5 1000003) h (λg w h=>aJ (dN 1 (WI _ g w (rC R) (λg w h=>aJ (jP h dE)) h)))))))))
def FU:FA:=⟨Ez,λi=> .leaf ([],[]) []⟩
def ajN:List ResultVar:=[.tmp 4,.tmp 5]
noncomputable def DO:Code:=bA Tryz.f77
def Im(R:K1) lJ b7 w:=
 R (.tuple #[lJ,b7]) w
def CG(kn:K6) tF lJ b7 c0 c1 c2 w:=
 aA pg (aE .add 3 aM aM c2 (aLY 1)) w λd4 w=>
 kn tF lJ b7 c0 c1 d4 w
def Ry(kn:K6)(k0:K2) tF lJ b7 c0 c1 c2 w:=
 aA pg (aE .lss 3 aM aM c2 c1) w λc3 w=>
 cP c3
  (aA pg (aR 104 c0 c2) w λc4 w=>
  aA pg (aB 109 c4) w λc5 w=>
  aA pg (bE 109) w λr_9 w=>
  aA pg (aF 109 r_9 c5) w λ_u w=>
  aA pg (aD 109 r_9 0) w λc6 w=>
  aA pg (aB 5 c6) w λc7 w=>
  aA pg (aE .eql 5 (.tmp 17) (.tmp 18) c7 tF) w λc9 w=>
  cP c9
   (aA pg (aD 109 r_9 1) w λd1 w=>
   aA pg (aB 26 d1) w λd2 w=>
   aA pg (eI .max #[26,26] 26 [lJ,d2]) w λd3 w=>
   kn tF d3 (.bool true) c0 c1 c2 w)
   (kn tF lJ b7 c0 c1 c2 w))
  (k0 lJ b7 w)
def Io(kn:K6)(k0:K2) tF lJ b7 c0 c1 c2 w:=
 Ry (CG kn) k0 tF lJ b7 c0 c1 c2 w
def CH(k0:K2) tF lJ b7 c0 c1 c2 w:=
 bM (λ(X:(aLX×aLX×aLX)->K0) (t:aLX×aLX×aLX) (w:aLW)=>Io (λ_ lJ b7 _ _ c2 w=>X (lJ,b7,c2) w) k0 tF t.1 t.2.1 c0 c1 t.2.2 w) (lJ,b7,c2) w
theorem WE(k0:K2)(h0:E2 Q k0 0 6 7)(h:CH k0 (g 1) (g 6) (g 7) (g 10) (g 11) (g 12) w):dM pg FU (bI (aN 1 (bK 1 (aN 2 DO)))) Q g w:=by
 refine EN (λg:Env=>(g 6,g 7,g 12)) (λX t w=>Io (λ_ lJ b7 _ _ c2 w=>X (lJ,b7,c2) w) k0 (g 1) t.1 t.2.1 (g 10) (g 11) t.2.2 w) h (λX g1 w1 ha hL=> ?_)
 rw[<-eZ 1 ha,<-eZ 10 ha,<-eZ 11 ha]at hL
 exact(dN 3 (DT [(0,(Qq k0 6 7))] (kr:=no) (Mq6 (CG (λ_ lJ b7 _ _ c2 w=>X (lJ,b7,c2) w)) 1 6 7 10 11 12) hL (λg w h=>aJ (iK (Mq6 (λ_ lJ b7 _ _ c2 w=>X (lJ,b7,c2) w) 1 6 7 10 11 12) h dE)) Jx ⟨h0,trivial⟩))
def Rz(kn:K6) iD tF lJ b7 w:=
 aA pg (eI .len #[104] 3 [iD]) w λc1 w=>
 kn tF lJ b7 iD c1 (aLY 0) w
def Ip(kn:K2) iD tF lJ b7 w:=
 Rz (CH kn) iD tF lJ b7 w
def Iq(R:K1) iD tF lJ b7 w:=
 Ip (Im R) iD tF lJ b7 w
theorem WG(kn:K2)(hn:N2 Q kn 6 7)(h:Ip kn (g 0) (g 1) (g 6) (g 7) w):dM pg FU (bK 1 (aN 2 DO)) Q g w:=
 dN 1 (iK (Mq6 (CH kn) 1 6 7 10 11 12) h (λg w h=>aJ (A7 0 (WE _ g w kn hn h))))
def OV(kn:K4) iD tF w:=
 kn iD tF (.int .u64 0) (.bool false) w
def OW(R:K1) iD tF w:=
 OV (Iq R) iD tF w
def aaS a0 a1 w(R:K1):=
 OW R a0 a1 w
theorem Zl{a0 a1 w R}(h:aaS a0 a1 w R):aG pg Ez #[a0,a1] w R:=
 jF (ann:=FU) Tryz.f77 DO [a0,a1] ajN 27 TryzM.mixed Tryz.func77 (dN 2 (iK (Ch (Iq R) 0 1 6 7) h (λg w h=>aJ (dN 1 (WG _ g w (Im R) (λg w h=>aJ (jP h dE)) h)))))
def Qz:FA:=⟨sE,λi=> .leaf ([],[]) []⟩
def TX:List ResultVar:=[.tmp 4]
noncomputable def PA:Code:=bA Tryz.f78
def GB(R:K1) fG cR w:=
 aG pg kJ #[fG] w λb9 w=>
 aA pg (aE .neq 31 (.tmp 10) (.const (aLY 0)) b9 (aLY 0)) w λc1 w=>
 cP c1
  (R b9 w)
  (aA pg (cL fG) w λc5 w=>
  aA pg (aD 76 c5 2) w λc6 w=>
  aA pg (aB 73 c6) w λc7 w=>
  aA pg (CT 73 c7 cR true) w λc9 w=>
  aA pg (aP c9 0) w λd0 w=>
  aA pg (aP c9 1) w λd1 w=>
  aA pg (GI .not d1) w λd3 w=>
  cP d3
   (R (aLY 21) w)
   (aA pg (bV 137 [(0,(aLY 2)),(1,cR)]) w λd6 w=>
   aG pg mL #[fG,d6] w λd7 w=>
   R d7 w))
def L2 a0 a1 w(R:K1):=
 GB R a0 a1 w
theorem PL{a0 a1 w R}(h:L2 a0 a1 w R):aG pg sE #[a0,a1] w R:=
 jF (ann:=Qz) Tryz.f78 PA [a0,a1] TX 28 TryzM.mixed Tryz.func78 (jP h dE)
def Tt:FA:=⟨oU,λi=> .leaf ([],[]) []⟩
def VF:List ResultVar:=[.tmp 2]
noncomputable def QN:Code:=bA Tryz.f79
def mT(R:K1) fG w:=
 aA pg (cL fG) w λd6 w=>
 aA pg (aD 76 d6 5) w λd7 w=>
 aA pg (aB 4 d7) w λd8 w=>
 R d8 w
def H0 (kn:K1) fG w:=
 aA pg (cL fG) w λb5 w=>
 aA pg (aD 76 b5 4) w λb6 w=>
 aA pg (aB 3 b6) w λb7 w=>
 aA pg (aE .eql 3 (.tmp 7) (.const (aLY 0)) b7 (aLY 0)) w λb8 w=>
 cP b8
  (aA pg (cL fG) w λc0 w=>
  aA pg (aD 76 c0 5) w λc1 w=>
  aA pg (aF 4 c1 (.bool true)) w λ_u w=>
  kn fG w)
  (aA pg (cL fG) w λc4 w=>
  aA pg (aD 76 c4 4) w λc5 w=>
  aA pg (aB 3 c5) w λc6 w=>
  aA pg (aE .gtr 3 aM aM c6 (aLY 0)) w λc7 w=>
  cP c7
   (aA pg (cL fG) w λc9 w=>
   aA pg (aD 76 c9 4) w λd0 w=>
   aA pg (aB 3 d0) w λd1 w=>
   aA pg (aE .sub 3 aM aM d1 (aLY 1)) w λd2 w=>
   aA pg (cL fG) w λd3 w=>
   aA pg (aD 76 d3 4) w λd4 w=>
   aA pg (aF 3 d4 d2) w λ_u w=>
   kn fG w)
   (kn fG w))
def H2 (R:K1) fG w:=
 H0 (mT R) fG w
def ON a0 w(R:K1):=
 H2 R a0 w
theorem Q2 {a0 w R}(h:ON a0 w R):aG pg oU #[a0] w R:=
 jF (ann:=Tt) Tryz.f79 QN [a0] VF 29 TryzM.mixed Tryz.func79 (dN 2 (iK (Mq1 (mT R) 0) h (λg w h=>aJ (jP h dE))))
def agC:FA:=⟨B7,λi=> .leaf ([],[]) []⟩
def amE:List ResultVar:=[.tmp 2,.tmp 3]
noncomputable def acH:Code:=bA Tryz.f80
def Uq(R:K1) V0 w:=
 aA pg (iX 109 V0) w λr_1 w=>
 aA pg (aD 109 r_1 0) w λb5 w=>
 aA pg (aB 5 b5) w λb6 w=>
 aA pg (aE .lss 5 aM aM b6 (.int .u8 1)) w λb7 w=>
 Gd (bG b7 false) (λK=>aA pg (aD 109 r_1 0) w K) w λb9 w=>
 Gd (bG b7 false) (λK=>aA pg (aB 5 b9) w K) w λc0 w=>
 Gd (bG b7 false) (λK=>aA pg (aE .gtr 5 aM aM c0 (.int .u8 2)) w K) w λc1 w=>
 aA pg (cG b7 (.bool true) c1) w λc2 w=>
 cP c2
  (R (.tuple #[(.slice none 0 0),(aLY 1)]) w)
  (aG pg sC #[] w λc3 w=>
  aA pg (aD 109 r_1 0) w λc5 w=>
  aA pg (aB 5 c5) w λc6 w=>
  aA pg (cJ 5 26 c6) w λc7 w=>
  aG pg gQ #[c3,c7,(aLY 1)] w λc8 w=>
  aA pg (aD 109 r_1 1) w λd0 w=>
  aA pg (aB 26 d0) w λd1 w=>
  aG pg gQ #[c3,d1,(aLY 8)] w λd2 w=>
  aG pg lK #[c3] w λd5 w=>
  aG pg V2 #[d5] w λd6 w=>
  aA pg (cJ 27 26 d6) w λd7 w=>
  aG pg gQ #[c3,d7,(aLY 4)] w λd8 w=>
  aG pg lK #[c3] w λe0 w=>
  R (.tuple #[e0,(aLY 0)]) w)
def ahM a0 w(R:K1):=
 Uq R a0 w
theorem acV{a0 w R}(h:ahM a0 w R):aG pg B7 #[a0] w R:=
 jF (ann:=agC) Tryz.f80 acH [a0] amE 31 TryzM.mixed Tryz.func80 (jP h dE)
def arY:FA:=⟨Tb,λi=> .leaf ([],[]) []⟩
def azB:List ResultVar:=[.tmp 0]
noncomputable def apL:Code:=bA Tryz.f81
def ajZ(R:K1) w:=
 aA pg (bV 182 [(0,(.int .u32 1779033703)),(1,(.int .u32 3144134277)),(2,(.int .u32 1013904242)),(3,(.int .u32 2773480762)),(4,(.int .u32 1359893119)),(5,(.int .u32 2600822924)),(6,(.int .u32 528734635)),(7,(.int .u32 1541459225))]) w λb1 w=>
 aA pg (bV 185 [(0,b1)]) w λb2 w=>
 aA pg (iX 185 b2) w λb3 w=>
 R b3 w
def aAW w(R:K1):=
 ajZ R w
theorem aqX{w R}(h:aAW w R):aG pg Tb #[] w R:=
 jF (ann:=arY) Tryz.f81 apL [] azB 4 TryzM.mixed Tryz.func81 (jP h dE)
def HK:FA:=⟨iL,λi=>match Nat.beq i 3 with|true=> .leaf ([9],[]) (fz 9 (ft [] (fz 1 [])))|false=>match Nat.beq i 7 with|true=> .leaf ([9,12],[]) (fz 9 (ft [] (fz 2 (ft [] []))))|false=> .leaf ([],[]) []⟩
def Ym:List ResultVar:=[]
noncomputable def Gw:Code:=bA Tryz.f82
def CV(kn:K2)(k0:K0) AM yM w:=
 aA pg (eI .len #[22] 3 [yM]) w λc8 w=>
 aA pg (aE .gtr 3 aM aM c8 (aLY 0)) w λc9 w=>
 cP c9
  ((dr w)=(dr w)/\
  aA pg (cL AM) (dr w) λd1 w_=>w_=(dr w)/\
  aA pg (aD 185 d1 1) (dr w) λd2 w_=>w_=(dr w)/\
  (dr w)=(dr w)/\
  aA pg (cL AM) (dr w) λd4 w_=>w_=(dr w)/\
  aA pg (aD 185 d4 2) (dr w) λd5 w_=>w_=(dr w)/\
  aA pg (aB 3 d5) (dr w) λd6 w_=>w_=(dr w)/\
  aA pg (dG 183 d2 (some d6) none none) (dr w) λd7 w_=>w_=(dr w)/\
  (dr w)=(dr w)/\
  aA pg (eI .copy #[22,22] 3 [d7,yM]) (dr w) λd9 aHr=>
  aHr=aHr/\
  aA pg (cL AM) aHr λe1 w=>
  aA pg (aD 185 e1 2) w λe2 w=>
  aA pg (aB 3 e2) w λe3 w=>
  aA pg (aE .add 3 aM aM e3 d9) w λe5 w=>
  aA pg (cL AM) w λe6 w=>
  aA pg (aD 185 e6 2) w λe7 w=>
  aA pg (aF 3 e7 e5) w λ_u w=>
  aA pg (dG 22 yM (some d9) none none) w λf0 w=>
  aA pg (cL AM) w λf2 w=>
  aA pg (aD 185 f2 2) w λf3 w=>
  aA pg (aB 3 f3) w λf4 w=>
  aA pg (aE .eql 3 (.tmp 44) (.const (aLY 64)) f4 (aLY 64)) w λf5 w=>
  cP f5
   ((dr w)=(dr w)/\
   (dr w)=(dr w)/\
   aA pg (cL AM) (dr w) λf8 w_=>w_=(dr w)/\
   aA pg (aD 185 f8 0) (dr w) λf9 w_=>w_=(dr w)/\
   aA pg (aB 182 f9) (dr w) λi0 w_=>w_=(dr w)/\
   (dr w)=(dr w)/\
   aA pg (cL AM) (dr w) λi2 w_=>w_=(dr w)/\
   aA pg (aD 185 i2 1) (dr w) λi3 w_=>w_=(dr w)/\
   aA pg (aB 183 i3) (dr w) λi4 w_=>w_=(dr w)/\
   aG pg yU #[i0,i4] (dr w) λi5 S9=>
   aA pg (cL AM) S9 λi6 w_=>w_=S9/\
   aA pg (aD 185 i6 0) S9 λi7 w_=>w_=S9/\
   aA pg (aF 182 i7 i5) S9 λ_u12 aIn=>
   aA pg (cL AM) aIn λi9 w=>
   aA pg (aD 185 i9 2) w λj0 w=>
   aA pg (aF 3 j0 (aLY 0)) w λ_u w=>
   kn AM f0 w)
   (kn AM f0 w))
  (k0 w)
def lC(k0:K0) AM yM w:=
 bM (λ(X:aLX->K0) (t:aLX) (w:aLW)=>CV (λ_ yM w=>X yM w) k0 AM t w) yM w
theorem SI(k0:K0)(h0:E0 Q k0 0)(h:lC k0 (g 0) (g 1) w):dM pg HK (bI (aN 2 Gw)) Q g w:=by
 refine EN (λg:Env=>g 1) (λX t w=>CV (λ_ yM w=>X yM w) k0 (g 0) t w) h (λX g1 w1 ha hL=> ?_)
 rw[<-eZ 0 ha]at hL
 exact(DT [(0,(Mq0 k0))] (kr:=no) (Qq (λ_ yM w=>X yM w) 0 1) hL dE Jx ⟨h0,trivial⟩)
def Kc(kn:K2)(R:K1) AM yM w:=
 aA pg (aE .eql 153 (.tmp 5) (.const (.pointer none)) AM (.pointer none)) w λb6 w=>
 cP b6
  (R (.tuple #[]) w)
  (aA pg (cL AM) w λb8 w=>
  aA pg (aD 185 b8 3) w λb9 w=>
  aA pg (aB 26 b9) w λc0 w=>
  aA pg (eI .len #[22] 3 [yM]) w λc2 w=>
  aA pg (cJ 3 26 c2) w λc3 w=>
  aA pg (aE .add 26 aM aM c0 c3) w λc4 w=>
  aA pg (cL AM) w λc5 w=>
  aA pg (aD 185 c5 3) w λc6 w=>
  aA pg (aF 26 c6 c4) w λ_u w=>
  kn AM yM w)
def Kd(kn:K0)(R:K1) AM yM w:=
 Kc (lC kn) R AM yM w
def SH a0 a1 w(R:K1):=
 Kd (λw=>R (.tuple #[]) w) R a0 a1 w
theorem T9 {a0 a1 w R}(h:SH a0 a1 w R):aG pg iL #[a0,a1] w R:=
 jF (ann:=HK) Tryz.f82 Gw [a0,a1] Ym 61 TryzM.mixed Tryz.func82 (dN 2 (Ui (Qq (lC (λw=>R (.tuple #[]) w)) 0 1) h (λg w h=>aJ (A7 0 (SI _ g w (λw=>R (.tuple #[]) w) dE h))) dE))
def jX:FA:=⟨Cc,λi=> .leaf ([],[]) []⟩
def aeR:List ResultVar:=[.cell 2 70]
noncomputable def jE:Code:=bA Tryz.f83
def Gj(R:K1) b2 bT w:=
 aA pg (aB 70 bT) w λi1 w=>
 aA pg (aF 70 b2 i1) w λ_u w=>
 kD pg 70 b2 w λr0=>R r0 w
def Gk(kn:K4)(k4:K2) b2 oM bT e4 w:=
 aA pg (aE .lss 3 aM aM e4 (aLY 32)) w λe5 w=>
 cP e5
  (aA pg (aE .quo 3 aM aM e4 (aLY 4)) w λe9 w=>
  aA pg (aD 185 oM 0) w λf0 w=>
  aA pg (aR 182 f0 e9) w λf1 w=>
  aA pg (aB 27 f1) w λf2 w=>
  aA pg (aE .rem 3 aM aM e4 (aLY 4)) w λf4 w=>
  aA pg (aE .mul 3 aM aM f4 (aLY 8)) w λf5 w=>
  aA pg (aE .sub 3 aM aM (aLY 24) f5) w λf6 w=>
  aA pg (aE .shr 27 aM aM f2 f6) w λf7 w=>
  aA pg (cJ 27 5 f7) w λf8 w=>
  aA pg (aR 70 bT e4) w λf9 w=>
  aA pg (aF 5 f9 f8) w λ_u w=>
  aA pg (aE .add 3 aM aM e4 (aLY 1)) w λi0 w=>
  kn b2 oM bT i0 w)
  (k4 b2 bT w)
def AW(k4:K2) b2 oM bT e4 w:=
 bM (λ(X:aLX->K0) (t:aLX) (w:aLW)=>Gk (λ_ _ _ e4 w=>X e4 w) k4 b2 oM bT t w) e4 w
theorem VP(k4:K2)(h4:E2 Q k4 4 2 5)(h:AW k4 (g 2) (g 3) (g 5) (g 34) w):dM pg jX (bI (aN 1 (bK 1 (aN 1 (aN 1 (aN 1 (aN 4 jE))))))) Q g w:=by
 refine EN (λg:Env=>g 34) (λX t w=>Gk (λ_ _ _ e4 w=>X e4 w) k4 (g 2) (g 3) (g 5) t w) h (λX g1 w1 ha hL=> ?_)
 rw[<-eZ 2 ha,<-eZ 3 ha,<-eZ 5 ha]at hL
 exact(DT [(4,(Qq k4 2 5))] (kr:=no) (Ch (λ_ _ _ e4 w=>X e4 w) 2 3 5 34) hL dE Jx ⟨h4,trivial⟩)
def Ph(kn:K4) b2 oM bT w:=
 kn b2 oM bT (aLY 0) w
def Gl(kn:K2) b2 oM bT w:=
 Ph (AW kn) b2 oM bT w
def Gm(R:K1) b2 oM bT w:=
 Gl (Gj R) b2 oM bT w
theorem VQ(kn:K2)(hn:N2 Q kn 2 5)(h:Gl kn (g 2) (g 3) (g 5) w):dM pg jX (bK 1 (aN 1 (aN 1 (aN 1 (aN 4 jE))))) Q g w:=
 dN 1 (iK (Ch (AW kn) 2 3 5 34) h (λg w h=>aJ (A7 4 (VP _ g w kn hn h))))
def Pj(kn:K3) b2 oM w:=
 aA pg (bE 70) w λbT w=>
 kn b2 oM bT w
def Gn(R:K1) b2 oM w:=
 Pj (Gm R) b2 oM w
def Eh(kn:K4)(k2:K2) AM b2 oM C3 w:=
 aA pg (aE .geq 3 aM aM C3 (aLY 0)) w λd1 w=>
 cP d1
  (aA pg (cL AM) w λd5 w=>
  aA pg (aD 185 d5 3) w λd6 w=>
  aA pg (aB 26 d6) w λd7 w=>
  aA pg (aE .mul 26 aM aM (.int .u64 8) d7) w λd8 w=>
  aA pg (aE .shr 26 aM aM d8 C3) w λe0 w=>
  aA pg (cJ 26 5 e0) w λe1 w=>
  aA pg (bB 22 1 [(0,e1)]) w λe2 w=>
  aG pg iL #[oM,e2] w λe3 w=>
  aA pg (aE .sub 3 aM aM C3 (aLY 8)) w λd3 w=>
  kn AM b2 oM d3 w)
  (k2 b2 oM w)
def zD(k2:K2) AM b2 oM C3 w:=
 bM (λ(X:aLX->K0) (t:aLX) (w:aLW)=>Eh (λ_ _ _ C3 w=>X C3 w) k2 AM b2 oM t w) C3 w
theorem T5 (k2:K2)(h2:E2 Q k2 2 2 3)(h:zD k2 (g 0) (g 2) (g 3) (g 4) w):dM pg jX (bI (aN 1 (bK 1 (aN 1 (aN 4 jE))))) Q g w:=by
 refine EN (λg:Env=>g 4) (λX t w=>Eh (λ_ _ _ C3 w=>X C3 w) k2 (g 0) (g 2) (g 3) t w) h (λX g1 w1 ha hL=> ?_)
 rw[<-eZ 0 ha,<-eZ 2 ha,<-eZ 3 ha]at hL
 exact(DT [(2,(Qq k2 2 3))] (kr:=no) (Ch (λ_ _ _ C3 w=>X C3 w) 0 2 3 4) hL dE Jx ⟨h2,trivial⟩)
def MC(kn:K4) AM b2 oM w:=
 kn AM b2 oM (aLY 56) w
def Ei(kn:K2) AM b2 oM w:=
 MC (zD kn) AM b2 oM w
def Ej(R:K1) AM b2 oM w:=
 Ei (Gn R) AM b2 oM w
theorem T6 (kn:K2)(hn:N2 Q kn 2 3)(h:Ei kn (g 0) (g 2) (g 3) w):dM pg jX (bK 1 (aN 1 (aN 4 jE))) Q g w:=
 dN 1 (iK (Ch (zD kn) 0 2 3 4) h (λg w h=>aJ (A7 2 (T5 _ g w kn hn h))))
def Ek(kn:K3)(k0:K3) AM b2 oM w:=
 aA pg (aD 185 oM 2) w λc5 w=>
 aA pg (aB 3 c5) w λc6 w=>
 aA pg (aE .neq 3 (.tmp 16) (.const (aLY 56)) c6 (aLY 56)) w λc7 w=>
 cP c7
  (aA pg (bB 22 1 [(0,(.int .u8 0))]) w λc8 w=>
  aG pg iL #[oM,c8] w λc9 w=>
  kn AM b2 oM w)
  (k0 AM b2 oM w)
def zF(k0:K3) AM b2 oM w:=
 bM (λ(X:Unit->K0) (t:Unit) (w:aLW)=>Ek (λ_ _ _ w=>X () w) k0 AM b2 oM w) () w
theorem T7 (k0:K3)(h0:E3 Q k0 0 0 2 3)(h:zF k0 (g 0) (g 2) (g 3) w):dM pg jX (bI (bK 1 (aN 4 jE))) Q g w:=by
 refine EN (λ_:Env=>()) (λX t w=>Ek (λ_ _ _ w=>X () w) k0 (g 0) (g 2) (g 3) w) h (λX g1 w1 ha hL=> ?_)
 rw[<-eZ 0 ha,<-eZ 2 ha,<-eZ 3 ha]at hL
 exact(DT [(0,(Gu k0 0 2 3))] (kr:=no) (Gu (λ_ _ _ w=>X () w) 0 2 3) hL dE Jx ⟨h0,trivial⟩)
def El(R:K1) AM b2 oM w:=
 zF (Ej R) AM b2 oM w
theorem T8 (kn:K3)(hn:N3 Q kn 0 2 3)(h:zF kn (g 0) (g 2) (g 3) w):dM pg jX (bK 1 (aN 4 jE)) Q g w:=
 A7 0 (T7 _ g w kn hn h)
def MD(kn:K3)(R:K1) AM w:=
 aA pg (bE 70) w λb2 w=>
 aA pg (aE .eql 153 (.tmp 7) (.const (.pointer none)) AM (.pointer none)) w λb8 w=>
 cP b8
  (aG pg Qr #[(.slice none 0 0)] w λb9 w=>
  aA pg (aF 70 b2 b9) w λ_u w=>
  kD pg 70 b2 w λr0=>R r0 w)
  (aA pg (cL AM) w λc1 w=>
  aA pg (aB 185 c1) w λc2 w=>
  aA pg (bE 185) w λoM w=>
  aA pg (aF 185 oM c2) w λ_u w=>
  aA pg (bB 22 1 [(0,(.int .u8 128))]) w λc3 w=>
  aG pg iL #[oM,c3] w λc4 w=>
  kn AM b2 oM w)
def ME(R:K1) AM w:=
 MD (El R) R AM w
def Yr a0 w(R:K1):=
 ME R a0 w
theorem Ys{a0 w R}(h:Yr a0 w R):aG pg Cc #[a0] w R:=
 jF (ann:=jX) Tryz.f83 jE [a0] aeR 52 TryzM.mixed Tryz.func83 (dN 4 (Ui (Gu (El R) 0 2 3) h (λg w h=>aJ (dN 1 (T8 _ g w (Ej R) (λg w h=>aJ (dN 1 (T6 _ g w (Gn R) (λg w h=>aJ (dN 1 (iK (Gu (Gm R) 2 3 5) h (λg w h=>aJ (dN 1 (VQ _ g w (Gj R) (λg w h=>aJ (jP h dE)) h)))))) h))) h))) dE))
def DL:FA:=⟨B8,λi=> .leaf ([],[]) []⟩
def aeM:List ResultVar:=[.cell 4 158,.tmp 5]
noncomputable def Cu:Code:=bA Tryz.f84
def F9 (R:K1) Ny b4 x_7 w:=
 aA pg (aB 158 Ny) w λf4 w=>
 aA pg (aF 158 b4 f4) w λ_u w=>
 kD pg 158 b4 w λr0=>R (.tuple #[r0,x_7]) w
def Ga(kn:K6)(k0:K3) Ny b4 s_6 x_7 PZ i_9 w:=
 aA pg (eI .len #[9] 3 [s_6]) w λe0 w=>
 aA pg (aE .lss 3 aM aM i_9 e0) w λe1 w=>
 cP e1
  (aA pg (VL 9 s_6 i_9) w λe7 w=>
  aA pg (cJ 5 26 e7) w λe8 w=>
  aA pg (aE .mul 26 aM aM e8 PZ) w λf0 w=>
  aA pg (aE .add 26 aM aM x_7 f0) w λf1 w=>
  aA pg (aE .mul 26 aM aM PZ (.int .u64 256)) w λf3 w=>
  aA pg (aE .add 3 aM aM i_9 (aLY 1)) w λe3 w=>
  kn Ny b4 s_6 f1 f3 e3 w)
  (k0 Ny b4 x_7 w)
def AQ(k0:K3) Ny b4 s_6 x_7 PZ i_9 w:=
 bM (λ(X:(aLX×aLX×aLX)->K0) (t:aLX×aLX×aLX) (w:aLW)=>Ga (λ_ _ _ x_7 PZ i_9 w=>X (x_7,PZ,i_9) w) k0 Ny b4 s_6 t.1 t.2.1 t.2.2 w) (x_7,PZ,i_9) w
theorem Vv(k0:K3)(h0:E3 Q k0 0 2 4 7)(h:AQ k0 (g 2) (g 4) (g 6) (g 7) (g 8) (g 9) w):dM pg DL (bI (aN 1 (bK 1 (aN 3 (aN 2 Cu))))) Q g w:=by
 refine EN (λg:Env=>(g 7,g 8,g 9)) (λX t w=>Ga (λ_ _ _ x_7 PZ i_9 w=>X (x_7,PZ,i_9) w) k0 (g 2) (g 4) (g 6) t.1 t.2.1 t.2.2 w) h (λX g1 w1 ha hL=> ?_)
 rw[<-eZ 2 ha,<-eZ 4 ha,<-eZ 6 ha]at hL
 exact(DT [(0,(Gu k0 2 4 7))] (kr:=no) (Mq6 (λ_ _ _ x_7 PZ i_9 w=>X (x_7,PZ,i_9) w) 2 4 6 7 8 9) hL dE Jx ⟨h0,trivial⟩)
def O3 (kn:K6) Ny b4 s_6 x_7 PZ w:=
 kn Ny b4 s_6 x_7 PZ (aLY 0) w
def Gb(kn:K3) Ny b4 s_6 x_7 PZ w:=
 O3 (AQ kn) Ny b4 s_6 x_7 PZ w
def Gc(R:K1) Ny b4 s_6 x_7 PZ w:=
 Gb (F9 R) Ny b4 s_6 x_7 PZ w
theorem Vw(kn:K3)(hn:N3 Q kn 2 4 7)(h:Gb kn (g 2) (g 4) (g 6) (g 7) (g 8) w):dM pg DL (bK 1 (aN 3 (aN 2 Cu))) Q g w:=
 dN 1 (iK (Mq6 (AQ kn) 2 4 6 7 8 9) h (λg w h=>aJ (A7 0 (Vv _ g w kn hn h))))
def O4 (kn:K5) D3 Ny b4 w:=
 aA pg (aB 158 Ny) w λd3 w=>
 aG pg GP #[d3,D3] w λd5 w=>
 aA pg (aP d5 0) w λd6 w=>
 aA pg (aP d5 1) w λd7 w=>
 aA pg (aF 158 Ny d6) w λ_u w=>
 kn Ny b4 d7 (.int .u64 0) (.int .u64 1) w
def Ge(R:K1) D3 Ny b4 w:=
 O4 (Gc R) D3 Ny b4 w
def Mn(kn:K3) V0 D3 w:=
 aA pg (iX 158 V0) w λNy w=>
 aA pg (bE 158) w λb4 w=>
 aA pg (aD 158 Ny 1) w λc0 w=>
 aA pg (aB 31 c0) w λc1 w=>
 aA pg (aE .eql 31 (.tmp 11) (.const (aLY 0)) c1 (aLY 0)) w λc2 w=>
 Gd (bG c2 true) (λK=>K D3 w) w λc4 w=>
 Gd (bG c2 true) (λK=>aA pg (aE .lss 3 aM aM c4 (aLY 1)) w K) w λc5 w=>
 Gd (bG c2 true) (λK=>K c5 w) w λc6 w=>
 Gd (bG c6 false) (λK=>K D3 w) w λc7 w=>
 Gd (bG c6 false) (λK=>aA pg (aE .gtr 3 aM aM c7 (aLY 8)) w K) w λc8 w=>
 Gd (bG c2 true) (λK=>aA pg (cG c6 (.bool true) c8) w K) w λc9 w=>
 aA pg (cG c2 c9 (.bool false)) w λd0 w=>
 cP d0
  (aA pg (aD 158 Ny 1) w λd1 w=>
  aA pg (aF 31 d1 (aLY 1)) w λ_u w=>
  kn D3 Ny b4 w)
  (kn D3 Ny b4 w)
def Mo(R:K1) V0 D3 w:=
 Mn (Ge R) V0 D3 w
def Xe a0 a1 w(R:K1):=
 Mo R a0 a1 w
theorem Xf{a0 a1 w R}(h:Xe a0 a1 w R):aG pg B8 #[a0,a1] w R:=
 jF (ann:=DL) Tryz.f84 Cu [a0,a1] aeM 46 TryzM.mixed Tryz.func84 (dN 2 (iK (Gu (Ge R) 1 2 4) h (λg w h=>aJ (dN 3 (iK (YG (Gc R) 2 4 6 7 8) h (λg w h=>aJ (dN 1 (Vw _ g w (F9 R) (λg w h=>aJ (jP h dE)) h))))))))
def alC:FA:=⟨BG,λi=>match Nat.beq i 3 with|true=> .split 2 6 (.perm [0,1,2,3,4,5,6,7,8] [(2,6)] ([2,6],[(2,4),(2,5),(3,6)]) (fz 2 (ft [] (fz 1 (fu [1] (fu [2] (ft [2] (fz 2 [])))))))) (.perm [0,1,4,5,6,2,3,7,8] [(6,2)] ([4,5],[(0,4),(1,4)]) (fz 4 (ft [2,3] (ft [] (fz 3 [])))))|false=> .leaf ([],[]) []⟩
def aqT:List ResultVar:=[.tmp 2]
noncomputable def QP:Code:=bA Tryz.f85
def Hh(R:K1) Ay w:=
 aG pg M1 #[Ay] w λd2 w=>
 aA pg (cJ 27 26 d2) w λd3 w=>
 aG pg BF #[d3,(aLY 4)] w λd4 w=>
 aA pg (aE .add 9 aM aM Ay d4) w λd5 w=>
 R d5 w
def XM(kn:K1)(R:K1) V0 w:=
 aA pg (iX 123 V0) w λr_1 w=>
 aA pg (aD 123 r_1 0) w λb4 w=>
 aA pg (aB 5 b4) w λb5 w=>
 aA pg (aE .neq 5 (.tmp 5) (.const (.int .u8 1)) b5 (.int .u8 1)) w λb6 w=>
 Gd (bG b6 true) (λK=>aA pg (aD 123 r_1 0) w K) w λb8 w=>
 Gd (bG b6 true) (λK=>aA pg (aB 5 b8) w K) w λb9 w=>
 Gd (bG b6 true) (λK=>aA pg (aE .neq 5 (.tmp 9) (.const (.int .u8 2)) b9 (.int .u8 2)) w K) w λc0 w=>
 aA pg (cG b6 c0 (.bool false)) w λc1 w=>
 cP c1
  (R (.string ⟨#[]⟩) w)
  (Ord (P2 BG 3 (vT 3 QP) 2 6 w)
   (aA pg (aD 123 r_1 0) (dr w) λc2 w_=>w_=(dr w)/\
   aA pg (aB 5 c2) (dr w) λc3 w_=>w_=(dr w)/\
   aA pg (bB 22 1 [(0,c3)]) (dr w) λc4 azR=>
   aA pg (cJ 22 9 c4) azR λc5 w_=>w_=azR/\
   aA pg (aD 123 r_1 1) azR λc6 w_=>w_=azR/\
   (aO pg (aD 123 r_1 1) c6 (dr w)/\True)/\
   aA pg (aB 26 c6) azR λc7 w_=>w_=azR/\
   (aO pg (aB 26 c6) c7 (dr w)/\True)/\
   aG pg BF #[c7,(aLY 8)] azR λc8 akU=>
   (aO pg (cJ 22 9 c4) c5 akU/\True)/\
   aA pg (aE .add 9 aM aM c5 c8) akU λc9 w_=>w_=akU/\
   akU=akU/\
   kn c9 akU)
   (aA pg (aD 123 r_1 0) (dr w) λc2 w_=>w_=(dr w)/\
   aA pg (aB 5 c2) (dr w) λc3 w_=>w_=(dr w)/\
   aA pg (aD 123 r_1 1) (dr w) λc6 w_=>w_=(dr w)/\
   aA pg (aB 26 c6) (dr w) λc7 w_=>w_=(dr w)/\
   aG pg BF #[c7,(aLY 8)] (dr w) λc8 aHq=>
   (aO pg (aB 5 c2) c3 aHq/\aO pg (aD 123 r_1 0) c2 aHq/\True)/\
   aA pg (bB 22 1 [(0,c3)]) aHq λc4 Jt=>
   aA pg (cJ 22 9 c4) Jt λc5 w_=>w_=Jt/\
   aA pg (aE .add 9 aM aM c5 c8) Jt λc9 w_=>w_=Jt/\
   Jt=Jt/\
   kn c9 Jt))
def XN(R:K1) V0 w:=
 XM (Hh R) R V0 w
def aoA a0 w(R:K1):=
 XN R a0 w
theorem aiU{a0 w R}(h:aoA a0 w R):aG pg BG #[a0] w R:=
 jF (ann:=alC) Tryz.f85 QP [a0] aqT 26 TryzM.mixed Tryz.func85 (dN 3 (Ui (Mq1 (Hh R) 3) h (λg w h=>aJ (jP h dE)) dE))
def LL:FA:=⟨uK,λi=> .leaf ([],[]) []⟩
def Ov:List ResultVar:=[.tmp 2]
noncomputable def KC:Code:=bA Tryz.f86
def C7 (R:K1) aD7 w:=
 aG pg cB #[(.slice none 0 0),aD7] w λb4 w=>
 R b4 w
def GK a0 w(R:K1):=
 C7 R a0 w
theorem Ly{a0 w R}(h:GK a0 w R):aG pg uK #[a0] w R:=
 jF (ann:=LL) Tryz.f86 KC [a0] Ov 5 TryzM.mixed Tryz.func86 (jP h dE)
def QD:FA:=⟨mO,λi=> .leaf ([],[]) []⟩
def TZ:List ResultVar:=[]
noncomputable def PC:Code:=bA Tryz.f87
def GL(kn:K0) zK w:=
 aA pg (eI .len #[80] 3 [zK]) w λb4 w=>
 aA pg (cJ 3 194 b4) w λb8 w=>
 aG pg AG #[b8] w λb9 w=>
 aG pg eC #[zK,(aLY 0),b4,b9] w λc0 w=>
 kn w
def MK a0 w(R:K1):=
 GL (λw=>R (.tuple #[]) w) a0 w
theorem Qh{a0 w R}(h:MK a0 w R):aG pg mO #[a0] w R:=
 jF (ann:=QD) Tryz.f87 PC [a0] TZ 11 TryzM.mixed Tryz.func87 (iK (Mq0 (λw=>R (.tuple #[]) w)) h dE)
def Dm:FA:=⟨gU,λi=> .leaf ([],[]) []⟩
def Ft:List ResultVar:=[]
noncomputable def Ct:Code:=bA Tryz.f88
def xB(kn:K2)(k0:K0)(R:K1) pE b5 w:=
 aA pg (avP b5 false 0) w λb6 w=>
 aA pg (aP b6 0) w λb7 w=>
 cP b7
  (aA pg (aqW b5) w λb8 w=>
  aA pg (aP b8 0) w λb9 w=>
  aA pg (Ac pE [b9]) w λc2 w=>
  aA pg (GI .not c2) w λc3 w=>
  cP c3
   (R (.tuple #[]) w)
   (kn pE b5 w))
  (k0 w)
def pA(k0:K0)(R:K1) pE b5 w:=
 bM (λ(X:Unit->K0) (t:Unit) (w:aLW)=>xB (λ_ _ w=>X () w) k0 R pE b5 w) () w
theorem Mf(k0:K0)(R:K1)(h0:E0 Q k0 0)(hr:HR Ft R Q)(h:pA k0 R (g 0) (g 5) w):dM pg Dm (bI (aN 1 Ct)) Q g w:=by
 refine EN (λ_:Env=>()) (λX t w=>xB (λ_ _ w=>X () w) k0 R (g 0) (g 5) w) h (λX g1 w1 ha hL=> ?_)
 rw[<-eZ 0 ha,<-eZ 5 ha]at hL
 exact(DT [(0,(Mq0 k0))] (Qq (λ_ _ w=>X () w) 0 5) hL dE hr ⟨h0,trivial⟩)
def Fo(kn:K2) pE b1 w:=
 aA pg (aB 73 b1) w λb4 w=>
 aA pg (Z1 73 b4) w λb5 w=>
 kn pE b5 w
def Fp(kn:K0)(R:K1) pE b1 w:=
 Fo (pA kn R) pE b1 w
def J2 a0 a1 w(R:K1):=
 Fp (λw=>R (.tuple #[]) w) R a0 a1 w
theorem Nr{a0 a1 w R}(h:J2 a0 a1 w R):aG pg gU #[a0,a1] w R:=
 jF (ann:=Dm) Tryz.f88 Ct [a0,a1] Ft 14 TryzM.mixed Tryz.func88 (dN 1 (iK (Qq (pA (λw=>R (.tuple #[]) w) R) 0 5) h (λg w h=>aJ (A7 0 (Mf _ g w (λw=>R (.tuple #[]) w) R dE dE h)))))
def HF:FA:=⟨yS,λi=> .leaf ([],[]) []⟩
def Lu:List ResultVar:=[.tmp 4]
noncomputable def FZ:Code:=bA Tryz.f89
def KZ(R:K1) w:=
 R (aLY (-1)) w
def La(kn:K3)(k0:K0)(R:K1) iD cR vQ w:=
 aA pg (eI .len #[37] 3 [iD]) w λb8 w=>
 aA pg (aE .lss 3 aM aM vQ b8) w λb9 w=>
 cP b9
  (aA pg (aR 37 iD vQ) w λc4 w=>
  aA pg (aD 85 c4 0) w λc5 w=>
  aA pg (aB 9 c5) w λc6 w=>
  aA pg (aE .eql 9 (.tmp 16) (.tmp 17) c6 cR) w λc8 w=>
  cP c8
   (R vQ w)
   (aA pg (aE .add 3 aM aM vQ (aLY 1)) w λc1 w=>
   kn iD cR c1 w))
  (k0 w)
def EP(k0:K0)(R:K1) iD cR vQ w:=
 bM (λ(X:aLX->K0) (t:aLX) (w:aLW)=>La (λ_ _ vQ w=>X vQ w) k0 R iD cR t w) vQ w
theorem ZF(k0:K0)(R:K1)(h0:E0 Q k0 0)(hr:HR Lu R Q)(h:EP k0 R (g 0) (g 1) (g 5) w):dM pg HF (bI (aN 1 (bK 1 (aN 1 FZ)))) Q g w:=by
 refine EN (λg:Env=>g 5) (λX t w=>La (λ_ _ vQ w=>X vQ w) k0 R (g 0) (g 1) t w) h (λX g1 w1 ha hL=> ?_)
 rw[<-eZ 0 ha,<-eZ 1 ha]at hL
 exact(DT [(0,(Mq0 k0))] (Gu (λ_ _ vQ w=>X vQ w) 0 1 5) hL dE hr ⟨h0,trivial⟩)
def Uz(kn:K3) iD cR w:=
 kn iD cR (aLY 0) w
def Lb(kn:K0)(R:K1) iD cR w:=
 Uz (EP kn R) iD cR w
def Lc(R:K1) iD cR w:=
 Lb (KZ R) R iD cR w
theorem ZG(kn:K0)(R:K1)(hn:N0 Q kn)(hr:HR Lu R Q)(h:Lb kn R (g 0) (g 1) w):dM pg HF (bK 1 (aN 1 FZ)) Q g w:=
 dN 1 (iK (Gu (EP kn R) 0 1 5) h (λg w h=>aJ (A7 0 (ZF _ g w kn R hn hr h))))
def UA(kn:K2) iD cR w:=
 kn iD cR w
def UB(R:K1) iD cR w:=
 UA (Lc R) iD cR w
def aiN a0 a1 w(R:K1):=
 UB R a0 a1 w
theorem adX{a0 a1 w R}(h:aiN a0 a1 w R):aG pg yS #[a0,a1] w R:=
 jF (ann:=HF) Tryz.f89 FZ [a0,a1] Lu 20 TryzM.mixed Tryz.func89 (dN 1 (iK (Qq (Lc R) 0 1) h (λg w h=>aJ (dN 1 (ZG _ g w (KZ R) R (λg w h=>aJ (jP h dE)) dE h)))))
def HI:FA:=⟨B9,λi=>match Nat.beq i 3 with|true=> .leaf ([],[]) (fz 14 [])|false=> .leaf ([],[]) []⟩
def amM:List ResultVar:=[.tmp 4]
noncomputable def F3:Code:=bA Tryz.f90
def ET(R:K1) iD f_3 rR w:=
 aA pg (dG 37 iD none (some rR) none) w λe0 w=>
 aA pg (eI .append #[37,37] 37 [(.slice none 0 0),e0]) w λe1 w=>
 aA pg (aB 85 f_3) w λe3 w=>
 aA pg (bB 37 1 [(0,e3)]) w λe4 w=>
 aA pg (eI .append #[37,37] 37 [e1,e4]) w λe5 w=>
 aA pg (dG 37 iD (some rR) none none) w λe9 w=>
 aA pg (eI .append #[37,37] 37 [e5,e9]) w λf0 w=>
 R f0 w
def Lk(kn:K3)(k0:K3) iD f_3 rR w:=
 (dr w)=(dr w)/\
 (dr w)=(dr w)/\
 aA pg (eI .len #[37] 3 [iD]) (dr w) λc3 w_=>w_=(dr w)/\
 aA pg (aE .lss 3 aM aM rR c3) (dr w) λc4 w_=>w_=(dr w)/\
 (dr w)=(dr w)/\
 Gd (bG c4 true) (λK=>K iD (dr w)) (dr w) λc6 w_=>w_=(dr w)/\
 Gd (bG c4 true) (λK=>K rR (dr w)) (dr w) λc7 w_=>w_=(dr w)/\
 Gd (bG c4 true) (λK=>aA pg (aR 37 c6 c7) (dr w) K) (dr w) λc8 w_=>w_=(dr w)/\
 Gd (bG c4 true) (λK=>aA pg (aD 85 c8 0) (dr w) K) (dr w) λc9 w_=>w_=(dr w)/\
 Gd (bG c4 true) (λK=>aA pg (aB 9 c9) (dr w) K) (dr w) λd0 w_=>w_=(dr w)/\
 Gd (bG c4 true) (λK=>aA pg (aD 85 f_3 0) (dr w) K) (dr w) λd1 w_=>w_=(dr w)/\
 Gd (bG c4 true) (λK=>aA pg (aB 9 d1) (dr w) K) (dr w) λd2 w_=>w_=(dr w)/\
 Gd (bG c4 true) (λK=>aA pg (aE .lss 9 aM aM d0 d2) (dr w) K) (dr w) λd3 w_=>w_=(dr w)/\
 aA pg (cG c4 d3 (.bool false)) (dr w) λd4 w_=>w_=(dr w)/\
 cP d4
  (aA pg (aE .add 3 aM aM rR (aLY 1)) (dr w) λd6 w=>
  kn iD f_3 d6 w)
  (k0 iD f_3 rR (dr w))
def EU(k0:K3) iD f_3 rR w:=
 bM (λ(X:aLX->K0) (t:aLX) (w:aLW)=>Lk (λ_ _ rR w=>X rR w) k0 iD f_3 t w) rR w
theorem ZM(k0:K3)(h0:E3 Q k0 0 0 3 5)(h:EU k0 (g 0) (g 3) (g 5) w):dM pg HI (bI (bK 1 (aN 3 F3))) Q g w:=by
 refine EN (λg:Env=>g 5) (λX t w=>Lk (λ_ _ rR w=>X rR w) k0 (g 0) (g 3) t w) h (λX g1 w1 ha hL=> ?_)
 rw[<-eZ 0 ha,<-eZ 3 ha]at hL
 exact(DT [(0,(Gu k0 0 3 5))] (kr:=no) (Gu (λ_ _ rR w=>X rR w) 0 3 5) hL dE Jx ⟨h0,trivial⟩)
def Ll(R:K1) iD f_3 rR w:=
 EU (ET R) iD f_3 rR w
theorem ZN(kn:K3)(hn:N3 Q kn 0 3 5)(h:EU kn (g 0) (g 3) (g 5) w):dM pg HI (bK 1 (aN 3 F3)) Q g w:=
 A7 0 (ZM _ g w kn hn h)
def UK(kn:K3) iD f_1 w:=
 aA pg (iX 85 f_1) w λf_3 w=>
 aA pg (aD 85 f_3 0) w λb8 w=>
 aA pg (aB 9 b8) w λb9 w=>
 aG pg tT #[iD,b9] w λc0 w=>
 kn c0 f_3 (aLY 0) w
def UL(R:K1) iD f_1 w:=
 UK (Ll R) iD f_1 w
def aiT a0 a1 w(R:K1):=
 UL R a0 a1 w
theorem aeC{a0 a1 w R}(h:aiT a0 a1 w R):aG pg B9 #[a0,a1] w R:=
 jF (ann:=HI) Tryz.f90 F3 [a0,a1] amM 41 TryzM.mixed Tryz.func90 (dN 3 (iK (Gu (Ll R) 0 3 5) h (λg w h=>aJ (dN 1 (ZN _ g w (ET R) (λg w h=>aJ (jP h dE)) h)))))
def Co:FA:=⟨tT,λi=> .leaf ([],[]) []⟩
def ZZ:List ResultVar:=[.tmp 4]
noncomputable def A8:Code:=bA Tryz.f91
def Ea(R:K1) bT w:=
 R bT w
def Eb(kn:K4) iD cR bT nN w:=
 aA pg (aE .add 3 aM aM nN (aLY 1)) w λc2 w=>
 kn iD cR bT c2 w
def Mq(kn:K4)(k0:K1) iD cR bT nN w:=
 aA pg (eI .len #[37] 3 [iD]) w λb9 w=>
 aA pg (aE .lss 3 aM aM nN b9) w λc0 w=>
 cP c0
  (aA pg (aR 37 iD nN) w λc5 w=>
  aA pg (aD 85 c5 0) w λc6 w=>
  aA pg (aB 9 c6) w λc7 w=>
  aA pg (aE .neq 9 (.tmp 17) (.tmp 18) c7 cR) w λc9 w=>
  cP c9
   (aA pg (aR 37 iD nN) w λd3 w=>
   aA pg (aB 85 d3) w λd4 w=>
   aA pg (bB 37 1 [(0,d4)]) w λd5 w=>
   aA pg (eI .append #[37,37] 37 [bT,d5]) w λd6 w=>
   kn iD cR d6 nN w)
   (kn iD cR bT nN w))
  (k0 bT w)
def Ec(kn:K4)(k0:K1) iD cR bT nN w:=
 Mq (Eb kn) k0 iD cR bT nN w
def zB(k0:K1) iD cR bT nN w:=
 bM (λ(X:(aLX×aLX)->K0) (t:aLX×aLX) (w:aLW)=>Ec (λ_ _ bT nN w=>X (bT,nN) w) k0 iD cR t.1 t.2 w) (bT,nN) w
theorem TR(k0:K1)(h0:E1 Q k0 0 5)(h:zB k0 (g 0) (g 1) (g 5) (g 6) w):dM pg Co (bI (aN 1 (bK 1 (aN 2 A8)))) Q g w:=by
 refine EN (λg:Env=>(g 5,g 6)) (λX t w=>Ec (λ_ _ bT nN w=>X (bT,nN) w) k0 (g 0) (g 1) t.1 t.2 w) h (λX g1 w1 ha hL=> ?_)
 rw[<-eZ 0 ha,<-eZ 1 ha]at hL
 exact(dN 2 (DT [(0,(Mq1 k0 5))] (kr:=no) (Ch (Eb (λ_ _ bT nN w=>X (bT,nN) w)) 0 1 5 6) hL (λg w h=>aJ (iK (Ch (λ_ _ bT nN w=>X (bT,nN) w) 0 1 5 6) h dE)) Jx ⟨h0,trivial⟩))
def Mr(kn:K4) iD cR bT w:=
 kn iD cR bT (aLY 0) w
def Ed(kn:K1) iD cR bT w:=
 Mr (zB kn) iD cR bT w
def Ee(R:K1) iD cR bT w:=
 Ed (Ea R) iD cR bT w
theorem TS(kn:K1)(hn:N1 Q kn 5)(h:Ed kn (g 0) (g 1) (g 5) w):dM pg Co (bK 1 (aN 2 A8)) Q g w:=
 dN 1 (iK (Ch (zB kn) 0 1 5 6) h (λg w h=>aJ (A7 0 (TR _ g w kn hn h))))
def J8 (kn:K3) iD cR w:=
 kn iD cR (.slice none 0 0) w
def J9 (R:K1) iD cR w:=
 J8 (Ee R) iD cR w
def UM a0 a1 w(R:K1):=
 J9 R a0 a1 w
theorem Vx{a0 a1 w R}(h:UM a0 a1 w R):aG pg tT #[a0,a1] w R:=
 jF (ann:=Co) Tryz.f91 A8 [a0,a1] ZZ 28 TryzM.mixed Tryz.func91 (dN 2 (iK (Gu (Ee R) 0 1 5) h (λg w h=>aJ (dN 1 (TS _ g w (Ea R) (λg w h=>aJ (jP h dE)) h)))))
def agG:FA:=⟨GQ,λi=> .leaf ([],[]) []⟩
def amH:List ResultVar:=[.cell 2 70]
noncomputable def acK:Code:=bA Tryz.f92
def Uy(R:K1) DM w:=
 aA pg (bE 70) w λb2 w=>
 aA pg (aE .add 9 aM aM (.string ⟨#[0]⟩) DM) w λb4 w=>
 aG pg M0 #[b4] w λb5 w=>
 aA pg (aF 70 b2 b5) w λ_u w=>
 kD pg 70 b2 w λr0=>R r0 w
def aiJ a0 w(R:K1):=
 Uy R a0 w
theorem adT{a0 w R}(h:aiJ a0 w R):aG pg GQ #[a0] w R:=
 jF (ann:=agG) Tryz.f92 acK [a0] amH 6 TryzM.mixed Tryz.func92 (jP h dE)
def uM:FA:=⟨zM,λi=> .leaf ([],[]) []⟩
def xN:List ResultVar:=[.tmp 4]
noncomputable def sP:Code:=bA Tryz.f94
def xV(R:K1) w:=
 R (aLY (-1)) w
def xY(kn:K4)(k0:K0)(R:K1) eY v_1 b7 b8 w:=
 aA pg (aE .lss 3 aM aM b8 b7) w λb9 w=>
 cP b9
  (aA pg (aR 45 eY b8) w λc4 w=>
  aA pg (aB 4 c4) w λc5 w=>
  aA pg (aE .eql 4 (.tmp 11) (.tmp 15) v_1 c5) w λc6 w=>
  cP c6
   (R b8 w)
   (aA pg (aE .add 3 aM aM b8 (aLY 1)) w λc8 w=>
   kn eY v_1 b7 c8 w))
  (k0 w)
def pD(k0:K0)(R:K1) eY v_1 b7 b8 w:=
 bM (λ(X:aLX->K0) (t:aLX) (w:aLW)=>xY (λ_ _ _ b8 w=>X b8 w) k0 R eY v_1 b7 t w) b8 w
theorem MI(k0:K0)(R:K1)(h0:E0 Q k0 0)(hr:HR xN R Q)(h:pD k0 R (g 0) (g 1) (g 7) (g 8) w):dM pg uM (bI (aN 1 (bK 1 (aN 1 sP)))) Q g w:=by
 refine EN (λg:Env=>g 8) (λX t w=>xY (λ_ _ _ b8 w=>X b8 w) k0 R (g 0) (g 1) (g 7) t w) h (λX g1 w1 ha hL=> ?_)
 rw[<-eZ 0 ha,<-eZ 1 ha,<-eZ 7 ha]at hL
 exact(DT [(0,(Mq0 k0))] (Ch (λ_ _ _ b8 w=>X b8 w) 0 1 7 8) hL dE hr ⟨h0,trivial⟩)
def FG(kn:K4) eY v_1 w:=
 aA pg (eI .len #[45] 3 [eY]) w λb7 w=>
 kn eY v_1 b7 (aLY 0) w
def xZ(kn:K0)(R:K1) eY v_1 w:=
 FG (pD kn R) eY v_1 w
def yA(R:K1) eY v_1 w:=
 xZ (xV R) R eY v_1 w
theorem MJ(kn:K0)(R:K1)(hn:N0 Q kn)(hr:HR xN R Q)(h:xZ kn R (g 0) (g 1) w):dM pg uM (bK 1 (aN 1 sP)) Q g w:=
 dN 1 (iK (Ch (pD kn R) 0 1 7 8) h (λg w h=>aJ (A7 0 (MI _ g w kn R hn hr h))))
def FH(kn:K2) eY v_1 w:=
 kn eY v_1 w
def FI(R:K1) eY v_1 w:=
 FH (yA R) eY v_1 w
def Kj a0 a1 w(R:K1):=
 FI R a0 a1 w
theorem OC{a0 a1 w R}(h:Kj a0 a1 w R):aG pg zM #[a0,a1] w R:=
 jF (ann:=uM) Tryz.f94 sP [a0,a1] xN 19 TryzM.mixed Tryz.func94 (dN 1 (iK (Qq (yA R) 0 1) h (λg w h=>aJ (dN 1 (MJ _ g w (xV R) R (λg w h=>aJ (jP h dE)) dE h)))))
def Pr:FA:=⟨zL,λi=> .leaf ([],[]) []⟩
def SA:List ResultVar:=[.tmp 4]
noncomputable def Nd:Code:=bA Tryz.f95
def xQ(R:K1) tQ P0 w:=
 aA pg (Pf (.func 111) [] [tQ,P0]) w λb8 w=>
 R b8 w
def Fv(kn:K2) eY D3 w:=
 aA pg (iX 22 eY) w λtQ w=>
 aA pg (iX 3 D3) w λP0 w=>
 aA pg (aB 3 P0) w λb5 w=>
 aA pg (aE .lss 3 aM aM b5 (aLY 1)) w λb6 w=>
 cP b6
  (aA pg (aHb 9 (.string ⟨#[99,97,110,110,111,116,32,98,101,32,108,101,115,115,32,116,104,97,110,32,49]⟩)) w λb7 w=>
  aA pg (V (Instr.panic b7)) w λ_u w=>
  kn tQ P0 w)
  (kn tQ P0 w)
def Fw(R:K1) eY D3 w:=
 Fv (xQ R) eY D3 w
def Kg a0 a1 w(R:K1):=
 Fw R a0 a1 w
theorem Oz{a0 a1 w R}(h:Kg a0 a1 w R):aG pg zL #[a0,a1] w R:=
 jF (ann:=Pr) Tryz.f95 Nd [a0,a1] SA 9 TryzM.mixed Tryz.func95 (dN 2 (iK (Qq (xQ R) 2 3) h (λg w h=>aJ (jP h dE))))
def Qx:FA:=⟨sB,λi=> .leaf ([],[]) []⟩
def TV:List ResultVar:=[.tmp 2]
noncomputable def Py:Code:=bA Tryz.f96
def Gx(R:K1) DM w:=
 aG pg fL #[DM] w λb4 w=>
 aA pg (bV 197 [(0,b4)]) w λb5 w=>
 aA pg (iX 197 b5) w λb6 w=>
 R b6 w
def LY a0 w(R:K1):=
 Gx R a0 w
theorem PG{a0 w R}(h:LY a0 w R):aG pg sB #[a0] w R:=
 jF (ann:=Qx) Tryz.f96 Py [a0] TV 7 TryzM.mixed Tryz.func96 (jP h dE)
def pG:FA:=⟨jC,λi=> .leaf ([],[]) []⟩
def Mw:List ResultVar:=[.tmp 4]
noncomputable def nP:Code:=bA Tryz.f97
def qM(R:K1) x_5 w:=
 R x_5 w
def qN(kn:K4)(k0:K1) x_5 c8 c9 d0 w:=
 aA pg (aE .lss 3 aM aM d0 c9) w λd1 w=>
 cP d1
  (aA pg (aR 22 c8 d0) w λd3 w=>
  aA pg (aB 5 d3) w λd4 w=>
  aA pg (cJ 5 26 d4) w λd7 w=>
  aA pg (aE .mul 3 aM aM (aLY 8) d0) w λd9 w=>
  aA pg (cJ 3 194 d9) w λe0 w=>
  aA pg (aE .shl 26 aM aM d7 e0) w λe1 w=>
  aA pg (aE .or 26 aM aM x_5 e1) w λe2 w=>
  aA pg (aE .add 3 aM aM d0 (aLY 1)) w λe3 w=>
  kn e2 c8 c9 e3 w)
  (k0 x_5 w)
def kX(k0:K1) x_5 c8 c9 d0 w:=
 bM (λ(X:(aLX×aLX)->K0) (t:aLX×aLX) (w:aLW)=>qN (λx_5 _ _ d0 w=>X (x_5,d0) w) k0 t.1 c8 c9 t.2 w) (x_5,d0) w
theorem HP(k0:K1)(h0:E1 Q k0 0 5)(h:kX k0 (g 5) (g 18) (g 19) (g 20) w):dM pg pG (bI (aN 1 (bK 1 (aN 3 nP)))) Q g w:=by
 refine EN (λg:Env=>(g 5,g 20)) (λX t w=>qN (λx_5 _ _ d0 w=>X (x_5,d0) w) k0 t.1 (g 18) (g 19) t.2 w) h (λX g1 w1 ha hL=> ?_)
 rw[<-eZ 18 ha,<-eZ 19 ha]at hL
 exact(DT [(0,(Mq1 k0 5))] (kr:=no) (Ch (λx_5 _ _ d0 w=>X (x_5,d0) w) 5 18 19 20) hL dE Jx ⟨h0,trivial⟩)
def BL(kn:K4) V0 D3 x_5 w:=
 aA pg (aE .geq 3 aM aM D3 (aLY 1)) w λc3 w=>
 Gd (bG c3 true) (λK=>K D3 w) w λc5 w=>
 Gd (bG c3 true) (λK=>aA pg (aE .leq 3 aM aM c5 (aLY 8)) w K) w λc6 w=>
 aA pg (cG c3 c6 (.bool false)) w λc7 w=>
 aG pg oS #[V0,D3,c7] w λc8 w=>
 aA pg (eI .len #[22] 3 [c8]) w λc9 w=>
 kn x_5 c8 c9 (aLY 0) w
def qO(kn:K1) V0 D3 x_5 w:=
 BL (kX kn) V0 D3 x_5 w
def qP(R:K1) V0 D3 x_5 w:=
 qO (qM R) V0 D3 x_5 w
theorem HQ(kn:K1)(hn:N1 Q kn 5)(h:qO kn (g 0) (g 1) (g 5) w):dM pg pG (bK 1 (aN 3 nP)) Q g w:=
 dN 1 (iK (Ch (kX kn) 5 18 19 20) h (λg w h=>aJ (A7 0 (HP _ g w kn hn h))))
def BM(kn:K3)(R:K1) V0 D3 w:=
 aA pg (aE .eql 172 (.tmp 8) (.const (.pointer none)) V0 (.pointer none)) w λb9 w=>
 cP b9
  (R (.int .u64 0) w)
  (kn V0 D3 (.int .u64 0) w)
def BN(R:K1) V0 D3 w:=
 BM (qP R) R V0 D3 w
def Ff a0 a1 w(R:K1):=
 BN R a0 a1 w
theorem JE{a0 a1 w R}(h:Ff a0 a1 w R):aG pg jC #[a0,a1] w R:=
 jF (ann:=pG) Tryz.f97 nP [a0,a1] Mw 35 TryzM.mixed Tryz.func97 (dN 3 (Ui (Gu (qP R) 0 1 5) h (λg w h=>aJ (dN 1 (HQ _ g w (qM R) (λg w h=>aJ (jP h dE)) h))) dE))
def uL:FA:=⟨qA,λi=>match Nat.beq i 6 with|true=> .leaf ([],[]) (fz 9 [])|false=> .leaf ([],[]) []⟩
def xM:List ResultVar:=[.tmp 4]
noncomputable def sO:Code:=bA Tryz.f98
def xR(R:K1) w:=
 R (.bool true) w
def xS(kn:K4)(k0:K0)(R:K1) T4 VK c2 c3 w:=
 aA pg (aE .lss 3 aM aM c3 c2) w λc4 w=>
 cP c4
  ((dr w)=(dr w)/\
  (dr w)=(dr w)/\
  aA pg (aR 22 T4 c3) (dr w) λc8 w_=>w_=(dr w)/\
  aA pg (aB 5 c8) (dr w) λc9 w_=>w_=(dr w)/\
  (dr w)=(dr w)/\
  (dr w)=(dr w)/\
  aA pg (aR 22 VK c3) (dr w) λd2 w_=>w_=(dr w)/\
  aA pg (aB 5 d2) (dr w) λd3 w_=>w_=(dr w)/\
  aA pg (aE .neq 5 (.tmp 19) (.tmp 23) c9 d3) (dr w) λd4 w_=>w_=(dr w)/\
  cP d4
   (R (.bool false) (dr w))
   (aA pg (aE .add 3 aM aM c3 (aLY 1)) (dr w) λd5 w=>
   kn T4 VK c2 d5 w))
  (k0 w)
def pC(k0:K0)(R:K1) T4 VK c2 c3 w:=
 bM (λ(X:aLX->K0) (t:aLX) (w:aLW)=>xS (λ_ _ _ c3 w=>X c3 w) k0 R T4 VK c2 t w) c3 w
theorem MG(k0:K0)(R:K1)(h0:E0 Q k0 0)(hr:HR xM R Q)(h:pC k0 R (g 0) (g 1) (g 12) (g 13) w):dM pg uL (bI (aN 1 (bK 1 (aN 2 sO)))) Q g w:=by
 refine EN (λg:Env=>g 13) (λX t w=>xS (λ_ _ _ c3 w=>X c3 w) k0 R (g 0) (g 1) (g 12) t w) h (λX g1 w1 ha hL=> ?_)
 rw[<-eZ 0 ha,<-eZ 1 ha,<-eZ 12 ha]at hL
 exact(DT [(0,(Mq0 k0))] (Ch (λ_ _ _ c3 w=>X c3 w) 0 1 12 13) hL dE hr ⟨h0,trivial⟩)
def FD(kn:K4) T4 VK w:=
 aA pg (eI .len #[22] 3 [T4]) w λc2 w=>
 kn T4 VK c2 (aLY 0) w
def xT(kn:K0)(R:K1) T4 VK w:=
 FD (pC kn R) T4 VK w
def xU(R:K1) T4 VK w:=
 xT (xR R) R T4 VK w
theorem MH(kn:K0)(R:K1)(hn:N0 Q kn)(hr:HR xM R Q)(h:xT kn R (g 0) (g 1) w):dM pg uL (bK 1 (aN 2 sO)) Q g w:=
 dN 1 (iK (Ch (pC kn R) 0 1 12 13) h (λg w h=>aJ (A7 0 (MG _ g w kn R hn hr h))))
def FE(kn:K2)(R:K1) T4 VK w:=
 aA pg (eI .len #[22] 3 [T4]) w λb7 w=>
 aA pg (eI .len #[22] 3 [VK]) w λb9 w=>
 aA pg (aE .neq 3 (.tmp 7) (.tmp 9) b7 b9) w λc0 w=>
 cP c0
  (R (.bool false) w)
  (kn T4 VK w)
def FF(R:K1) T4 VK w:=
 FE (xU R) R T4 VK w
def Ki a0 a1 w(R:K1):=
 FF R a0 a1 w
theorem OB{a0 a1 w R}(h:Ki a0 a1 w R):aG pg qA #[a0,a1] w R:=
 jF (ann:=uL) Tryz.f98 sO [a0,a1] xM 26 TryzM.mixed Tryz.func98 (dN 2 (Ui (Qq (xU R) 0 1) h (λg w h=>aJ (dN 1 (MH _ g w (xR R) R (λg w h=>aJ (jP h dE)) dE h))) dE))
def Qy:FA:=⟨sC,λi=> .leaf ([],[]) []⟩
def TW:List ResultVar:=[.tmp 0]
noncomputable def Pz:Code:=bA Tryz.f99
def Gy(R:K1) w:=
 aA pg (bV 200 []) w λb1 w=>
 aA pg (iX 200 b1) w λb2 w=>
 R b2 w
def LZ w(R:K1):=
 Gy R w
theorem PH{w R}(h:LZ w R):aG pg sC #[] w R:=
 jF (ann:=Qy) Tryz.f99 Pz [] TW 3 TryzM.mixed Tryz.func99 (jP h dE)
def Ao:FA:=⟨gQ,λi=> .leaf ([],[]) []⟩
def Mx:List ResultVar:=[]
noncomputable def zH:Code:=bA Tryz.f100
def qQ(kn:K4)(k0:K0) w_0 x_1 c7 c8 w:=
 aA pg (aE .lss 3 aM aM c8 c7) w λc9 w=>
 cP c9
  (aA pg (cL w_0) w λd3 w=>
  aA pg (aD 200 d3 0) w λd4 w=>
  aA pg (aB 22 d4) w λd5 w=>
  aA pg (aE .mul 3 aM aM (aLY 8) c8) w λd8 w=>
  aA pg (cJ 3 194 d8) w λd9 w=>
  aA pg (aE .shr 26 aM aM x_1 d9) w λe0 w=>
  aA pg (cJ 26 5 e0) w λe1 w=>
  aA pg (bB 22 1 [(0,e1)]) w λe2 w=>
  aA pg (eI .append #[22,22] 22 [d5,e2]) w λe3 w=>
  aA pg (cL w_0) w λe4 w=>
  aA pg (aD 200 e4 0) w λe5 w=>
  aA pg (aF 22 e5 e3) w λ_u w=>
  aA pg (aE .add 3 aM aM c8 (aLY 1)) w λe6 w=>
  kn w_0 x_1 c7 e6 w)
  (k0 w)
def kY(k0:K0) w_0 x_1 c7 c8 w:=
 bM (λ(X:aLX->K0) (t:aLX) (w:aLW)=>qQ (λ_ _ _ c8 w=>X c8 w) k0 w_0 x_1 c7 t w) c8 w
theorem HU(k0:K0)(h0:E0 Q k0 0)(h:kY k0 (g 0) (g 1) (g 17) (g 18) w):dM pg Ao (bI (aN 2 zH)) Q g w:=by
 refine EN (λg:Env=>g 18) (λX t w=>qQ (λ_ _ _ c8 w=>X c8 w) k0 (g 0) (g 1) (g 17) t w) h (λX g1 w1 ha hL=> ?_)
 rw[<-eZ 0 ha,<-eZ 1 ha,<-eZ 17 ha]at hL
 exact(DT [(0,(Mq0 k0))] (kr:=no) (Ch (λ_ _ _ c8 w=>X c8 w) 0 1 17 18) hL dE Jx ⟨h0,trivial⟩)
def BO(kn:K4)(R:K1) w_0 x_1 n_2 w:=
 aA pg (aE .eql 176 (.tmp 7) (.const (.pointer none)) w_0 (.pointer none)) w λb8 w=>
 Gd (bG b8 false) (λK=>K n_2 w) w λc0 w=>
 Gd (bG b8 false) (λK=>aA pg (aE .lss 3 aM aM c0 (aLY 1)) w K) w λc1 w=>
 aA pg (cG b8 (.bool true) c1) w λc2 w=>
 Gd (bG c2 false) (λK=>K n_2 w) w λc4 w=>
 Gd (bG c2 false) (λK=>aA pg (aE .gtr 3 aM aM c4 (aLY 8)) w K) w λc5 w=>
 aA pg (cG c2 (.bool true) c5) w λc6 w=>
 cP c6
  (R (.tuple #[]) w)
  (kn w_0 x_1 n_2 (aLY 0) w)
def BP(kn:K0)(R:K1) w_0 x_1 n_2 w:=
 BO (kY kn) R w_0 x_1 n_2 w
def Fg a0 a1 a2 w(R:K1):=
 BP (λw=>R (.tuple #[]) w) R a0 a1 a2 w
theorem JF{a0 a1 a2 w R}(h:Fg a0 a1 a2 w R):aG pg gQ #[a0,a1,a2] w R:=
 jF (ann:=Ao) Tryz.f100 zH [a0,a1,a2] Mx 37 TryzM.mixed Tryz.func100 (dN 2 (Ui (Ch (kY (λw=>R (.tuple #[]) w)) 0 1 17 18) h (λg w h=>aJ (A7 0 (HU _ g w (λw=>R (.tuple #[]) w) dE h))) dE))
def axE:FA:=⟨V2,λi=> .leaf ([],[]) []⟩
def aBX:List ResultVar:=[.tmp 2]
noncomputable def asJ:Code:=bA Tryz.f101
def amZ(R:K1) DM w:=
 aG pg YK #[] w λb4 w=>
 aG pg DG #[b4,DM] w λb7 w=>
 aG pg HB #[b4] w λb9 w=>
 R b9 w
def aCQ a0 w(R:K1):=
 amZ R a0 w
theorem asO{a0 w R}(h:aCQ a0 w R):aG pg V2 #[a0] w R:=
 jF (ann:=axE) Tryz.f101 asJ [a0] aBX 10 TryzM.mixed Tryz.func101 (jP h dE)
def Pp:FA:=⟨lK,λi=> .leaf ([],[]) []⟩
def Sy:List ResultVar:=[.tmp 2]
noncomputable def Nb:Code:=bA Tryz.f102
def Fh(R:K1) w_0 w:=
 aA pg (aE .eql 176 (.tmp 3) (.const (.pointer none)) w_0 (.pointer none)) w λb4 w=>
 cP b4
  (R (.slice none 0 0) w)
  (aA pg (cL w_0) w λb6 w=>
  aA pg (aD 200 b6 0) w λb7 w=>
  aA pg (aB 22 b7) w λb8 w=>
  aG pg fL #[b8] w λb9 w=>
  R b9 w)
def JS a0 w(R:K1):=
 Fh R a0 w
theorem Nk{a0 w R}(h:JS a0 w R):aG pg lK #[a0] w R:=
 jF (ann:=Pp) Tryz.f102 Nb [a0] Sy 10 TryzM.mixed Tryz.func102 (jP h dE)
def fN:FA:=⟨yU,λi=>match Nat.beq i 10 with|true=> .leaf ([9,20,23],[(2,9),(2,20),(3,9),(3,20),(4,9),(4,20),(9,12),(9,13),(9,14),(9,17),(9,18),(9,19),(10,20),(12,20),(13,20),(14,20),(15,20)]) (fz 9 (ft [4,5,6] (fz 2 (fu [2] (fu [3] (fu [4] (fz 2 (fu [7] (fu [8] (fu [9] (ft [4,5,6,7,9,15,16,17] (fz 2 (ft [] [])))))))))))))|false=>match Nat.beq i 15 with|true=> .leaf ([],[]) (fz 6 [])|false=>match Nat.beq i 16 with|true=> .leaf ([3],[(0,3),(1,3),(3,6),(3,7),(3,8),(3,10),(3,11),(3,12),(3,13),(3,14),(3,17),(3,18),(3,21),(3,22)]) (fz 3 (ft [1,2] (fz 2 (fu [2] (fu [3] (fu [4] (fz 1 (fu [6] (fu [7] (fu [8] (fu [9] (fu [10] (fz 2 (fu [13] (fu [14] (fz 2 (fu [17] (fu [18] (fz 2 [])))))))))))))))))))|false=>match Nat.beq i 17 with|true=> .leaf ([1],[(1,3),(1,4),(1,5),(1,7),(1,8),(1,9),(1,10),(1,11),(1,12),(1,13),(1,14),(1,15),(1,16)]) (fz 1 (ft [] (fz 1 (fu [1] (fu [2] (fu [3] (fz 1 (fu [5] (fu [6] (fu [7] (fu [8] (fu [9] (fu [10] (fu [11] (fu [12] (fu [13] (fu [14] (fz 2 []))))))))))))))))))|false=>match Nat.beq i 18 with|true=> .leaf ([2],[]) (fz 2 (ft [] []))|false=>match Nat.beq i 25 with|true=> .leaf ([8],[]) (fz 8 (ft [] []))|false=> .leaf ([],[]) []⟩
def Yn:List ResultVar:=[.cell 4 182]
noncomputable def eU:Code:=bA Tryz.f103
def CW(R:K1) b4 Ht w:=
 aA pg (aB 182 Ht) w λs5 w=>
 aA pg (aF 182 b4 s5) w λ_u w=>
 kD pg 182 b4 w λr0=>R r0 w
def CX(kn:K4)(k6:K2) tQ b4 Ht q3 w:=
 aA pg (aE .lss 3 aM aM q3 (aLY 8)) w λq4 w=>
 cP q4
  ((dr w)=(dr w)/\
  aA pg (aR 182 Ht q3) (dr w) λq7 w_=>w_=(dr w)/\
  aA pg (aB 27 q7) (dr w) λq8 w_=>w_=(dr w)/\
  (dr w)=(dr w)/\
  aA pg (aR 182 tQ q3) (dr w) λs0 w_=>w_=(dr w)/\
  aA pg (aB 27 s0) (dr w) λs1 w_=>w_=(dr w)/\
  aA pg (aE .add 27 aM aM q8 s1) (dr w) λs2 w_=>w_=(dr w)/\
  aA pg (aR 182 Ht q3) (dr w) λs3 w_=>w_=(dr w)/\
  aA pg (aF 27 s3 s2) (dr w) λ_u8 aIe=>
  aA pg (aE .add 3 aM aM q3 (aLY 1)) aIe λs4 w=>
  kn tQ b4 Ht s4 w)
  (k6 b4 Ht w)
def vV(k6:K2) tQ b4 Ht q3 w:=
 bM (λ(X:aLX->K0) (t:aLX) (w:aLW)=>CX (λ_ _ _ q3 w=>X q3 w) k6 tQ b4 Ht t w) q3 w
theorem SK(k6:K2)(h6:E2 Q k6 6 4 9)(h:vV k6 (g 2) (g 4) (g 9) (g 123) w):dM pg fN (bI (aN 1 (bK 1 (aN 1 (aN 1 (aN 1 (aN 1 (aN 2 eU)))))))) Q g w:=by
 refine EN (λg:Env=>g 123) (λX t w=>CX (λ_ _ _ q3 w=>X q3 w) k6 (g 2) (g 4) (g 9) t w) h (λX g1 w1 ha hL=> ?_)
 rw[<-eZ 2 ha,<-eZ 4 ha,<-eZ 9 ha]at hL
 exact(DT [(6,(Qq k6 4 9))] (kr:=no) (Ch (λ_ _ _ q3 w=>X q3 w) 2 4 9 123) hL dE Jx ⟨h6,trivial⟩)
def Kf(kn:K4) tQ b4 Ht w:=
 kn tQ b4 Ht (aLY 0) w
def CY(kn:K2) tQ b4 Ht w:=
 Kf (vV kn) tQ b4 Ht w
def CZ(R:K1) tQ b4 Ht w:=
 CY (CW R) tQ b4 Ht w
theorem SL(kn:K2)(hn:N2 Q kn 4 9)(h:CY kn (g 2) (g 4) (g 9) w):dM pg fN (bK 1 (aN 1 (aN 1 (aN 1 (aN 1 (aN 2 eU)))))) Q g w:=
 dN 1 (iK (Ch (vV kn) 2 4 9 123) h (λg w h=>aJ (A7 6 (SK _ g w kn hn h))))
def C0 (kn:K5)(k4:K3) tQ b4 Gq Ht j1 w:=
 aA pg (aE .lss 3 aM aM j1 (aLY 64)) w λj2 w=>
 cP j2
  (aA pg (aR 182 Ht (aLY 0)) (dr w) λj4 w_=>w_=(dr w)/\
  aA pg (aB 27 j4) (dr w) λj5 w_=>w_=(dr w)/\
  aA pg (aR 182 Ht (aLY 4)) (dr w) λj6 w_=>w_=(dr w)/\
  aA pg (aB 27 j6) (dr w) λj7 w_=>w_=(dr w)/\
  (dr w)=(dr w)/\
  (dr w)=(dr w)/\
  aA pg (aR 182 Ht (aLY 7)) (dr (dr w)) λj8 w_=>w_=(dr (dr w))/\
  aA pg (aB 27 j8) (dr (dr w)) λj9 w_=>w_=(dr (dr w))/\
  (dr (dr w))=(dr (dr w))/\
  aG pg Cd #[j7,(aLY 6),(aLY 11),(aLY 25)] (dr (dr w)) λl1 eB=>
  (aO pg (aB 27 j8) j9 eB/\aO pg (aR 182 Ht (aLY 7)) j8 eB/\True)/\
  aA pg (aE .add 27 aM aM j9 l1) eB λl2 w_=>w_=eB/\
  eB=eB/\
  aA pg (aR 182 Ht (aLY 5)) eB λl4 w_=>w_=eB/\
  (aO pg (aR 182 Ht (aLY 5)) l4 (dr (dr w))/\True)/\
  aA pg (aB 27 l4) eB λl5 w_=>w_=eB/\
  (aO pg (aB 27 l4) l5 (dr (dr w))/\True)/\
  aA pg (aE .and 27 aM aM j7 l5) eB λl6 w_=>w_=eB/\
  (aO pg (aE .and 27 aM aM j7 l5) l6 (dr (dr w))/\True)/\
  eB=eB/\
  aA pg (GI .xor j7) eB λl8 w_=>w_=eB/\
  (aO pg (GI .xor j7) l8 (dr (dr w))/\True)/\
  aA pg (aR 182 Ht (aLY 6)) eB λl9 w_=>w_=eB/\
  (aO pg (aR 182 Ht (aLY 6)) l9 (dr (dr w))/\True)/\
  aA pg (aB 27 l9) eB λm0 w_=>w_=eB/\
  (aO pg (aB 27 l9) m0 (dr (dr w))/\True)/\
  aA pg (aE .and 27 aM aM l8 m0) eB λm1 w_=>w_=eB/\
  (aO pg (aE .and 27 aM aM l8 m0) m1 (dr (dr w))/\True)/\
  aA pg (aE .xor 27 aM aM l6 m1) eB λm2 w_=>w_=eB/\
  (aO pg (aE .xor 27 aM aM l6 m1) m2 (dr (dr w))/\True)/\
  aA pg (aE .add 27 aM aM l2 m2) eB λm3 w_=>w_=eB/\
  eB=eB/\
  aA pg (aR 204 (.pointer (some ⟨0,0,none⟩)) j1) eB λm5 w_=>w_=eB/\
  (aO pg (aR 204 (.pointer (some ⟨0,0,none⟩)) j1) m5 (dr (dr w))/\True)/\
  aA pg (aB 27 m5) eB λm6 w_=>w_=eB/\
  (aO pg (aB 27 m5) m6 (dr (dr w))/\True)/\
  aA pg (aE .add 27 aM aM m3 m6) eB λm7 w_=>w_=eB/\
  eB=eB/\
  aA pg (aR 204 Gq j1) eB λm9 w_=>w_=eB/\
  (aO pg (aR 204 Gq j1) m9 (dr (dr w))/\True)/\
  aA pg (aB 27 m9) eB λn0 w_=>w_=eB/\
  (aO pg (aB 27 m9) n0 (dr (dr w))/\True)/\
  aA pg (aE .add 27 aM aM m7 n0) eB λn1 w_=>w_=eB/\
  eB=eB/\
  (dr eB)=(dr eB)/\
  aG pg Cd #[j5,(aLY 2),(aLY 13),(aLY 22)] (dr eB) λn3 jJ=>
  jJ=jJ/\
  aA pg (aR 182 Ht (aLY 1)) jJ λn5 w_=>w_=jJ/\
  (aO pg (aR 182 Ht (aLY 1)) n5 (dr eB)/\True)/\
  aA pg (aB 27 n5) jJ λn6 w_=>w_=jJ/\
  (aO pg (aB 27 n5) n6 (dr eB)/\True)/\
  aA pg (aE .and 27 aM aM j5 n6) jJ λn7 w_=>w_=jJ/\
  (aO pg (aE .and 27 aM aM j5 n6) n7 (dr eB)/\True)/\
  jJ=jJ/\
  aA pg (aR 182 Ht (aLY 2)) jJ λn9 w_=>w_=jJ/\
  (aO pg (aR 182 Ht (aLY 2)) n9 (dr eB)/\True)/\
  aA pg (aB 27 n9) jJ λo0 w_=>w_=jJ/\
  (aO pg (aB 27 n9) o0 (dr eB)/\True)/\
  aA pg (aE .and 27 aM aM j5 o0) jJ λo1 w_=>w_=jJ/\
  (aO pg (aE .and 27 aM aM j5 o0) o1 (dr eB)/\True)/\
  aA pg (aE .xor 27 aM aM n7 o1) jJ λo2 w_=>w_=jJ/\
  (aO pg (aE .xor 27 aM aM n7 o1) o2 (dr eB)/\True)/\
  aA pg (aR 182 Ht (aLY 1)) jJ λo3 w_=>w_=jJ/\
  (aO pg (aR 182 Ht (aLY 1)) o3 (dr eB)/\True)/\
  aA pg (aB 27 o3) jJ λo4 w_=>w_=jJ/\
  (aO pg (aB 27 o3) o4 (dr eB)/\True)/\
  aA pg (aR 182 Ht (aLY 2)) jJ λo5 w_=>w_=jJ/\
  (aO pg (aR 182 Ht (aLY 2)) o5 (dr eB)/\True)/\
  aA pg (aB 27 o5) jJ λo6 w_=>w_=jJ/\
  (aO pg (aB 27 o5) o6 (dr eB)/\True)/\
  aA pg (aE .and 27 aM aM o4 o6) jJ λo7 w_=>w_=jJ/\
  (aO pg (aE .and 27 aM aM o4 o6) o7 (dr eB)/\True)/\
  aA pg (aE .xor 27 aM aM o2 o7) jJ λo8 w_=>w_=jJ/\
  (aO pg (aE .xor 27 aM aM o2 o7) o8 (dr eB)/\True)/\
  aA pg (aE .add 27 aM aM n3 o8) jJ λo9 w_=>w_=jJ/\
  jJ=jJ/\
  aA pg (dG 182 Ht (some (aLY 1)) none none) (dr jJ) λp0 w_=>w_=(dr jJ)/\
  aA pg (dG 182 Ht none (some (aLY 7)) none) (dr jJ) λp1 w_=>w_=(dr jJ)/\
  aA pg (eI .copy #[206,206] 3 [p0,p1]) (dr jJ) λp2 aId=>
  aA pg (aR 182 Ht (aLY 4)) aId λp3 w=>
  aA pg (aB 27 p3) w λp4 w=>
  aA pg (aE .add 27 aM aM p4 n1) w λp6 w=>
  aA pg (aR 182 Ht (aLY 4)) w λp7 w=>
  aA pg (aF 27 p7 p6) w λ_u w=>
  aA pg (aE .add 27 aM aM n1 o9) w λq0 w=>
  aA pg (aR 182 Ht (aLY 0)) w λq1 w=>
  aA pg (aF 27 q1 q0) w λ_u w=>
  aA pg (aE .add 3 aM aM j1 (aLY 1)) w λq2 w=>
  kn tQ b4 Gq Ht q2 w)
  (k4 tQ b4 Ht w)
def vW(k4:K3) tQ b4 Gq Ht j1 w:=
 bM (λ(X:aLX->K0) (t:aLX) (w:aLW)=>C0 (λ_ _ _ _ j1 w=>X j1 w) k4 tQ b4 Gq Ht t w) j1 w
theorem SM(k4:K3)(h4:E3 Q k4 4 2 4 9)(h:vW k4 (g 2) (g 4) (g 5) (g 9) (g 61) w):dM pg fN (bI (aN 1 (bK 1 (aN 1 (aN 1 (aN 1 (aN 2 eU))))))) Q g w:=by
 refine EN (λg:Env=>g 61) (λX t w=>C0 (λ_ _ _ _ j1 w=>X j1 w) k4 (g 2) (g 4) (g 5) (g 9) t w) h (λX g1 w1 ha hL=> ?_)
 rw[<-eZ 2 ha,<-eZ 4 ha,<-eZ 5 ha,<-eZ 9 ha]at hL
 exact(DT [(4,(Gu k4 2 4 9))] (kr:=no) (YG (λ_ _ _ _ j1 w=>X j1 w) 2 4 5 9 61) hL dE Jx ⟨h4,trivial⟩)
def I2 (kn:K5) tQ b4 Gq Ht w:=
 kn tQ b4 Gq Ht (aLY 0) w
def Bu(kn:K3) tQ b4 Gq Ht w:=
 I2 (vW kn) tQ b4 Gq Ht w
def Bv(R:K1) tQ b4 Gq Ht w:=
 Bu (CZ R) tQ b4 Gq Ht w
theorem Qc(kn:K3)(hn:N3 Q kn 2 4 9)(h:Bu kn (g 2) (g 4) (g 5) (g 9) w):dM pg fN (bK 1 (aN 1 (aN 1 (aN 1 (aN 2 eU))))) Q g w:=
 dN 1 (iK (YG (vW kn) 2 4 5 9 61) h (λg w h=>aJ (A7 4 (SM _ g w kn hn h))))
def I3 (kn:K4) tQ b4 Gq w:=
 aA pg (aB 182 tQ) w λj0 w=>
 aA pg (bE 182) w λHt w=>
 aA pg (aF 182 Ht j0) w λ_u w=>
 kn tQ b4 Gq Ht w
def Bw(R:K1) tQ b4 Gq w:=
 I3 (Bv R) tQ b4 Gq w
def Bx(kn:K4)(k2:K3) tQ b4 Gq b8 w:=
 aA pg (aE .lss 3 aM aM b8 (aLY 64)) w λe4 w=>
 cP e4
  ((dr w)=(dr w)/\
  (dr w)=(dr w)/\
  aA pg (aE .sub 3 aM aM b8 (aLY 16)) (dr w) λe9 w_=>w_=(dr w)/\
  aA pg (aR 204 Gq e9) (dr w) λf0 w_=>w_=(dr w)/\
  aA pg (aB 27 f0) (dr w) λf1 w_=>w_=(dr w)/\
  (dr w)=(dr w)/\
  aA pg (aE .sub 3 aM aM b8 (aLY 15)) (dr w) λf3 w_=>w_=(dr w)/\
  aA pg (aR 204 Gq f3) (dr w) λf4 w_=>w_=(dr w)/\
  aA pg (aB 27 f4) (dr w) λf5 w_=>w_=(dr w)/\
  aG pg HC #[f5,(aLY 7),(aLY 18),(aLY 3)] (dr w) λf6 vY=>
  (aO pg (aB 27 f0) f1 vY/\aO pg (aR 204 Gq e9) f0 vY/\aO pg (aE .sub 3 aM aM b8 (aLY 16)) e9 vY/\True)/\
  aA pg (aE .add 27 aM aM f1 f6) vY λf7 w_=>w_=vY/\
  vY=vY/\
  aA pg (aE .sub 3 aM aM b8 (aLY 7)) vY λf9 w_=>w_=vY/\
  (aO pg (aE .sub 3 aM aM b8 (aLY 7)) f9 (dr w)/\True)/\
  aA pg (aR 204 Gq f9) vY λi0 w_=>w_=vY/\
  (aO pg (aR 204 Gq f9) i0 (dr w)/\True)/\
  aA pg (aB 27 i0) vY λi1 w_=>w_=vY/\
  (aO pg (aB 27 i0) i1 (dr w)/\True)/\
  aA pg (aE .add 27 aM aM f7 i1) vY λi2 w_=>w_=vY/\
  vY=vY/\
  aA pg (aE .sub 3 aM aM b8 (aLY 2)) vY λi4 w_=>w_=vY/\
  (aO pg (aE .sub 3 aM aM b8 (aLY 2)) i4 (dr w)/\True)/\
  aA pg (aR 204 Gq i4) vY λi5 w_=>w_=vY/\
  (aO pg (aR 204 Gq i4) i5 (dr w)/\True)/\
  aA pg (aB 27 i5) vY λi6 w_=>w_=vY/\
  (aO pg (aB 27 i5) i6 (dr w)/\True)/\
  aG pg HC #[i6,(aLY 17),(aLY 19),(aLY 10)] vY λi7 Ev=>
  (aO pg (aE .add 27 aM aM f7 i1) i2 Ev/\aO pg (aB 27 i0) i1 Ev/\aO pg (aR 204 Gq f9) i0 Ev/\aO pg (aE .sub 3 aM aM b8 (aLY 7)) f9 Ev/\aO pg (aE .add 27 aM aM f1 f6) f7 Ev/\aO pg (aB 27 f0) f1 Ev/\aO pg (aR 204 Gq e9) f0 Ev/\aO pg (aE .sub 3 aM aM b8 (aLY 16)) e9 Ev/\True)/\
  aA pg (aE .add 27 aM aM i2 i7) Ev λi8 w_=>w_=Ev/\
  aA pg (aR 204 Gq b8) Ev λi9 w_=>w_=Ev/\
  aA pg (aF 27 i9 i8) Ev λ_u23 aHl=>
  aA pg (aE .add 3 aM aM b8 (aLY 1)) aHl λe6 w=>
  kn tQ b4 Gq e6 w)
  (k2 tQ b4 Gq w)
def tM(k2:K3) tQ b4 Gq b8 w:=
 bM (λ(X:aLX->K0) (t:aLX) (w:aLW)=>Bx (λ_ _ _ b8 w=>X b8 w) k2 tQ b4 Gq t w) b8 w
theorem Qd(k2:K3)(h2:E3 Q k2 2 2 4 5)(h:tM k2 (g 2) (g 4) (g 5) (g 8) w):dM pg fN (bI (aN 1 (bK 1 (aN 1 (aN 2 eU))))) Q g w:=by
 refine EN (λg:Env=>g 8) (λX t w=>Bx (λ_ _ _ b8 w=>X b8 w) k2 (g 2) (g 4) (g 5) t w) h (λX g1 w1 ha hL=> ?_)
 rw[<-eZ 2 ha,<-eZ 4 ha,<-eZ 5 ha]at hL
 exact(DT [(2,(Gu k2 2 4 5))] (kr:=no) (Ch (λ_ _ _ b8 w=>X b8 w) 2 4 5 8) hL dE Jx ⟨h2,trivial⟩)
def I4 (kn:K4) tQ b4 Gq w:=
 kn tQ b4 Gq (aLY 16) w
def By(kn:K3) tQ b4 Gq w:=
 I4 (tM kn) tQ b4 Gq w
def Bz(R:K1) tQ b4 Gq w:=
 By (Bw R) tQ b4 Gq w
theorem Qe(kn:K3)(hn:N3 Q kn 2 4 5)(h:By kn (g 2) (g 4) (g 5) w):dM pg fN (bK 1 (aN 1 (aN 2 eU))) Q g w:=
 dN 1 (iK (Ch (tM kn) 2 4 5 8) h (λg w h=>aJ (A7 2 (Qd _ g w kn hn h))))
def BA(kn:K5)(k0:K3) tQ b4 Gq c6 c7 w:=
 aA pg (aE .lss 3 aM aM c7 (aLY 64)) w λc8 w=>
 cP c8
  (aA pg (VL 183 c6 c7) w λd0 w=>
  aA pg (aE .quo 3 aM aM c7 (aLY 4)) w λd2 w=>
  aA pg (aE .quo 3 aM aM c7 (aLY 4)) w λd4 w=>
  aA pg (aR 204 Gq d4) w λd5 w=>
  aA pg (aB 27 d5) w λd6 w=>
  aA pg (aE .shl 27 aM aM d6 (.int .u64 8)) w λd7 w=>
  aA pg (cJ 5 27 d0) w λd9 w=>
  aA pg (aE .or 27 aM aM d7 d9) w λe0 w=>
  aA pg (aR 204 Gq d2) w λe1 w=>
  aA pg (aF 27 e1 e0) w λ_u w=>
  aA pg (aE .add 3 aM aM c7 (aLY 1)) w λe2 w=>
  kn tQ b4 Gq c6 e2 w)
  (k0 tQ b4 Gq w)
def tN(k0:K3) tQ b4 Gq c6 c7 w:=
 bM (λ(X:aLX->K0) (t:aLX) (w:aLW)=>BA (λ_ _ _ _ c7 w=>X c7 w) k0 tQ b4 Gq c6 t w) c7 w
theorem Qf(k0:K3)(h0:E3 Q k0 0 2 4 5)(h:tN k0 (g 2) (g 4) (g 5) (g 16) (g 17) w):dM pg fN (bI (aN 1 (bK 1 (aN 2 eU)))) Q g w:=by
 refine EN (λg:Env=>g 17) (λX t w=>BA (λ_ _ _ _ c7 w=>X c7 w) k0 (g 2) (g 4) (g 5) (g 16) t w) h (λX g1 w1 ha hL=> ?_)
 rw[<-eZ 2 ha,<-eZ 4 ha,<-eZ 5 ha,<-eZ 16 ha]at hL
 exact(DT [(0,(Gu k0 2 4 5))] (kr:=no) (YG (λ_ _ _ _ c7 w=>X c7 w) 2 4 5 16 17) hL dE Jx ⟨h0,trivial⟩)
def I5 (kn:K5) tQ iZ b4 Gq w:=
 aA pg (aB 183 iZ) w λc6 w=>
 kn tQ b4 Gq c6 (aLY 0) w
def BB(kn:K3) tQ iZ b4 Gq w:=
 I5 (tN kn) tQ iZ b4 Gq w
def BC(R:K1) tQ iZ b4 Gq w:=
 BB (Bz R) tQ iZ b4 Gq w
theorem Qg(kn:K3)(hn:N3 Q kn 2 4 5)(h:BB kn (g 2) (g 3) (g 4) (g 5) w):dM pg fN (bK 1 (aN 2 eU)) Q g w:=
 dN 1 (iK (YG (tN kn) 2 4 5 16 17) h (λg w h=>aJ (A7 0 (Qf _ g w kn hn h))))
def I6 (kn:K4) eY yM w:=
 aA pg (iX 182 eY) w λtQ w=>
 aA pg (iX 183 yM) w λiZ w=>
 aA pg (bE 182) w λb4 w=>
 aA pg (bE 204) w λGq w=>
 kn tQ iZ b4 Gq w
def I7 (R:K1) eY yM w:=
 I6 (BC R) eY yM w
def SJ a0 a1 w(R:K1):=
 I7 R a0 a1 w
theorem Ua{a0 a1 w R}(h:SJ a0 a1 w R):aG pg yU #[a0,a1] w R:=
 jF (ann:=fN) Tryz.f103 eU [a0,a1] Yn 136 TryzM.mixed Tryz.func103 (dN 2 (iK (Ch (BC R) 2 3 4 5) h (λg w h=>aJ (dN 1 (Qg _ g w (Bz R) (λg w h=>aJ (dN 1 (Qe _ g w (Bw R) (λg w h=>aJ (dN 1 (iK (Ch (Bv R) 2 4 5 9) h (λg w h=>aJ (dN 1 (Qc _ g w (CZ R) (λg w h=>aJ (dN 1 (SL _ g w (CW R) (λg w h=>aJ (jP h dE)) h))) h)))))) h))) h)))))
def agE:FA:=⟨GP,λi=> .leaf ([],[]) []⟩
def amF:List ResultVar:=[.cell 4 158,.tmp 5]
noncomputable def acI:Code:=bA Tryz.f104
def Uw(R:K1) V0 D3 w:=
 aA pg (iX 158 V0) w λNy w=>
 aA pg (bE 158) w λb4 w=>
 aA pg (aD 158 Ny 1) w λb7 w=>
 aA pg (aB 31 b7) w λb8 w=>
 aA pg (aE .neq 31 (.tmp 8) (.const (aLY 0)) b8 (aLY 0)) w λb9 w=>
 cP b9
  (aA pg (aB 158 Ny) w λc0 w=>
  aA pg (aF 158 b4 c0) w λ_u w=>
  kD pg 158 b4 w λr0=>R (.tuple #[r0,(.string ⟨#[]⟩)]) w)
  (aA pg (aE .lss 3 aM aM D3 (aLY 0)) w λc2 w=>
  cP c2
   (aA pg (aD 158 Ny 1) w λc3 w=>
   aA pg (aF 31 c3 (aLY 1)) w λ_u w=>
   aA pg (aB 158 Ny) w λc4 w=>
   aA pg (aF 158 b4 c4) w λ_u w=>
   kD pg 158 b4 w λr0=>R (.tuple #[r0,(.string ⟨#[]⟩)]) w)
   (aA pg (aD 158 Ny 0) w λc6 w=>
   aA pg (aB 9 c6) w λc7 w=>
   aA pg (eI .len #[9] 3 [c7]) w λc8 w=>
   aA pg (aE .gtr 3 aM aM D3 c8) w λc9 w=>
   cP c9
    (aA pg (aD 158 Ny 1) w λd0 w=>
    aA pg (aF 31 d0 (aLY 10)) w λ_u w=>
    aA pg (aB 158 Ny) w λd1 w=>
    aA pg (aF 158 b4 d1) w λ_u w=>
    kD pg 158 b4 w λr0=>R (.tuple #[r0,(.string ⟨#[]⟩)]) w)
    (aA pg (aD 158 Ny 0) w λd2 w=>
    aA pg (aB 9 d2) w λd3 w=>
    aA pg (dG 9 d3 none (some D3) none) w λd5 w=>
    aA pg (aD 158 Ny 0) w λd6 w=>
    aA pg (aB 9 d6) w λd7 w=>
    aA pg (dG 9 d7 (some D3) none none) w λd9 w=>
    aA pg (aD 158 Ny 0) w λe0 w=>
    aA pg (aF 9 e0 d9) w λ_u w=>
    aA pg (aB 158 Ny) w λe1 w=>
    aA pg (aF 158 b4 e1) w λ_u w=>
    kD pg 158 b4 w λr0=>R (.tuple #[r0,d5]) w)))
def aiE a0 a1 w(R:K1):=
 Uw R a0 a1 w
theorem adC{a0 a1 w R}(h:aiE a0 a1 w R):aG pg GP #[a0,a1] w R:=
 jF (ann:=agE) Tryz.f104 acI [a0,a1] amF 33 TryzM.mixed Tryz.func104 (jP h dE)
def Ku:FA:=⟨BF,λi=> .leaf ([],[]) []⟩
def aqQ:List ResultVar:=[.tmp 4]
noncomputable def HN:Code:=bA Tryz.f105
def NB(R:K1) bT w:=
 aA pg (cJ 22 9 bT) w λd3 w=>
 R d3 w
def G6 (kn:K4)(k0:K1) zK D3 bT nN w:=
 aA pg (aE .lss 3 aM aM nN D3) w λc1 w=>
 cP c1
  (aA pg (aE .rem 26 aM aM zK (.int .u64 256)) w λc6 w=>
  aA pg (cJ 26 5 c6) w λc7 w=>
  aA pg (bB 22 1 [(0,c7)]) w λc8 w=>
  aA pg (eI .append #[22,22] 22 [bT,c8]) w λc9 w=>
  aA pg (aE .quo 26 aM aM zK (.int .u64 256)) w λd1 w=>
  aA pg (aE .add 3 aM aM nN (aLY 1)) w λc3 w=>
  kn d1 D3 c9 c3 w)
  (k0 bT w)
def G7 (k0:K1) zK D3 bT nN w:=
 bM (λ(X:(aLX×aLX×aLX)->K0) (t:aLX×aLX×aLX) (w:aLW)=>G6 (λzK _ bT nN w=>X (zK,bT,nN) w) k0 t.1 D3 t.2.1 t.2.2 w) (zK,bT,nN) w
theorem adA(k0:K1)(h0:E1 Q k0 0 5)(h:G7 k0 (g 0) (g 1) (g 5) (g 6) w):dM pg Ku (bI (aN 1 (bK 1 (aN 3 HN)))) Q g w:=by
 refine EN (λg:Env=>(g 0,g 5,g 6)) (λX t w=>G6 (λzK _ bT nN w=>X (zK,bT,nN) w) k0 t.1 (g 1) t.2.1 t.2.2 w) h (λX g1 w1 ha hL=> ?_)
 rw[<-eZ 1 ha]at hL
 exact(DT [(0,(Mq1 k0 5))] (kr:=no) (Ch (λzK _ bT nN w=>X (zK,bT,nN) w) 0 1 5 6) hL dE Jx ⟨h0,trivial⟩)
def Xg(kn:K4) zK D3 bT w:=
 kn zK D3 bT (aLY 0) w
def NC(kn:K1) zK D3 bT w:=
 Xg (G7 kn) zK D3 bT w
def ND(R:K1) zK D3 bT w:=
 NC (NB R) zK D3 bT w
theorem adB(kn:K1)(hn:N1 Q kn 5)(h:NC kn (g 0) (g 1) (g 5) w):dM pg Ku (bK 1 (aN 3 HN)) Q g w:=
 dN 1 (iK (Ch (G7 kn) 0 1 5 6) h (λg w h=>aJ (A7 0 (adA _ g w kn hn h))))
def Xh(kn:K3)(R:K1) zK D3 w:=
 aA pg (aE .gtr 3 aM aM D3 (aLY 8)) w λb8 w=>
 cP b8
  (R (.string ⟨#[]⟩) w)
  (kn zK D3 (.slice none 0 0) w)
def Xi(R:K1) zK D3 w:=
 Xh (ND R) R zK D3 w
def anX a0 a1 w(R:K1):=
 Xi R a0 a1 w
theorem aiD{a0 a1 w R}(h:anX a0 a1 w R):aG pg BF #[a0,a1] w R:=
 jF (ann:=Ku) Tryz.f105 HN [a0,a1] aqQ 24 TryzM.mixed Tryz.func105 (dN 3 (Ui (Gu (ND R) 0 1 5) h (λg w h=>aJ (dN 1 (adB _ g w (NB R) (λg w h=>aJ (jP h dE)) h))) dE))
def Cn:FA:=⟨M1,λi=> .leaf ([],[]) []⟩
def avI:List ResultVar:=[.tmp 2]
noncomputable def Aq:Code:=bA Tryz.f106
def R1 (R:K1) oM w:=
 aA pg (aE .xor 27 aM aM oM (.int .u32 4294967295)) w λe2 w=>
 R e2 w
def R2 (kn:K3) eY oM uS w:=
 aA pg (aE .add 3 aM aM uS (aLY 1)) w λc2 w=>
 kn eY oM c2 w
def R3 (kn:K4) eY oM uS k_5 w:=
 aA pg (aE .add 3 aM aM k_5 (aLY 1)) w λd2 w=>
 kn eY oM uS d2 w
def abD(kn:K4)(k2:K3) eY oM uS k_5 w:=
 aA pg (aE .lss 3 aM aM k_5 (aLY 8)) w λd0 w=>
 cP d0
  (aA pg (aE .rem 27 aM aM oM (.int .u32 2)) w λd4 w=>
  aA pg (aE .eql 27 (.tmp 24) (.const (.int .u32 1)) d4 (.int .u32 1)) w λd5 w=>
  aA pg (aE .quo 27 aM aM oM (.int .u32 2)) w λd7 w=>
  cP d5
   (aA pg (aE .xor 27 aM aM d7 (.int .u32 2197175160)) w λe0 w=>
   kn eY e0 uS k_5 w)
   (kn eY d7 uS k_5 w))
  (k2 eY oM uS w)
def R4 (kn:K4)(k2:K3) eY oM uS k_5 w:=
 abD (R3 kn) k2 eY oM uS k_5 w
def J6 (k2:K3) eY oM uS k_5 w:=
 bM (λ(X:(aLX×aLX)->K0) (t:aLX×aLX) (w:aLW)=>R4 (λ_ oM _ k_5 w=>X (oM,k_5) w) k2 eY t.1 uS t.2 w) (oM,k_5) w
theorem aiH(k2:K3)(h2:E3 Q k2 2 0 3 4)(h:J6 k2 (g 0) (g 3) (g 4) (g 5) w):dM pg Cn (bI (aN 2 (bI (bK 1 (aN 1 (bI (bI (aN 1 (bK 1 (aN 2 Aq)))))))))) Q g w:=by
 refine EN (λg:Env=>(g 3,g 5)) (λX t w=>R4 (λ_ oM _ k_5 w=>X (oM,k_5) w) k2 (g 0) t.1 (g 4) t.2 w) h (λX g1 w1 ha hL=> ?_)
 rw[<-eZ 0 ha,<-eZ 4 ha]at hL
 exact(dN 2 (DT [(2,(Gu k2 0 3 4))] (kr:=no) (Ch (R3 (λ_ oM _ k_5 w=>X (oM,k_5) w)) 0 3 4 5) hL (λg w h=>aJ (iK (Ch (λ_ oM _ k_5 w=>X (oM,k_5) w) 0 3 4 5) h dE)) Jx ⟨h2,trivial⟩))
def abE(kn:K4) eY oM uS w:=
 aA pg (VL 9 eY uS) w λc6 w=>
 aA pg (cJ 5 27 c6) w λc7 w=>
 aA pg (aE .xor 27 aM aM oM c7) w λc8 w=>
 kn eY c8 uS (aLY 0) w
def R5 (kn:K3) eY oM uS w:=
 abE (J6 kn) eY oM uS w
def Oc(kn:K3) eY oM uS w:=
 R5 (R2 kn) eY oM uS w
theorem adP(kn:K3)(hn:N3 Q kn 0 3 4)(h:R5 kn (g 0) (g 3) (g 4) w):dM pg Cn (bK 1 (aN 1 (bI (bI (aN 1 (bK 1 (aN 2 Aq))))))) Q g w:=
 A7 1 (dN 2 (iK (Ch (J6 kn) 0 3 4 5) h (λg w h=>aJ (A7 2 (aiH _ g w kn hn h)))))
def Xw(kn:K3)(k0:K1) eY oM uS w:=
 aA pg (eI .len #[9] 3 [eY]) w λb9 w=>
 aA pg (aE .lss 3 aM aM uS b9) w λc0 w=>
 cP c0
  (kn eY oM uS w)
  (k0 oM w)
def Od(kn:K3)(k0:K1) eY oM uS w:=
 Xw (Oc kn) k0 eY oM uS w
def He(k0:K1) eY oM uS w:=
 bM (λ(X:(aLX×aLX)->K0) (t:aLX×aLX) (w:aLW)=>Od (λ_ oM uS w=>X (oM,uS) w) k0 eY t.1 t.2 w) (oM,uS) w
theorem adQ(k0:K1)(h0:E1 Q k0 0 3)(h:He k0 (g 0) (g 3) (g 4) w):dM pg Cn (bI (aN 1 (bK 1 (aN 2 Aq)))) Q g w:=by
 refine EN (λg:Env=>(g 3,g 4)) (λX t w=>Od (λ_ oM uS w=>X (oM,uS) w) k0 (g 0) t.1 t.2 w) h (λX g1 w1 ha hL=> ?_)
 rw[<-eZ 0 ha]at hL
 exact(dN 1 (DT [(0,(Mq1 k0 3))] (kr:=no) (Gu (Oc (λ_ oM uS w=>X (oM,uS) w)) 0 3 4) hL (λg w h=>aJ (dN 1 (adP _ g w (R2 (λ_ oM uS w=>X (oM,uS) w)) (λg w h=>aJ (iK (Gu (λ_ oM uS w=>X (oM,uS) w) 0 3 4) h dE)) h))) Jx ⟨h0,trivial⟩))
def Xx(kn:K3) eY oM w:=
 kn eY oM (aLY 0) w
def Oe(kn:K1) eY oM w:=
 Xx (He kn) eY oM w
def Of(R:K1) eY oM w:=
 Oe (R1 R) eY oM w
theorem adR(kn:K1)(hn:N1 Q kn 3)(h:Oe kn (g 0) (g 3) w):dM pg Cn (bK 1 (aN 2 Aq)) Q g w:=
 dN 1 (iK (Gu (He kn) 0 3 4) h (λg w h=>aJ (A7 0 (adQ _ g w kn hn h))))
def Xy(kn:K2) eY w:=
 kn eY (.int .u32 4294967295) w
def Xz(R:K1) eY w:=
 Xy (Of R) eY w
def avA a0 w(R:K1):=
 Xz R a0 w
theorem alY{a0 w R}(h:avA a0 w R):aG pg M1 #[a0] w R:=
 jF (ann:=Cn) Tryz.f106 Aq [a0] avI 33 TryzM.mixed Tryz.func106 (dN 2 (iK (Qq (Of R) 0 3) h (λg w h=>aJ (dN 1 (adR _ g w (R1 R) (λg w h=>aJ (jP h dE)) h)))))
def dY:FA:=⟨cB,λi=> .leaf ([],[]) []⟩
def Lw:List ResultVar:=[.tmp 4]
noncomputable def aU:Code:=bA Tryz.f107
def iU(kn:K0) tQ v_5 w:=
 aA pg (aB 80 tQ) w λb8 w=>
 aA pg (bB 80 1 [(0,v_5)]) w λc0 w=>
 aA pg (eI .append #[80,80] 80 [b8,c0]) w λc1 w=>
 aA pg (aF 80 tQ c1) w λ_u w=>
 kn w
theorem Er(kn:K0)(hn:N0 Q kn)(h:iU kn (g 2) (g 5) w):dM pg dY (Yb aU) Q g w:=
 iK _ h hn
def mF(kn:K2) tQ b7 w:=
 kn tQ b7 w
theorem Ep(kn:K2)(hn:N2 Q kn 2 5)(h:mF kn (g 2) (g 7) w):dM pg dY (aeI aU) Q g w:=
 iK _ h hn
def zJ(l:Nat)(R:K1)(tQ b7:aLX)(w:aLW):Prop:=
 mF (λtQ v_5 w=>Rdy l w λw=>iU (λw=>afW l none R w) tQ v_5 w) tQ b7 w
theorem Hq{l:Nat}{tmps:Array aLX}{w:aLW}{R:K1}(hsz:tmps.size=13)(h:zJ l R (KG tmps 2) (KG tmps 7) w):aaB pg l cB tmps (aeI aU) (Yb aU) w R:=
 dsR (ann:=dY) 13 TryzM.mixed hsz (Ep (asQ pg dY l (Yb aU) R) (KG tmps) w (λtQ v_5 w=>Rdy l w λw=>iU (afW l none R) tQ v_5 w) (λg w h=>let⟨r,h1,h2,h3⟩:=h;⟨r,h1,h2,(Er (ajG l R) g _ (afW l none R) (λ_ _ h=>h) h3)⟩) h) (by kernel_rfl) (by kernel_rfl) (by kernel_rfl)
def kG(R:K1) tQ t1000003 w:=
 aA pg (aB 80 tQ) w λc2 w=>
 GJ t1000003 w λw=>R c2 w
def kH(kn:K2) tQ b6 t1000003 w:=
 ∀g:Env,g 2=tQ->g 6=b6->g 1000003=t1000003->RF pg cB (.tmp 6) (amC aU) (aeI aU) (Yb aU) (exQ (λg w=>kn (g 2) (g 1000003) w) no []) g w
theorem Ho(kn:K2)(hn:N2 Q kn 2 1000003)(h:kH kn (g 2) (g 6) (g 1000003) w):dM pg dY (bI (aN 1 (bK 1 (aN 1 aU)))) Q g w:=
 exD (kr:=no) (l:=[]) (h g rfl rfl rfl) hn Jx trivial
def AA(kn:K3) Yp tQ t1000003 w:=
 kn tQ Yp t1000003 w
def pR(kn:K2) Yp tQ t1000003 w:=
 AA (kH kn) Yp tQ t1000003 w
def pS(R:K1) Yp tQ t1000003 w:=
 pR (kG R) Yp tQ t1000003 w
theorem Hp(kn:K2)(hn:N2 Q kn 2 1000003)(h:pR kn (g 1) (g 2) (g 1000003) w):dM pg dY (bK 1 (aN 1 aU)) Q g w:=
 dN 1 (iK (Gu (kH kn) 2 6 1000003) h (λg w h=>aJ (A7 0 (Ho _ g w kn hn h))))
def AB(kn:K3) eY Yp t1000003 w:=
 aA pg (iX 80 eY) w λtQ w=>
 kn Yp tQ t1000003 w
def AD(R:K1) eY Yp t1000003 w:=
 AB (pS R) eY Yp t1000003 w
def Ds a0 a1 w(R:K1):=
 AD R a0 a1 undef w
theorem I9 {a0 a1 w R}(h:Ds a0 a1 w R):aG pg cB #[a0,a1] w R:=
 dsF (ann:=dY) Tryz.f107 aU [a0,a1] Lw 13 TryzM.mixed Tryz.func107 (dN 1 (iK (Gu (pS R) 1 2 1000003) h (λg w h=>aJ (dN 1 (Hp _ g w (kG R) (λg w h=>aJ (jP h dE)) h)))))
def jY:FA:=⟨eC,λi=>match Nat.beq i 17 with|true=> .leaf ([12],[]) (fz 12 (ft [] (fz 2 [])))|false=> .leaf ([],[]) []⟩
def kS:List ResultVar:=[]
noncomputable def jR:Code:=bA Tryz.f108
def rV(kn:K6)(k1:K6) cH vZ rP eE bU bJ rD Fq w:=
 (dr w)=(dr w)/\
 aA pg (aE .gtr 3 aM aM vZ (aLY 0)) (dr w) λl4 w_=>w_=(dr w)/\
 (dr w)=(dr w)/\
 Gd (bG l4 true) (λK=>K cH (dr w)) (dr w) λl6 w_=>w_=(dr w)/\
 Gd (bG l4 true) (λK=>K vZ (dr w)) (dr w) λl7 w_=>w_=(dr w)/\
 Gd (bG l4 true) (λK=>aA pg (aE .sub 3 aM aM l7 (aLY 1)) (dr w) K) (dr w) λl8 w_=>w_=(dr w)/\
 Gd (bG l4 true) (λK=>aA pg (aR 80 l6 l8) (dr w) K) (dr w) λl9 w_=>w_=(dr w)/\
 Gd (bG l4 true) (λK=>aA pg (aB 9 l9) (dr w) K) (dr w) λm0 w_=>w_=(dr w)/\
 Gd (bG l4 true) (λK=>K cH (dr w)) (dr w) λm1 w_=>w_=(dr w)/\
 Gd (bG l4 true) (λK=>K Fq (dr w)) (dr w) λm2 w_=>w_=(dr w)/\
 Gd (bG l4 true) (λK=>aA pg (aR 80 m1 m2) (dr w) K) (dr w) λm3 w_=>w_=(dr w)/\
 Gd (bG l4 true) (λK=>aA pg (aB 9 m3) (dr w) K) (dr w) λm4 w_=>w_=(dr w)/\
 Gd (bG l4 true) (λK=>aG pg tR #[m0,m4] (dr w) K) (dr w) λm5 VX=>
 Gd (bG l4 true) (λK=>aA pg (GI .not m5) VX K) VX λm6 w_=>w_=VX/\
 aA pg (cG l4 m6 (.bool false)) VX λm7 w_=>w_=VX/\
 cP m7
  (aG pg Al #[cH,vZ,rP,Fq] VX λn2 w=>
  k1 cH n2 rP eE bU bJ w)
  (aG pg DJ #[cH,vZ,rP,Fq] VX λn9 w=>
  aA pg (aP n9 0) w λo0 w=>
  aA pg (aP n9 1) w λo1 w=>
  aA pg (aE .sub 3 aM aM o0 vZ) w λo5 w=>
  aA pg (aE .sub 3 aM aM rP o0) w λo8 w=>
  aA pg (aE .quo 3 aM aM rD (aLY 8)) w λp0 w=>
  aA pg (aE .lss 3 aM aM o5 o8) w λp3 w=>
  cP p3
   (aA pg (aE .geq 3 aM aM o5 p0) w λp6 w=>
   aG pg eC #[cH,vZ,o0,eE] w λq1 w=>
   aA pg (aE .add 3 aM aM o0 (aLY 1)) w λq3 w=>
   kn cH q3 rP eE p6 o1 w)
   (aA pg (aE .geq 3 aM aM o8 p0) w λq6 w=>
   aA pg (aE .add 3 aM aM o0 (aLY 1)) w λq9 w=>
   aG pg eC #[cH,q9,rP,eE] w λs2 w=>
   kn cH vZ o0 eE q6 o1 w))
def FJ(kn:K8)(R:K1) cH vZ rP eE bU bJ rD Fq apW w:=
 Gd (bG bU true) (λK=>K bJ w) w λj3 w=>
 aA pg (cG bU j3 (.bool false)) w λj4 w=>
 Gd (bG j4 true) (λK=>K apW w) w λj6 w=>
 Gd (bG j4 true) (λK=>aA pg (aE .eql 208 (.tmp 66) (.const (aLY 1)) j6 (aLY 1)) w K) w λj7 w=>
 aA pg (cG j4 j7 (.bool false)) w λj8 w=>
 cP j8
  (aG pg tU #[cH,vZ,rP] w λl2 w=>
  cP l2
   (R (.tuple #[]) w)
   (kn cH vZ rP eE bU bJ rD Fq w))
  (kn cH vZ rP eE bU bJ rD Fq w)
def rW(kn:K6)(k1:K6)(R:K1) cH vZ rP eE bU bJ rD Fq apW w:=
 FJ (rV kn k1) R cH vZ rP eE bU bJ rD Fq apW w
def FK(kn:K9) cH vZ rP eE bU bJ rD w:=
 aG pg Ce #[cH,vZ,rP] w λf6 w=>
 aA pg (aP f6 0) w λf7 w=>
 aA pg (aP f6 1) w λf8 w=>
 aA pg (aE .eql 208 (.tmp 49) (.const (aLY 2)) f8 (aLY 2)) w λi0 w=>
 cP i0
  (aG pg B2 #[cH,vZ,rP] w λi4 w=>
  aA pg (aE .sub 3 aM aM rP (aLY 1)) w λi6 w=>
  aA pg (aE .sub 3 aM aM f7 vZ) w λi9 w=>
  aA pg (aE .sub 3 aM aM i6 i9) w λj0 w=>
  kn cH vZ rP eE bU bJ rD j0 (aLY 1) w)
  (kn cH vZ rP eE bU bJ rD f7 f8 w)
def rX(kn:K6)(k1:K6)(R:K1) cH vZ rP eE bU bJ rD w:=
 FK (rW kn k1 R) cH vZ rP eE bU bJ rD w
def rY(kn:K7)(R:K1) cH vZ rP eE bU bJ w:=
 aA pg (aE .sub 3 aM aM rP vZ) w λd1 w=>
 aA pg (aE .leq 3 aM aM d1 (aLY 12)) w λd3 w=>
 cP d3
  (aG pg cS #[cH,vZ,rP] w λd7 w=>
  R (.tuple #[]) w)
  (aA pg (aE .eql 3 (.tmp 28) (.const (aLY 0)) eE (aLY 0)) w λd9 w=>
  cP d9
   (aG pg Fb #[cH,vZ,rP] w λe3 w=>
   R (.tuple #[]) w)
   (aA pg (GI .not bU) w λe5 w=>
   cP e5
    (aG pg AZ #[cH,vZ,rP] w λe9 w=>
    aA pg (aE .sub 3 aM aM eE (aLY 1)) w λf1 w=>
    kn cH vZ rP f1 bU bJ d1 w)
    (kn cH vZ rP eE bU bJ d1 w)))
def rZ(kn:K6)(k1:K6)(R:K1) cH vZ rP eE bU bJ w:=
 rY (rX kn k1 R) R cH vZ rP eE bU bJ w
def gY(kn:K6)(R:K1) cH vZ rP eE bU bJ w:=
 rZ kn kn R cH vZ rP eE bU bJ w
def gZ(R:K1) cH vZ rP eE bU bJ w:=
 bM (λ(X:(aLX×aLX×aLX×aLX×aLX)->K0) (t:aLX×aLX×aLX×aLX×aLX) (w:aLW)=>gY (λ_ vZ rP eE bU bJ w=>X (vZ,rP,eE,bU,bJ) w) R cH t.1 t.2.1 t.2.2.1 t.2.2.2.1 t.2.2.2.2 w) (vZ,rP,eE,bU,bJ) w
theorem C8 (kn:K6)(R:K1)(hn:N6 Q kn 0 1 2 3 8 9)(hr:HR kS R Q)(h:gY kn R (g 0) (g 1) (g 2) (g 3) (g 8) (g 9) w):dM pg jY (bI (bI (aN 2 jR))) Q g w:=
 A7 1 (dN 4 (Ui (Mq7 (rX kn kn R) 0 1 2 3 8 9 10) h (λg w h=>aJ (dN 2 (iK (Mq9 (rW kn kn R) 0 1 2 3 8 9 10 11 12) h (λg w h=>aJ (dN 1 (Ui (Mq8 (rV kn kn) 0 1 2 3 8 9 10 11) h (λg w h=>aJ (DT [(1,(Mq6 kn 0 1 2 3 8 9))] (kr:=no) _ h hn Jx ⟨hn,trivial⟩)) hr)))))) hr))
theorem Da(R:K1)(hr:HR kS R Q)(h:gZ R (g 0) (g 1) (g 2) (g 3) (g 8) (g 9) w):dM pg jY (bI (aN 2 jR)) Q g w:=by
 refine EN (λg:Env=>(g 1,g 2,g 3,g 8,g 9)) (λX t w=>gY (λ_ vZ rP eE bU bJ w=>X (vZ,rP,eE,bU,bJ) w) R (g 0) t.1 t.2.1 t.2.2.1 t.2.2.2.1 t.2.2.2.2 w) h (λX g1 w1 ha hL=> ?_)
 rw[<-eZ 0 ha]at hL
 exact(C8 _ g1 w1 (λ_ vZ rP eE bU bJ w=>X (vZ,rP,eE,bU,bJ) w) R dE hr hL)
def rK(kn:K6) cH vZ rP eE w:=
 kn cH vZ rP eE (.bool true) (.bool true) w
def rL(R:K1) cH vZ rP eE w:=
 rK (gZ R) cH vZ rP eE w
def yD a0 a1 a2 a3 w(R:K1):=
 rL R a0 a1 a2 a3 w
theorem Dl{a0 a1 a2 a3 w R}(h:yD a0 a1 a2 a3 w R):aG pg eC #[a0,a1,a2,a3] w R:=
 jF (ann:=jY) Tryz.f108 jR [a0,a1,a2,a3] kS 134 TryzM.mixed Tryz.func108 (dN 2 (iK (Mq6 (gZ R) 0 1 2 3 8 9) h (λg w h=>aJ (A7 0 (Da _ g w R dE h)))))
def Wb:FA:=⟨AG,λi=> .leaf ([],[]) []⟩
def ZY:List ResultVar:=[.tmp 2]
noncomputable def Vj:Code:=bA Tryz.f109
def Mg(R:K1) zK w:=
 cP (.bool false)
  (aA pg (cJ 194 27 zK) w λb4 w=>
  aG pg V3 #[b4] w λb5 w=>
  R b5 w)
  (aG pg vM #[zK] w λb7 w=>
  R b7 w)
def Us a0 w(R:K1):=
 Mg R a0 w
theorem Vr{a0 w R}(h:Us a0 w R):aG pg AG #[a0] w R:=
 jF (ann:=Wb) Tryz.f109 Vj [a0] ZY 8 TryzM.mixed Tryz.func109 (jP h dE)
def fM:FA:=⟨M0,λi=>match Nat.beq i 21 with|true=> .leaf ([31],[]) (fz 31 (ft [] []))|false=>match Nat.beq i 24 with|true=> .leaf ([6,8,20,22,29],[(2,6),(2,8),(2,20),(2,22),(3,6),(3,8),(3,20),(3,22),(4,6),(4,8),(4,20),(4,22),(6,11),(6,15),(6,16),(6,17),(6,25),(8,11),(8,15),(8,16),(8,17),(8,25),(9,20),(9,22),(11,20),(11,22),(12,20),(12,22),(13,20),(13,22),(15,20),(15,22),(16,20),(16,22),(17,20),(17,22),(18,20),(18,22),(20,25),(22,25)]) (fz 6 (ft [1,2,3] (fz 1 (ft [3,4,5] (fz 2 (fu [2,4] (fz 3 (fu [6,8] (fu [7,9] (fu [8,10] (fz 2 (ft [1,2,3,4,6,7,8,10,15,16,17] (fz 1 (ft [3,4,5,6,8,9,10,12,17,18,19] (fz 2 (fu [2,4,16,18] (fz 3 (ft [] []))))))))))))))))))|false=>match Nat.beq i 29 with|true=> .leaf ([7,8],[]) (fz 7 (ft [] (ft [] [])))|false=>match Nat.beq i 33 with|true=> .leaf ([8],[]) (fz 8 (ft [] []))|false=> .leaf ([],[]) []⟩
def avH:List ResultVar:=[.cell 2 70]
noncomputable def eJ:Code:=bA Tryz.f110
def RT(R:K1) b2 Bp w:=
 aA pg (aB 70 Bp) w λy8 w=>
 aA pg (aF 70 b2 y8) w λ_u w=>
 kD pg 70 b2 w λr0=>R r0 w
def RU(kn:K4)(k12:K2) b2 rS Bp Dj w:=
 aA pg (aE .lss 3 aM aM Dj (aLY 32)) w λx2 w=>
 cP x2
  (aA pg (aE .quo 3 aM aM Dj (aLY 4)) w λx7 w=>
  aA pg (aR 181 rS x7) w λx8 w=>
  aA pg (aB 27 x8) w λx9 w=>
  aA pg (aE .rem 3 aM aM Dj (aLY 4)) w λy1 w=>
  aA pg (aE .mul 3 aM aM (aLY 8) y1) w λy2 w=>
  aA pg (aE .sub 3 aM aM (aLY 24) y2) w λy3 w=>
  aA pg (cJ 3 194 y3) w λy4 w=>
  aA pg (aE .shr 27 aM aM x9 y4) w λy5 w=>
  aA pg (cJ 27 5 y5) w λy6 w=>
  aA pg (aR 70 Bp Dj) w λy7 w=>
  aA pg (aF 5 y7 y6) w λ_u w=>
  aA pg (aE .add 3 aM aM Dj (aLY 1)) w λx4 w=>
  kn b2 rS Bp x4 w)
  (k12 b2 Bp w)
def J5 (k12:K2) b2 rS Bp Dj w:=
 bM (λ(X:aLX->K0) (t:aLX) (w:aLW)=>RU (λ_ _ _ Dj w=>X Dj w) k12 b2 rS Bp t w) Dj w
theorem aiF(k12:K2)(h12:E2 Q k12 12 2 17)(h:J5 k12 (g 2) (g 6) (g 17) (g 18) w):dM pg fM (bI (aN 1 (bK 1 (aN 1 (aN 1 (aN 2 (aN 1 (aN 1 (aN 1 (aN 3 eJ)))))))))) Q g w:=by
 refine EN (λg:Env=>g 18) (λX t w=>RU (λ_ _ _ Dj w=>X Dj w) k12 (g 2) (g 6) (g 17) t w) h (λX g1 w1 ha hL=> ?_)
 rw[<-eZ 2 ha,<-eZ 6 ha,<-eZ 17 ha]at hL
 exact(DT [(12,(Qq k12 2 17))] (kr:=no) (Ch (λ_ _ _ Dj w=>X Dj w) 2 6 17 18) hL dE Jx ⟨h12,trivial⟩)
def aaY(kn:K4) b2 rS Bp w:=
 kn b2 rS Bp (aLY 0) w
def RV(kn:K2) b2 rS Bp w:=
 aaY (J5 kn) b2 rS Bp w
def RW(R:K1) b2 rS Bp w:=
 RV (RT R) b2 rS Bp w
theorem aiG(kn:K2)(hn:N2 Q kn 2 17)(h:RV kn (g 2) (g 6) (g 17) w):dM pg fM (bK 1 (aN 1 (aN 1 (aN 2 (aN 1 (aN 1 (aN 1 (aN 3 eJ)))))))) Q g w:=
 dN 1 (iK (Ch (J5 kn) 2 6 17 18) h (λg w h=>aJ (A7 12 (aiF _ g w kn hn h))))
def aaZ(kn:K3) b2 rS w:=
 aA pg (bE 70) w λBp w=>
 kn b2 rS Bp w
def RX(R:K1) b2 rS w:=
 aaZ (RW R) b2 rS w
def NF(kn:K5) b2 iZ rS Bo iC w:=
 aA pg (aE .add 3 aM aM iC (aLY 64)) w λi7 w=>
 kn b2 iZ rS Bo i7 w
def NG(kn:K7)(k10:K5) b2 iZ rS Bo iC Hs Za w:=
 aA pg (aE .lss 3 aM aM Za (aLY 8)) w λv0 w=>
 cP v0
  ((dr w)=(dr w)/\
  aA pg (aR 181 rS Za) (dr w) λv4 w_=>w_=(dr w)/\
  aA pg (aB 27 v4) (dr w) λv5 w_=>w_=(dr w)/\
  (dr w)=(dr w)/\
  aA pg (aR 181 Hs Za) (dr w) λv7 w_=>w_=(dr w)/\
  aA pg (aB 27 v7) (dr w) λv8 w_=>w_=(dr w)/\
  aA pg (aE .add 27 aM aM v5 v8) (dr w) λv9 w_=>w_=(dr w)/\
  aA pg (aR 181 rS Za) (dr w) λx0 w_=>w_=(dr w)/\
  aA pg (aF 27 x0 v9) (dr w) λ_u8 aIh=>
  aA pg (aE .add 3 aM aM Za (aLY 1)) aIh λv2 w=>
  kn b2 iZ rS Bo iC Hs v2 w)
  (k10 b2 iZ rS Bo iC w)
def G8 (k10:K5) b2 iZ rS Bo iC Hs Za w:=
 bM (λ(X:aLX->K0) (t:aLX) (w:aLW)=>NG (λ_ _ _ _ _ _ Za w=>X Za w) k10 b2 iZ rS Bo iC Hs t w) Za w
theorem adD(k10:K5)(h10:E5 Q k10 10 2 3 6 7 8)(h:G8 k10 (g 2) (g 3) (g 6) (g 7) (g 8) (g 14) (g 16) w):dM pg fM (bI (aN 1 (aN 1 (aN 1 (aN 1 (aN 1 (bI (bK 1 (aN 1 (bI (bI (aN 1 (bK 1 (aN 2 (aN 1 (aN 1 (aN 1 (aN 3 eJ)))))))))))))))))) Q g w:=by
 refine EN (λg:Env=>g 16) (λX t w=>NG (λ_ _ _ _ _ _ Za w=>X Za w) k10 (g 2) (g 3) (g 6) (g 7) (g 8) (g 14) t w) h (λX g1 w1 ha hL=> ?_)
 rw[<-eZ 2 ha,<-eZ 3 ha,<-eZ 6 ha,<-eZ 7 ha,<-eZ 8 ha,<-eZ 14 ha]at hL
 exact(DT [(10,(YG k10 2 3 6 7 8))] (kr:=no) (Mq7 (λ_ _ _ _ _ _ Za w=>X Za w) 2 3 6 7 8 14 16) hL dE Jx ⟨h10,trivial⟩)
def Xj(kn:K7) b2 iZ rS Bo iC Hs w:=
 kn b2 iZ rS Bo iC Hs (aLY 0) w
def NH(kn:K5) b2 iZ rS Bo iC Hs w:=
 Xj (G8 kn) b2 iZ rS Bo iC Hs w
def NI(kn:K8)(k8:K6) b2 iZ rS Bo iC Jz Hs c5 w:=
 aA pg (aE .lss 3 aM aM c5 (aLY 64)) w λs8 w=>
 cP s8
  (aA pg (aB 181 Hs) (dr w) λu1 w_=>w_=(dr w)/\
  (dr w)=(dr w)/\
  aA pg (aR 204 Bo c5) (dr w) λu3 w_=>w_=(dr w)/\
  aA pg (aB 27 u3) (dr w) λu4 w_=>w_=(dr w)/\
  (dr w)=(dr w)/\
  aA pg (aR 204 Jz c5) (dr w) λu6 w_=>w_=(dr w)/\
  aA pg (aB 27 u6) (dr w) λu7 w_=>w_=(dr w)/\
  aG pg EA #[u1,u4,u7] (dr w) λu8 aIf=>
  aA pg (aF 181 Hs u8) aIf λ_u8 aIg=>
  aA pg (aE .add 3 aM aM c5 (aLY 1)) aIg λu0 w=>
  kn b2 iZ rS Bo iC Jz Hs u0 w)
  (k8 b2 iZ rS Bo iC Hs w)
def G9 (k8:K6) b2 iZ rS Bo iC Jz Hs c5 w:=
 bM (λ(X:aLX->K0) (t:aLX) (w:aLW)=>NI (λ_ _ _ _ _ _ _ c5 w=>X c5 w) k8 b2 iZ rS Bo iC Jz Hs t w) c5 w
theorem adE(k8:K6)(h8:E6 Q k8 8 2 3 6 7 8 14)(h:G9 k8 (g 2) (g 3) (g 6) (g 7) (g 8) (g 9) (g 14) (g 15) w):dM pg fM (bI (aN 1 (bK 1 (aN 1 (aN 1 (aN 1 (bI (bK 1 (aN 1 (bI (bI (aN 1 (bK 1 (aN 2 (aN 1 (aN 1 (aN 1 (aN 3 eJ)))))))))))))))))) Q g w:=by
 refine EN (λg:Env=>g 15) (λX t w=>NI (λ_ _ _ _ _ _ _ c5 w=>X c5 w) k8 (g 2) (g 3) (g 6) (g 7) (g 8) (g 9) (g 14) t w) h (λX g1 w1 ha hL=> ?_)
 rw[<-eZ 2 ha,<-eZ 3 ha,<-eZ 6 ha,<-eZ 7 ha,<-eZ 8 ha,<-eZ 9 ha,<-eZ 14 ha]at hL
 exact(DT [(8,(Mq6 k8 2 3 6 7 8 14))] (kr:=no) (Mq8 (λ_ _ _ _ _ _ _ c5 w=>X c5 w) 2 3 6 7 8 9 14 15) hL dE Jx ⟨h8,trivial⟩)
def Xk(kn:K8) b2 iZ rS Bo iC Jz Hs w:=
 kn b2 iZ rS Bo iC Jz Hs (aLY 0) w
def NJ(kn:K6) b2 iZ rS Bo iC Jz Hs w:=
 Xk (G9 kn) b2 iZ rS Bo iC Jz Hs w
def NK(kn:K5) b2 iZ rS Bo iC Jz Hs w:=
 NJ (NH kn) b2 iZ rS Bo iC Jz Hs w
theorem adF(kn:K6)(hn:N6 Q kn 2 3 6 7 8 14)(h:NJ kn (g 2) (g 3) (g 6) (g 7) (g 8) (g 9) (g 14) w):dM pg fM (bK 1 (aN 1 (aN 1 (aN 1 (bI (bK 1 (aN 1 (bI (bI (aN 1 (bK 1 (aN 2 (aN 1 (aN 1 (aN 1 (aN 3 eJ)))))))))))))))) Q g w:=
 dN 1 (iK (Mq8 (G9 kn) 2 3 6 7 8 9 14 15) h (λg w h=>aJ (A7 8 (adE _ g w kn hn h))))
def Xl(kn:K7) b2 iZ rS Bo iC Jz w:=
 aA pg (aB 181 rS) w λs6 w=>
 aA pg (bE 181) w λHs w=>
 aA pg (aF 181 Hs s6) w λ_u w=>
 kn b2 iZ rS Bo iC Jz Hs w
def NL(kn:K5) b2 iZ rS Bo iC Jz w:=
 Xl (NK kn) b2 iZ rS Bo iC Jz w
def NM(kn:K7) b2 iZ rS Bo iC Jz c0 w:=
 aA pg (aE .add 3 aM aM c0 (aLY 1)) w λj1 w=>
 kn b2 iZ rS Bo iC Jz j1 w
def Xm(kn:K7)(k6:K6) b2 iZ rS Bo iC Jz c0 w:=
 aA pg (aE .lss 3 aM aM c0 (aLY 64)) w λi9 w=>
 cP i9
  (aA pg (aE .lss 3 aM aM c0 (aLY 16)) w λj3 w=>
  cP j3
   (aA pg (aE .mul 3 aM aM (aLY 4) c0) w λj6 w=>
   aA pg (aE .add 3 aM aM iC j6) w λj7 w=>
   (dr w)=(dr w)/\
   (dr w)=(dr w)/\
   (dr w)=(dr w)/\
   aA pg (aR 22 iZ j7) (dr w) λl1 w_=>w_=(dr w)/\
   aA pg (aB 5 l1) (dr w) λl2 w_=>w_=(dr w)/\
   aA pg (cJ 5 27 l2) (dr w) λl3 w_=>w_=(dr w)/\
   aA pg (aE .shl 27 aM aM l3 (.int .u64 24)) (dr w) λl4 w_=>w_=(dr w)/\
   (dr w)=(dr w)/\
   (dr w)=(dr w)/\
   aA pg (aE .add 3 aM aM j7 (aLY 1)) (dr w) λl7 w_=>w_=(dr w)/\
   aA pg (aR 22 iZ l7) (dr w) λl8 w_=>w_=(dr w)/\
   aA pg (aB 5 l8) (dr w) λl9 w_=>w_=(dr w)/\
   aA pg (cJ 5 27 l9) (dr w) λm0 w_=>w_=(dr w)/\
   aA pg (aE .shl 27 aM aM m0 (.int .u64 16)) (dr w) λm1 w_=>w_=(dr w)/\
   aA pg (aE .or 27 aM aM l4 m1) (dr w) λm2 w_=>w_=(dr w)/\
   (dr w)=(dr w)/\
   (dr w)=(dr w)/\
   aA pg (aE .add 3 aM aM j7 (aLY 2)) (dr w) λm5 w_=>w_=(dr w)/\
   aA pg (aR 22 iZ m5) (dr w) λm6 w_=>w_=(dr w)/\
   aA pg (aB 5 m6) (dr w) λm7 w_=>w_=(dr w)/\
   aA pg (cJ 5 27 m7) (dr w) λm8 w_=>w_=(dr w)/\
   aA pg (aE .shl 27 aM aM m8 (.int .u64 8)) (dr w) λm9 w_=>w_=(dr w)/\
   aA pg (aE .or 27 aM aM m2 m9) (dr w) λn0 w_=>w_=(dr w)/\
   (dr w)=(dr w)/\
   (dr w)=(dr w)/\
   aA pg (aE .add 3 aM aM j7 (aLY 3)) (dr w) λn3 w_=>w_=(dr w)/\
   aA pg (aR 22 iZ n3) (dr w) λn4 w_=>w_=(dr w)/\
   aA pg (aB 5 n4) (dr w) λn5 w_=>w_=(dr w)/\
   aA pg (cJ 5 27 n5) (dr w) λn6 w_=>w_=(dr w)/\
   aA pg (aE .or 27 aM aM n0 n6) (dr w) λn7 w_=>w_=(dr w)/\
   aA pg (aR 204 Jz c0) (dr w) λn8 w_=>w_=(dr w)/\
   aA pg (aF 27 n8 n7) (dr w) λ_u31 aHn=>
   kn b2 iZ rS Bo iC Jz c0 aHn)
   (aA pg (aE .sub 3 aM aM c0 (aLY 15)) w λo0 w=>
   aA pg (aR 204 Jz o0) w λo1 w=>
   aA pg (aB 27 o1) w λo2 w=>
   aA pg (aE .sub 3 aM aM c0 (aLY 2)) w λo4 w=>
   aA pg (aR 204 Jz o4) w λo5 w=>
   aA pg (aB 27 o5) w λo6 w=>
   (dr w)=(dr w)/\
   (dr w)=(dr w)/\
   aA pg (aE .sub 3 aM aM c0 (aLY 16)) (dr w) λo9 w_=>w_=(dr w)/\
   aA pg (aR 204 Jz o9) (dr w) λp0 w_=>w_=(dr w)/\
   aA pg (aB 27 p0) (dr w) λp1 w_=>w_=(dr w)/\
   (dr w)=(dr w)/\
   aG pg fW #[o2,(.int .u64 7)] (dr w) λp3 SY=>
   (aO pg (aB 27 p0) p1 SY/\aO pg (aR 204 Jz o9) p0 SY/\aO pg (aE .sub 3 aM aM c0 (aLY 16)) o9 SY/\True)/\
   SY=SY/\
   aG pg fW #[o2,(.int .u64 18)] SY λp5 rO=>
   (aO pg (aB 27 p0) p1 rO/\aO pg (aR 204 Jz o9) p0 rO/\aO pg (aE .sub 3 aM aM c0 (aLY 16)) o9 rO/\True)/\
   aA pg (aE .xor 27 aM aM p3 p5) rO λp6 w_=>w_=rO/\
   rO=rO/\
   aA pg (aE .shr 27 aM aM o2 (.int .u64 3)) rO λp8 w_=>w_=rO/\
   (aO pg (aE .shr 27 aM aM o2 (.int .u64 3)) p8 SY/\aO pg (aE .shr 27 aM aM o2 (.int .u64 3)) p8 (dr w)/\True)/\
   aA pg (aE .xor 27 aM aM p6 p8) rO λp9 w_=>w_=rO/\
   aA pg (aE .add 27 aM aM p1 p9) rO λq0 w_=>w_=rO/\
   rO=rO/\
   aA pg (aE .sub 3 aM aM c0 (aLY 7)) rO λq2 w_=>w_=rO/\
   (aO pg (aE .sub 3 aM aM c0 (aLY 7)) q2 SY/\aO pg (aE .sub 3 aM aM c0 (aLY 7)) q2 (dr w)/\True)/\
   aA pg (aR 204 Jz q2) rO λq3 w_=>w_=rO/\
   (aO pg (aR 204 Jz q2) q3 SY/\aO pg (aR 204 Jz q2) q3 (dr w)/\True)/\
   aA pg (aB 27 q3) rO λq4 w_=>w_=rO/\
   (aO pg (aB 27 q3) q4 SY/\aO pg (aB 27 q3) q4 (dr w)/\True)/\
   aA pg (aE .add 27 aM aM q0 q4) rO λq5 w_=>w_=rO/\
   rO=rO/\
   aG pg fW #[o6,(.int .u64 17)] rO λq7 BD=>
   (aO pg (aE .add 27 aM aM q0 q4) q5 BD/\aO pg (aB 27 q3) q4 BD/\aO pg (aR 204 Jz q2) q3 BD/\aO pg (aE .sub 3 aM aM c0 (aLY 7)) q2 BD/\aO pg (aE .add 27 aM aM p1 p9) q0 BD/\aO pg (aE .xor 27 aM aM p6 p8) p9 BD/\aO pg (aE .shr 27 aM aM o2 (.int .u64 3)) p8 BD/\aO pg (aE .xor 27 aM aM p3 p5) p6 BD/\aO pg (aB 27 p0) p1 BD/\aO pg (aR 204 Jz o9) p0 BD/\aO pg (aE .sub 3 aM aM c0 (aLY 16)) o9 BD/\True)/\
   BD=BD/\
   aG pg fW #[o6,(.int .u64 19)] BD λq9 mG=>
   (aO pg (aE .add 27 aM aM q0 q4) q5 mG/\aO pg (aB 27 q3) q4 mG/\aO pg (aR 204 Jz q2) q3 mG/\aO pg (aE .sub 3 aM aM c0 (aLY 7)) q2 mG/\aO pg (aE .add 27 aM aM p1 p9) q0 mG/\aO pg (aE .xor 27 aM aM p6 p8) p9 mG/\aO pg (aE .shr 27 aM aM o2 (.int .u64 3)) p8 mG/\aO pg (aE .xor 27 aM aM p3 p5) p6 mG/\aO pg (aB 27 p0) p1 mG/\aO pg (aR 204 Jz o9) p0 mG/\aO pg (aE .sub 3 aM aM c0 (aLY 16)) o9 mG/\True)/\
   aA pg (aE .xor 27 aM aM q7 q9) mG λs0 w_=>w_=mG/\
   mG=mG/\
   aA pg (aE .shr 27 aM aM o6 (.int .u64 10)) mG λs2 w_=>w_=mG/\
   (aO pg (aE .shr 27 aM aM o6 (.int .u64 10)) s2 BD/\aO pg (aE .shr 27 aM aM o6 (.int .u64 10)) s2 rO/\aO pg (aE .shr 27 aM aM o6 (.int .u64 10)) s2 SY/\aO pg (aE .shr 27 aM aM o6 (.int .u64 10)) s2 (dr w)/\True)/\
   aA pg (aE .xor 27 aM aM s0 s2) mG λs3 w_=>w_=mG/\
   aA pg (aE .add 27 aM aM q5 s3) mG λs4 w_=>w_=mG/\
   aA pg (aR 204 Jz c0) mG λs5 w_=>w_=mG/\
   aA pg (aF 27 s5 s4) mG λ_u29 aHo=>
   kn b2 iZ rS Bo iC Jz c0 aHo))
  (k6 b2 iZ rS Bo iC Jz w)
def NN(kn:K7)(k6:K6) b2 iZ rS Bo iC Jz c0 w:=
 Xm (NM kn) k6 b2 iZ rS Bo iC Jz c0 w
def Ha(k6:K6) b2 iZ rS Bo iC Jz c0 w:=
 bM (λ(X:aLX->K0) (t:aLX) (w:aLW)=>NN (λ_ _ _ _ _ _ c0 w=>X c0 w) k6 b2 iZ rS Bo iC Jz t w) c0 w
theorem adG(k6:K6)(h6:E6 Q k6 6 2 3 6 7 8 9)(h:Ha k6 (g 2) (g 3) (g 6) (g 7) (g 8) (g 9) (g 10) w):dM pg fM (bI (aN 1 (bK 1 (aN 1 (bI (bK 1 (aN 1 (bI (bI (aN 1 (bK 1 (aN 2 (aN 1 (aN 1 (aN 1 (aN 3 eJ)))))))))))))))) Q g w:=by
 refine EN (λg:Env=>g 10) (λX t w=>NN (λ_ _ _ _ _ _ c0 w=>X c0 w) k6 (g 2) (g 3) (g 6) (g 7) (g 8) (g 9) t w) h (λX g1 w1 ha hL=> ?_)
 rw[<-eZ 2 ha,<-eZ 3 ha,<-eZ 6 ha,<-eZ 7 ha,<-eZ 8 ha,<-eZ 9 ha]at hL
 exact(dN 2 (DT [(6,(Mq6 k6 2 3 6 7 8 9))] (kr:=no) (Mq7 (NM (λ_ _ _ _ _ _ c0 w=>X c0 w)) 2 3 6 7 8 9 10) hL (λg w h=>aJ (iK (Mq7 (λ_ _ _ _ _ _ c0 w=>X c0 w) 2 3 6 7 8 9 10) h dE)) Jx ⟨h6,trivial⟩))
def Xn(kn:K7) b2 iZ rS Bo iC Jz w:=
 kn b2 iZ rS Bo iC Jz (aLY 0) w
def NO(kn:K6) b2 iZ rS Bo iC Jz w:=
 Xn (Ha kn) b2 iZ rS Bo iC Jz w
def NP(kn:K5) b2 iZ rS Bo iC Jz w:=
 NO (NL kn) b2 iZ rS Bo iC Jz w
theorem adH(kn:K6)(hn:N6 Q kn 2 3 6 7 8 9)(h:NO kn (g 2) (g 3) (g 6) (g 7) (g 8) (g 9) w):dM pg fM (bK 1 (aN 1 (bI (bK 1 (aN 1 (bI (bI (aN 1 (bK 1 (aN 2 (aN 1 (aN 1 (aN 1 (aN 3 eJ)))))))))))))) Q g w:=
 dN 1 (iK (Mq7 (Ha kn) 2 3 6 7 8 9 10) h (λg w h=>aJ (A7 6 (adG _ g w kn hn h))))
def Xo(kn:K6) b2 iZ rS Bo iC w:=
 aA pg (bE 204) w λJz w=>
 kn b2 iZ rS Bo iC Jz w
def CN(kn:K5) b2 iZ rS Bo iC w:=
 Xo (NP kn) b2 iZ rS Bo iC w
def NQ(kn:K5) b2 iZ rS Bo iC w:=
 CN (NF kn) b2 iZ rS Bo iC w
theorem adI(kn:K5)(hn:N5 Q kn 2 3 6 7 8)(h:CN kn (g 2) (g 3) (g 6) (g 7) (g 8) w):dM pg fM (bK 1 (aN 1 (bI (bI (aN 1 (bK 1 (aN 2 (aN 1 (aN 1 (aN 1 (aN 3 eJ))))))))))) Q g w:=
 A7 5 (dN 1 (iK (Mq6 (NP kn) 2 3 6 7 8 9) h (λg w h=>aJ (dN 1 (adH _ g w (NL kn) (λg w h=>aJ (dN 1 (iK (Mq7 (NK kn) 2 3 6 7 8 9 14) h (λg w h=>aJ (dN 1 (adF _ g w (NH kn) (λg w h=>aJ (dN 1 (iK (Mq7 (G8 kn) 2 3 6 7 8 14 16) h (λg w h=>aJ (A7 10 (adD _ g w kn hn h)))))) h)))))) h)))))
def Xp(kn:K5)(k4:K2) b2 iZ rS Bo iC w:=
 aA pg (eI .len #[22] 3 [iZ]) w λi4 w=>
 aA pg (aE .lss 3 aM aM iC i4) w λi5 w=>
 cP i5
  (kn b2 iZ rS Bo iC w)
  (k4 b2 rS w)
def NS(kn:K5)(k4:K2) b2 iZ rS Bo iC w:=
 Xp (NQ kn) k4 b2 iZ rS Bo iC w
def Hb(k4:K2) b2 iZ rS Bo iC w:=
 bM (λ(X:aLX->K0) (t:aLX) (w:aLW)=>NS (λ_ _ _ _ iC w=>X iC w) k4 b2 iZ rS Bo t w) iC w
theorem adJ(k4:K2)(h4:E2 Q k4 4 2 6)(h:Hb k4 (g 2) (g 3) (g 6) (g 7) (g 8) w):dM pg fM (bI (aN 1 (bK 1 (aN 2 (aN 1 (aN 1 (aN 1 (aN 3 eJ)))))))) Q g w:=by
 refine EN (λg:Env=>g 8) (λX t w=>NS (λ_ _ _ _ iC w=>X iC w) k4 (g 2) (g 3) (g 6) (g 7) t w) h (λX g1 w1 ha hL=> ?_)
 rw[<-eZ 2 ha,<-eZ 3 ha,<-eZ 6 ha,<-eZ 7 ha]at hL
 exact(dN 1 (DT [(4,(Qq k4 2 6))] (kr:=no) (YG (NQ (λ_ _ _ _ iC w=>X iC w)) 2 3 6 7 8) hL (λg w h=>aJ (dN 1 (adI _ g w (NF (λ_ _ _ _ iC w=>X iC w)) (λg w h=>aJ (iK (YG (λ_ _ _ _ iC w=>X iC w) 2 3 6 7 8) h dE)) h))) Jx ⟨h4,trivial⟩))
def Xq(kn:K5) b2 iZ rS Bo w:=
 kn b2 iZ rS Bo (aLY 0) w
def NT(kn:K2) b2 iZ rS Bo w:=
 Xq (Hb kn) b2 iZ rS Bo w
def NU(R:K1) b2 iZ rS Bo w:=
 NT (RX R) b2 iZ rS Bo w
theorem adK(kn:K2)(hn:N2 Q kn 2 6)(h:NT kn (g 2) (g 3) (g 6) (g 7) w):dM pg fM (bK 1 (aN 2 (aN 1 (aN 1 (aN 1 (aN 3 eJ)))))) Q g w:=
 dN 1 (iK (YG (Hb kn) 2 3 6 7 8) h (λg w h=>aJ (A7 4 (adJ _ g w kn hn h))))
def Xr(kn:K4) b2 iZ w:=
 aA pg (bV 181 [(0,(.int .u32 1779033703)),(1,(.int .u32 3144134277)),(2,(.int .u32 1013904242)),(3,(.int .u32 2773480762)),(4,(.int .u32 1359893119)),(5,(.int .u32 2600822924)),(6,(.int .u32 528734635)),(7,(.int .u32 1541459225))]) w λi0 w=>
 aA pg (bE 181) w λrS w=>
 aA pg (aF 181 rS i0) w λ_u w=>
 aG pg EB #[] w λi1 w=>
 aA pg (bE 204) w λBo w=>
 aA pg (aF 204 Bo i1) w λ_u w=>
 kn b2 iZ rS Bo w
def NV(R:K1) b2 iZ w:=
 Xr (NU R) b2 iZ w
def NW(kn:K4)(k2:K2) b2 iZ n_4 vQ w:=
 aA pg (aE .lss 3 aM aM vQ (aLY 8)) w λe7 w=>
 cP e7
  (aA pg (aE .mul 3 aM aM (aLY 8) vQ) w λf3 w=>
  aA pg (aE .sub 3 aM aM (aLY 56) f3) w λf4 w=>
  aA pg (cJ 3 194 f4) w λf5 w=>
  aA pg (aE .shr 26 aM aM n_4 f5) w λf6 w=>
  aA pg (cJ 26 5 f6) w λf7 w=>
  aA pg (bB 22 1 [(0,f7)]) w λf8 w=>
  aA pg (eI .append #[22,22] 22 [iZ,f8]) w λf9 w=>
  aA pg (aE .add 3 aM aM vQ (aLY 1)) w λe9 w=>
  kn b2 f9 n_4 e9 w)
  (k2 b2 iZ w)
def Hc(k2:K2) b2 iZ n_4 vQ w:=
 bM (λ(X:(aLX×aLX)->K0) (t:aLX×aLX) (w:aLW)=>NW (λ_ iZ _ vQ w=>X (iZ,vQ) w) k2 b2 t.1 n_4 t.2 w) (iZ,vQ) w
theorem adL(k2:K2)(h2:E2 Q k2 2 2 3)(h:Hc k2 (g 2) (g 3) (g 4) (g 5) w):dM pg fM (bI (aN 1 (bK 1 (aN 1 (aN 1 (aN 3 eJ)))))) Q g w:=by
 refine EN (λg:Env=>(g 3,g 5)) (λX t w=>NW (λ_ iZ _ vQ w=>X (iZ,vQ) w) k2 (g 2) t.1 (g 4) t.2 w) h (λX g1 w1 ha hL=> ?_)
 rw[<-eZ 2 ha,<-eZ 4 ha]at hL
 exact(DT [(2,(Qq k2 2 3))] (kr:=no) (Ch (λ_ iZ _ vQ w=>X (iZ,vQ) w) 2 3 4 5) hL dE Jx ⟨h2,trivial⟩)
def Xs(kn:K4) b2 iZ n_4 w:=
 kn b2 iZ n_4 (aLY 0) w
def NX(kn:K2) b2 iZ n_4 w:=
 Xs (Hc kn) b2 iZ n_4 w
def NY(R:K1) b2 iZ n_4 w:=
 NX (NV R) b2 iZ n_4 w
theorem adM(kn:K2)(hn:N2 Q kn 2 3)(h:NX kn (g 2) (g 3) (g 4) w):dM pg fM (bK 1 (aN 1 (aN 1 (aN 3 eJ)))) Q g w:=
 dN 1 (iK (Ch (Hc kn) 2 3 4 5) h (λg w h=>aJ (A7 2 (adL _ g w kn hn h))))
def Xt(kn:K3) eY b2 iZ w:=
 aA pg (eI .len #[9] 3 [eY]) w λe3 w=>
 aA pg (cJ 3 26 e3) w λe4 w=>
 aA pg (aE .mul 26 aM aM e4 (.int .u64 8)) w λe5 w=>
 kn b2 iZ e5 w
def NZ(R:K1) eY b2 iZ w:=
 Xt (NY R) eY b2 iZ w
def Oa(kn:K3)(k0:K3) eY b2 iZ w:=
 aA pg (eI .len #[22] 3 [iZ]) w λd5 w=>
 aA pg (aE .add 3 aM aM d5 (aLY 8)) w λd6 w=>
 aA pg (aE .rem 3 aM aM d6 (aLY 64)) w λd7 w=>
 aA pg (aE .neq 3 (.tmp 27) (.const (aLY 0)) d7 (aLY 0)) w λd8 w=>
 cP d8
  (aA pg (bB 22 1 [(0,(.int .u8 0))]) w λe0 w=>
  aA pg (eI .append #[22,22] 22 [iZ,e0]) w λe1 w=>
  kn eY b2 e1 w)
  (k0 eY b2 iZ w)
def Hd(k0:K3) eY b2 iZ w:=
 bM (λ(X:aLX->K0) (t:aLX) (w:aLW)=>Oa (λ_ _ iZ w=>X iZ w) k0 eY b2 t w) iZ w
theorem adN(k0:K3)(h0:E3 Q k0 0 0 2 3)(h:Hd k0 (g 0) (g 2) (g 3) w):dM pg fM (bI (bK 1 (aN 3 eJ))) Q g w:=by
 refine EN (λg:Env=>g 3) (λX t w=>Oa (λ_ _ iZ w=>X iZ w) k0 (g 0) (g 2) t w) h (λX g1 w1 ha hL=> ?_)
 rw[<-eZ 0 ha,<-eZ 2 ha]at hL
 exact(DT [(0,(Gu k0 0 2 3))] (kr:=no) (Gu (λ_ _ iZ w=>X iZ w) 0 2 3) hL dE Jx ⟨h0,trivial⟩)
def Ob(R:K1) eY b2 iZ w:=
 Hd (NZ R) eY b2 iZ w
theorem adO(kn:K3)(hn:N3 Q kn 0 2 3)(h:Hd kn (g 0) (g 2) (g 3) w):dM pg fM (bK 1 (aN 3 eJ)) Q g w:=
 A7 0 (adN _ g w kn hn h)
def Xu(kn:K3) eY w:=
 aA pg (bE 70) w λb2 w=>
 aA pg (cJ 9 22 eY) w λd0 w=>
 aA pg (bB 22 1 [(0,(.int .u8 128))]) w λd2 w=>
 aA pg (eI .append #[22,22] 22 [d0,d2]) w λd3 w=>
 kn eY b2 d3 w
def Xv(R:K1) eY w:=
 Xu (Ob R) eY w
def auZ a0 w(R:K1):=
 Xv R a0 w
theorem alX{a0 w R}(h:auZ a0 w R):aG pg M0 #[a0] w R:=
 jF (ann:=fM) Tryz.f110 eJ [a0] avH 179 TryzM.mixed Tryz.func110 (dN 3 (iK (Gu (Ob R) 0 2 3) h (λg w h=>aJ (dN 1 (adO _ g w (NZ R) (λg w h=>aJ (dN 1 (iK (Gu (NY R) 2 3 4) h (λg w h=>aJ (dN 1 (adM _ g w (NV R) (λg w h=>aJ (dN 2 (iK (Ch (NU R) 2 3 6 7) h (λg w h=>aJ (dN 1 (adK _ g w (RX R) (λg w h=>aJ (dN 1 (iK (Gu (RW R) 2 6 17) h (λg w h=>aJ (dN 1 (aiG _ g w (RT R) (λg w h=>aJ (jP h dE)) h)))))) h)))))) h)))))) h)))))
def zG:FA:=⟨iM,λi=>match Nat.beq i 3 with|true=> .leaf ([],[]) (fz 7 [])|false=> .leaf ([],[]) []⟩
def Aw:List ResultVar:=[]
noncomputable def wQ:Code:=bA Tryz.f111
def pT(kn:K4)(k0:K0)(R:K1) pE b1 b2 uS w:=
 aA pg (aB 22 b1) w λb7 w=>
 aA pg (eI .len #[22] 3 [b7]) w λb8 w=>
 aA pg (aE .lss 3 aM aM uS b8) w λb9 w=>
 cP b9
  (aA pg (aB 3 b2) (dr w) λc3 w_=>w_=(dr w)/\
  aA pg (aB 22 b1) (dr w) λc4 w_=>w_=(dr w)/\
  (dr w)=(dr w)/\
  aA pg (dG 22 c4 (some uS) none none) (dr w) λc6 w_=>w_=(dr w)/\
  aA pg (eI .len #[22] 3 [c6]) (dr w) λc7 w_=>w_=(dr w)/\
  aA pg (eI .min #[3,3] 3 [c3,c7]) (dr w) λc8 w_=>w_=(dr w)/\
  (dr w)=(dr w)/\
  aA pg (aB 22 b1) (dr w) λd0 w=>
  aA pg (aE .add 3 aM aM uS c8) w λd4 w=>
  aA pg (aE .add 3 aM aM uS c8) w λd7 w=>
  aA pg (dG 22 d0 (some uS) (some d4) (some d7)) w λd8 w=>
  aA pg (Ac pE [d8]) w λd9 w=>
  aA pg (GI .not d9) w λe0 w=>
  cP e0
   (R (.tuple #[]) w)
   (aA pg (aB 3 b2) w λc1 w=>
   aA pg (aE .add 3 aM aM uS c1) w λc2 w=>
   kn pE b1 b2 c2 w))
  (k0 w)
def kI(k0:K0)(R:K1) pE b1 b2 uS w:=
 bM (λ(X:aLX->K0) (t:aLX) (w:aLW)=>pT (λ_ _ _ uS w=>X uS w) k0 R pE b1 b2 t w) uS w
theorem Hr(k0:K0)(R:K1)(h0:E0 Q k0 0)(hr:HR Aw R Q)(h:kI k0 R (g 0) (g 1) (g 2) (g 4) w):dM pg zG (bI (aN 1 wQ)) Q g w:=by
 refine EN (λg:Env=>g 4) (λX t w=>pT (λ_ _ _ uS w=>X uS w) k0 R (g 0) (g 1) (g 2) t w) h (λX g1 w1 ha hL=> ?_)
 rw[<-eZ 0 ha,<-eZ 1 ha,<-eZ 2 ha]at hL
 exact(DT [(0,(Mq0 k0))] (Ch (λ_ _ _ uS w=>X uS w) 0 1 2 4) hL dE hr ⟨h0,trivial⟩)
def AE(kn:K4) pE b1 b2 w:=
 kn pE b1 b2 (aLY 0) w
def AF(kn:K0)(R:K1) pE b1 b2 w:=
 AE (kI kn R) pE b1 b2 w
def Dt a0 a1 a2 w(R:K1):=
 AF (λw=>R (.tuple #[]) w) R a0 a1 a2 w
theorem Ja{a0 a1 a2 w R}(h:Dt a0 a1 a2 w R):aG pg iM #[a0,a1,a2] w R:=
 jF (ann:=zG) Tryz.f111 wQ [a0,a1,a2] Aw 31 TryzM.mixed Tryz.func111 (dN 1 (iK (Ch (kI (λw=>R (.tuple #[]) w) R) 0 1 2 4) h (λg w h=>aJ (A7 0 (Hr _ g w (λw=>R (.tuple #[]) w) R dE dE h)))))
def M3:FA:=⟨oS,λi=> .leaf ([],[]) []⟩
def P5:List ResultVar:=[.tmp 6]
noncomputable def LR:Code:=bA Tryz.f112
def Dn(R:K1) V0 D3 aHW w:=
 aA pg (cL V0) w λc0 w=>
 aA pg (aD 197 c0 1) w λc1 w=>
 aA pg (aB 31 c1) w λc2 w=>
 aA pg (aE .neq 31 (.tmp 12) (.const (aLY 0)) c2 (aLY 0)) w λc3 w=>
 cP c3
  (R (.slice none 0 0) w)
  (aA pg (GI .not aHW) w λc6 w=>
  cP c6
   (aA pg (cL V0) w λc8 w=>
   aA pg (aD 197 c8 1) w λc9 w=>
   aA pg (aF 31 c9 (aLY 1)) w λ_u w=>
   R (.slice none 0 0) w)
   (aA pg (cL V0) w λd3 w=>
   aA pg (aD 197 d3 0) w λd4 w=>
   aA pg (aB 22 d4) w λd5 w=>
   aA pg (eI .len #[22] 3 [d5]) w λd6 w=>
   aA pg (aE .gtr 3 aM aM D3 d6) w λd7 w=>
   cP d7
    (aA pg (cL V0) w λd9 w=>
    aA pg (aD 197 d9 1) w λe0 w=>
    aA pg (aF 31 e0 (aLY 10)) w λ_u w=>
    R (.slice none 0 0) w)
    (aA pg (cL V0) w λe2 w=>
    aA pg (aD 197 e2 0) w λe3 w=>
    aA pg (aB 22 e3) w λe4 w=>
    aA pg (dG 22 e4 none (some D3) (some D3)) w λe7 w=>
    aA pg (cL V0) w λf0 w=>
    aA pg (aD 197 f0 0) w λf1 w=>
    aA pg (aB 22 f1) w λf2 w=>
    aA pg (dG 22 f2 (some D3) none none) w λf4 w=>
    aA pg (cL V0) w λf5 w=>
    aA pg (aD 197 f5 0) w λf6 w=>
    aA pg (aF 22 f6 f4) w λ_u w=>
    R e7 w)))
def HS a0 a1 a2 w(R:K1):=
 Dn R a0 a1 a2 w
theorem L1 {a0 a1 a2 w R}(h:HS a0 a1 a2 w R):aG pg oS #[a0,a1,a2] w R:=
 jF (ann:=M3) Tryz.f112 LR [a0,a1,a2] P5 48 TryzM.mixed Tryz.func112 (jP h dE)
def arX:FA:=⟨YK,λi=> .leaf ([],[]) []⟩
def azA:List ResultVar:=[.tmp 0]
noncomputable def apK:Code:=bA Tryz.f113
def agT(R:K1) w:=
 aA pg (bV 222 [(0,(.int .u32 4294967295))]) w λb1 w=>
 aA pg (iX 222 b1) w λb2 w=>
 R b2 w
def aAh w(R:K1):=
 agT R w
theorem apO{w R}(h:aAh w R):aG pg YK #[] w R:=
 jF (ann:=arX) Tryz.f113 apK [] azA 3 TryzM.mixed Tryz.func113 (jP h dE)
def HD:FA:=⟨DG,λi=>match Nat.beq i 5 with|true=> .leaf ([16],[]) (fz 16 (ft [] []))|false=>match Nat.beq i 6 with|true=> .leaf ([16],[]) (fz 16 (ft [] []))|false=> .leaf ([],[]) []⟩
def Yg:List ResultVar:=[]
noncomputable def Gv:Code:=bA Tryz.f114
def Cv(kn:K4)(k0:K0) AM b8 b9 c0 w:=
 aA pg (aE .lss 3 aM aM c0 b9) w λc1 w=>
 cP c1
  (aA pg (aR 22 b8 c0) w λc2 w=>
  aA pg (aB 5 c2) w λc3 w=>
  aA pg (cL AM) w λc5 w=>
  aA pg (aD 222 c5 0) w λc6 w=>
  aA pg (aB 27 c6) w λc7 w=>
  aA pg (cJ 5 27 c3) w λc9 w=>
  aA pg (aE .xor 27 aM aM c7 c9) w λd0 w=>
  aA pg (cL AM) w λd1 w=>
  aA pg (aD 222 d1 0) w λd2 w=>
  aA pg (aF 27 d2 d0) w λ_u w=>
  (dr w)=(dr w)/\
  (dr w)=(dr w)/\
  aA pg (cL AM) (dr w) λd5 w_=>w_=(dr w)/\
  aA pg (aD 222 d5 0) (dr w) λd6 w_=>w_=(dr w)/\
  aA pg (aB 27 d6) (dr w) λd7 w_=>w_=(dr w)/\
  aA pg (aE .shr 27 aM aM d7 (.int .u64 4)) (dr w) λd8 w_=>w_=(dr w)/\
  (dr w)=(dr w)/\
  aA pg (cL AM) (dr w) λe0 w_=>w_=(dr w)/\
  aA pg (aD 222 e0 0) (dr w) λe1 w_=>w_=(dr w)/\
  aA pg (aB 27 e1) (dr w) λe2 w_=>w_=(dr w)/\
  aA pg (aE .and 27 aM aM e2 (.int .u32 15)) (dr w) λe3 w_=>w_=(dr w)/\
  aA pg (aR 223 (.pointer (some ⟨1,0,none⟩)) e3) (dr w) λe4 w_=>w_=(dr w)/\
  aA pg (aB 27 e4) (dr w) λe5 w_=>w_=(dr w)/\
  aA pg (aE .xor 27 aM aM d8 e5) (dr w) λe6 w_=>w_=(dr w)/\
  aA pg (cL AM) (dr w) λe7 w_=>w_=(dr w)/\
  aA pg (aD 222 e7 0) (dr w) λe8 w_=>w_=(dr w)/\
  aA pg (aF 27 e8 e6) (dr w) λ_u16 lS=>
  (dr lS)=(dr lS)/\
  (dr lS)=(dr lS)/\
  aA pg (cL AM) (dr lS) λf1 w_=>w_=(dr lS)/\
  aA pg (aD 222 f1 0) (dr lS) λf2 w_=>w_=(dr lS)/\
  aA pg (aB 27 f2) (dr lS) λf3 w_=>w_=(dr lS)/\
  aA pg (aE .shr 27 aM aM f3 (.int .u64 4)) (dr lS) λf4 w_=>w_=(dr lS)/\
  (dr lS)=(dr lS)/\
  aA pg (cL AM) (dr lS) λf6 w_=>w_=(dr lS)/\
  aA pg (aD 222 f6 0) (dr lS) λf7 w_=>w_=(dr lS)/\
  aA pg (aB 27 f7) (dr lS) λf8 w_=>w_=(dr lS)/\
  aA pg (aE .and 27 aM aM f8 (.int .u32 15)) (dr lS) λf9 w_=>w_=(dr lS)/\
  aA pg (aR 223 (.pointer (some ⟨1,0,none⟩)) f9) (dr lS) λi0 w_=>w_=(dr lS)/\
  aA pg (aB 27 i0) (dr lS) λi1 w_=>w_=(dr lS)/\
  aA pg (aE .xor 27 aM aM f4 i1) (dr lS) λi2 w_=>w_=(dr lS)/\
  aA pg (cL AM) (dr lS) λi3 w_=>w_=(dr lS)/\
  aA pg (aD 222 i3 0) (dr lS) λi4 w_=>w_=(dr lS)/\
  aA pg (aF 27 i4 i2) (dr lS) λ_u16 aIk=>
  aA pg (aE .add 3 aM aM c0 (aLY 1)) aIk λi5 w=>
  kn AM b8 b9 i5 w)
  (k0 w)
def vP(k0:K0) AM b8 b9 c0 w:=
 bM (λ(X:aLX->K0) (t:aLX) (w:aLW)=>Cv (λ_ _ _ c0 w=>X c0 w) k0 AM b8 b9 t w) c0 w
theorem QT(k0:K0)(h0:E0 Q k0 0)(h:vP k0 (g 0) (g 8) (g 9) (g 10) w):dM pg HD (bI (aN 2 Gv)) Q g w:=by
 refine EN (λg:Env=>g 10) (λX t w=>Cv (λ_ _ _ c0 w=>X c0 w) k0 (g 0) (g 8) (g 9) t w) h (λX g1 w1 ha hL=> ?_)
 rw[<-eZ 0 ha,<-eZ 8 ha,<-eZ 9 ha]at hL
 exact(DT [(0,(Mq0 k0))] (kr:=no) (Ch (λ_ _ _ c0 w=>X c0 w) 0 8 9 10) hL dE Jx ⟨h0,trivial⟩)
def JQ(kn:K4)(R:K1) AM yM w:=
 aA pg (aE .eql 201 (.tmp 6) (.const (.pointer none)) AM (.pointer none)) w λb7 w=>
 cP b7
  (R (.tuple #[]) w)
  (aA pg (eI .len #[22] 3 [yM]) w λb9 w=>
  kn AM yM b9 (aLY 0) w)
def JR(kn:K0)(R:K1) AM yM w:=
 JQ (vP kn) R AM yM w
def QS a0 a1 w(R:K1):=
 JR (λw=>R (.tuple #[]) w) R a0 a1 w
theorem TG{a0 a1 w R}(h:QS a0 a1 w R):aG pg DG #[a0,a1] w R:=
 jF (ann:=HD) Tryz.f114 Gv [a0,a1] Yg 56 TryzM.mixed Tryz.func114 (dN 2 (Ui (Ch (vP (λw=>R (.tuple #[]) w)) 0 8 9 10) h (λg w h=>aJ (A7 0 (QT _ g w (λw=>R (.tuple #[]) w) dE h))) dE))
def YM:FA:=⟨HB,λi=> .leaf ([],[]) []⟩
def aeJ:List ResultVar:=[.tmp 2]
noncomputable def We:Code:=bA Tryz.f115
def OJ(R:K1) AM w:=
 aA pg (aE .eql 201 (.tmp 3) (.const (.pointer none)) AM (.pointer none)) w λb4 w=>
 cP b4
  (R (.int .u32 0) w)
  (aA pg (cL AM) w λb6 w=>
  aA pg (aD 222 b6 0) w λb7 w=>
  aA pg (aB 27 b7) w λb8 w=>
  aA pg (GI .xor b8) w λb9 w=>
  R b9 w)
def Wk a0 w(R:K1):=
 OJ R a0 w
theorem Wm{a0 w R}(h:Wk a0 w R):aG pg HB #[a0] w R:=
 jF (ann:=YM) Tryz.f115 We [a0] aeJ 10 TryzM.mixed Tryz.func115 (jP h dE)
def apD:FA:=⟨HC,λi=>match Nat.beq i 1 with|true=> .leaf ([3,7],[(3,6),(3,11),(7,11)]) (fz 3 (ft [] (fz 2 (fu [2] (ft [] (fz 3 (fu [3,7] (fz 2 []))))))))|false=> .leaf ([],[]) []⟩
def avJ:List ResultVar:=[.tmp 8]
noncomputable def alJ:Code:=bA Tryz.f116
def abM(R:K1) zK vZ rP axR w:=
 (dr w)=(dr w)/\
 (dr w)=(dr w)/\
 aA pg (GI .neg vZ) (dr w) λc1 w_=>w_=(dr w)/\
 aG pg dO #[zK,c1] (dr w) λc2 awP=>
 awP=awP/\
 awP=awP/\
 aA pg (GI .neg rP) awP λc5 w_=>w_=awP/\
 (aO pg (GI .neg rP) c5 (dr w)/\True)/\
 aG pg dO #[zK,c5] awP λc6 Z8=>
 aA pg (aE .xor 27 aM aM c2 c6) Z8 λc7 w_=>w_=Z8/\
 Z8=Z8/\
 Z8=Z8/\
 aA pg (aE .shr 27 aM aM zK axR) Z8 λd0 w_=>w_=Z8/\
 (aO pg (aE .shr 27 aM aM zK axR) d0 awP/\aO pg (aE .shr 27 aM aM zK axR) d0 (dr w)/\True)/\
 aA pg (aE .xor 27 aM aM c7 d0) Z8 λd1 w_=>w_=Z8/\
 Z8=Z8/\
 R d1 Z8
def avV a0 a1 a2 a3 w(R:K1):=
 abM R a0 a1 a2 a3 w
theorem amQ{a0 a1 a2 a3 w R}(h:avV a0 a1 a2 a3 w R):aG pg HC #[a0,a1,a2,a3] w R:=
 jF (ann:=apD) Tryz.f116 alJ [a0,a1,a2,a3] avJ 22 TryzM.mixed Tryz.func116 (jP h dE)
def agK:FA:=⟨Cd,λi=> .leaf ([],[]) []⟩
def amO:List ResultVar:=[.tmp 8]
noncomputable def acO:Code:=bA Tryz.f117
def UX(R:K1) zK vZ rP c_3 w:=
 aA pg (GI .neg vZ) w λc1 w=>
 aG pg dO #[zK,c1] w λc2 w=>
 aA pg (GI .neg rP) w λc5 w=>
 aG pg dO #[zK,c5] w λc6 w=>
 aA pg (aE .xor 27 aM aM c2 c6) w λc7 w=>
 aA pg (GI .neg c_3) w λd0 w=>
 aG pg dO #[zK,d0] w λd1 w=>
 aA pg (aE .xor 27 aM aM c7 d1) w λd2 w=>
 R d2 w
def akB a0 a1 a2 a3 w(R:K1):=
 UX R a0 a1 a2 a3 w
theorem aeS{a0 a1 a2 a3 w R}(h:akB a0 a1 a2 a3 w R):aG pg Cd #[a0,a1,a2,a3] w R:=
 jF (ann:=agK) Tryz.f117 acO [a0,a1,a2,a3] amO 23 TryzM.mixed Tryz.func117 (jP h dE)
def eT:FA:=⟨cS,λi=>match Nat.beq i 4 with|true=> .leaf ([13],[]) (fz 13 (ft [] (fz 1 [])))|false=>match Nat.beq i 6 with|true=> .leaf ([15,17],[(4,15)]) (fz 15 (ft [10] (fz 1 (ft [] []))))|false=> .leaf ([],[]) []⟩
def Ax:List ResultVar:=[]
noncomputable def eL:Code:=bA Tryz.f118
def iF(kn:K4) cH vZ rP nN w:=
 aA pg (aE .add 3 aM aM nN (aLY 1)) w λc4 w=>
 kn cH vZ rP c4 w
def iG(kn:K5)(k2:K4) cH vZ rP nN j_7 w:=
 (dr w)=(dr w)/\
 (dr w)=(dr w)/\
 aA pg (aE .gtr 3 aM aM j_7 vZ) (dr w) λc8 w_=>w_=(dr w)/\
 (dr w)=(dr w)/\
 Gd (bG c8 true) (λK=>K cH (dr w)) (dr w) λd0 w_=>w_=(dr w)/\
 Gd (bG c8 true) (λK=>K j_7 (dr w)) (dr w) λd1 w_=>w_=(dr w)/\
 Gd (bG c8 true) (λK=>aA pg (aR 80 d0 d1) (dr w) K) (dr w) λd2 w_=>w_=(dr w)/\
 Gd (bG c8 true) (λK=>aA pg (aB 9 d2) (dr w) K) (dr w) λd3 w_=>w_=(dr w)/\
 Gd (bG c8 true) (λK=>K cH (dr w)) (dr w) λd4 w_=>w_=(dr w)/\
 Gd (bG c8 true) (λK=>K j_7 (dr w)) (dr w) λd5 w_=>w_=(dr w)/\
 Gd (bG c8 true) (λK=>aA pg (aE .sub 3 aM aM d5 (aLY 1)) (dr w) K) (dr w) λd6 w_=>w_=(dr w)/\
 Gd (bG c8 true) (λK=>aA pg (aR 80 d4 d6) (dr w) K) (dr w) λd7 w_=>w_=(dr w)/\
 Gd (bG c8 true) (λK=>aA pg (aB 9 d7) (dr w) K) (dr w) λd8 w_=>w_=(dr w)/\
 Gd (bG c8 true) (λK=>aG pg tR #[d3,d8] (dr w) K) (dr w) λd9 lF=>
 aA pg (cG c8 d9 (.bool false)) lF λe0 w_=>w_=lF/\
 cP e0
  ((dr lF)=(dr lF)/\
  (dr lF)=(dr lF)/\
  (dr lF)=(dr lF)/\
  (dr lF)=(dr lF)/\
  aA pg (aE .sub 3 aM aM j_7 (aLY 1)) (dr lF) λe7 w_=>w_=(dr lF)/\
  (dr lF)=(dr lF)/\
  (dr lF)=(dr lF)/\
  aA pg (aE .sub 3 aM aM j_7 (aLY 1)) (dr lF) λf0 w_=>w_=(dr lF)/\
  aA pg (aR 80 cH f0) (dr lF) λf1 w_=>w_=(dr lF)/\
  aA pg (aB 9 f1) (dr lF) λf2 w_=>w_=(dr lF)/\
  (dr lF)=(dr lF)/\
  (dr lF)=(dr lF)/\
  aA pg (aR 80 cH j_7) (dr lF) λf5 w_=>w_=(dr lF)/\
  aA pg (aB 9 f5) (dr lF) λf6 w_=>w_=(dr lF)/\
  aA pg (aR 80 cH j_7) (dr lF) λf7 w_=>w_=(dr lF)/\
  aA pg (aF 9 f7 f2) (dr lF) λ_u15 aA2=>
  (aO pg (aE .sub 3 aM aM j_7 (aLY 1)) e7 aA2/\True)/\
  aA pg (aR 80 cH e7) aA2 λf8 w_=>w_=aA2/\
  aA pg (aF 9 f8 f6) aA2 λ_u17 aIl=>
  aA pg (aE .sub 3 aM aM j_7 (aLY 1)) aIl λe2 w=>
  kn cH vZ rP nN e2 w)
  (k2 cH vZ rP nN lF)
def fE(k2:K4) cH vZ rP nN j_7 w:=
 bM (λ(X:aLX->K0) (t:aLX) (w:aLW)=>iG (λ_ _ _ _ j_7 w=>X j_7 w) k2 cH vZ rP nN t w) j_7 w
theorem yB(k2:K4)(h2:E4 Q k2 2 0 1 2 6)(h:fE k2 (g 0) (g 1) (g 2) (g 6) (g 7) w):dM pg eT (bI (aN 1 (bI (bK 1 (aN 1 (bI (bI (aN 1 eL)))))))) Q g w:=by
 refine EN (λg:Env=>g 7) (λX t w=>iG (λ_ _ _ _ j_7 w=>X j_7 w) k2 (g 0) (g 1) (g 2) (g 6) t w) h (λX g1 w1 ha hL=> ?_)
 rw[<-eZ 0 ha,<-eZ 1 ha,<-eZ 2 ha,<-eZ 6 ha]at hL
 exact(DT [(2,(Ch k2 0 1 2 6))] (kr:=no) (YG (λ_ _ _ _ j_7 w=>X j_7 w) 0 1 2 6 7) hL dE Jx ⟨h2,trivial⟩)
def mK(kn:K5) cH vZ rP nN w:=
 kn cH vZ rP nN nN w
def iH(kn:K4) cH vZ rP nN w:=
 mK (fE kn) cH vZ rP nN w
def iI(kn:K4) cH vZ rP nN w:=
 iH (iF kn) cH vZ rP nN w
theorem yC(kn:K4)(hn:N4 Q kn 0 1 2 6)(h:iH kn (g 0) (g 1) (g 2) (g 6) w):dM pg eT (bK 1 (aN 1 (bI (bI (aN 1 eL))))) Q g w:=
 A7 1 (dN 1 (iK (YG (fE kn) 0 1 2 6 7) h (λg w h=>aJ (A7 2 (yB _ g w kn hn h)))))
def iJ(kn:K4)(k0:K0) cH vZ rP nN w:=
 aA pg (aE .lss 3 aM aM nN rP) w λc2 w=>
 cP c2
  (kn cH vZ rP nN w)
  (k0 w)
def eX(kn:K4)(k0:K0) cH vZ rP nN w:=
 iJ (iI kn) k0 cH vZ rP nN w
def dL(k0:K0) cH vZ rP nN w:=
 bM (λ(X:aLX->K0) (t:aLX) (w:aLW)=>eX (λ_ _ _ nN w=>X nN w) k0 cH vZ rP t w) nN w
theorem wC(k0:K0)(h0:E0 Q k0 0)(h:dL k0 (g 0) (g 1) (g 2) (g 6) w):dM pg eT (bI (aN 1 eL)) Q g w:=by
 refine EN (λg:Env=>g 6) (λX t w=>eX (λ_ _ _ nN w=>X nN w) k0 (g 0) (g 1) (g 2) t w) h (λX g1 w1 ha hL=> ?_)
 rw[<-eZ 0 ha,<-eZ 1 ha,<-eZ 2 ha]at hL
 exact(dN 1 (DT [(0,(Mq0 k0))] (kr:=no) (Ch (iI (λ_ _ _ nN w=>X nN w)) 0 1 2 6) hL (λg w h=>aJ (dN 1 (yC _ g w (iF (λ_ _ _ nN w=>X nN w)) (λg w h=>aJ (iK (Ch (λ_ _ _ nN w=>X nN w) 0 1 2 6) h dE)) h))) Jx ⟨h0,trivial⟩))
def gV(kn:K4) cH vZ rP w:=
 aA pg (aE .add 3 aM aM vZ (aLY 1)) w λb9 w=>
 kn cH vZ rP b9 w
def gW(kn:K0) cH vZ rP w:=
 gV (dL kn) cH vZ rP w
def jI a0 a1 a2 w(R:K1):=
 gW (λw=>R (.tuple #[]) w) a0 a1 a2 w
theorem lD{a0 a1 a2 w R}(h:jI a0 a1 a2 w R):aG pg cS #[a0,a1,a2] w R:=
 jF (ann:=eT) Tryz.f118 eL [a0,a1,a2] Ax 49 TryzM.mixed Tryz.func118 (dN 1 (iK (Ch (dL (λw=>R (.tuple #[]) w)) 0 1 2 6) h (λg w h=>aJ (A7 0 (wC _ g w (λw=>R (.tuple #[]) w) dE h)))))
def V8:FA:=⟨tR,λi=> .leaf ([],[]) []⟩
def ZV:List ResultVar:=[.tmp 4]
noncomputable def Vg:Code:=bA Tryz.f124
def LQ(R:K1) zK y_1 w:=
 aG pg qH #[zK] w λb6 w=>
 Gd (bG b6 true) (λK=>K y_1 w) w λb8 w=>
 Gd (bG b6 true) (λK=>aG pg qH #[b8] w K) w λb9 w=>
 Gd (bG b6 true) (λK=>aA pg (GI .not b9) w K) w λc0 w=>
 aA pg (cG b6 c0 (.bool false)) w λc1 w=>
 Gd (bG c1 false) (λK=>K zK w) w λc3 w=>
 Gd (bG c1 false) (λK=>K y_1 w) w λc4 w=>
 Gd (bG c1 false) (λK=>aA pg (aE .lss 9 aM aM c3 c4) w K) w λc5 w=>
 aA pg (cG c1 (.bool true) c5) w λc6 w=>
 R c6 w
def Uf a0 a1 w(R:K1):=
 LQ R a0 a1 w
theorem Vf{a0 a1 w R}(h:Uf a0 a1 w R):aG pg tR #[a0,a1] w R:=
 jF (ann:=V8) Tryz.f124 Vg [a0,a1] ZV 17 TryzM.mixed Tryz.func124 (jP h dE)
def Tu:FA:=⟨vM,λi=> .leaf ([],[]) []⟩
def VH:List ResultVar:=[.tmp 2]
noncomputable def QO:Code:=bA Tryz.f128
def tH(R:K1) zK n_2 w:=
 aA pg (cJ 26 5 zK) w λd1 w=>
 aA pg (VL 9 (.string ⟨#[0,1,2,2,3,3,3,3,4,4,4,4,4,4,4,4,5,5,5,5,5,5,5,5,5,5,5,5,5,5,5,5,6,6,6,6,6,6,6,6,6,6,6,6,6,6,6,6,6,6,6,6,6,6,6,6,6,6,6,6,6,6,6,6,7,7,7,7,7,7,7,7,7,7,7,7,7,7,7,7,7,7,7,7,7,7,7,7,7,7,7,7,7,7,7,7,7,7,7,7,7,7,7,7,7,7,7,7,7,7,7,7,7,7,7,7,7,7,7,7,7,7,7,7,7,7,7,7,8,8,8,8,8,8,8,8,8,8,8,8,8,8,8,8,8,8,8,8,8,8,8,8,8,8,8,8,8,8,8,8,8,8,8,8,8,8,8,8,8,8,8,8,8,8,8,8,8,8,8,8,8,8,8,8,8,8,8,8,8,8,8,8,8,8,8,8,8,8,8,8,8,8,8,8,8,8,8,8,8,8,8,8,8,8,8,8,8,8,8,8,8,8,8,8,8,8,8,8,8,8,8,8,8,8,8,8,8,8,8,8,8,8,8,8,8,8,8,8,8,8,8,8,8,8,8,8]⟩) d1) w λd2 w=>
 aA pg (cJ 5 3 d2) w λd3 w=>
 aA pg (aE .add 3 aM aM n_2 d3) w λd4 w=>
 R d4 w
def Ix(kn:K2) zK n_2 w:=
 aA pg (aE .geq 26 aM aM zK (.int .u64 256)) w λc4 w=>
 cP c4
  (aA pg (aE .shr 26 aM aM zK (.int .u64 8)) w λc6 w=>
  aA pg (aE .add 3 aM aM n_2 (aLY 8)) w λc8 w=>
  kn c6 c8 w)
  (kn zK n_2 w)
def tI(R:K1) zK n_2 w:=
 Ix (tH R) zK n_2 w
def Iy(kn:K2) zK n_2 w:=
 aA pg (aE .geq 26 aM aM zK (.int .u64 65536)) w λb8 w=>
 cP b8
  (aA pg (aE .shr 26 aM aM zK (.int .u64 16)) w λc0 w=>
  aA pg (aE .add 3 aM aM n_2 (aLY 16)) w λc2 w=>
  kn c0 c2 w)
  (kn zK n_2 w)
def tJ(R:K1) zK n_2 w:=
 Iy (tI R) zK n_2 w
def Iz(kn:K2) zK w:=
 aA pg (aE .geq 26 aM aM zK (.int .u64 4294967296)) w λb4 w=>
 cP b4
  (aA pg (aE .shr 26 aM aM zK (.int .u64 32)) w λb6 w=>
  kn b6 (aLY 32) w)
  (kn zK (aLY 0) w)
def IA(R:K1) zK w:=
 Iz (tJ R) zK w
def O0 a0 w(R:K1):=
 IA R a0 w
theorem RI{a0 w R}(h:O0 a0 w R):aG pg vM #[a0] w R:=
 jF (ann:=Tu) Tryz.f128 QO [a0] VH 25 TryzM.mixed Tryz.func128 (dN 2 (iK (Qq (tJ R) 0 2) h (λg w h=>aJ (dN 1 (iK (Qq (tI R) 0 2) h (λg w h=>aJ (dN 1 (iK (Qq (tH R) 0 2) h (λg w h=>aJ (jP h dE))))))))))
def acB:FA:=⟨EB,λi=> .leaf ([],[]) []⟩
def ajS:List ResultVar:=[.cell 0 204]
noncomputable def Y4:Code:=bA Tryz.f129
def R0 (R:K1) w:=
 aA pg (bE 204) w λb0 w=>
 aA pg (bV 204 [(0,(.int .u32 1116352408)),(1,(.int .u32 1899447441)),(2,(.int .u32 3049323471)),(3,(.int .u32 3921009573)),(4,(.int .u32 961987163)),(5,(.int .u32 1508970993)),(6,(.int .u32 2453635748)),(7,(.int .u32 2870763221)),(8,(.int .u32 3624381080)),(9,(.int .u32 310598401)),(10,(.int .u32 607225278)),(11,(.int .u32 1426881987)),(12,(.int .u32 1925078388)),(13,(.int .u32 2162078206)),(14,(.int .u32 2614888103)),(15,(.int .u32 3248222580)),(16,(.int .u32 3835390401)),(17,(.int .u32 4022224774)),(18,(.int .u32 264347078)),(19,(.int .u32 604807628)),(20,(.int .u32 770255983)),(21,(.int .u32 1249150122)),(22,(.int .u32 1555081692)),(23,(.int .u32 1996064986)),(24,(.int .u32 2554220882)),(25,(.int .u32 2821834349)),(26,(.int .u32 2952996808)),(27,(.int .u32 3210313671)),(28,(.int .u32 3336571891)),(29,(.int .u32 3584528711)),(30,(.int .u32 113926993)),(31,(.int .u32 338241895)),(32,(.int .u32 666307205)),(33,(.int .u32 773529912)),(34,(.int .u32 1294757372)),(35,(.int .u32 1396182291)),(36,(.int .u32 1695183700)),(37,(.int .u32 1986661051)),(38,(.int .u32 2177026350)),(39,(.int .u32 2456956037)),(40,(.int .u32 2730485921)),(41,(.int .u32 2820302411)),(42,(.int .u32 3259730800)),(43,(.int .u32 3345764771)),(44,(.int .u32 3516065817)),(45,(.int .u32 3600352804)),(46,(.int .u32 4094571909)),(47,(.int .u32 275423344)),(48,(.int .u32 430227734)),(49,(.int .u32 506948616)),(50,(.int .u32 659060556)),(51,(.int .u32 883997877)),(52,(.int .u32 958139571)),(53,(.int .u32 1322822218)),(54,(.int .u32 1537002063)),(55,(.int .u32 1747873779)),(56,(.int .u32 1955562222)),(57,(.int .u32 2024104815)),(58,(.int .u32 2227730452)),(59,(.int .u32 2361852424)),(60,(.int .u32 2428436474)),(61,(.int .u32 2756734187)),(62,(.int .u32 3204031479)),(63,(.int .u32 3329325298))]) w λb1 w=>
 aA pg (aF 204 b0 b1) w λ_u w=>
 kD pg 204 b0 w λr0=>R r0 w
def abC w(R:K1):=
 R0 R w
theorem ZC{w R}(h:abC w R):aG pg EB #[] w R:=
 jF (ann:=acB) Tryz.f129 Y4 [] ajS 2 TryzM.mixed Tryz.func129 (jP h dE)
def abZ:FA:=⟨fW,λi=> .leaf ([],[]) []⟩
def ajQ:List ResultVar:=[.tmp 4]
noncomputable def Y0:Code:=bA Tryz.f130
def RY(R:K1) zK D3 w:=
 aA pg (aE .shr 27 aM aM zK D3) w λb7 w=>
 aA pg (aE .sub 194 aM aM (.int .u64 32) D3) w λc0 w=>
 aA pg (aE .shl 27 aM aM zK c0) w λc1 w=>
 aA pg (aE .or 27 aM aM b7 c1) w λc2 w=>
 R c2 w
def abA a0 a1 w(R:K1):=
 RY R a0 a1 w
theorem ZA{a0 a1 w R}(h:abA a0 a1 w R):aG pg fW #[a0,a1] w R:=
 jF (ann:=abZ) Tryz.f130 Y0 [a0,a1] ajQ 13 TryzM.mixed Tryz.func130 (jP h dE)
def acA:FA:=⟨EA,λi=>match Nat.beq i 3 with|true=> .leaf ([3,5,8],[(0,3),(0,5),(0,8),(1,3),(1,5),(1,8),(3,12),(3,13),(3,14),(3,16),(3,17),(3,18),(3,19),(3,20),(5,12),(5,13),(5,14),(5,16),(5,17),(5,18),(5,19),(5,20),(6,8),(8,12),(8,13),(8,14),(8,16),(8,17),(8,18),(8,19),(8,20)]) (fz 3 (ft [1,2] (fz 1 (ft [3,4] (fz 2 (ft [1,6,7] (fz 3 (fu [3,6,8] (fu [4,7,9] (fu [5,8,10] (fz 1 (fu [7,10,12] (fu [8,11,13] (fu [9,12,14] (fu [10,13,15] (fu [11,14,16] (fz 6 [])))))))))))))))))|false=>match Nat.beq i 4 with|true=> .leaf ([1,3,6],[(1,9),(1,10),(1,11),(1,13),(1,14),(1,15),(1,16),(1,17),(1,18),(1,19),(1,20),(1,21),(1,22),(3,9),(3,10),(3,11),(3,13),(3,14),(3,15),(3,16),(3,17),(3,18),(3,19),(3,20),(3,21),(3,22),(4,6),(6,9),(6,10),(6,11),(6,13),(6,14),(6,15),(6,16),(6,17),(6,18),(6,19),(6,20),(6,21),(6,22)]) (fz 1 (ft [] (fz 1 (ft [] (fz 2 (ft [1] (fz 2 (fu [2,5,7] (fu [3,6,8] (fu [4,7,9] (fz 1 (fu [6,9,11] (fu [7,10,12] (fu [8,11,13] (fu [9,12,14] (fu [10,13,15] (fu [11,14,16] (fu [12,15,17] (fu [13,16,18] (fu [14,17,19] (fu [15,18,20] (fz 2 []))))))))))))))))))))))|false=> .leaf ([],[]) []⟩
def ajR:List ResultVar:=[.cell 6 181]
noncomputable def Y3:Code:=bA Tryz.f131
def RZ(R:K1) v_0 k_1 w_2 w:=
 aA pg (iX 181 v_0) w λQo w=>
 aA pg (bE 181) w λb6 w=>
 aA pg (aR 181 Qo (aLY 4)) w λc1 w=>
 aA pg (aB 27 c1) w λc2 w=>
 aA pg (aR 181 Qo (aLY 0)) w λc3 w=>
 aA pg (aB 27 c3) w λc4 w=>
 aA pg (aR 181 Qo (aLY 7)) (dr w) λc5 w_=>w_=(dr w)/\
 aA pg (aB 27 c5) (dr w) λc6 w_=>w_=(dr w)/\
 (dr w)=(dr w)/\
 aG pg fW #[c2,(.int .u64 6)] (dr w) λc8 aaA=>
 (aO pg (aB 27 c5) c6 aaA/\aO pg (aR 181 Qo (aLY 7)) c5 aaA/\True)/\
 aaA=aaA/\
 aG pg fW #[c2,(.int .u64 11)] aaA λd0 Jt=>
 (aO pg (aB 27 c5) c6 Jt/\aO pg (aR 181 Qo (aLY 7)) c5 Jt/\True)/\
 aA pg (aE .xor 27 aM aM c8 d0) Jt λd1 w_=>w_=Jt/\
 Jt=Jt/\
 aG pg fW #[c2,(.int .u64 25)] Jt λd3 fZ=>
 (aO pg (aE .xor 27 aM aM c8 d0) d1 fZ/\aO pg (aB 27 c5) c6 fZ/\aO pg (aR 181 Qo (aLY 7)) c5 fZ/\True)/\
 aA pg (aE .xor 27 aM aM d1 d3) fZ λd4 w_=>w_=fZ/\
 aA pg (aE .add 27 aM aM c6 d4) fZ λd5 w_=>w_=fZ/\
 fZ=fZ/\
 aA pg (aR 181 Qo (aLY 5)) fZ λd7 w_=>w_=fZ/\
 (aO pg (aR 181 Qo (aLY 5)) d7 Jt/\aO pg (aR 181 Qo (aLY 5)) d7 aaA/\aO pg (aR 181 Qo (aLY 5)) d7 (dr w)/\True)/\
 aA pg (aB 27 d7) fZ λd8 w_=>w_=fZ/\
 (aO pg (aB 27 d7) d8 Jt/\aO pg (aB 27 d7) d8 aaA/\aO pg (aB 27 d7) d8 (dr w)/\True)/\
 aA pg (aE .and 27 aM aM c2 d8) fZ λd9 w_=>w_=fZ/\
 (aO pg (aE .and 27 aM aM c2 d8) d9 Jt/\aO pg (aE .and 27 aM aM c2 d8) d9 aaA/\aO pg (aE .and 27 aM aM c2 d8) d9 (dr w)/\True)/\
 fZ=fZ/\
 aA pg (GI .xor c2) fZ λe1 w_=>w_=fZ/\
 (aO pg (GI .xor c2) e1 Jt/\aO pg (GI .xor c2) e1 aaA/\aO pg (GI .xor c2) e1 (dr w)/\True)/\
 aA pg (aR 181 Qo (aLY 6)) fZ λe2 w_=>w_=fZ/\
 (aO pg (aR 181 Qo (aLY 6)) e2 Jt/\aO pg (aR 181 Qo (aLY 6)) e2 aaA/\aO pg (aR 181 Qo (aLY 6)) e2 (dr w)/\True)/\
 aA pg (aB 27 e2) fZ λe3 w_=>w_=fZ/\
 (aO pg (aB 27 e2) e3 Jt/\aO pg (aB 27 e2) e3 aaA/\aO pg (aB 27 e2) e3 (dr w)/\True)/\
 aA pg (aE .and 27 aM aM e1 e3) fZ λe4 w_=>w_=fZ/\
 (aO pg (aE .and 27 aM aM e1 e3) e4 Jt/\aO pg (aE .and 27 aM aM e1 e3) e4 aaA/\aO pg (aE .and 27 aM aM e1 e3) e4 (dr w)/\True)/\
 aA pg (aE .xor 27 aM aM d9 e4) fZ λe5 w_=>w_=fZ/\
 (aO pg (aE .xor 27 aM aM d9 e4) e5 Jt/\aO pg (aE .xor 27 aM aM d9 e4) e5 aaA/\aO pg (aE .xor 27 aM aM d9 e4) e5 (dr w)/\True)/\
 aA pg (aE .add 27 aM aM d5 e5) fZ λe6 w_=>w_=fZ/\
 fZ=fZ/\
 aA pg (aE .add 27 aM aM e6 k_1) fZ λe8 w_=>w_=fZ/\
 fZ=fZ/\
 aA pg (aE .add 27 aM aM e8 w_2) fZ λf0 w_=>w_=fZ/\
 fZ=fZ/\
 (dr fZ)=(dr fZ)/\
 aG pg fW #[c4,(.int .u64 2)] (dr fZ) λf2 Uc=>
 Uc=Uc/\
 aG pg fW #[c4,(.int .u64 13)] Uc λf4 Hu=>
 aA pg (aE .xor 27 aM aM f2 f4) Hu λf5 w_=>w_=Hu/\
 Hu=Hu/\
 aG pg fW #[c4,(.int .u64 22)] Hu λf7 uD=>
 (aO pg (aE .xor 27 aM aM f2 f4) f5 uD/\True)/\
 aA pg (aE .xor 27 aM aM f5 f7) uD λf8 w_=>w_=uD/\
 uD=uD/\
 aA pg (aR 181 Qo (aLY 1)) uD λi0 w_=>w_=uD/\
 (aO pg (aR 181 Qo (aLY 1)) i0 Hu/\aO pg (aR 181 Qo (aLY 1)) i0 Uc/\aO pg (aR 181 Qo (aLY 1)) i0 (dr fZ)/\True)/\
 aA pg (aB 27 i0) uD λi1 w_=>w_=uD/\
 (aO pg (aB 27 i0) i1 Hu/\aO pg (aB 27 i0) i1 Uc/\aO pg (aB 27 i0) i1 (dr fZ)/\True)/\
 aA pg (aE .and 27 aM aM c4 i1) uD λi2 w_=>w_=uD/\
 (aO pg (aE .and 27 aM aM c4 i1) i2 Hu/\aO pg (aE .and 27 aM aM c4 i1) i2 Uc/\aO pg (aE .and 27 aM aM c4 i1) i2 (dr fZ)/\True)/\
 uD=uD/\
 aA pg (aR 181 Qo (aLY 2)) uD λi4 w_=>w_=uD/\
 (aO pg (aR 181 Qo (aLY 2)) i4 Hu/\aO pg (aR 181 Qo (aLY 2)) i4 Uc/\aO pg (aR 181 Qo (aLY 2)) i4 (dr fZ)/\True)/\
 aA pg (aB 27 i4) uD λi5 w_=>w_=uD/\
 (aO pg (aB 27 i4) i5 Hu/\aO pg (aB 27 i4) i5 Uc/\aO pg (aB 27 i4) i5 (dr fZ)/\True)/\
 aA pg (aE .and 27 aM aM c4 i5) uD λi6 w_=>w_=uD/\
 (aO pg (aE .and 27 aM aM c4 i5) i6 Hu/\aO pg (aE .and 27 aM aM c4 i5) i6 Uc/\aO pg (aE .and 27 aM aM c4 i5) i6 (dr fZ)/\True)/\
 aA pg (aE .xor 27 aM aM i2 i6) uD λi7 w_=>w_=uD/\
 (aO pg (aE .xor 27 aM aM i2 i6) i7 Hu/\aO pg (aE .xor 27 aM aM i2 i6) i7 Uc/\aO pg (aE .xor 27 aM aM i2 i6) i7 (dr fZ)/\True)/\
 aA pg (aR 181 Qo (aLY 1)) uD λi8 w_=>w_=uD/\
 (aO pg (aR 181 Qo (aLY 1)) i8 Hu/\aO pg (aR 181 Qo (aLY 1)) i8 Uc/\aO pg (aR 181 Qo (aLY 1)) i8 (dr fZ)/\True)/\
 aA pg (aB 27 i8) uD λi9 w_=>w_=uD/\
 (aO pg (aB 27 i8) i9 Hu/\aO pg (aB 27 i8) i9 Uc/\aO pg (aB 27 i8) i9 (dr fZ)/\True)/\
 aA pg (aR 181 Qo (aLY 2)) uD λj0 w_=>w_=uD/\
 (aO pg (aR 181 Qo (aLY 2)) j0 Hu/\aO pg (aR 181 Qo (aLY 2)) j0 Uc/\aO pg (aR 181 Qo (aLY 2)) j0 (dr fZ)/\True)/\
 aA pg (aB 27 j0) uD λj1 w_=>w_=uD/\
 (aO pg (aB 27 j0) j1 Hu/\aO pg (aB 27 j0) j1 Uc/\aO pg (aB 27 j0) j1 (dr fZ)/\True)/\
 aA pg (aE .and 27 aM aM i9 j1) uD λj2 w_=>w_=uD/\
 (aO pg (aE .and 27 aM aM i9 j1) j2 Hu/\aO pg (aE .and 27 aM aM i9 j1) j2 Uc/\aO pg (aE .and 27 aM aM i9 j1) j2 (dr fZ)/\True)/\
 aA pg (aE .xor 27 aM aM i7 j2) uD λj3 w_=>w_=uD/\
 (aO pg (aE .xor 27 aM aM i7 j2) j3 Hu/\aO pg (aE .xor 27 aM aM i7 j2) j3 Uc/\aO pg (aE .xor 27 aM aM i7 j2) j3 (dr fZ)/\True)/\
 aA pg (aE .add 27 aM aM f8 j3) uD λj4 w_=>w_=uD/\
 uD=uD/\
 aA pg (aE .add 27 aM aM f0 j4) uD λj7 w=>
 aA pg (aR 181 Qo (aLY 0)) w λj8 w=>
 aA pg (aB 27 j8) w λj9 w=>
 aA pg (aR 181 Qo (aLY 1)) w λl0 w=>
 aA pg (aB 27 l0) w λl1 w=>
 aA pg (aR 181 Qo (aLY 2)) w λl2 w=>
 aA pg (aB 27 l2) w λl3 w=>
 aA pg (aR 181 Qo (aLY 3)) w λl4 w=>
 aA pg (aB 27 l4) w λl5 w=>
 aA pg (aE .add 27 aM aM l5 f0) w λl7 w=>
 aA pg (aR 181 Qo (aLY 4)) w λl8 w=>
 aA pg (aB 27 l8) w λl9 w=>
 aA pg (aR 181 Qo (aLY 5)) w λm0 w=>
 aA pg (aB 27 m0) w λm1 w=>
 aA pg (aR 181 Qo (aLY 6)) w λm2 w=>
 aA pg (aB 27 m2) w λm3 w=>
 aA pg (bV 181 [(0,j7),(1,j9),(2,l1),(3,l3),(4,l7),(5,l9),(6,m1),(7,m3)]) w λm4 w=>
 aA pg (aF 181 b6 m4) w λ_u w=>
 kD pg 181 b6 w λr0=>R r0 w
def abB a0 a1 a2 w(R:K1):=
 RZ R a0 a1 a2 w
theorem ZB{a0 a1 a2 w R}(h:abB a0 a1 a2 w R):aG pg EA #[a0,a1,a2] w R:=
 jF (ann:=acA) Tryz.f131 Y3 [a0,a1,a2] ajR 85 TryzM.mixed Tryz.func131 (jP h dE)
def HE:FA:=⟨dO,λi=> .leaf ([],[]) []⟩
def JH:List ResultVar:=[.tmp 4]
noncomputable def GX:Code:=bA Tryz.f132
def zI(R:K1) zK k_1 w:=
 aA pg (cJ 3 194 k_1) w λb7 w=>
 aA pg (aE .and 194 aM aM b7 (.int .u64 31)) w λb8 w=>
 aA pg (aE .shl 27 aM aM zK b8) w λc1 w=>
 aA pg (aE .sub 194 aM aM (.int .u64 32) b8) w λc4 w=>
 aA pg (aE .shr 27 aM aM zK c4) w λc5 w=>
 aA pg (aE .or 27 aM aM c1 c5) w λc6 w=>
 R c6 w
def CJ a0 a1 w(R:K1):=
 zI R a0 a1 w
theorem G2 {a0 a1 w R}(h:CJ a0 a1 w R):aG pg dO #[a0,a1] w R:=
 jF (ann:=HE) Tryz.f132 GX [a0,a1] JH 17 TryzM.mixed Tryz.func132 (jP h dE)
def U8:FA:=⟨qH,λi=> .leaf ([],[]) []⟩
def Yf:List ResultVar:=[.tmp 2]
noncomputable def Tz:Code:=bA Tryz.f138
def JO(R:K1) zK w:=
 aA pg (aE .neq 9 (.tmp 3) (.tmp 4) zK zK) w λb5 w=>
 R b5 w
def QK a0 w(R:K1):=
 JO R a0 w
theorem Ty{a0 w R}(h:QK a0 w R):aG pg qH #[a0] w R:=
 jF (ann:=U8) Tryz.f138 Tz [a0] Yf 6 TryzM.mixed Tryz.func138 (jP h dE)
end Go.Proofs.YteelnmpbnaohpaaGreatDoor
namespace Go.En
open Go
section
variable{P:Program}{w:aLW}{t:TypeId}{ox oy:Operand}{k:IntKind}{a b:Int}
theorem iW(s:Sem aLX):(V s).run P w=(s.run P w).andThen λv w=> .ok (.value v) w:=by
 unfold V;rw[Sem.run_bind]<;>rfl
theorem aH5 (s:Sem Unit):(U s).run P w=(s.run P w).andThen λ_ w=> .ok .skip w:=by
 unfold U;rw[Sem.run_bind]<;>rfl
theorem fS:(aE .add t ox oy (.int k a) (.int k b)).run P w= .ok (.value (.int k (k.wrap (a+b)))) w:=by
 simp[aE,DY,iW,binOp,Op.intArith]
theorem O2:(aE .sub t ox oy (.int k a) (.int k b)).run P w= .ok (.value (.int k (k.wrap (a-b)))) w:=by
 simp[aE,DY,iW,binOp,Op.intArith]
theorem Xb:(aE .mul t ox oy (.int k a) (.int k b)).run P w= .ok (.value (.int k (k.wrap (a*b)))) w:=by
 simp[aE,DY,iW,binOp,Op.intArith]
theorem Xd(h:b≠0):(aE .quo t ox oy (.int k a) (.int k b)).run P w= .ok (.value (.int k (k.wrap (a.tdiv b)))) w:=by
 simp[aE,DY,iW,binOp,Op.intDiv,h]
theorem aiA(h:b≠0):(aE .rem t ox oy (.int k a) (.int k b)).run P w= .ok (.value (.int k (a.tmod b))) w:=by
 simp[aE,DY,iW,binOp,Op.intDiv,h]
def abT(k:IntKind)(a b:Int):Int:=k.wrap (BitVec.ofInt k.bits a&&&BitVec.ofInt k.bits b).toNat
def orI(k:IntKind)(a b:Int):Int:=k.wrap (BitVec.ofInt k.bits a|||BitVec.ofInt k.bits b).toNat
def aeY(k:IntKind)(a b:Int):Int:=k.wrap (BitVec.ofInt k.bits a^^^BitVec.ofInt k.bits b).toNat
def aAa(k:IntKind)(a b:Int):Int:=k.wrap (BitVec.ofInt k.bits a&&& ~~~BitVec.ofInt k.bits b).toNat
theorem ahZ:(aE .and t ox oy (.int k a) (.int k b)).run P w= .ok (.value (.int k (abT k a b))) w:=by
 simp[aE,DY,iW,binOp,Op.intBits,abT]
theorem aDT:(aE .or t ox oy (.int k a) (.int k b)).run P w= .ok (.value (.int k (orI k a b))) w:=by
 simp[aE,DY,iW,binOp,Op.intBits,orI]
theorem Uv:(aE .xor t ox oy (.int k a) (.int k b)).run P w= .ok (.value (.int k (aeY k a b))) w:=by
 simp[aE,DY,iW,binOp,Op.intBits,aeY]
theorem auL:(aE .andNot t ox oy (.int k a) (.int k b)).run P w= .ok (.value (.int k (aAa k a b))) w:=by
 simp[aE,DY,iW,binOp,Op.intBits,aAa]
theorem auP{k':IntKind}(h:0<=b):(aE .shl t ox oy (.int k a) (.int k' b)).run P w= .ok (.value (.int k (k.wrap (a*2^(min b.toNat k.bits))))) w:=by
 simp[aE,DY,iW,binOp,Op.shift,Int.not_lt.2 h]
theorem O1 {k':IntKind}(h:0<=b):(aE .shr t ox oy (.int k a) (.int k' b)).run P w= .ok (.value (.int k (a.fdiv (2^(min b.toNat k.bits))))) w:=by
 simp[aE,DY,iW,binOp,Op.shift,Int.not_lt.2 h]
theorem RP:(aE .eql t ox oy (.int k a) (.int k b)).run P w= .ok (.value (.bool (a==b))) w:=by
 simp[aE,DY,iW,binOp,Op.intCmp,eqGuard]
theorem Mm:(aE .neq t ox oy (.int k a) (.int k b)).run P w= .ok (.value (.bool (a !=b))) w:=by
 simp[aE,DY,iW,binOp,Op.intCmp,eqGuard]
theorem fD:(aE .lss t ox oy (.int k a) (.int k b)).run P w= .ok (.value (.bool (decide (a<b)))) w:=by
 simp[aE,DY,iW,binOp,Op.intCmp]
theorem aAE:(aE .leq t ox oy (.int k a) (.int k b)).run P w= .ok (.value (.bool (decide (a<=b)))) w:=by
 simp[aE,DY,iW,binOp,Op.intCmp]
theorem vU:(aE .gtr t ox oy (.int k a) (.int k b)).run P w= .ok (.value (.bool (decide (b<a)))) w:=by
 simp[aE,DY,iW,binOp,Op.intCmp]
theorem Dr:(aE .geq t ox oy (.int k a) (.int k b)).run P w= .ok (.value (.bool (decide (b<=a)))) w:=by
 simp[aE,DY,iW,binOp,Op.intCmp]
theorem aDS:(GI .neg (.int k a)).run P w= .ok (.value (.int k (k.wrap (0-a)))) w:=by
 simp[GI,iW,Op.unary,Op.intArith]
theorem auM:(GI .xor (.int k a)).run P w= .ok (.value (.int k (aeY k (if k.signed then-1 else k.max) a))) w:=by
 simp[GI,iW,Op.unary,Op.intBits,aeY]
theorem Xc(c:Bool):(GI .not (.bool c)).run P w= .ok (.value (.bool !c)) w:=by
 simp[GI,iW,Op.unary]
theorem jH(c:Bool)(x y:aLX):(cG (.bool c) x y).run P w= .ok (.value (if c then x else y)) w:=by
 simp[cG,asBool]
theorem ajX{x y:aLX}{r:Bool}(hg:eqGuard .eql t ox oy x y=pure ())(hb:binOp .eql t x y=(do pure (.bool (<-Op.equal t x y))))(he:(Op.equal t x y).run P w= .ok r w):
 (aE .eql t ox oy x y).run P w= .ok (.value (.bool r)) w:=by
 unfold aE
 simp only[DY,iW,hg,hb,pure_bind]
 rw[Sem.run_bind,he]<;>rfl
theorem avO{x y:aLX}{r:Bool}(hg:eqGuard .neq t ox oy x y=pure ())(hb:binOp .neq t x y=(do pure (.bool (!(<-Op.equal t x y)))))(he:(Op.equal t x y).run P w= .ok r w):
 (aE .neq t ox oy x y).run P w= .ok (.value (.bool (!r))) w:=by
 unfold aE
 simp only[DY,iW,hg,hb,pure_bind]
 rw[Sem.run_bind,he]<;>rfl
theorem aBr(n:Nat)(c d:Bool)(hu:P.underlying t=some .bool):(Op.equalIn (n+1) t (.bool c) (.bool d)).run P w= .ok (c==d) w:=by
 simp only[Op.equalIn,underlying]
 simp[hu]
theorem aAk(c d:Bool)(hu:P.underlying t=some .bool):(Op.equal t (.bool c) (.bool d)).run P w= .ok (c==d) w:=aBr 9999 c d hu
theorem aGZ(c d:Bool)(hu:P.underlying t=some .bool):(aE .eql t ox oy (.bool c) (.bool d)).run P w= .ok (.value (.bool (c==d))) w:=
 ajX rfl rfl (aAk c d hu)
theorem aG0 (c d:Bool)(hu:P.underlying t=some .bool):(aE .neq t ox oy (.bool c) (.bool d)).run P w= .ok (.value (.bool (!(c==d)))) w:=
 avO rfl rfl (aAk c d hu)
theorem dI{n:Int}(h0: -9223372036854775808<=n)(h1:n<=9223372036854775807):IntKind.i64.wrap n=n:=by
 unfold IntKind.wrap;simp[IntKind.bits,IntKind.signed];split<;>omega
theorem hU{n:Int}(h0:0<=n)(h1:n<=18446744073709551615):IntKind.u64.wrap n=n:=by
 unfold IntKind.wrap;simp[IntKind.bits,IntKind.signed];omega
theorem aGu{n:Int}(h0: -2147483648<=n)(h1:n<=2147483647):IntKind.i32.wrap n=n:=by
 unfold IntKind.wrap;simp[IntKind.bits,IntKind.signed];split<;>omega
theorem Kp{n:Int}(h0:0<=n)(h1:n<=4294967295):IntKind.u32.wrap n=n:=by
 unfold IntKind.wrap;simp[IntKind.bits,IntKind.signed];omega
theorem aGv{n:Int}(h0:0<=n)(h1:n<=65535):IntKind.u16.wrap n=n:=by
 unfold IntKind.wrap;simp[IntKind.bits,IntKind.signed];omega
theorem aCf{n:Int}(h0:0<=n)(h1:n<=255):IntKind.u8.wrap n=n:=by
 unfold IntKind.wrap;simp[IntKind.bits,IntKind.signed];omega
theorem aJa(n:Int):IntKind.u64.wrap n=n%18446744073709551616:=by
 unfold IntKind.wrap;simp[IntKind.bits,IntKind.signed]
theorem wu8 (n:Int):IntKind.u8.wrap n=n%256:=by
 unfold IntKind.wrap;simp[IntKind.bits,IntKind.signed]
theorem aqG(x y:ByteArray)(h:((x.size+y.size:Nat):Int)<=9223372036854775807):(aE .add t ox oy (.string x) (.string y)).run P w= .ok (.value (.string (x++y))) w:=by
 have:¬(((x.size+y.size:Nat):Int)>IntKind.i64.max):=by
  have e:IntKind.i64.max=9223372036854775807:=by decide
  rw[e];omega
 simp only[aE,DY,iW,binOp,Op.stringOp,this,if_false]
 rfl
theorem KY(x y:ByteArray):(aE .eql t ox oy (.string x) (.string y)).run P w= .ok (.value (.bool (x.toList==y.toList))) w:=by
 simp[aE,DY,iW,binOp,Op.stringOp,eqGuard]
theorem Zw(x y:ByteArray):(aE .neq t ox oy (.string x) (.string y)).run P w= .ok (.value (.bool !(x.toList==y.toList))) w:=by
 simp[aE,DY,iW,binOp,Op.stringOp,eqGuard]
theorem aCX(n:Nat){e:TypeId}(hu:P.underlying t=some (.pointer e))(x:Option Addr):(Op.equalIn (n+1) t (.pointer x) (.pointer none)).run P w= .ok x.isNone w:=by
 simp only[Op.equalIn,underlying]
 cases x<;>simp[hu]
theorem aCY{e:TypeId}(hu:P.underlying t=some (.pointer e))(x:Option Addr):(Op.equal t (.pointer x) (.pointer none)).run P w= .ok x.isNone w:=aCX 9999 hu x
theorem aE6 (m:Nat){e:TypeId}(hu:P.underlying t=some (.slice e))(x:Option Addr)(n c:Nat):(Op.equalIn (m+1) t (.slice x n c) (.slice none 0 0)).run P w= .ok x.isNone w:=by
 simp only[Op.equalIn,underlying]
 cases x<;>simp[hu]
theorem aHQ{e:TypeId}(hu:P.underlying t=some (.slice e))(x:Option Addr)(n c:Nat):(Op.equal t (.slice x n c) (.slice none 0 0)).run P w= .ok x.isNone w:=aE6 9999 hu x n c
theorem Zv{e:TypeId}(hu:P.underlying t=some (.pointer e))(x:Option Addr):(aE .eql t ox oy (.pointer x) (.pointer none)).run P w= .ok (.value (.bool x.isNone)) w:=
 ajX rfl rfl (aCY hu x)
theorem aDU{e:TypeId}(hu:P.underlying t=some (.pointer e))(x:Option Addr):(aE .neq t ox oy (.pointer x) (.pointer none)).run P w= .ok (.value (.bool (!x.isNone))) w:=
 avO rfl rfl (aCY hu x)
theorem aqH{e:TypeId}(hu:P.underlying t=some (.slice e))(x:Option Addr)(n c:Nat):(aE .eql t ox oy (.slice x n c) (.slice none 0 0)).run P w= .ok (.value (.bool x.isNone)) w:=
 ajX rfl rfl (aHQ hu x n c)
theorem D7 {s:TypeId}{d:TypeDesc}{kd:IntKind}(hs:P.underlying s=some d)(hu:P.underlying t=some (.int kd)):(cJ s t (.int k a)).run P w= .ok (.value (.int kd (kd.wrap a))) w:=by
 cases d<;>simp[cJ,iW,convert,underlying,hs,hu,Conv.intToInt]
theorem IF{ty:TypeId}{e:TypeId}(hu:P.underlying t=some (.slice e))(x:Option Addr)(n c:Nat):(eI .len #[t] ty [.slice x n c]).run P w= .ok (.value (.int .i64 n)) w:=by
 simp[eI,builtin,Builtin.len_,underlying,hu,goInt]
theorem aG4 {ty:TypeId}(hu:P.underlying t=some .string)(x:ByteArray):(eI .len #[t] ty [.string x]).run P w= .ok (.value (.int .i64 x.size)) w:=by
 simp[eI,builtin,Builtin.len_,underlying,hu,goInt]
theorem auO{ats:Array TypeId}{ty:TypeId}:(eI .min ats ty [.int k a,.int k b]).run P w= .ok (.value (.int k (if b<a then b else a))) w:=by
 simp[eI,builtin,Builtin.min_,Builtin.min2]
theorem aDR{ats:Array TypeId}{ty:TypeId}:(eI .max ats ty [.int k a,.int k b]).run P w= .ok (.value (.int k (if b>a then b else a))) w:=by
 simp[eI,builtin,Builtin.max_,Builtin.max2]
theorem x20 (a b:aLX):(aP (.tuple #[a,b]) 0).run P w= .ok (.value a) w:=Eq.trans rfl rfl
theorem x21 (a b:aLX):(aP (.tuple #[a,b]) 1).run P w= .ok (.value b) w:=Eq.trans rfl rfl
theorem x30 (a b c:aLX):(aP (.tuple #[a,b,c]) 0).run P w= .ok (.value a) w:=Eq.trans rfl rfl
theorem x31 (a b c:aLX):(aP (.tuple #[a,b,c]) 1).run P w= .ok (.value b) w:=Eq.trans rfl rfl
theorem x32 (a b c:aLX):(aP (.tuple #[a,b,c]) 2).run P w= .ok (.value c) w:=Eq.trans rfl rfl
theorem x40 (a b c d:aLX):(aP (.tuple #[a,b,c,d]) 0).run P w= .ok (.value a) w:=Eq.trans rfl rfl
theorem x41 (a b c d:aLX):(aP (.tuple #[a,b,c,d]) 1).run P w= .ok (.value b) w:=Eq.trans rfl rfl
theorem x42 (a b c d:aLX):(aP (.tuple #[a,b,c,d]) 2).run P w= .ok (.value c) w:=Eq.trans rfl rfl
theorem x43 (a b c d:aLX):(aP (.tuple #[a,b,c,d]) 3).run P w= .ok (.value d) w:=Eq.trans rfl rfl
theorem anU(x:Addr):(cL (.pointer (some x))).run P w= .ok (.value (.pointer (some x))) w:=Eq.trans rfl rfl
theorem bR{fs:Array Field}{f:Field}{i:Nat}{inf:TypeInfo}(hu:P.underlying t=some (.struct fs))(hf:fs[i]?=some f)
 (hi:P.info? f.type=some inf) (hz:inf.size≠0) (x:Addr):(aD t (.pointer (some x)) i).run P w= .ok (.value (.pointer (some (x.add f.offset)))) w:=by
 simp[aD,iW,Instr.fieldAt,underlying,hu,hf,Instr.sureAddr,fieldPlace,sizeOf,typeInfo,hi,hz]
theorem auN{e:TypeId}{inf:TypeInfo}(hu:P.underlying t=some (.slice e))(hi:P.info? e=some inf)(x:Addr)(n c:Nat)(h0:0<=a)(h1:a<n):
 (aR t (.slice (some x) n c) (.int k a)).run P w= .ok (.value (.pointer (some (x.add (a.toNat*inf.size))))) w:=by
 simp[aR,iW,Instr.indexAt,asIntOf,underlying,hu,h0,h1,sizeOf,typeInfo,hi]
theorem aDQ{e:TypeId}{len:Nat}{inf:TypeInfo}(hu:P.underlying t=some (.array len e))(hi:P.info? e=some inf)(x:Addr)(h0:0<=a)(h1:a<len):
 (aR t (.pointer (some x)) (.int k a)).run P w= .ok (.value (.pointer (some (x.add (a.toNat*inf.size))))) w:=by
 simp[aR,iW,Instr.indexAt,asIntOf,underlying,hu,h0,h1,sizeOf,typeInfo,hi,Instr.sureAddr]
theorem aG3 (hu:P.underlying t=some .string)(x:ByteArray)(h0:0<=a)(h1:a.toNat<x.size):
 (VL t (.string x) (.int k a)).run P w= .ok (.value (.int .u8 (x[a.toNat]'h1).toNat)) w:=by
 simp[VL,iW,Instr.index,asIntOf,underlying,hu,h0,h1]
end
def bD(w:aLW)(b:Nat)(cs:List aLX):Prop:=
 ∃T lo hi,w.heap[b]?=some (.cells cs.toArray T (lo,hi))/\(cs.length<=lo∨hi=lo)
structure aL(w w':aLW)(M:Nat->Prop):Prop where
 os:w'.os=w.os
 tape:w'.tape=w.tape
 output:w'.output=w.output
 size:w.heap.size<=w'.heap.size
 keep:∀b,b<w.heap.size->¬M b->w'.heap[b]?=w.heap[b]?
def aT:Nat->Prop:=λ_=>False
theorem aL.refl (w:aLW)(M:Nat->Prop):aL w w M:=⟨rfl,rfl,rfl,aJK _,λ_ _ _=>rfl⟩
theorem aL.mono {w w':aLW}{M N:Nat->Prop}(h:aL w w' M)(hm:∀b,b<w.heap.size->M b->N b):aL w w' N:=
 ⟨h.os,h.tape,h.output,h.size,λb hb hn=>h.keep b hb λhM=>hn (hm b hb hM)⟩
theorem aL.trans {a b c:aLW}{M N:Nat->Prop}(h:aL a b M)(k:aL b c N)(hn:∀x,x<a.heap.size->N x->M x):aL a c M:=
 ⟨k.os.trans h.os,k.tape.trans h.tape,k.output.trans h.output,aKZ h.size k.size,
   λx hx hM=>(k.keep x (aKa hx h.size) λh=>hM (hn x hx h)).trans (h.keep x hx hM)⟩
theorem aL.seq {a b c:aLW}{M:Nat->Prop}(h:aL a b M)(k:aL b c M):aL a c M:=h.trans k λ_ _ h=>h
theorem aL.new {a b c:aLW}{M:Nat->Prop}{x:Nat}(h:aL a b M)(k:aL b c (λy=>y=x))(hx:a.heap.size<=x):aL a c M:=
 h.trans k λy hy e=>absurd hy (by subst e;omega)
theorem aL.more {a b c:aLW}{M:Nat->Prop}(h:aL a b M)(k:aL b c (λ_=>False)):aL a c M:=h.trans k λ_ _ h=>h.elim
theorem aL.below {w w':aLW}(h:aL w w' aT):Go.RowKit.Below w.heap.size w w':=
 ⟨h.os,h.tape,h.output,h.size,λk hk=>h.keep k hk λh=>h⟩
theorem aL.dr (w:aLW)(M:Nat->Prop):aL w (dr w) M:=⟨rfl,rfl,rfl,aJK _,λ_ _ _=>rfl⟩
theorem aL.alloc (w:aLW)(o:Obj)(M:Nat->Prop):aL w (w.alloc o) M:=
 ⟨rfl,rfl,rfl,by simp,λb hb _=>by show(w.heap.push o)[b]?=_;rw[Array.getElem?_push,if_neg (by omega)]⟩
theorem acP(w:aLW)(a:Addr)(v:aLX)(b:Nat)(h:b≠a.block):(w.setCell a v).heap[b]?=w.heap[b]?:=Go.RowKit.Below.heap_setCell w a v b h
theorem aL.setCell (w:aLW)(a:Addr)(v:aLX){M:Nat->Prop}(h:a.block<w.heap.size->M a.block):aL w (w.setCell a v) M:=
 ⟨rfl,rfl,rfl,by simp,λb hb hM=>acP w a v b λe=>hM (e▸h (e▸hb))⟩
theorem bD.lt {w:aLW}{b:Nat}{cs:List aLX}(h:bD w b cs):b<w.heap.size:=by
 obtain⟨T,lo,hi,h,_⟩:=h
 rcases aKw b w.heap.size with h'|h'
 .exact h'
 .rw [aKj h']at h;cases h
theorem bD.ext {w w':aLW}{b:Nat}{cs:List aLX}{M:Nat->Prop}(h:bD w b cs)(hx:aL w w' M)(hM:¬M b):bD w' b cs:=by
 have:=h.lt
 obtain⟨T,lo,hi,h,k⟩:=h
 exact⟨T,lo,hi,by rw[hx.keep b this hM];exact h,k⟩
theorem bD.cell {w:aLW}{b off:Nat}{cs:List aLX}(h:bD w b cs):w.cell? ⟨b,off,none⟩=cs[off]?:=by
 obtain⟨T,lo,hi,h,_⟩:=h
 simp[World.cell?,h]
theorem bD.free {w:aLW}{b off:Nat}{cs:List aLX}{s:Option Nat}(h:bD w b cs)(ho:off<cs.length):w.frozen? ⟨b,off,s⟩=false:=by
 obtain⟨T,lo,hi,h,k⟩:=h
 simp only[World.frozen?,h]
 rcases k with k|k<;>(simp;omega)
theorem bD.setCell {w:aLW}{b off:Nat}{cs:List aLX}(h:bD w b cs)(v:aLX):bD (w.setCell ⟨b,off,none⟩ v) b (cs.set off v):=by
 have hb:=h.lt
 obtain⟨T,lo,hi,h,k⟩:=h
 refine⟨T,lo,hi, ?_,by simpa using k⟩
 simp only[World.setCell,aK0,h]
 simp
theorem bD.alloc (w:aLW)(cs:List aLX)(T:TypeId):bD (w.alloc (.cells cs.toArray T)) w.heap.size cs:=
 ⟨T,0,0,by show(w.heap.push _)[w.heap.size]?=_;simp,.inr rfl⟩
theorem aCI{w w':aLW}{M:Nat->Prop}{a:Addr}{v:aLX}(h:w.cell? a=some v)(hx:aL w w' M)(hM:¬M a.block):w'.cell? a=some v:=by
 have hb:=World.block_lt_of_cell? w a h
 have e:=hx.keep _ hb hM
 unfold World.cell? at h⊢
 rw[e];exact h
section
variable{P:Program}{w:aLW}{t:TypeId}
def apA(d:TypeDesc):Bool:=match d with| .struct _| .array _ _=>true|_=>false
theorem Hy{d:TypeDesc}(hu:P.underlying t=some d):(isAgg t).run P w= .ok (apA d) w:=by
 cases d<;>simp[isAgg,underlying,hu,apA]
theorem dZ{i:TypeInfo}(hi:P.info? t=some i):(sizeOf t).run P w= .ok i.size w:=by simp[sizeOf,typeInfo,hi]
theorem WL{b off:Nat}{cs:List aLX}(ho:bD w b cs):∀(n i:Nat) (acc:Array aLX),off+i+n<=cs.length→
 (loadCellsFrom ⟨b,off,none⟩ i n acc).run P w= .ok (acc++((cs.drop (off+i)).take n).toArray) w:=by
 intro n
 induction n with
 |zero=>intro i acc _;simp[loadCellsFrom]
 |succ n ih=>
  intro i acc h
  have hc:w.cell? ((⟨b,off,none⟩:Addr).add i)=some cs[off+i]:=by
   unfold Addr.add
   split
   .rename_i hi;subst hi;rw[ho.cell];simp
   .show w.cell? ⟨b,off+i,none⟩=_;rw[ho.cell];simp
  simp only[loadCellsFrom,Sem.run_bind,run_load,hc,Result.andThen_ok]
  rw[ih (i+1) _ (by omega)]
  congr 1
  rw[aKx (by omega:off+i<cs.length)]
  simp[aKu]
theorem Ur{b off n:Nat}{cs:List aLX}(ho:bD w b cs)(h:off+n<=cs.length):
 (loadCells ⟨b,off,none⟩ n).run P w= .ok ((cs.drop off).take n).toArray w:=by
 unfold loadCells
 rw[WL ho n 0 #[] (by omega)]
 simp
theorem pB{d:TypeDesc}{i:TypeInfo}(hu:P.underlying t=some d)(hd:apA d=true)(hi:P.info? t=some i){b off:Nat}{cs:List aLX}(ho:bD w b cs)(h:off+i.size<=cs.length):
 (aB t (.pointer (some ⟨b,off,none⟩))).run P w= .ok (.value (.agg ((cs.drop off).take i.size).toArray)) w:=by
 unfold aB
 rw[iW]
 simp only[Instr.loadAt,Instr.sureAddr,loadVar,pure_bind,Sem.run_bind,Hy hu,hd,Result.andThen_ok,if_true,dZ hi,Ur ho h,Sem.run_pure]
def one(v:aLX):Bool:=match v with| .agg _| .tuple _=>false|_=>true
theorem azD{a:Addr}{v x:aLX}(hv:one v=true)(hc:w.cell? a=some x)(hf:w.frozen? a=false):(store a v).run P w= .ok () (w.setCell a v):=by
 unfold store
 cases v<;>simp[one]at hv<;>simp[Sem.run,hc,hf]
def eF(cs:List aLX)(off:Nat):List aLX->List aLX
 |[]=>cs
 |v::vs=>eF (cs.set off v) (off+1) vs
theorem Jc{b:Nat}{M:Nat->Prop}(hM:M b):∀(vs:List aLX) (w:aLW) (off i:Nat) (cs:List aLX),bD w b cs->off+i+vs.length<=cs.length->(∀v∈vs,one v=true)→
 ∃w',(storeCells ⟨b,off,none⟩ vs i).run P w= .ok () w'/\bD w' b (eF cs (off+i) vs)/\aL w w' M/\w'.heap.size=w.heap.size/\w'.drawn=w.drawn:=by
 intro vs
 induction vs with
 |nil=>intro w off i cs ho _ _;exact⟨w,by simp[storeCells],ho,aL.refl _ _,rfl,rfl⟩
 |cons v vs ih=>
  intro w off i cs ho h hv
  simp only[aJT]at h
  have ha:(⟨b,off,none⟩:Addr).add i=⟨b,off+i,none⟩:=by
   unfold Addr.add;split
   .rename_i hi;subst hi;rfl
   .rfl
  have hlt:off+i<cs.length:=by omega
  have hc:w.cell? ⟨b,off+i,none⟩=some cs[off+i]:=by rw[ho.cell];simp
  have hs:=azD (P:=P) (hv v (by simp)) hc (ho.free hlt)
  obtain⟨w',h1,h2,h3,h4,h5⟩:=ih (w.setCell ⟨b,off+i,none⟩ v) off (i+1) (cs.set (off+i) v) (ho.setCell v) (by simp;omega) (λx hx=>hv x (aJP _ hx))
  refine⟨w', ?_,h2,(aL.setCell w _ v λ_=>hM).trans h3 (λ_ _ h=>h),by rw[h4];simp,by rw[h5]<;>rfl⟩
  simp only[storeCells,Sem.run_bind,ha,hs,Result.andThen_ok]
  exact h1
theorem kA{i:TypeInfo}(hi:P.info? t=some i){b off:Nat}{cs:List aLX}(ho:bD w b cs){v:aLX}(hs:v.cells.size=i.size)
 (hv:∀x∈v.cells.toList,one x=true) (h:off+i.size<=cs.length) {K:aLX->aLW->Prop}
 (hk:∀w',bD w' b (eF cs off v.cells.toList)->aL w w' (λx=>x=b)->w'.heap.size=w.heap.size->K undef w'):aA P (aF t (.pointer (some ⟨b,off,none⟩)) v) w K:=by
 obtain⟨w',h1,h2,h3,h4,_⟩:=Jc (P:=P) (M:=λx=>x=b) rfl v.cells.toList w off 0 cs ho (by simp[hs];omega) hv
 have:(aF t (.pointer (some ⟨b,off,none⟩)) v).run P w= .ok .skip w':=by
  unfold aF
  rw[aH5]
  simp only[Instr.storeAt,Instr.sureAddr,storeVar,pure_bind,Sem.run_bind,dZ hi,Result.andThen_ok,hs]
  simp[h1]
 unfold aA
 rw[this]
 exact hk w' h2 h3 h4
theorem anO{v:aLX}(hv:one v=true):v.cells= #[v]:=by cases v<;>simp[one]at hv<;>rfl
theorem gH{i:TypeInfo}(hi:P.info? t=some i)(h1:i.size=1){b off:Nat}{cs:List aLX}(ho:bD w b cs){v:aLX}(hv:one v=true)(h:off<cs.length){K:aLX->aLW->Prop}
 (hk:∀w',bD w' b (cs.set off v)->aL w w' (λx=>x=b)->w'.heap.size=w.heap.size->K undef w'):aA P (aF t (.pointer (some ⟨b,off,none⟩)) v) w K:=by
 have e:=anO hv
 refine kA hi ho (by rw[e,h1]<;>rfl) (by rw[e];simpa using hv) (by omega) λw' a b c=>hk w' ?_ b c
 rw[e]at a;exact a
def ldC(c:Option aLX)(w:aLW)(far:Result Next):Result Next:=match c with|some v=> .ok (.value v) w|none=>far
def far(P:Program)(t:TypeId)(x:Addr)(w:aLW):Result Next:=(aB t (.pointer (some x))).run P w
theorem bL(v:aLX)(w:aLW)(f:Result Next):ldC (some v) w f= .ok (.value v) w:=rfl
theorem Nz{d:TypeDesc}(hu:P.underlying t=some d)(hd:apA d=false)(x:Addr)(w:aLW):
 (aB t (.pointer (some x))).run P w=ldC (w.cell? x) w (far P t x w):=by
 cases h:w.cell? x with
 |none=>rfl
 |some v=>
  unfold aB
  rw[iW]
  simp only[Instr.loadAt,Instr.sureAddr,loadVar,pure_bind,Sem.run_bind,Hy hu,hd,Result.andThen_ok,aJI,if_false,run_load,h,ldC]
theorem EL{d:TypeDesc}{i:TypeInfo}(hu:P.underlying t=some d)(hd:apA d=true)(hi:P.info? t=some i){b off:Nat}{cs:List aLX}(ho:bD w b cs)(h:off+i.size<=cs.length){K:aLX->Prop}
 (hk:K (.agg ((cs.drop off).take i.size).toArray)):kD P t (.pointer (some ⟨b,off,none⟩)) w K:=by
 refine⟨_, ?_,hk⟩
 simp only[asAddr,loadVar,pure_bind,Sem.run_bind,Hy hu,hd,Result.andThen_ok,if_true,dZ hi,Ur ho h,Sem.run_pure]
theorem cA{v:aLX}{K:aLX->aLW->Prop}(hk:∀w',bD w' w.heap.size v.cells.toList->aL w w' aT->w'.heap.size=w.heap.size+1->K (.pointer (some ⟨w.heap.size,0,none⟩)) w'):
 aA P (iX t v) w K:=by
 have:(iX t v).run P w= .ok (.value (.pointer (some ⟨w.heap.size,0,none⟩))) (w.alloc (.cells v.cells.toList.toArray t)):=by
  unfold iX;rw[iW]
  simp[Instr.box,newVar,newRow]
 unfold aA
 rw[this]
 exact hk _ (bD.alloc _ _ _) (aL.alloc _ _ _) (by simp)
theorem iT{i:TypeInfo}{z:aLX}(hi:P.info? t=some i)(hz:i.zero=some z){K:aLX->aLW->Prop}
 (hk:∀w',bD w' w.heap.size z.cells.toList->aL w w' aT->w'.heap.size=w.heap.size+1->K (.pointer (some ⟨w.heap.size,0,none⟩)) w'):
 aA P (bE t) w K:=by
 have:(bE t).run P w= .ok (.value (.pointer (some ⟨w.heap.size,0,none⟩))) (w.alloc (.cells z.cells.toList.toArray t)):=by
  unfold bE;rw[iW]
  simp[Instr.alloc,zeroValue,typeInfo,hi,hz,newVar,newRow]
 unfold aA
 rw[this]
 exact hk _ (bD.alloc _ _ _) (aL.alloc _ _ _) (by simp)
end
theorem jZ{P:Program}{w:aLW}{k:IntKind}{a:Int}{y:Nat}{code:BoundsCode}(h0:0<=a)(h1:a<=y):(Instr.sliceBound (.int k a) y code).run P w= .ok a.toNat w:=by
 simp[Instr.sliceBound,asIntOf,h0,h1]
section
variable{P:Program}{w:aLW}{t e:TypeId}{k k':IntKind}{lo hi:Int}{i:TypeInfo}
def dD(x:Option Addr)(m l sz:Nat):Option Addr:=if m=l then x else x.map (·.add (l*sz))
theorem aiB(hu:P.underlying t=some (.slice e))(hi':P.info? e=some i)(x:Option Addr)(n c:Nat)(h0:0<=lo)(h1:lo<=n):
 (dG t (.slice x n c) (some (.int k lo)) none none).run P w= .ok (.value (.slice (dD x c lo.toNat i.size) (n-lo.toNat) (c-lo.toNat))) w:=by
 simp only[dG,iW,Instr.sliceAt,underlying,hu,Sem.run_bind,run_program,Result.andThen_ok,Sem.run_pure,Instr.slice,Instr.sliceBounds,pure_bind,jZ h0 h1,dZ hi',dD]
theorem ayM(hu:P.underlying t=some (.slice e))(hi':P.info? e=some i)(x:Option Addr)(n c:Nat)(h0:0<=hi)(h1:hi<=c):
 (dG t (.slice x n c) none (some (.int k hi)) none).run P w= .ok (.value (.slice (dD x c 0 i.size) (hi.toNat-0) (c-0))) w:=by
 simp only[dG,iW,Instr.sliceAt,underlying,hu,Sem.run_bind,run_program,Result.andThen_ok,Sem.run_pure,Instr.slice,Instr.sliceBounds,pure_bind,jZ h0 h1,dZ hi',dD]
theorem aqI(hu:P.underlying t=some (.slice e))(hi':P.info? e=some i)(x:Option Addr)(n c:Nat)(h0:0<=lo)(h1:lo<=hi)(h2:hi<=c):
 (dG t (.slice x n c) (some (.int k lo)) (some (.int k' hi)) none).run P w= .ok (.value (.slice (dD x c lo.toNat i.size) (hi.toNat-lo.toNat) (c-lo.toNat))) w:=by
 have h3:(0:Int)<=hi:=by omega
 have h4:lo<=(hi.toNat:Int):=by omega
 simp only[dG,iW,Instr.sliceAt,underlying,hu,Sem.run_bind,run_program,Result.andThen_ok,Sem.run_pure,Instr.slice,Instr.sliceBounds,pure_bind,jZ h3 h2,jZ h0 h4,dZ hi',dD]
theorem auS(hu:P.underlying t=some .string)(x:ByteArray)(h0:0<=lo)(h1:lo<=x.size):
 (dG t (.string x) (some (.int k lo)) none none).run P w= .ok (.value (.string (x.extract lo.toNat x.size))) w:=by
 simp only[dG,iW,Instr.sliceAt,underlying,hu,Sem.run_bind,run_program,Result.andThen_ok,Sem.run_pure,Instr.slice,Instr.sliceBounds,pure_bind,aLI,aJI,if_false,jZ h0 h1]
theorem auR(hu:P.underlying t=some .string)(x:ByteArray)(h0:0<=hi)(h1:hi<=x.size):
 (dG t (.string x) none (some (.int k hi)) none).run P w= .ok (.value (.string (x.extract 0 hi.toNat))) w:=by
 simp only[dG,iW,Instr.sliceAt,underlying,hu,Sem.run_bind,run_program,Result.andThen_ok,Sem.run_pure,Instr.slice,Instr.sliceBounds,pure_bind,aLI,aJI,if_false,jZ h0 h1]
theorem alU(hu:P.underlying t=some .string)(x:ByteArray)(h0:0<=lo)(h1:lo<=hi)(h2:hi<=x.size):
 (dG t (.string x) (some (.int k lo)) (some (.int k' hi)) none).run P w= .ok (.value (.string (x.extract lo.toNat hi.toNat))) w:=by
 have h3:(0:Int)<=hi:=by omega
 have h4:lo<=(hi.toNat:Int):=by omega
 simp only[dG,iW,Instr.sliceAt,underlying,hu,Sem.run_bind,run_program,Result.andThen_ok,Sem.run_pure,Instr.slice,Instr.sliceBounds,pure_bind,aLI,aJI,if_false,jZ h3 h2,jZ h0 h4]
def Gp(a:Addr)(m l sz:Nat):Addr:=if m=l then a else a.add (l*sz)
theorem aaV{n:Nat}(hu:P.underlying t=some (.array n e))(hi':P.info? e=some i)(x:Addr)(h0:0<=lo)(h1:lo<=n):
 (dG t (.pointer (some x)) (some (.int k lo)) none none).run P w= .ok (.value (.slice (some (Gp x n lo.toNat i.size)) (n-lo.toNat) (n-lo.toNat))) w:=by
 simp only[dG,iW,Instr.sliceAt,Instr.sureAddr,underlying,hu,Sem.run_bind,run_program,Result.andThen_ok,Sem.run_pure,Instr.sliceBounds,pure_bind,jZ h0 h1,dZ hi',Gp]
theorem auQ{n:Nat}(hu:P.underlying t=some (.array n e))(hi':P.info? e=some i)(x:Addr)(h0:0<=hi)(h1:hi<=n):
 (dG t (.pointer (some x)) none (some (.int k hi)) none).run P w= .ok (.value (.slice (some (Gp x n 0 i.size)) (hi.toNat-0) (n-0))) w:=by
 simp only[dG,iW,Instr.sliceAt,Instr.sureAddr,underlying,hu,Sem.run_bind,run_program,Result.andThen_ok,Sem.run_pure,Instr.sliceBounds,pure_bind,jZ h0 h1,dZ hi',Gp]
end
def Sl(w:aLW)(v:aLX)(l:List aLX):Prop:=
 ∃a n c,v= .slice a n c/\n=l.length/\n<=c/\(0<n->∃b off,a=some ⟨b,off,none⟩/\∀i,i<n->w.cell? ⟨b,off+i,none⟩=l[i]?)
def fI(v:aLX)(M:Nat->Prop):Prop:=match v with| .slice (some a) (_+1) _=>M a.block|_=>False
theorem Sl.ext {w w':aLW}{v:aLX}{l:List aLX}{M:Nat->Prop}(h:Sl w v l)(hx:aL w w' M)(hM:¬fI v M):Sl w' v l:=by
 obtain⟨a,n,c,rfl,hn,hc,h⟩:=h
 refine⟨a,n,c,rfl,hn,hc,λh0=> ?_⟩
 obtain⟨b,off,rfl,h2⟩:=h h0
 refine⟨b,off,rfl,λi hi=> ?_⟩
 have h1:=h2 i hi
 obtain⟨v,hv⟩:∃v,l[i]?=some v:=⟨l[i],by simp⟩
 rw[hv]at h1⊢
 refine aCI h1 hx ?_
 obtain⟨m,rfl⟩:∃m,n=m+1:=⟨n-1,by omega⟩
 exact hM
theorem Sl.old {w:aLW}{v:aLX}{l:List aLX}(h:Sl w v l):¬fI v (λb=>w.heap.size<=b):=by
 obtain⟨a,n,c,rfl,hn,hc,h⟩:=h
 unfold fI
 split
 .rename_i x m _ e
  obtain⟨rfl,rfl,rfl⟩:a=some x/\n=m+1/\c=_:=by simpa using e
  obtain⟨b,off,e,h2⟩:=h (by omega)
  have e:=aKJ e;subst e
  have h1:=h2 0 (by omega)
  obtain⟨v,hv⟩:∃v,l[0]?=some v:=⟨l[0],by simp⟩
  rw[hv]at h1
  have:=World.block_lt_of_cell? _ _ h1
  simp at this⊢;omega
 .simp
def gO(x:UInt8):aLX:= .int .u8 x.toNat
abbrev Bs(w:aLW)(v:aLX)(l:List UInt8):Prop:=Sl w v (l.map gO)
theorem Cj(b o n:Nat):(⟨b,o,none⟩:Addr).add n=⟨b,o+n,none⟩:=by
 unfold Addr.add;split
 .rename_i h;subst h;rfl
 .rfl
section
variable{P:Program}{w:aLW}{t e:TypeId}{k:IntKind}{a:Int}
theorem D8 {inf:TypeInfo}{sz:Nat}(hz:inf.size=sz)(hu:P.underlying t=some (.slice e))(hi:P.info? e=some inf)(b o n c:Nat)(h0:0<=a)(h1:a<n):
 (aR t (.slice (some ⟨b,o,none⟩) n c) (.int k a)).run P w= .ok (.value (.pointer (some ⟨b,o+a.toNat*sz,none⟩))) w:=by
 rw[auN hu hi _ n c h0 h1,Cj,hz]
theorem Tk{inf:TypeInfo}(hz:inf.size=1)(hu:P.underlying t=some (.slice e))(hi:P.info? e=some inf)(b o n c:Nat)(h0:0<=a)(h1:a<n):
 (aR t (.slice (some ⟨b,o,none⟩) n c) (.int k a)).run P w= .ok (.value (.pointer (some ⟨b,o+a.toNat,none⟩))) w:=by
 rw[auN hu hi _ n c h0 h1,Cj,hz,aLl]
theorem Ml{inf:TypeInfo}{len:Nat}(hz:inf.size=1)(hu:P.underlying t=some (.array len e))(hi:P.info? e=some inf)(b o:Nat)(h0:0<=a)(h1:a<(len:Int)):
 (aR t (.pointer (some ⟨b,o,none⟩)) (.int k a)).run P w= .ok (.value (.pointer (some ⟨b,o+a.toNat,none⟩))) w:=by
 rw[aDQ hu hi _ h0 h1,Cj,hz,aLl]
end
def lst(x:ByteArray):List UInt8:=x.data.toList
theorem RE(x:ByteArray)(a b:Nat):lst (x.extract a b)=((lst x).drop a).take (b-a):=by
 unfold lst;rw[ByteArray.data_extract,Array.toList_extract,List.extract_eq_take_drop]
theorem ahO(x y:ByteArray):lst (x++y)=lst x++lst y:=by
 unfold lst;rw[ByteArray.data_append,Array.toList_append]
section
variable{P:Program}{w:aLW}{s d e:TypeId}
theorem aDP(hs:P.underlying s=some (.slice e))(hd:P.underlying d=some .string)(he:P.underlying e=some (.int .u8)){l:List UInt8}{v:aLX}(h:Bs w v l):
 (cJ s d v).run P w= .ok (.value (.string ⟨l.toArray⟩)) w:=by
 obtain⟨a,n,c,rfl,hn,hc,h⟩:=h
 simp only[aJy]at hn
 unfold cJ
 rw[iW]
 have key:(convert s d (.slice a n c)).run P w= .ok (.string ⟨l.toArray⟩) w:=by
  cases a with
  |none=>
   have hl:l=[]:=by
    cases l with
    |nil=>rfl
    |cons x l=>obtain⟨b,off,e,_⟩:=h (by rw[hn];simp);cases e
   subst hl
   rw[run_convert_bytes_string w s d e none n c hs he hd]
   rfl
  |some x=>
   subst hn
   refine run_convert_bytes_back w s d e x c l hs he hd λj hj=> ?_
   obtain⟨b,off,hx,h2⟩:=h (by omega)
   have hx:=aKJ hx
   subst hx
   rw[Cj,h2 j hj]
   simp[gO,hj]
 rw[key]<;>rfl
theorem azK(hs:P.underlying s=some .string)(hd:P.underlying d=some (.slice e))(he:P.underlying e=some (.int .u8)){x:ByteArray}{K:aLX->aLW->Prop}
 (hk:∀w' c,Sl w' (.slice (some ⟨w.heap.size,0,none⟩) x.size c) (x.data.toList.map gO)->aL w w' aT->w'.heap.size=w.heap.size+1→
  (∃r,bD w' w.heap.size (x.data.toList.map gO++List.replicate r (Value.int .u8 0))/\c=x.size+r)->K (.slice (some ⟨w.heap.size,0,none⟩) x.size c) w'):aA P (cJ s d (.string x)) w K:=by
 have run:=run_bytes_of_string (P:=P) w s d e x hs hd he
 have hcap:x.size<=grownCap w x.size 0 e:=aKE _ _
 generalize grownCap w x.size 0 e=c at run hcap
 obtain⟨r,rfl⟩:∃r,c=x.size+r:=⟨c-x.size,by omega⟩
 have hrow:bytesRow x (x.size+r)=(x.data.toList.map gO++List.replicate r (Value.int .u8 0)).toArray:=by
  unfold bytesRow
  have:x.size+r-x.size=r:=by omega
  rw[this]
  apply Array.ext'
  simp only[Array.toList_append,Array.toList_map,Array.toList_replicate]
  rfl
 rw[hrow]at run
 have hlen:(x.data.toList.map gO).length=x.size:=by rw[aJy,aLC]<;>rfl
 have hsz:(x.data.toList.map gO++List.replicate r (Value.int .u8 0)).toArray.size=x.size+r:=by
  rw[aKG,aJB,aJ5,hlen]
 rw[hsz]at run
 unfold aA cJ
 rw[iW,run]
 have ho:bD (w.drew.alloc (.cells (x.data.toList.map gO++List.replicate r (Value.int .u8 0)).toArray e (x.size+r,x.size+r+1))) w.heap.size (x.data.toList.map gO++List.replicate r (Value.int .u8 0)):=
  ⟨e,x.size+r,x.size+r+1,Array.getElem?_push_size,.inl (by rw[aJB,aJ5,hlen];exact aJK _)⟩
 have hx:aL w (w.drew.alloc (.cells (x.data.toList.map gO++List.replicate r (Value.int .u8 0)).toArray e (x.size+r,x.size+r+1))) aT:=(aL.dr w aT).trans (aL.alloc _ _ aT) (λ_ _ h=>h)
 refine hk _ _ ⟨_,_,_,rfl,hlen.symm,by omega,λ_=>⟨_,_,rfl,λi hi=> ?_⟩⟩ hx (by show(w.heap.push _).size=_;rw[Array.size_push]) ⟨r,ho,rfl⟩
 rw[ho.cell]
 simp only[aJC]
 rw[aJW (by rw[hlen];exact hi)]
end
theorem DN(l:List UInt8):∀x∈l.map gO,one x=true:=by
 intro x hx
 obtain⟨c,_,rfl⟩:=aKm.1 hx
 rfl
theorem aB1 {b o m l sz:Nat}(h:l≠m):Gp ⟨b,o,none⟩ m l sz=⟨b,o+l*sz,none⟩:=by
 unfold Gp;rw[if_neg (λe=>h e.symm),Cj]
theorem VR{b o m l:Nat}(h:l≠m):Gp ⟨b,o,none⟩ m l 1=⟨b,o+l,none⟩:=by rw[aB1 h,aLl]
theorem Sl.drop {w:aLW}{b o n c:Nat}{l:List aLX}(h:Sl w (.slice (some ⟨b,o,none⟩) n c) l){k:Nat}(hk:k<=n):
 Sl w (.slice (dD (some ⟨b,o,none⟩) c k 1) (n-k) (c-k)) (l.drop k):=by
 obtain⟨x,m,c',e,hm,hc,hh⟩:=h
 cases e
 refine⟨_,_,_,rfl,by rw[aJO];omega,by omega,λh0=> ?_⟩
 obtain⟨b',o',e,h2⟩:=hh (by omega)
 cases e
 have hne:¬c=k:=by omega
 refine⟨b,o+k,by unfold dD;rw[if_neg hne,aKo,Cj,aLl],λi hi=> ?_⟩
 rw[aKu,h2 (k+i) (by omega),aK1]
theorem Sl.take {w:aLW}{b o n c:Nat}{l:List aLX}(h:Sl w (.slice (some ⟨b,o,none⟩) n c) l){k:Nat}(hk:k<=n):
 Sl w (.slice (dD (some ⟨b,o,none⟩) c 0 1) (k-0) (c-0)) (l.take k):=by
 obtain⟨x,m,c',e,hm,hc,hh⟩:=h
 cases e
 refine⟨_,_,_,rfl,by rw[aJL];omega,by omega,λh0=> ?_⟩
 obtain⟨b',o',e,h2⟩:=hh (by omega)
 cases e
 have hne:¬c=0:=by omega
 refine⟨b,o,by unfold dD;rw[if_neg hne,aKo,Cj]<;>rfl,λi hi=> ?_⟩
 rw[h2 i (by omega),aKz (by omega)]
theorem aBu{b o n c k:Nat}{M:Nat->Prop}(h:¬fI (.slice (some ⟨b,o,none⟩) n c) M)(hn:0<n)(m:Nat):¬fI (.slice (dD (some ⟨b,o,none⟩) c k 1) m (c-k)) M:=by
 have hb:¬M b:=by
  obtain⟨n',rfl⟩:∃n',n=n'+1:=⟨n-1,by omega⟩
  exact h
 unfold fI dD
 split
 .rename_i x q _ e
  simp only[Value.slice.injEq]at e
  obtain⟨e,_,_⟩:=e
  split at e
  .cases e;exact hb
  .rw [aKo,Cj]at e;cases e;exact hb
 .simp
theorem bD.bs {w:aLW}{b off c:Nat}{cs:List aLX}{l:List UInt8}(h:bD w b cs)(hc:l.length<=c)(hl:∀i (hi:i<l.length),cs[off+i]?=some (gO l[i])):Bs w (.slice (some ⟨b,off,none⟩) l.length c) l:=
 ⟨_,_,_,rfl,by simp,hc,λ_=>⟨b,off,rfl,λi hi=>by rw[h.cell,hl i hi];simp[hi]⟩⟩
section
variable{P:Program}{w:aLW}{t e:TypeId}{k:IntKind}{a:Int}
theorem aG1 {len:Nat}{d:TypeDesc}{i:TypeInfo}(hu:P.underlying t=some (.array len e))(hd:P.underlying e=some d)(ha:apA d=false)(hi:P.info? e=some i)(h1:i.size=1)
 (cs:Array aLX) (h0:0<=a) (hl:a<(len:Int)) {v:aLX} (hv:cs[a.toNat]?=some v):(VL t (.agg cs) (.int k a)).run P w= .ok (.value v) w:=by
 unfold VL
 rw[iW]
 simp only[Instr.index,asIntOf,pure_bind,underlying,hu,Sem.run_bind,run_program,Result.andThen_ok,Sem.run_pure,h0,hl,and_self,if_true,dZ hi,h1,aLl,part,Hy hd,ha,aJI,if_false,hv]
def aHR(P:Program)(t:TypeId)(cs:Array aLX)(k:IntKind)(a:Int)(w:aLW):Result Next:=(VL t (.agg cs) (.int k a)).run P w
theorem aG2 {len:Nat}{d:TypeDesc}{i:TypeInfo}(hu:P.underlying t=some (.array len e))(hd:P.underlying e=some d)(ha:apA d=false)(hi:P.info? e=some i)(h1:i.size=1)
 (cs:Array aLX) (h0:0<=a) (hl:a<(len:Int)):(VL t (.agg cs) (.int k a)).run P w=ldC cs[a.toNat]? w (aHR P t cs k a w):=by
 cases hv:cs[a.toNat]? with
 |none=>rfl
 |some v=>exact aG1 hu hd ha hi h1 cs h0 hl hv
theorem WN{b off:Nat}{l:List aLX}(h:∀i,i<l.length->w.cell? ⟨b,off+i,none⟩=l[i]?)(n:Nat)(hn:n<=l.length):
 (loadCells ⟨b,off,none⟩ n).run P w= .ok (l.take n).toArray w:=by
 have key:∀(m i:Nat) (acc:Array aLX),i+m<=l.length->(loadCellsFrom ⟨b,off,none⟩ i m acc).run P w= .ok (acc++((l.drop i).take m).toArray) w:=by
  intro m
  induction m with
  |zero=>intro i acc _;simp[loadCellsFrom]
  |succ m ih=>
   intro i acc hm
   have hc:=h i (by omega)
   rw[aJA (by omega)]at hc
   simp only[loadCellsFrom,Sem.run_bind,run_load,Cj,hc,Result.andThen_ok]
   rw[ih (i+1) _ (by omega),aKx (by omega:i<l.length),List.take_succ_cons]
   simp
 unfold loadCells
 rw[key n 0 #[] (by omega)]
 simp
theorem alN{sz n:Nat}{v:aLX}{l:List aLX}(h1:sz=1)(h:Sl w v l)(hn:n<=l.length):(Builtin.firstCells sz n v).run P w= .ok (l.take n).toArray w:=by
 subst h1
 obtain⟨x,m,c,rfl,hm,hc,hh⟩:=h
 cases x with
 |none=>
  have:l=[]:=by
   cases l with
   |nil=>rfl
   |cons y l=>obtain⟨b,off,e,_⟩:=hh (by rw[hm];simp);cases e
  subst this
  simp[Builtin.firstCells]
 |some x=>
  simp only[Builtin.firstCells,aLl]
  by_cases h0:0<m
  .obtain ⟨b,off,e,h2⟩:=hh h0
   have e:=aKJ e;subst e
   exact WN (λi hi=>h2 i (by omega)) n hn
  .have h00:n=0:=by omega
   subst h00
   simp[loadCells,loadCellsFrom]
theorem aHd{v:aLX}{l:List aLX}(h:Sl w v l):(Builtin.lenOf v).run P w= .ok l.length w:=by
 obtain⟨x,m,c,rfl,hm,hc,hh⟩:=h
 simp[Builtin.lenOf,hm]
theorem awF{ty t2:TypeId}{i:TypeInfo}(hu:P.underlying t=some (.slice e))(hi:P.info? e=some i)(h1:i.size=1){b off dl c:Nat}{cs:List aLX}(ho:bD w b cs)(hl:off+dl<=cs.length)
 {v:aLX} {l:List aLX} (h:Sl w v l) (hv:∀x∈l,one x=true) {K:aLX->aLW->Prop}
 (hk:∀w',bD w' b (eF cs off (l.take (min l.length dl)))->aL w w' (λx=>x=b)->w'.heap.size=w.heap.size->K (.int .i64 (min l.length dl:Nat)) w'):
 aA P (eI .copy #[t,t2] ty [.slice (some ⟨b,off,none⟩) dl c,v]) w K:=by
 have hlen:(l.take (min l.length dl)).length=min l.length dl:=by rw[aJL];omega
 obtain⟨w',s1,s2,s3,s4,_⟩:=Jc (P:=P) (M:=λx=>x=b) rfl (l.take (min l.length dl)) w off 0 cs ho (by rw[hlen];omega) (λx hx=>hv x (aLj hx))
 have:(eI .copy #[t,t2] ty [.slice (some ⟨b,off,none⟩) dl c,v]).run P w= .ok (.value (.int .i64 (min l.length dl:Nat))) w':=by
  unfold eI builtin
  simp only[Builtin.copy_,aKP,aJz,aJF]
  simp only[underlying,Sem.run_bind,run_program,Result.andThen_ok,hu,Sem.run_pure,aHd h,dZ hi,h1]
  have:=alN (P:=P) (n:=min l.length dl) rfl h (Nat.min_le_left _ _)
  rw[show(Nat.min l.length dl)=min l.length dl from rfl,this]
  simp only[Result.andThen_ok,s1,goInt]
 unfold aA
 rw[this]
 exact hk w' (by simpa using s2) s3 s4
theorem awG{i:TypeInfo}{z:aLX}(hu:P.underlying t=some (.slice e))(hi:P.info? e=some i)(h1:i.size=1)(hz:i.zero=some z)(hz1:one z=true){n:Int}(h0:0<=n)(hn:i.bytes*n<=2^48)(hn2:n<=9223372036854775807)
 {K:aLX->aLW->Prop}
 (hk:∀w',bD w' w.heap.size (List.replicate n.toNat z)->aL w w' aT->w'.heap.size=w.heap.size+1->K (.slice (some ⟨w.heap.size,0,none⟩) n.toNat n.toNat) w'):
 aA P (xP t (.int k n) (.int k n)) w K:=by
 have hw:IntKind.i64.wrap n=n:=dI (by omega) hn2
 have hcells:z.cells= #[z]:=anO hz1
 have harr:(Array.range n.toNat).map (λj=>(#[z]:Array aLX)[j%(#[z]:Array aLX).size]!)=(List.replicate n.toNat z).toArray:=by
  apply Array.ext
  .simp
  .intro j h1 h2;simp[Nat.mod_one]
 have hz':(zeroValue e).run P w= .ok z w:=by simp[zeroValue,typeInfo,hi,hz]
 have:(xP t (.int k n) (.int k n)).run P w= .ok (.value (.slice (some ⟨w.heap.size,0,none⟩) n.toNat n.toNat)) (w.alloc (.cells (List.replicate n.toNat z).toArray e)):=by
  unfold xP
  rw[iW]
  have t1:(decide (n<0)||decide ((i.bytes:Int)*n>2^48)||decide (n<0)||decide (n>n))=false:=by
   simp only[aLi,decide_eq_false_iff_not];omega
  by_cases hn0:n.toNat=0
  .simp only[Instr.makeSlice,underlying,typeInfo,asInt,asIntOf,pure_bind,Sem.run_bind,run_program,Result.andThen_ok,hu,hi,Sem.run_pure,hw,t1,aJI,if_false,run_askRoom,dZ hi,h1,aLl,hn0,if_true,newRow,run_newObj]
   have:(Array.range 0).map (λx=>(#[]:Array aLX)[x%(#[]:Array aLX).size]!)=(List.replicate 0 z).toArray:=by simp
   rw[this]
   rfl
  .simp only[Instr.makeSlice,underlying,typeInfo,asInt,asIntOf,pure_bind,Sem.run_bind,run_program,Result.andThen_ok,hu,hi,Sem.run_pure,hw,t1,aJI,if_false,run_askRoom,dZ hi,h1,aLl,hn0,hz',hcells,newRow,run_newObj,harr]
   rfl
 unfold aA
 rw[this]
 exact hk _ (bD.alloc _ _ _) (aL.alloc _ _ _) (by simp)
end
def Cl(w:aLW)(sz:Nat)(v:aLX)(n:Nat)(l:List aLX):Prop:=
 ∃a c,v= .slice a n c/\l.length=n*sz/\(0<n->∃b off,a=some ⟨b,off,none⟩/\∀i,i<l.length->w.cell? ⟨b,off+i,none⟩=l[i]?)
def kW(w:aLW)(base sz:Nat)(v:aLX)(n:Nat)(l:List aLX):Prop:=
 l.length=n*sz/\((v= .slice none 0 0/\n=0)∨
   ∃b c rest,v= .slice (some ⟨b,0,none⟩) n c/\base<=b/\bD w b (l++rest)/\(l++rest).length=c*sz/\n<=c)
def Di(w:aLW)(S:Nat->Prop)(sz:Nat)(v:aLX)(n:Nat)(l:List aLX):Prop:=
 l.length=n*sz/\((v= .slice none 0 0/\n=0)∨
   ∃b c rest,v= .slice (some ⟨b,0,none⟩) n c/\S b/\bD w b (l++rest)/\(l++rest).length=c*sz/\n<=c)
theorem Sl.cl {w:aLW}{v:aLX}{l:List aLX}(h:Sl w v l):Cl w 1 v l.length l:=by
 obtain⟨a,n,c,rfl,rfl,hc,h⟩:=h
 exact⟨a,c,rfl,by omega,λh0=>h h0⟩
theorem bD.cl {w:aLW}{b sz n c off:Nat}{cs l:List aLX}(h:bD w b cs)(hl:l.length=n*sz)(hcs:∀i,i<l.length->cs[off+i]?=l[i]?):Cl w sz (.slice (some ⟨b,off,none⟩) n c) n l:=
 ⟨_,_,rfl,hl,λ_=>⟨b,off,rfl,λi hi=>by rw[h.cell,hcs i hi]⟩⟩
theorem kW.nil (w:aLW)(base sz:Nat):kW w base sz (.slice none 0 0) 0 []:=⟨by simp,.inl ⟨rfl,rfl⟩⟩
theorem kW.ext {w w':aLW}{base sz n:Nat}{v:aLX}{l:List aLX}{M:Nat->Prop}(h:kW w base sz v n l)(hx:aL w w' M)(hM:∀b,base<=b->¬M b):kW w' base sz v n l:=by
 refine⟨h.1, ?_⟩
 rcases h.2 with h2|⟨b,c,rest,h1,h2,h3,h4,h5⟩
 .exact .inl h2
 .exact .inr ⟨b,c,rest,h1,h2,h3.ext hx (hM b h2),h4,h5⟩
theorem kW.cl {w:aLW}{base sz n:Nat}{v:aLX}{l:List aLX}(h:kW w base sz v n l):Cl w sz v n l:=by
 rcases h.2 with⟨rfl,rfl⟩|⟨b,c,rest,rfl,h2,h3,h4,h5⟩
 .exact ⟨_,_,rfl,h.1,λh=>by omega⟩
 .refine ⟨_,_,rfl,h.1,λ_=>⟨b,0,rfl,λi hi=> ?_⟩⟩
  rw[h3.cell,aJC,aJW hi]
theorem kW.sl {w:aLW}{base n:Nat}{v:aLX}{l:List aLX}(h:kW w base 1 v n l):Sl w v l:=by
 have hl:=h.1
 rcases h.2 with⟨rfl,rfl⟩|⟨b,c,rest,rfl,h2,h3,h4,h5⟩
 .exact ⟨_,_,_,rfl,by omega,by omega,λh=>by omega⟩
 .refine ⟨_,_,_,rfl,by omega,h5,λ_=>⟨b,0,rfl,λi hi=> ?_⟩⟩
  rw[h3.cell,aJC,aJW (by omega)]
section
variable{P:Program}{w:aLW}{t e:TypeId}
theorem WM{b off:Nat}{l:List aLX}(h:∀i,i<l.length->w.cell? ⟨b,off+i,none⟩=l[i]?):(loadCells ⟨b,off,none⟩ l.length).run P w= .ok l.toArray w:=by
 have:=WN (P:=P) h l.length (aJK _)
 rwa [List.take_length]at this
theorem EE{sz n:Nat}{v:aLX}{l:List aLX}(h:Cl w sz v n l):(Builtin.firstCells sz n v).run P w= .ok l.toArray w:=by
 obtain⟨x,c,rfl,hl,hh⟩:=h
 cases x with
 |none=>
  have:n=0:=by
   rcases Nat.eq_zero_or_pos n with h|h
   .exact h
   .obtain ⟨b,off,e,_⟩:=hh h;cases e
  subst this
  have:l=[]:=aJ9.1 (by omega)
  subst this
  simp[Builtin.firstCells]
 |some x=>
  simp only[Builtin.firstCells]
  rw[<-hl]
  by_cases h0:0<n
  .obtain ⟨b,off,e,h2⟩:=hh h0
   have e:=aKJ e;subst e
   exact WM h2
  .have:n=0:=by omega
   subst this
   have:l=[]:=aJ9.1 (by omega)
   subst this
   simp[loadCells,loadCellsFrom]
theorem MW(zs:Array aLX)(n:Nat):(Builtin.zeroCells zs n).size=n*zs.size:=by simp[Builtin.zeroCells]
theorem jB(vs:List aLX):∀(aJx rest:List aLX),vs.length<=rest.length->eF (aJx++rest) aJx.length vs=aJx++vs++rest.drop vs.length:=by
 induction vs with
 |nil=>intro aJx rest _;simp[eF]
 |cons v vs ih=>
  intro aJx rest h
  cases rest with
  |nil=>simp at h
  |cons r rest=>
   have:=ih (aJx++[v]) rest (by simpa using h)
   simp only[eF,aJB,aJT,aKy,aJS,aLa,aJX]at this⊢
   rw[List.drop_succ_cons,<-this,aKf _ _ (aJK _),aKO,aJR,aJC]
theorem awE{S:Nat->Prop}{sz n m:Nat}{i:TypeInfo}{z:aLX}{ty t2 e2:TypeId}(hu:P.underlying t=some (.slice e))(hu2:P.underlying t2=some (.slice e2))(hi:P.info? e=some i)(hsz:i.size=sz)(hz:i.zero=some z)(hzs:z.cells.size=sz)
 {v x:aLX} {l news:List aLX} (h:Di w S sz v n l) (hx:Cl w sz x m news) (hone:∀y∈news,one y=true) (hb:∀b,w.heap.size<=b->S b)
 (hn:n+m<=9223372036854775807) (hbytes:(n+m)*i.bytes<=140737488355328) (_hpos:i.bytes≠0)
 {K:aLX->aLW->Prop} (hk:∀v' w',Di w' S sz v' (n+m) (l++news)->aL w w' S->Cl w' sz v n l->K v' w'):aA P (eI .append #[t,t2] ty [v,x]) w K:=by
 have hlx:(Builtin.lenOf x).run P w= .ok m w:=by
  obtain⟨a,c,rfl,_⟩:=hx;simp[Builtin.lenOf]
 have hnl:=hx.choose_spec.choose_spec.2.1
 have hfx:=EE (P:=P) hx
 have hmax:IntKind.i64.max=9223372036854775807:=by decide
 have hnot:¬(((n+m:Nat):Int)>IntKind.i64.max/\(False∨i.bytes=0)):=by rw[hmax];omega
 have hz':∀w,(zeroValue e).run P w= .ok z w:=λw=>by simp[zeroValue,typeInfo,hi,hz]
 have hlen:=h.1
 rcases h.2 with⟨rfl,rfl⟩|⟨b,c,rest,rfl,h2,h3,h4,h5⟩
 .
  have hl0:l=[]:=aJ9.1 (by omega)
  subst hl0
  by_cases hm:m=0
  .subst hm
   have hn0:news=[]:=aJ9.1 (by omega)
   subst hn0
   have:(eI .append #[t,t2] ty [.slice none 0 0,x]).run P w= .ok (.value (.slice none 0 0)) w:=by
    unfold eI builtin
    simp only[Builtin.append_,aKP,aJz,aJF]
    simp only[underlying,Sem.run_bind,run_program,Result.andThen_ok,hu,hu2,Sem.run_pure,dZ hi,hsz,aJI,if_false,hlx,aJK,aLT,if_true,aKD,hfx]
   unfold aA
   rw[this]
   exact hk _ _ ⟨by simp,.inl ⟨rfl,by omega⟩⟩ (aL.refl _ _) ⟨none,0,rfl,hlen,λh=>absurd h (by omega)⟩
  .have hfit:=growslice_fits (need:=0+m) (old:=0) (bytes:=i.bytes) (by omega) (by omega)
   have hfit':¬(Builtin.nextslicecap (0+m) 0*i.bytes>2^48):=by omega
   have hle:¬(0+m<=0):=by omega
   have hq:(Question.appendCap (0+m) 0 e).forced=false:=rfl
   obtain⟨r,hr⟩:∃r,(Question.appendCap (0+m) 0 e).cut (w.tape w.drawn (.appendCap (0+m) 0 e))=m+r:=
    ⟨(w.tape w.drawn (.appendCap (0+m) 0 e))%(2^63-(0+m)),by simp only[Question.cut];omega⟩
   have:(eI .append #[t,t2] ty [.slice none 0 0,x]).run P w= .ok (.value (.slice (some ⟨w.heap.size,0,none⟩) (0+m) (m+r))) ((dr w).alloc (.cells (news++(Builtin.zeroCells z.cells (m+r-(0+m))).toList).toArray e)):=by
    have hfx':=EE (P:=P) (w:=dr w) hx
    unfold eI builtin
    simp only[Builtin.append_,aKP,aJz,aJF]
    simp only[underlying,typeInfo,Sem.run_bind,run_program,Result.andThen_ok,hu,hu2,hi,Sem.run_pure,dZ hi,hsz,aJI,if_false,hlx,hle,aKD,if_true,hnot,hfit',run_choose,hq,hr,run_askRoom]
    change((Sem.run P _ (dr w)).andThen _).andThen _=_
    simp only[Sem.run_bind,hfx',run_firstCells_none,Result.andThen_ok,hz',Sem.run_pure,newRow,run_newObj]
    have e1:(#[]++news.toArray++Builtin.zeroCells z.cells (m+r-(0+m)):Array aLX)=(news++(Builtin.zeroCells z.cells (m+r-(0+m))).toList).toArray:=by
     apply Array.ext';simp
    rw[e1]
    rfl
   unfold aA
   rw[this]
   refine hk _ _ ⟨by simp only[aJX];rw[hnl,aJC],.inr ⟨w.heap.size,m+r,(Builtin.zeroCells z.cells (m+r-(0+m))).toList,by rw[aJC],hb _ (aJK _),bD.alloc (dr w) _ _, ?_,by omega⟩⟩ ((aL.dr w _).seq (aL.alloc _ _ _)) ⟨none,0,rfl,hlen,λh=>absurd h (by omega)⟩
   simp only[aJX,aJB,aLC,MW,hzs,hnl]
   rw[show m+r-(0+m)=r from by omega,aLL]
 .by_cases hc:n+m<=c
  .
   have hroom:news.length<=rest.length:=by
    rw[aJB,hlen]at h4
    have:(n+m)*sz<=c*sz:=aLU _ hc
    rw[aLL]at this;omega
   obtain⟨w',s1,s2,s3,s4,_⟩:=Jc (P:=P) (M:=S) h2 news w (n*sz) 0 (l++rest) h3 (by rw[aJB,hlen];omega) hone
   have:(eI .append #[t,t2] ty [.slice (some ⟨b,0,none⟩) n c,x]).run P w= .ok (.value (.slice (some ⟨b,0,none⟩) (n+m) c)) w':=by
    unfold eI builtin
    simp only[Builtin.append_,aKP,aJz,aJF]
    simp only[underlying,Sem.run_bind,run_program,Result.andThen_ok,hu,hu2,Sem.run_pure,dZ hi,hsz,aJI,if_false,hlx,hc,if_true,aKD,hfx,Cj,aJC,s1]
   unfold aA
   rw[this]
   rw[aLT,<-hlen,jB _ _ _ hroom]at s2
   refine hk _ _ ⟨by rw[aJB,hlen,hnl,aLL],.inr ⟨b,c,rest.drop news.length,rfl,h2,s2, ?_,hc⟩⟩ s3 ⟨_,_,rfl,hlen,λ_=>⟨b,0,rfl,λi hi=>by
    rw[s2.cell,aJC,aJS,aJW hi]⟩⟩
   rw[<-h4];simp;omega
  .
   have hfit:=growslice_fits (need:=n+m) (old:=c) (bytes:=i.bytes) (by omega) hbytes
   have hfit':¬(Builtin.nextslicecap (n+m) c*i.bytes>2^48):=by omega
   have hq:(Question.appendCap (n+m) c e).forced=false:=rfl
   obtain⟨r,hr⟩:∃r,(Question.appendCap (n+m) c e).cut (w.tape w.drawn (.appendCap (n+m) c e))=n+m+r:=
    ⟨(w.tape w.drawn (.appendCap (n+m) c e))%(2^63-(n+m)),by simp only[Question.cut]⟩
   have hold:Cl (dr w) sz (.slice (some ⟨b,0,none⟩) n c) n l:=⟨_,_,rfl,hlen,λ_=>⟨b,0,rfl,λi hi=>by
    show w.cell? _=_
    rw[h3.cell,aJC,aJW hi]⟩⟩
   have:(eI .append #[t,t2] ty [.slice (some ⟨b,0,none⟩) n c,x]).run P w= .ok (.value (.slice (some ⟨w.heap.size,0,none⟩) (n+m) (n+m+r))) ((dr w).alloc (.cells (l++news++(Builtin.zeroCells z.cells (n+m+r-(n+m))).toList).toArray e)):=by
    have hfx':=EE (P:=P) (w:=dr w) hx
    have hfo:=EE (P:=P) hold
    unfold eI builtin
    simp only[Builtin.append_,aKP,aJz,aJF]
    simp only[underlying,typeInfo,Sem.run_bind,run_program,Result.andThen_ok,hu,hu2,hi,Sem.run_pure,dZ hi,hsz,aJI,if_false,hlx,hc,aKD,if_true,hnot,hfit',run_choose,hq,hr,run_askRoom]
    change((Sem.run P _ (dr w)).andThen _).andThen _=_
    simp only[Sem.run_bind,hfx',hfo,Result.andThen_ok,hz',Sem.run_pure,newRow,run_newObj]
    have e1:(l.toArray++news.toArray++Builtin.zeroCells z.cells (n+m+r-(n+m)):Array aLX)=(l++news++(Builtin.zeroCells z.cells (n+m+r-(n+m))).toList).toArray:=by
     apply Array.ext';simp
    rw[e1]
    rfl
   unfold aA
   rw[this]
   refine hk _ _ ⟨by rw[aJB,hlen,hnl,aLL],.inr ⟨w.heap.size,n+m+r,_,rfl,hb _ (aJK _),bD.alloc (dr w) _ _, ?_,by omega⟩⟩ ((aL.dr w _).seq (aL.alloc _ _ _)) ⟨_,_,rfl,hlen,λ_=>⟨b,0,rfl,λi hi=>by
    have o9:=h3.ext ((aL.dr w aT).seq (aL.alloc (dr w) (.cells (l++news++(Builtin.zeroCells z.cells (n+m+r-(n+m))).toList).toArray e) aT)) (λh=>h)
    rw[o9.cell,aJC,aJW hi]⟩⟩
   simp only[aJB,aLC,MW,hzs,hnl,hlen]
   rw[show n+m+r-(n+m)=r from by omega,aLL,aLL]
theorem yG{S:Nat->Prop}{sz n m:Nat}{i:TypeInfo}{z:aLX}{ty t2 e2:TypeId}(hu:P.underlying t=some (.slice e))(hu2:P.underlying t2=some (.slice e2))(hi:P.info? e=some i)(hsz:i.size=sz)(hz:i.zero=some z)(hzs:z.cells.size=sz)
 {v x:aLX} {l news:List aLX} (h:Di w S sz v n l) (hx:Cl w sz x m news) (hone:∀y∈news,one y=true) (hb:∀b,w.heap.size<=b->S b)
 (hn:n+m<=9223372036854775807) (hbytes:(n+m)*i.bytes<=140737488355328) (_hpos:i.bytes≠0)
 {K:aLX->aLW->Prop} (hk:∀v' w',Di w' S sz v' (n+m) (l++news)->aL w w' S->K v' w'):aA P (eI .append #[t,t2] ty [v,x]) w K:=
 awE hu hu2 hi hsz hz hzs h hx hone hb hn hbytes _hpos λv' w' a b _=>hk v' w' a b
theorem Jr{base sz n m:Nat}{i:TypeInfo}{z:aLX}{ty t2 e2:TypeId}(hu:P.underlying t=some (.slice e))(hu2:P.underlying t2=some (.slice e2))(hi:P.info? e=some i)(hsz:i.size=sz)(hz:i.zero=some z)(hzs:z.cells.size=sz)
 {v x:aLX} {l news:List aLX} (h:kW w base sz v n l) (hx:Cl w sz x m news) (hone:∀y∈news,one y=true) (hb:base<=w.heap.size)
 (hn:n+m<=9223372036854775807) (hbytes:(n+m)*i.bytes<=140737488355328) (_hpos:i.bytes≠0)
 {K:aLX->aLW->Prop} (hk:∀v' w',kW w' base sz v' (n+m) (l++news)->aL w w' (λy=>base<=y)->K v' w'):aA P (eI .append #[t,t2] ty [v,x]) w K:=
 yG (S:=λy=>base<=y) hu hu2 hi hsz hz hzs h hx hone (λ_ h=>aKZ hb h) hn hbytes _hpos hk
end
section
variable{P:Program}{w:aLW}{t e:TypeId}
theorem pW{i:TypeInfo}{z:aLX}{n:Nat}{ps:List (Nat×aLX)}{cells:Array aLX}(hu:P.underlying t=some (.slice e))(hi:P.info? e=some i)(hz:i.zero=some z)
 (h1:¬n*i.size>2^24) (h0:¬n*i.size=0) (hf:Instr.fill (λj=>some (j*i.size,i.size)) ((Array.range (n*i.size)).map (z.cells[·%z.cells.size]!)) ps=some cells)
 {K:aLX->aLW->Prop} (hk:∀w',bD w' w.heap.size cells.toList->aL w w' aT->w'.heap.size=w.heap.size+1->K (.slice (some ⟨w.heap.size,0,none⟩) n n) w'):
 aA P (bB t n ps) w K:=by
 have hz':(zeroValue e).run P w= .ok z w:=by simp[zeroValue,typeInfo,hi,hz]
 have:(bB t n ps).run P w= .ok (.value (.slice (some ⟨w.heap.size,0,none⟩) n n)) (w.alloc (.cells cells.toList.toArray e)):=by
  unfold bB;rw[iW]
  simp only[Instr.buildSlice,underlying,pure_bind,Sem.run_bind,run_program,Result.andThen_ok,hu,Sem.run_pure,dZ hi,h1,h0,if_false,hz',hf,newRow,run_newObj]
  rfl
 unfold aA
 rw[this]
 exact hk _ (bD.alloc _ _ _) (aL.alloc _ _ _) (by simp)
theorem bD.mark {b:Nat}{cs:List aLX}(h:bD w b cs):bD (w.freeze ⟨b,cs.length,none⟩ 1) b cs:=by
 have hb:=h.lt
 obtain⟨T,lo,hi,h,k⟩:=h
 by_cases hlh:(lo==hi)=true
 .refine ⟨T,cs.length,cs.length+1, ?_,.inl (aJK _)⟩
  show(w.heap.modify b _)[b]?=_
  rw[aK0,if_pos rfl,h]
  have hlh:lo=hi:=by simpa using hlh
  simp[hlh]
 .refine ⟨T,min lo cs.length,max hi (cs.length+1), ?_,.inl ?_⟩
  .show (w.heap.modify b _)[b]?=_
   rw[aK0,if_pos rfl,h]
   have hlh:¬lo=hi:=by simpa using hlh
   simp[hlh]
  .rcases k with k|k
   .omega
   .exfalso;apply hlh;rw[k];simp
theorem aL.mark (w:aLW)(a:Addr):aL w (w.freeze a 1) (λy=>y=a.block):=
 ⟨rfl,rfl,rfl,by show _<=(w.heap.modify _ _).size;simp,λb hb hn=>by
  show(w.heap.modify a.block _)[b]?=_
  rw[aK0]
  rw[if_neg (λh=>hn h.symm)]⟩
theorem aFU(hu:P.underlying t=some (.slice e))(he:P.underlying e=some (.int .u8)){b off n c:Nat}{cs:List aLX}(ho:bD w b cs)
 {K:aLX->aLW->Prop} (hk:∀w',bD w' b cs->aL w w' (λy=>y=b)->w'.heap.size=w.heap.size->K (.slice (some ⟨b,off,none⟩) n c) w'):
 aA P (cJ t t (.slice (some ⟨b,off,none⟩) n c)) w K:=by
 obtain⟨T,hs⟩:∃T,w.shape? b=some (T,cs.length):=by
  obtain⟨T,lo,hi,h,_⟩:=ho
  exact⟨T,by unfold World.shape?;rw[h];simp⟩
 have:(cJ t t (.slice (some ⟨b,off,none⟩) n c)).run P w= .ok (.value (.slice (some ⟨b,off,none⟩) n c)) (w.freeze ⟨b,cs.length,none⟩ 1):=by
  unfold cJ;rw[iW]
  simp[convert,underlying,hu,he,markStringish,shape,freeze,Sem.run,hs]
 unfold aA
 rw[this]
 exact hk _ ho.mark (aL.mark w _) (by show(w.heap.modify _ _).size=_;simp)
end
section
variable{P:Program}{w:aLW}{t e:TypeId}
theorem auH{d:TypeDesc}(he:P.underlying e=some d)(hd:apA d=false){cs:Array aLX}{k:Nat}{v:aLX}(h:cs[k]?=some v):(part e cs k).run P w= .ok v w:=by
 unfold part
 simp only[Sem.run_bind,Hy he,hd,Result.andThen_ok,aJI,if_false,h,Sem.run_pure]
theorem aER{a b:UInt8}:(((a.toNat:Int))==(b.toNat:Int))=decide (a=b):=by
 rw[Bool.eq_iff_iff]
 simp only[<-UInt8.toNat_inj,beq_iff_eq,decide_eq_true_eq]
 omega
theorem axT{i:TypeInfo}(m n:Nat)(hu:P.underlying t=some (.array n e))(he:P.underlying e=some (.int .u8))(hi:P.info? e=some i)(h1:i.size=1)(l l':List UInt8)(hl:l.length=n)(hl':l'.length=n):
 (Op.equalIn (m+2) t (.agg (l.map gO).toArray) (.agg (l'.map gO).toArray)).run P w= .ok (decide (l=l')) w:=by
 unfold Op.equalIn
 simp only[underlying,Sem.run_bind,run_program,Result.andThen_ok,hu,Sem.run_pure,dZ hi,Std.Legacy.Range.forIn_eq_forIn_range',Std.Legacy.Range.size,Nat.sub_zero,Nat.add_one_sub_one,Nat.div_one,h1,aLl]
 have key:∀(c k:Nat),k+c=n->l.take k=l'.take k→
     ∃r,(forIn (List.range' k c) (none,()) λ(i:Nat) (_:Option Bool×Unit)=>(do
         let a<-part e (List.map gO l).toArray i
         let b<-part e (List.map gO l').toArray i
         let c<-Op.equalIn (m+1) e a b
         if(!c)=true then pure (ForInStep.done (some false,()))else pure (ForInStep.yield (none,())):Sem (ForInStep (Option Bool×Unit)))).run P w= .ok (r,()) w/\r.getD true=decide (l=l'):=by
  intro c
  induction c with
  |zero=>
   intro k hk ht
   refine⟨none,by simp, ?_⟩
   have:l=l':=by
    rw[aJD (by omega),aJD (by omega)]at ht;exact ht
   simp[this]
  |succ c ih=>
   intro k hk ht
   have g:∀(q:List UInt8) (h:k<q.length),(q.map gO).toArray[k]?=some (gO q[k]):=λq h=>by simp[h]
   have hv:(Op.equalIn (m+1) e (gO (l[k]'(by omega))) (gO (l'[k]'(by omega)))).run P w= .ok (decide (l[k]'(by omega)=l'[k]'(by omega))) w:=by
    unfold Op.equalIn gO
    simp only[underlying,Sem.run_bind,run_program,Result.andThen_ok,he,Sem.run_pure,if_true,aER]
   rw[List.range'_succ]
   simp only[List.forIn_cons,Sem.run_bind,auH he rfl (g l (by omega)),auH he rfl (g l' (by omega)),Result.andThen_ok,hv]
   by_cases hx:l[k]'(by omega)=l'[k]'(by omega)
   .simp only[hx,decide_true,aKU,aJI,if_false,Sem.run_pure,Result.andThen_ok]
    refine ih (k+1) (by omega) ?_
    rw[aLK,aLK,ht,aJA (by omega),aJA (by omega),hx]
   .simp only[hx,decide_false,aKD,if_true,Sem.run_pure,Result.andThen_ok]
    refine⟨some false,rfl, ?_⟩
    have:l≠l':=λh=>hx (by subst h;rfl)
    simp[this]
 obtain⟨r,h1,h2⟩:=key n 0 (by omega) (by simp)
 rw[h1,<-h2]
 cases r<;>simp
structure afV{κ:Type}[DecidableEq κ](P:Program)(t:TypeId)(enc:κ->aLX):Prop where
 eq:∀a b (w:aLW),(Op.equal t (enc a) (enc b)).run P w= .ok (decide (a=b)) w
 now:∃d,P.underlying t=some d/\∀a b,Instr.sameNow d (enc a) (enc b)=none∨Instr.sameNow d (enc a) (enc b)=some (decide (a=b))
 chk:∀(e:Bool) a (w:aLW),(Instr.checkKey e 10000 t (enc a)).run P w= .ok () w
 stay:∀a,Instr.sameBits 10000 (enc a) (enc a)=true
def OI{κ:Type}[DecidableEq κ](k:κ):List (κ×aLX)->Option aLX
 |[]=>none
 |p::r=>if k=p.1 then some p.2 else OI k r
def upd{κ:Type}[DecidableEq κ](k:κ)(v:aLX):List (κ×aLX)->List (κ×aLX)
 |[]=>[(k,v)]
 |p::r=>if k=p.1 then(k,v)::r else p::upd k v r
theorem aFW{κ:Type}[DecidableEq κ]{k:κ}{v:aLX}{l:List (κ×aLX)}{p:κ×aLX}(h:p∈upd k v l):p=(k,v)∨p∈l:=by
 induction l with
 |nil=>simp[upd]at h;exact .inl h
 |cons q r ih=>
  simp only[upd]at h
  split at h
  .rcases aJG.1 h with h|h
   .exact .inl h
   .exact .inr (aJP _ h)
  .rcases aJG.1 h with h|h
   .exact .inr (h▸aJ3)
   .rcases ih h with h|h
    .exact .inl h
    .exact .inr (aJP _ h)
def Grown(es:Array MapEntry)(clock:Nat):Prop:=(es.toList.map (·.born)).Pairwise (·<·)/\∀e∈es.toList,e.born<clock
def Mp{κ:Type}(w:aLW)(m:Nat)(enc:κ->aLX)(l:List (κ×aLX)):Prop:=
 ∃es clock,w.heap[m]?=some (.map es clock)/\es.toList.map (λe=>(e.key,e.val))=l.map (λp=>(enc p.1,p.2))/\Grown es clock/\(l.map (·.1)).Nodup
theorem axX{es:Array MapEntry}{c:Nat}(h:Grown es c)(k v:aLX):Grown (es.push ⟨k,v,c⟩) (c+1):=by
 obtain⟨h1,h2⟩:=h
 refine⟨?_, ?_⟩
 .rw [Array.toList_push,aJ7,aKV]
  refine⟨h1,by simp,λa ha b hb=> ?_⟩
  simp at hb
  subst hb
  obtain⟨e,he,rfl⟩:=aKm.1 ha
  exact h2 e he
 .intro e he
  rw[Array.toList_push]at he
  rcases aKc.1 he with he|he
  .have:=h2 e he;omega
  .simp at he;subst he;exact Nat.lt_succ_self c
theorem axY{es es':Array MapEntry}{c:Nat}(h:Grown es c)(he:es'.toList.map (·.born)=es.toList.map (·.born)):Grown es' c:=by
 refine⟨by rw[he];exact h.1,λe h'=> ?_⟩
 have:e.born∈es'.toList.map (·.born):=aKm.2 ⟨e,h',rfl⟩
 rw[he]at this
 obtain⟨x,hx,hxe⟩:=aKm.1 this
 rw[<-hxe];exact h.2 x hx
theorem awM{κ:Type}[DecidableEq κ]{k:κ}{v:aLX}:∀{l:List (κ×aLX)},(l.map (·.1)).Nodup->((upd k v l).map (·.1)).Nodup
 |[],_=>by simp[upd]
 |p::r,h=>by
  simp only[upd]
  have h':=h
  rw[aJQ,aKY]at h
  split
  .rename_i e
   rw[aJQ,aKY]
   exact⟨λhm=>h.1 (e▸hm),h.2⟩
  .rename_i e
   rw[aJQ,aKY]
   refine⟨λhm=> ?_,awM h.2⟩
   obtain⟨q,hq,hqe⟩:=aKm.1 hm
   rcases aFW hq with h1|h1
   .rw [h1]at hqe;exact e hqe
   .exact h.1 (aKm.2 ⟨q,h1,hqe⟩)
theorem Mp.lt {κ:Type}{m:Nat}{enc:κ->aLX}{l:List (κ×aLX)}(h:Mp w m enc l):m<w.heap.size:=by
 obtain⟨es,c,h,_⟩:=h
 rcases aKw m w.heap.size with h'|h'
 .exact h'
 .rw [aKj h']at h;cases h
theorem Mp.ext {κ:Type}{w w':aLW}{m:Nat}{enc:κ->aLX}{l:List (κ×aLX)}{M:Nat->Prop}(h:Mp w m enc l)(hx:aL w w' M)(hM:¬M m):Mp w' m enc l:=by
 have:=h.lt
 obtain⟨es,c,h,k⟩:=h
 exact⟨es,c,by rw[hx.keep m this hM];exact h,k⟩
theorem Mp.dr {κ:Type}{w:aLW}{m:Nat}{enc:κ->aLX}{l:List (κ×aLX)}(h:Mp w m enc l):Mp (dr w) m enc l:=h
def L9 {κ:Type}[DecidableEq κ](k:κ):List (κ×aLX)->Nat->Option (Nat×aLX)
 |[],_=>none
 |p::r,i=>if k=p.1 then some (i,p.2)else L9 k r (i+1)
theorem ahB{κ:Type}[DecidableEq κ](k:κ):∀(l:List (κ×aLX)) (i:Nat),(L9 k l i).map (·.2)=OI k l:=by
 intro l
 induction l with
 |nil=>intro i;rfl
 |cons p r ih=>intro i;simp only[L9,OI];split<;>simp[ih]
variable{κ:Type}[DecidableEq κ]{enc:κ->aLX}
theorem Bn{r:Nat}{es:Array MapEntry}{c:Nat}(hb:w.heap[r]?=some (.map es c)):(getObj r).run P w= .ok (.map es c) w:=by simp[getObj,Sem.run,hb]
theorem Ox{r:Nat}{es:Array MapEntry}{c:Nat}(o:Obj)(hb:w.heap[r]?=some (.map es c)):(setObj r o).run P w= .ok () {w with heap:=w.heap.setIfInBounds r o}:=by simp[setObj,Sem.run,hb]
theorem agW(K:afV P t enc)(k:κ):∀(es:List MapEntry) (l:List (κ×aLX)) (i:Nat),es.map (λe=>(e.key,e.val))=l.map (λp=>(enc p.1,p.2))→
 (Instr.findAsking t (enc k) es i).run P w= .ok (L9 k l i) w:=by
 intro es
 induction es with
 |nil=>intro l i h;cases l with
  |nil=>rfl
  |cons p r=>simp at h
 |cons x es ih=>
  intro l i h
  cases l with
  |nil=>simp at h
  |cons p r=>
   simp only[aJQ,aLq,aLB]at h
   obtain⟨⟨h1,h2⟩,h3⟩:=h
   simp only[Instr.findAsking,Sem.run_bind,h1,K.eq,Result.andThen_ok,L9]
   by_cases hx:k=p.1
   .simp [hx,h2]
   .simp only[hx,decide_false,aJI,if_false]
    exact ih r (i+1) h3
theorem apU{d:TypeDesc}(hn:∀a b,Instr.sameNow d (enc a) (enc b)=none∨Instr.sameNow d (enc a) (enc b)=some (decide (a=b)))(k:κ):∀(es:List MapEntry) (l:List (κ×aLX)) (i:Nat) (r:Option (Nat×aLX)),es.map (λe=>(e.key,e.val))=l.map (λp=>(enc p.1,p.2))→
 Instr.findNow d (enc k) es i=some r->r=L9 k l i:=by
 intro es
 induction es with
 |nil=>intro l i r h hr;cases l with
  |nil=>simp[Instr.findNow]at hr;exact hr.symm
  |cons p r=>simp at h
 |cons x es ih=>
  intro l i r h hr
  cases l with
  |nil=>simp at h
  |cons p q=>
   simp only[aJQ,aLq,aLB]at h
   obtain⟨⟨h1,h2⟩,h3⟩:=h
   simp only[Instr.findNow,h1]at hr
   rcases hn k p.1 with hh|hh
   .rw [hh]at hr;cases hr
   .rw [hh]at hr
    simp only[L9]
    by_cases hx:k=p.1
    .simp only[hx,decide_true,aJ8]at hr
     rw[if_pos hx,<-hr,h2]
    .simp only[hx,decide_false]at hr
     rw[if_neg hx]
     exact ih q (i+1) r h3 hr
theorem J0 (K:afV P t enc)(k:κ)(es:List MapEntry)(l:List (κ×aLX))(h:es.map (λe=>(e.key,e.val))=l.map (λp=>(enc p.1,p.2))):
 (Instr.findKey t (enc k) es).run P w= .ok (L9 k l 0) w:=by
 obtain⟨d,hd,hn⟩:=K.now
 unfold Instr.findKey
 simp only[underlying,Sem.run_bind,run_program,Result.andThen_ok,hd,Sem.run_pure]
 cases hr:Instr.findNow d (enc k) es 0 with
 |none=>exact agW K k es l 0 h
 |some r=>rw[apU hn k es l 0 r h hr]<;>rfl
theorem aG5 {kt et:TypeId}{i:TypeInfo}{z:aLX}(hu:P.underlying t=some (.map kt et))(hi:P.info? et=some i)(hz:i.zero=some z)(K:afV P kt enc){m:Nat}{l:List (κ×aLX)}(hm:Mp w m enc l)(k:κ):
 (CT t (.map (some m)) (enc k) true).run P w= .ok (.value (.tuple #[(OI k l).getD z,.bool (OI k l).isSome])) w:=by
 obtain⟨es,c,hb,he,_⟩:=hm
 unfold CT;rw[iW]
 unfold Instr.lookup
 simp only[underlying,Sem.run_bind,run_program,Result.andThen_ok,hu,Sem.run_pure,Bn hb,K.chk,J0 K k es.toList l he,<-ahB k l 0]
 cases L9 k l 0 with
 |none=>simp[zeroValue,typeInfo,hi,hz]
 |some p=>simp
omit [DecidableEq κ]in
theorem aCa{K:aLX->aLW->Prop}(enc:κ->aLX)(hk:∀w',Mp w' w.heap.size enc ([]:List (κ×aLX))->aL w w' aT->w'.heap.size=w.heap.size+1->K (.map (some w.heap.size)) w'):aA P (Z0 t none) w K:=by
 have:(Z0 t none).run P w= .ok (.value (.map (some w.heap.size))) (w.alloc (.map #[] 0)):=by
  unfold Z0;rw[iW]
  simp[Instr.makeMap]
 unfold aA
 rw[this]
 exact hk _ ⟨#[],0,by show(w.heap.push _)[w.heap.size]?=_;simp,rfl,⟨by simp,by simp⟩,by simp⟩ (aL.alloc _ _ _) (by simp)
theorem aB9 {kt et:TypeId}(hu:P.underlying t=some (.map kt et))(Ke:afV P kt enc){m:Nat}{l:List (κ×aLX)}(hm:Mp w m enc l)(k:κ)(v:aLX){K:aLX->aLW->Prop}
 (hk:∀w',Mp w' m enc (upd k v l)->aL w w' (λy=>y=m)->w'.heap.size=w.heap.size->K undef w'):aA P (VM t (.map (some m)) (enc k) v) w K:=by
 have hlt:=hm.lt
 obtain⟨es,c,hb,he,hgr,hnd⟩:=hm
 have hext:∀o,aL w {w with heap:=w.heap.setIfInBounds m o} (λy=>y=m):=λo=>
  ⟨rfl,rfl,rfl,by simp,λb hb hn=>by
   show(w.heap.setIfInBounds m o)[b]?=_
   rw[aJ6 (λe=>hn e.symm)]⟩
 have key:∃es' c',(VM t (.map (some m)) (enc k) v).run P w= .ok .skip {w with heap:=w.heap.setIfInBounds m (.map es' c')}/\es'.toList.map (λe=>(e.key,e.val))=((upd k v l).map λp=>(enc p.1,p.2))/\Grown es' c':=by
  have gen:∀(es:List MapEntry) (l:List (κ×aLX)) (i:Nat),es.map (λe=>(e.key,e.val))=l.map (λp=>(enc p.1,p.2))→
      (L9 k l i=none->∀b,(es++[(⟨enc k,v,b⟩:MapEntry)]).map (λe=>(e.key,e.val))=(upd k v l).map λp=>(enc p.1,p.2))/\
      (∀j x,L9 k l i=some (j,x)->i<=j/\∃old,es[j-i]?=some old/\old.key=enc k/\(es.set (j-i) ({old with key:=enc k,val:=v}:MapEntry)).map (λe=>(e.key,e.val))=(upd k v l).map λp=>(enc p.1,p.2)):=by
   intro es
   induction es with
   |nil=>
    intro l i h
    cases l with
    |nil=>exact⟨λ_ b=>rfl,λj x h=>by simp[L9]at h⟩
    |cons p r=>simp at h
   |cons x es ih=>
    intro l i h
    cases l with
    |nil=>simp at h
    |cons p r=>
     simp only[aJQ,aLq,aLB]at h
     obtain⟨⟨h1,h2⟩,h3⟩:=h
     simp only[L9,upd]
     by_cases hx:k=p.1
     .rw [if_pos hx,if_pos hx]
      refine⟨λh=>by(cases h),λj y h=> ?_⟩
      cases h
      refine⟨aJK _,x,by simp,by rw[h1,hx], ?_⟩
      simp[h3]
     .rw [if_neg hx,if_neg hx]
      obtain⟨a,b⟩:=ih r (i+1) h3
      refine⟨λh q=> ?_,λj y h=> ?_⟩
      .simp only[aLa,aJQ,a h q,h1,h2]
      .obtain ⟨hj,old,o1,o2,o3⟩:=b j y h
       refine⟨by omega,old, ?_,o2, ?_⟩
       .rw [show j-i=(j-(i+1))+1 from by omega,aJF];exact o1
       .rw [show j-i=(j-(i+1))+1 from by omega,aKe]
        simp only[aJQ,o3,h1,h2]
  obtain⟨g1,g2⟩:=gen es.toList l 0 he
  unfold VM
  rw[aH5]
  unfold Instr.mapUpdate
  simp only[underlying,Sem.run_bind,run_program,Result.andThen_ok,hu,Sem.run_pure,Bn hb,Ke.chk,J0 Ke k es.toList l he]
  cases hi:L9 k l 0 with
  |none=>
   refine⟨es.push ⟨enc k,v,c⟩,c+1, ?_,by simpa using g1 hi c,axX hgr _ _⟩
   simp only[Ox _ hb,Result.andThen_ok]
  |some q=>
   obtain⟨j,x⟩:=q
   obtain⟨_,old,o1,o2,o3⟩:=g2 j x hi
   rw[Nat.sub_zero]at o1 o3
   have o1':es[j]?=some old:=by simpa using o1
   refine⟨es.modify j λe=>{e with key:=enc k,val:=v},c, ?_, ?_,axY hgr ?_⟩
   .simp only[o1',aKo,aKA,o2,Instr.keyThatStays,Ke.stay,if_true,Sem.run_pure,Result.andThen_ok,Ox _ hb,Sem.run_bind]
   .have hj:j<es.toList.length:=by
     rcases aKw j es.toList.length with h|h
     .exact h
     .rw [aKp h]at o1;cases o1
    rw[<-o3]
    congr 1
    apply aLh
    intro y
    rw[aLc,aK0,aLJ]
    by_cases hy:j=y
    .subst hy
     have hj':j<es.size:=by simpa using hj
     have e1:es[j]=old:=by rw[aJ2 hj']at o1';exact aKJ o1'
     simp[hj',e1]
    .simp [hy]
   .apply aLh
    intro y
    rw[aJ0,aJ0,aLc,aLc,aK0]
    split
    .rename_i h;subst h
     cases es[j]?<;>rfl
    .rfl
 obtain⟨es',c',h1,h2,h3⟩:=key
 unfold aA
 rw[h1]
 refine hk _ ⟨es',c',by show(w.heap.setIfInBounds m _)[m]?=_;rw[aJ4 hlt],h2,h3,awM hnd⟩ (hext _) (by simp)
theorem Te(hu:P.underlying t=some .string):afV P t (λs:ByteArray=>Value.string s):=by
 have hb:∀a b:ByteArray,(a==b)=decide (a=b):=λa b=>by
  have h1:(a==b)=(a.data==b.data):=rfl
  rw[h1,Bool.eq_iff_iff,beq_iff_eq,decide_eq_true_eq]
  exact⟨λh=>by cases a;cases b;simp only at h;rw[h],λh=>h▸rfl⟩
 refine⟨λa b w=> ?_,⟨_,hu,λa b=> .inr (by simp[Instr.sameNow,hb])⟩,λc a w=> ?_,λa=> ?_⟩
 .unfold Op.equal Op.maxDepth Op.equalIn
  simp only[underlying,Sem.run_bind,run_program,Result.andThen_ok,hu,Sem.run_pure,hb]
 .unfold Instr.checkKey
  simp only[underlying,Sem.run_bind,run_program,Result.andThen_ok,hu,Sem.run_pure]
 .simp [Instr.sameBits,hb]
theorem Xa{d:TypeDesc}{i:TypeInfo}(hu:P.underlying t=some d)(hd:apA d=true)(hi:P.info? t=some i){b off:Nat}{l:List aLX}(hl:i.size=l.length)(h:∀j,j<l.length->w.cell? ⟨b,off+j,none⟩=l[j]?):
 (aB t (.pointer (some ⟨b,off,none⟩))).run P w= .ok (.value (.agg l.toArray)) w:=by
 unfold aB
 rw[iW]
 simp only[Instr.loadAt,Instr.sureAddr,loadVar,pure_bind,Sem.run_bind,Hy hu,hd,Result.andThen_ok,if_true,dZ hi,hl,WM h,Sem.run_pure]
end
theorem dB{w:aLW}{b:Nat}{cs:List aLX}(h:bD w b cs):bD (dr w) b cs:=h.ext (aL.dr w aT) (λh=>h)
theorem Sl.dr {w:aLW}{v:aLX}{l:List aLX}(h:Sl w v l):Sl (dr w) v l:=h
theorem Sl.open {w:aLW}{v:aLX}{l:List UInt8}(h:Bs w v l)(h0:0<l.length):∃b off c,v= .slice (some ⟨b,off,none⟩) l.length c/\l.length<=c/\∀i,(h:i<l.length)->w.cell? ⟨b,off+i,none⟩=some (gO l[i]):=by
 obtain⟨a,n,c,rfl,hn,hc,h⟩:=h
 simp only[aJy]at hn
 subst hn
 obtain⟨b,off,rfl,hh⟩:=h h0
 exact⟨b,off,c,rfl,hc,λi hi=>by rw[hh i hi];simp[hi]⟩
theorem Sl.len {w:aLW}{v:aLX}{l:List aLX}(h:Sl w v l):∃a c,v= .slice a l.length c/\l.length<=c:=by
 obtain⟨a,n,c,rfl,rfl,hc,_⟩:=h
 exact⟨a,c,rfl,hc⟩
theorem bC(v:aLX):¬fI v aT:=by unfold fI aT;split<;>simp
theorem azF{b o m l:Nat}(h:l≠m):dD (some ⟨b,o,none⟩) m l 1=some ⟨b,o+l,none⟩:=by
 unfold dD;rw[if_neg (λe=>h e.symm)];simp[Cj]
theorem bO{v:aLX}{M N:Nat->Prop}(h:fI v M)(hm:∀b,M b->N b):fI v N:=by
 unfold fI at*
 split at h
 .exact hm _ h
 .exact h
theorem kW.len {w:aLW}{b sz n:Nat}{v:aLX}{l:List aLX}(h:kW w b sz v n l):∃a c,v= .slice a n c:=by
 rcases h.2 with⟨rfl,rfl⟩|⟨x,c,r,rfl,_⟩
 .exact ⟨_,_,rfl⟩
 .exact ⟨_,_,rfl⟩
theorem kW.lower {w:aLW}{a b sz n:Nat}{v:aLX}{l:List aLX}(h:kW w b sz v n l)(hab:a<=b):kW w a sz v n l:=by
 refine⟨h.1, ?_⟩
 rcases h.2 with h|⟨x,c,r,h1,h2,h3⟩
 .exact .inl h
 .exact .inr ⟨x,c,r,h1,by omega,h3⟩
theorem Sl.nil (w:aLW):Sl w (.slice none 0 0) []:=⟨none,0,0,rfl,rfl,aJK _,λh=>absurd h (by simp)⟩
theorem bD.whole {w:aLW}{b c:Nat}{l:List UInt8}(h:bD w b (l.map gO))(hc:l.length<=c):Bs w (.slice (some ⟨b,0,none⟩) l.length c) l:=
 h.bs hc λi hi=>by rw[aJC];simp[hi]
theorem Sl.drop' {w:aLW}{a:Option Addr}{n c:Nat}{l:List aLX}(h:Sl w (.slice a n c) l){k:Nat}(hk:k<=n):Sl w (.slice (dD a c k 1) (n-k) (c-k)) (l.drop k):=by
 have h':=h
 obtain⟨a',n',c',e,hn,hc,hh⟩:=h'
 cases e
 by_cases h0:n=0
 .exact ⟨_,_,_,rfl,by rw[aJO];omega,by omega,λh=>by omega⟩
 .obtain ⟨b,off,rfl,_⟩:=hh (by omega)
  exact h.drop hk
theorem Sl.mid {w:aLW}{a:Option Addr}{n c:Nat}{l:List aLX}(h:Sl w (.slice a n c) l){i j:Nat}(hij:i<=j)(hj:j<=n):Sl w (.slice (dD a c i 1) (j-i) (c-i)) ((l.drop i).take (j-i)):=by
 have h':=h
 obtain⟨a',n',c',e,hn,hc,hh⟩:=h'
 cases e
 by_cases h0:j-i=0
 .rw [h0]
  exact⟨_,_,_,rfl,by simp,by omega,λh=>by omega⟩
 .obtain ⟨b,off,rfl,_⟩:=hh (by omega)
  have hd:=h.drop (k:=i) (by omega)
  obtain⟨a',n',c',e,hn',hc',hh'⟩:=hd
  obtain⟨b',off',e',h2⟩:=hh' (by have:=(Value.slice.inj e).2.1;omega)
  injection e with e1 e2 e3
  subst e3
  refine⟨_,_,_,rfl,by rw[aJL,aJO];omega,by omega,λ_=>⟨b',off',by rw[e1];exact e',λx hx=> ?_⟩⟩
  rw[h2 x (by omega),aKz hx]
theorem Sl.openV {w:aLW}{v:aLX}{l:List aLX}(h:Sl w v l)(h0:0<l.length):∃b off c,v= .slice (some ⟨b,off,none⟩) l.length c/\l.length<=c/\∀i,(h:i<l.length)->w.cell? ⟨b,off+i,none⟩=some l[i]:=by
 obtain⟨a,n,c,rfl,hn,hc,h⟩:=h
 subst hn
 obtain⟨b,off,rfl,hh⟩:=h h0
 exact⟨b,off,c,rfl,hc,λi hi=>by rw[hh i hi];simp[hi]⟩
theorem ayN{P:Program}{w:aLW}{t e:TypeId}{k k':IntKind}{hi mx:Int}{i:TypeInfo}(hu:P.underlying t=some (.slice e))(hi':P.info? e=some i)(x:Option Addr)(n c:Nat)(h0:0<=hi)(h1:hi<=mx)(h2:mx<=c):
 (dG t (.slice x n c) none (some (.int k hi)) (some (.int k' mx))).run P w= .ok (.value (.slice (dD x mx.toNat 0 i.size) (hi.toNat-0) (mx.toNat-0))) w:=by
 have h3:(0:Int)<=mx:=by omega
 have h4:hi<=(mx.toNat:Int):=by omega
 simp only[dG,iW,Instr.sliceAt,underlying,hu,Sem.run_bind,run_program,Result.andThen_ok,Sem.run_pure,Instr.slice,Instr.sliceBounds,pure_bind,jZ h3 h2,jZ h0 h4,dZ hi',dD]
section
variable{P:Program}{w:aLW}{t e:TypeId}
variable{κ:Type}[DecidableEq κ]{enc:κ->aLX}
theorem aFF{kt et:TypeId}{i:TypeInfo}{z:aLX}(hu:P.underlying t=some (.map kt et))(hi:P.info? et=some i)(hz:i.zero=some z)(K:afV P kt enc){m:Nat}{l:List (κ×aLX)}(hm:Mp w m enc l)(k:κ):
 (CT t (.map (some m)) (enc k) false).run P w= .ok (.value ((OI k l).getD z)) w:=by
 obtain⟨es,c,hb,he,_⟩:=hm
 unfold CT;rw[iW]
 unfold Instr.lookup
 simp only[underlying,Sem.run_bind,run_program,Result.andThen_ok,hu,Sem.run_pure,Bn hb,K.chk,J0 K k es.toList l he,<-ahB k l 0]
 cases L9 k l 0 with
 |none=>simp[zeroValue,typeInfo,hi,hz]
 |some p=>simp
def del{κ:Type}[DecidableEq κ](k:κ):List (κ×aLX)->List (κ×aLX)
 |[]=>[]
 |p::r=>if k=p.1 then r else p::del k r
theorem aAi{k:κ}:∀l:List (κ×aLX),(del k l).Sublist l
 |[]=> .slnil
 |p::r=>by
  simp only[del]
  split
  .exact List.sublist_cons_self _ _
  .exact (aAi r).cons_cons p
theorem atC{k:κ}:∀{es:List MapEntry} {l:List (κ×aLX)} {i:Nat},es.map (λe=>(e.key,e.val))=l.map (λp=>(enc p.1,p.2))→
 (L9 k l i=none->del k l=l)/\(∀j x,L9 k l i=some (j,x)->i<=j/\(es.eraseIdx (j-i)).map (λe=>(e.key,e.val))=(del k l).map (λp=>(enc p.1,p.2)))
 |es,[],i,h=>⟨λ_=>rfl,λj x h=>by simp[L9]at h⟩
 |[],p::r,i,h=>by simp at h
 |x::es,p::r,i,h=>by
  rw[aJQ,aJQ,aLq]at h
  obtain⟨h1,h2⟩:=h
  simp only[L9,del]
  by_cases hk:k=p.1
  .rw [if_pos hk,if_pos hk]
   refine⟨λh=>by(cases h),λj y h=> ?_⟩
   cases h
   exact⟨aJK _,by simp[h2]⟩
  .rw [if_neg hk,if_neg hk]
   obtain⟨a,b⟩:=atC (k:=k) (i:=i+1) h2
   refine⟨λh=>by rw[a h],λj y h=> ?_⟩
   obtain⟨c,d⟩:=b j y h
   refine⟨by omega, ?_⟩
   rw[show j-i=(j-(i+1))+1 from by omega,aKM,aJQ,aJQ,d,h1]
theorem azJ{kt et kt2 ty:TypeId}(hu:P.underlying t=some (.map kt et))(Ke:afV P kt enc){m:Nat}{l:List (κ×aLX)}(hm:Mp w m enc l)(k:κ){K:aLX->aLW->Prop}
 (hk:∀w',Mp w' m enc (del k l)->aL w w' (λy=>y=m)->w'.heap.size=w.heap.size->K (.tuple #[]) w'):aA P (eI .delete #[t,kt2] ty [.map (some m),enc k]) w K:=by
 have hlt:=hm.lt
 obtain⟨es,c,hb,he,hgr,hnd⟩:=hm
 have hext:∀o,aL w {w with heap:=w.heap.setIfInBounds m o} (λy=>y=m):=λo=>
  ⟨rfl,rfl,rfl,by simp,λb hb hn=>by
   show(w.heap.setIfInBounds m o)[b]?=_
   rw[aJ6 (λe=>hn e.symm)]⟩
 have key:∃es',(eI .delete #[t,kt2] ty [.map (some m),enc k]).run P w= .ok (.value (.tuple #[])) {w with heap:=w.heap.setIfInBounds m (.map es' c)}/\es'.toList.map (λe=>(e.key,e.val))=((del k l).map λp=>(enc p.1,p.2))/\Grown es' c:=by
  obtain⟨g1,g2⟩:=atC (k:=k) (i:=0) he
  unfold eI builtin
  simp only[Builtin.delete_,aKP,aJz,aJF]
  simp only[underlying,Sem.run_bind,run_program,Result.andThen_ok,hu,Sem.run_pure,Bn hb,Ke.chk,J0 Ke k es.toList l he]
  cases hi:L9 k l 0 with
  |none=>
   refine⟨es, ?_,by rw[g1 hi];exact he,hgr⟩
   simp only[Ox _ hb,Result.andThen_ok,Sem.run_pure,Sem.run_bind]
  |some q=>
   obtain⟨j,x⟩:=q
   obtain⟨_,g3⟩:=g2 j x hi
   rw[Nat.sub_zero]at g3
   have htl:(es.eraseIdxIfInBounds j).toList=es.toList.eraseIdx j:=by
    simp
   refine⟨es.eraseIdxIfInBounds j, ?_,by rw[htl];exact g3, ?_, ?_⟩
   .simp only[Ox _ hb,Result.andThen_ok,Sem.run_pure,Sem.run_bind]
   .rw [htl];exact hgr.1.sublist ((List.eraseIdx_sublist _ _).map _)
   .intro e he'
    rw[htl]at he'
    exact hgr.2 e ((List.eraseIdx_sublist _ _).subset he')
 obtain⟨es',h1,h2,h3⟩:=key
 unfold aA
 rw[h1]
 exact hk _ ⟨es',c,by show(w.heap.setIfInBounds m _)[m]?=_;rw[aJ4 hlt],h2,h3,hnd.sublist ((aAi l).map _)⟩ (hext _) (by simp)
theorem OQ:∀{l:List MapEntry} {i:Nat} (hi:i<l.length),(l.map (·.born)).Pairwise (·≠·)->(l.filter λe=>decide (e.born≠(l[i]).born))=l.eraseIdx i
 |[],i,hi,_=>by simp at hi
 |x::l,0,hi,h=>by
  rw[aJQ,aKS]at h
  rw[List.getElem_cons_zero,List.filter_cons_of_neg (by simp),List.eraseIdx_cons_zero,List.filter_eq_self]
  intro a ha
  have:=h.1 a.born (aKm.2 ⟨a,ha,rfl⟩)
  simpa usingλe=>this e.symm
 |x::l,i+1,hi,h=>by
  rw[aJQ,aKS]at h
  have hi':i<l.length:=by simpa using hi
  have:=h.1 (l[i]).born (aKm.2 ⟨l[i],aKl hi',rfl⟩)
  rw[List.getElem_cons_succ,List.filter_cons_of_pos (by simpa using this),aKM,OQ hi' h.2]
theorem EO{α β:Type}(f:α->β):∀(l:List α) (i:Nat),(l.eraseIdx i).map f=(l.map f).eraseIdx i
 |[],i=>by simp
 |x::l,0=>by simp
 |x::l,i+1=>by rw[aKM,aJQ,aJQ,aKM,EO f l i]
def Itr{κ:Type}(w:aLW)(it m:Nat)(enc:κ->aLX)(rest:List (κ×aLX)):Prop:=
 ∃es clock seen,w.heap[m]?=some (.map es clock)/\w.heap[it]?=some (.mapIter (some m) clock seen clock)/\Grown es clock/\
  (es.toList.filter λe=> !seen.contains e.born).map (λe=>(e.key,e.val))=rest.map λp=>(enc p.1,p.2)
theorem Itr.ext {κ:Type}{w w':aLW}{it m:Nat}{enc:κ->aLX}{rest:List (κ×aLX)}{M:Nat->Prop}(h:Itr w it m enc rest)(hx:aL w w' M)(hm:¬M m)(hi:¬M it):Itr w' it m enc rest:=by
 obtain⟨es,c,seen,h1,h2,h3⟩:=h
 have lt:∀{b:Nat} {o:Obj},w.heap[b]?=some o->b<w.heap.size:=λ{b o} h=>by
  rcases aKw b w.heap.size with h'|h'
  .exact h'
  .rw [aKj h']at h;cases h
 exact⟨es,c,seen,by rw[hx.keep m (lt h1) hm];exact h1,by rw[hx.keep it (lt h2) hi];exact h2,h3⟩
theorem anH:∀{l:List MapEntry} {e:MapEntry},(l.map (·.born)).Pairwise (·<·)->e∈l->l.find? (λx=>x.born==e.born)=some e
 |[],e,_,h=>by simp at h
 |x::l,e,hp,h=>by
  rw[aJQ,aKS]at hp
  rw[List.find?_cons]
  rcases aJG.1 h with rfl|h
  .simp
  .have:=hp.1 e.born (aKm.2 ⟨e,h,rfl⟩)
   have hb:(x.born==e.born)=false:=by simp;omega
   rw[hb]
   exact anH hp.2 h
def Cur{κ:Type}(w:aLW)(it m:Nat)(enc:κ->aLX)(p:κ×aLX):Prop:=
 ∃es clock c0 seen e,w.heap[m]?=some (.map es clock)/\w.heap[it]?=some (.mapIter (some m) c0 seen clock)/\seen.back?=some e.born/\es.find? (λx=>x.born==e.born)=some e/\e.key=enc p.1/\e.val=p.2
omit [DecidableEq κ]in
theorem Cur.ext {w w':aLW}{it m:Nat}{p:κ×aLX}{M:Nat->Prop}(h:Cur w it m enc p)(hx:aL w w' M)(hm:¬M m)(hi:¬M it):Cur w' it m enc p:=by
 obtain⟨es,c,c0,seen,e,h1,h2,h3⟩:=h
 have lt:∀{b:Nat} {o:Obj},w.heap[b]?=some o->b<w.heap.size:=λ{b o} h=>by
  rcases aKw b w.heap.size with h'|h'
  .exact h'
  .rw [aKj h']at h;cases h
 exact⟨es,c,c0,seen,e,by rw[hx.keep m (lt h1) hm];exact h1,by rw[hx.keep it (lt h2) hi];exact h2,h3⟩
omit [DecidableEq κ]in
theorem aAD{it m:Nat}{p:κ×aLX}(h:Cur w it m enc p):(aqW (.pointer (some ⟨it,0,none⟩))).run P w= .ok (.value (.tuple #[enc p.1,p.2])) w:=by
 obtain⟨es,c,c0,seen,e,h1,h2,h3,h4,h5,h6⟩:=h
 have hgi:(getObj it).run P w= .ok (.mapIter (some m) c0 seen c) w:=by simp[getObj,Sem.run,h2]
 unfold aqW;rw[iW]
 simp only[Instr.entry,Sem.run_bind,hgi,Result.andThen_ok,h3,Bn h1,bne_self_eq_false,aJI,if_false,h4,Sem.run_pure,h5,h6]
omit [DecidableEq κ]in
theorem aCb{kt et:TypeId}(hu:P.underlying t=some (.map kt et)){m:Nat}{l:List (κ×aLX)}(hm:Mp w m enc l){K:aLX->aLW->Prop}
 (hk:∀w',Itr w' w.heap.size m enc l->aL w w' aT->w'.heap.size=w.heap.size+1->K (.pointer (some ⟨w.heap.size,0,none⟩)) w'):aA P (Z1 t (.map (some m))) w K:=by
 have hlt:=hm.lt
 obtain⟨es,c,hb,he,hgr,hnd⟩:=hm
 have:(Z1 t (.map (some m))).run P w= .ok (.value (.pointer (some ⟨w.heap.size,0,none⟩))) (w.alloc (.mapIter (some m) c #[] c)):=by
  unfold Z1;rw[iW]
  simp only[Instr.range,underlying,Sem.run_bind,run_program,Result.andThen_ok,hu,Sem.run_pure,Bn hb,run_newObj]
  rfl
 unfold aA
 rw[this]
 refine hk _ ⟨es,c,#[], ?_, ?_,hgr, ?_⟩ (aL.alloc _ _ _) (by simp)
 .show (w.heap.push _)[m]?=_
  rw[Array.getElem?_push,if_neg (by omega)];exact hb
 .show (w.heap.push _)[w.heap.size]?=_
  simp
 .rw [<-he]
  congr 1
  rw[List.filter_eq_self]
  intro a _
  simp
omit [DecidableEq κ]in
theorem awH{it m:Nat}{ty:TypeId}{rest:List (κ×aLX)}(h:Itr w it m enc rest)(hne:it≠m){K:aLX->aLW->Prop}
 (h0:rest=[]->K (.tuple #[.bool false]) w)
 (hk:∀w' (j:Nat) (hj:j<rest.length),Itr w' it m enc (rest.eraseIdx j)->Cur w' it m enc rest[j]->aL w w' (λy=>y=it)->w'.heap.size=w.heap.size->K (.tuple #[.bool true,enc rest[j].1,rest[j].2]) w'):
 aA P (avP (.pointer (some ⟨it,0,none⟩)) false ty) w K:=by
 obtain⟨es,c,seen,hm,hi,hgr,hr⟩:=h
 have hlt:it<w.heap.size:=by
  rcases aKw it w.heap.size with h'|h'
  .exact h'
  .rw [aKj h']at hi;cases hi
 have hgi:(getObj it).run P w= .ok (.mapIter (some m) c seen c) w:=by simp[getObj,Sem.run,hi]
 have hnot:(!seen.isEmpty&& !es.isEmpty&&es.all λe=>decide (e.born≥c))=false:=by
  cases hes:es.toList with
  |nil=>
   have:es= #[]:=by rw[<-Array.toArray_toList (xs:=es),hes]
   subst this;simp
  |cons x r=>
   have hx:x∈es.toList:=by rw[hes];simp
   have:=hgr.2 x hx
   have:(es.all λe=>decide (e.born≥c))=false:=by
    rw[Array.all_eq_false']
    exact⟨x,by simpa using hx,by simp;omega⟩
   rw[this];simp
 have hold:((es.filter λe=> !seen.contains e.born).filter λe=>decide (e.born<c))=es.filter λe=> !seen.contains e.born:=by
  rw[Array.filter_eq_self]
  intro a ha
  have:=hgr.2 a (by simpa using(Array.mem_filter.1 ha).1)
  simpa using this
 have hnew:((es.filter λe=> !seen.contains e.born).filter λe=>decide (e.born≥c))= #[]:=by
  rw[Array.filter_eq_empty_iff]
  intro a ha
  have:=hgr.2 a (by simpa using(Array.mem_filter.1 ha).1)
  simp;omega
 have hll:(es.filter λe=> !seen.contains e.born).toList=es.toList.filter λe=> !seen.contains e.born:=by simp
 generalize hL:(es.filter λe=> !seen.contains e.born)=L at*
 have hlen:L.size=rest.length:=by
  have:=congrArg List.length hr
  rw[aJy,aJy,<-hll]at this
  simpa using this
 have hrun:(avP (.pointer (some ⟨it,0,none⟩)) false ty).run P w=((choose (.mapNext ((if L.isEmpty then#[none]else#[])++(L++ #[]).map some).size)).run P w).andThen λi w=>
     ((match((if L.isEmpty then#[none]else#[])++(L++ #[]).map some)[i]? with
       |some (some e)=>do
        setObj it (.mapIter (some m) c (seen.push e.born) c)
        pure (.tuple #[.bool true,e.key,e.val])
       |some none=>pure (.tuple #[.bool false])
       |none=>stuck "Next: no such candidate" :Sem aLX).run P w).andThen λv w=> .ok (.value v) w:=by
  unfold avP;rw[iW]
  simp only[Instr.next,Sem.run_bind,hgi,Result.andThen_ok,Bn hm,hnot,aJI,if_false,hL,hold,hnew]
  cases(choose (.mapNext ((if L.isEmpty then#[none]else#[])++(L++ #[]).map some).size)).run P w with
  |ok a w'=>rfl
  |_=>rfl
 unfold aA
 rw[hrun]
 by_cases hz:L.size=0
 .have hLe:L= #[]:=Array.eq_empty_of_size_eq_zero hz
  subst hLe
  have hre:rest=[]:=aJ9.1 (by omega)
  have hf:(Question.mapNext 1).forced=true:=rfl
  simp only[Array.isEmpty_empty,if_true,Array.append_empty,Array.map_empty,aKG,aKQ,run_choose,hf]
  exact h0 hre
 .have hLe:L.isEmpty=false:=by
   simp[Array.isEmpty];intro h;subst h;simp at hz
  have hsz:((if L.isEmpty then#[none]else#[])++(L++ #[]).map some).size=L.size:=by rw[hLe];simp
  have hat:∀i (h:i<L.size),((if L.isEmpty then#[none]else#[])++(L++ #[]).map some)[i]?=some (some L[i]):=by
   intro i h;rw[hLe];simp[h]
  obtain⟨i,w',hi',hw',hch⟩:∃i w',i<L.size/\(w'=w∨w'=dr w)/\(choose (.mapNext ((if L.isEmpty then#[none]else#[])++(L++ #[]).map some).size)).run P w= .ok i w':=by
   rw[hsz,run_choose]
   by_cases hf:(Question.mapNext L.size).forced=true
   .rw [if_pos hf]
    exact⟨0,w,by omega,.inl rfl,rfl⟩
   .rw [if_neg hf]
    exact⟨_,dr w,aLk _ (by omega),.inr rfl,rfl⟩
  rw[hch]
  have hi2:w'.heap[it]?=some (.mapIter (some m) c seen c):=by rcases hw' with rfl|rfl<;>exact hi
  have hm2:w'.heap[m]?=some (.map es c):=by rcases hw' with rfl|rfl<;>exact hm
  have hx0:aL w w' (λy=>y=it):=by
   rcases hw' with rfl|rfl
   .exact aL.refl _ _
   .exact aL.dr _ _
  have hset:(setObj it (.mapIter (some m) c (seen.push (L[i]).born) c)).run P w'= .ok () {w' with heap:=w'.heap.setIfInBounds it (.mapIter (some m) c (seen.push (L[i]).born) c)}:=by simp[setObj,Sem.run,hi2]
  simp only[Result.andThen_ok,hat i hi',Sem.run_bind,hset,Sem.run_pure]
  have hri:i<rest.length:=by omega
  have hkv:((L[i]).key,(L[i]).val)=(enc rest[i].1,rest[i].2):=by
   have:=congrArg (λ(x:List (aLX×aLX))=>x[i]?) hr
   simp only[<-hll,aJ0]at this
   rw[aLc,aJ2 hi',aJA hri]at this
   simpa using this
  obtain⟨hk1,hk2⟩:=Prod.mk.inj hkv
  have hkk:(Value.tuple #[.bool true,L[i].key,L[i].val])= .tuple #[.bool true,enc rest[i].1,rest[i].2]:=by rw[hk1,hk2]
  rw[hkk]
  have hsize:({w' with heap:=w'.heap.setIfInBounds it (.mapIter (some m) c (seen.push (L[i]).born) c)}:aLW).heap.size=w.heap.size:=by
   rcases hw' with rfl|rfl
   .simp
   .simp;rfl
  have hwlt:it<w'.heap.size:=by rcases hw' with rfl|rfl<;>exact hlt
  have hwm:({w' with heap:=w'.heap.setIfInBounds it (.mapIter (some m) c (seen.push (L[i]).born) c)}:aLW).heap[m]?=some (.map es c):=by
   show(w'.heap.setIfInBounds it _)[m]?=_
   rw[aJ6 hne];exact hm2
  have hwi:({w' with heap:=w'.heap.setIfInBounds it (.mapIter (some m) c (seen.push (L[i]).born) c)}:aLW).heap[it]?=some (.mapIter (some m) c (seen.push (L[i]).born) c):=by
   show(w'.heap.setIfInBounds it _)[it]?=_
   rw[aJ4 hwlt]
  have hmemL:L[i]∈es.toList:=by
   have hm0:L[i]∈es.filter λe=> !seen.contains e.born:=by rw[hL];exact Array.getElem_mem hi'
   simpa using(Array.mem_filter.1 hm0).1
  have hcur:Cur ({w' with heap:=w'.heap.setIfInBounds it (.mapIter (some m) c (seen.push (L[i]).born) c)}:aLW) it m enc rest[i]:=
   ⟨es,c,c,_,L[i],hwm,hwi,by simp,by rw[<-Array.find?_toList];exact anH hgr.1 hmemL,hk1,hk2⟩
  refine hk _ i hri ⟨es,c,seen.push (L[i]).born, ?_, ?_,hgr, ?_⟩ hcur (hx0.seq ⟨rfl,rfl,rfl,by simp,λb hb hn=>by
   show(w'.heap.setIfInBounds it _)[b]?=_
   rw[aJ6 (λe=>hn e.symm)]⟩) hsize
  .show (w'.heap.setIfInBounds it _)[m]?=_
   rw[aJ6 hne];exact hm2
  .show (w'.heap.setIfInBounds it _)[it]?=_
   rw[aJ4 hwlt]
  .
   have hfil:(es.toList.filter λe=> !(seen.push (L[i]).born).contains e.born)=(es.toList.filter λe=> !seen.contains e.born).filter λe=>decide (e.born≠(L[i]).born):=by
    rw[List.filter_filter]
    congr 1
    funext e
    simp only[Array.contains_push]
    by_cases h:e.born=(L[i]).born
    .simp [h]
    .have h':¬(L[i]).born=e.born:=λx=>h x.symm
     simp[h,h']
   have hLi:L[i]=L.toList[i]'(by simpa using hi'):=by simp
   rw[hfil,<-hll,hLi,OQ,EO,hll,hr,<-EO]
   rw[hll]
   exact(hgr.1.imp (λh=>aLu h)).sublist ((List.filter_sublist).map _)
end
end Go.En

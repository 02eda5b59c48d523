/- Parts of the proof of StorePlays: merged and given short names by a program of ours. -/
import Derived.Laws.IdiomStrings
import Derived.Test.YteelnmpbnaohpaaGreatDoorZpA
set_option linter.unusedVariables false
set_option linter.unusedSimpArgs false
open Array renaming getElem?_eq_getElem → aJ6, getElem?_setIfInBounds_self_of_lt → aJ8, getElem?_modify → aK6, getElem?_setIfInBounds_ne → aKa, getElem?_eq_none → aKn, length_toList → aLG, getElem?_toList → aLg
open Bool renaming false_eq_true → aJM, not_false → aKC, not_true → aKS, or_eq_false_iff → aLm
open List renaming getElem?_append_left → aJ0, nil_append → aJ1, getElem?_map → aJ4, mem_cons_self → aJ7, length_replicate → aJ9, length_map → aJC, getElem?_cons_zero → aJD, getElem?_eq_getElem → aJE, length_append → aJF, take_of_length_le → aJH, getElem?_cons_succ → aJJ, mem_cons → aJK, length_take → aJP, length_drop → aJS, mem_cons_of_mem → aJT, map_cons → aJU, set_cons_zero → aJV, append_assoc → aJW, length_cons → aJX, pairwise_append → aK0, nodup_cons → aK3, getElem?_drop → aK7, drop_eq_getElem_cons → aKB, length_nil → aKD, getElem?_take_of_lt → aKE, size_toArray → aKL, eraseIdx_cons_succ → aKQ, getElem?_toArray → aKU, length_singleton → aKV, pairwise_cons → aKX, map_append → aKb, length_eq_zero_iff → aKd, mem_append → aKg, set_cons_succ → aKi, set_append_right → aKj, getElem_mem → aKp, mem_map → aKq, getElem?_eq_none → aKt, getElem?_set → aLN, take_add_one → aLO, cons_append → aLe, ext_getElem? → aLl, mem_of_mem_take → aLn
open List.cons renaming injEq → aLu
open Nat renaming zero_add → aJG, le_refl → aJO, le_trans → aK5, lt_or_ge → aKA, le_add_right → aKJ, sub_self → aKT, lt_of_lt_of_le → aKe, add_assoc → aKy, add_mul → aLP, add_zero → aLX, mul_le_mul_right → aLY, mod_lt → aLo, mul_one → aLp, ne_of_lt → aLy
open Option renaming getD_some → aKF, map_some → aKs, isSome_none → aLM
open Option.some renaming inj → aKO, injEq → aKc
open Prod.mk renaming injEq → aLF
namespace Go.Proofs.YteelnmpbnaohpaaGreatDoor
open Go Go.En
set_option maxRecDepth 20000
attribute [local irreducible] Go.En.dM
variable (Q : Exit -> Env -> aL0 -> Prop) (g : Env) (w : aL0)
def PC:FA:=⟨nP,λi=>match Nat.beq i 1 with|true=> .leaf ([12],[]) (fz 12 (ft [] (fz 7 [])))|false=>match Nat.beq i 2 with|true=> .leaf ([10],[(10,12),(10,13),(10,14),(10,15),(10,17),(10,18)]) (fz 10 (ft [] (fz 1 (fu [1] (fu [2] (fu [3] (fu [4] (fz 1 (fu [6] (fu [7] (fz 3 [])))))))))))|false=> .leaf ([],[]) []⟩
def SK:List ResultVar:=[.tmp 6]
noncomputable def Nr:Code:=bA Tryz.f43
def Gf(R:K1) fB i_1 tG w:=
 (dr w)=(dr w)/\
 aA pg (cQ fB) (dr w) λc2 w_=>w_=(dr w)/\
 aA pg (aD 99 c2 2) (dr w) λc3 w_=>w_=(dr w)/\
 aA pg (aD 30 c3 0) (dr w) λc4 w_=>w_=(dr w)/\
 aA pg (aB 26 c4) (dr w) λc5 w_=>w_=(dr w)/\
 (dr w)=(dr w)/\
 aA pg (cQ fB) (dr w) λc7 w_=>w_=(dr w)/\
 aA pg (aD 99 c7 2) (dr w) λc8 w_=>w_=(dr w)/\
 aA pg (aD 30 c8 1) (dr w) λc9 w_=>w_=(dr w)/\
 aA pg (aB 27 c9) (dr w) λd0 w_=>w_=(dr w)/\
 aA pg (cP 27 3 d0) (dr w) λd1 w_=>w_=(dr w)/\
 (dr w)=(dr w)/\
 aG pg qK #[c5,d1,i_1] (dr w) λd3 fW=>
 fW=fW/\
 aA pg (aQ d3 0) fW λd4 w_=>w_=fW/\
 aA pg (aQ d3 1) fW λd5 w_=>w_=fW/\
 aA pg (aQ d3 2) fW λd6 w_=>w_=fW/\
 fW=fW/\
 fW=fW/\
 fW=fW/\
 (dr fW)=(dr fW)/\
 aA pg (aE .eql 31 (.tmp 27) (.const (aL2 0)) d6 (aL2 0)) (dr fW) λd8 w_=>w_=(dr fW)/\
 (dr fW)=(dr fW)/\
 Gd (bG d8 true) (λK=>K tG (dr fW)) (dr fW) λe0 w_=>w_=(dr fW)/\
 Gd (bG d8 true) (λK=>aA pg (eK .len #[22] 3 [e0]) (dr fW) K) (dr fW) λe1 w_=>w_=(dr fW)/\
 Gd (bG d8 true) (λK=>K d5 (dr fW)) (dr fW) λe2 w_=>w_=(dr fW)/\
 Gd (bG d8 true) (λK=>aA pg (aE .eql 3 (.tmp 31) (.tmp 32) e1 e2) (dr fW) K) (dr fW) λe3 w_=>w_=(dr fW)/\
 aA pg (cH d8 e3 (.bool false)) (dr fW) λe4 w_=>w_=(dr fW)/\
 (dr fW)=(dr fW)/\
 Gd (bG e4 true) (λK=>K tG (dr fW)) (dr fW) λe6 w_=>w_=(dr fW)/\
 Gd (bG e4 true) (λK=>aG pg AS #[e6] (dr fW) K) (dr fW) λe7 cU=>
 Gd (bG e4 true) (λK=>K fB cU) cU λe8 w_=>w_=cU/\
 Gd (bG e4 true) (λK=>aA pg (cQ e8) cU K) cU λe9 w_=>w_=cU/\
 (Gs (bG e4 true) (aP pg (cQ e8) e9 (dr fW))/\True)/\
 Gd (bG e4 true) (λK=>aA pg (aD 99 e9 2) cU K) cU λf0 w_=>w_=cU/\
 (Gs (bG e4 true) (aP pg (aD 99 e9 2) f0 (dr fW))/\True)/\
 Gd (bG e4 true) (λK=>aA pg (aD 30 f0 2) cU K) cU λf1 w_=>w_=cU/\
 (Gs (bG e4 true) (aP pg (aD 30 f0 2) f1 (dr fW))/\True)/\
 Gd (bG e4 true) (λK=>aA pg (aB 28 f1) cU K) cU λf2 w_=>w_=cU/\
 (Gs (bG e4 true) (aP pg (aB 28 f1) f2 (dr fW))/\True)/\
 Gd (bG e4 true) (λK=>K i_1 cU) cU λf3 w_=>w_=cU/\
 Gd (bG e4 true) (λK=>aA pg (aR 28 f2 f3) cU K) cU λf4 w_=>w_=cU/\
 (Gs (bG e4 true) (aP pg (aR 28 f2 f3) f4 (dr fW))/\True)/\
 Gd (bG e4 true) (λK=>aA pg (aB 70 f4) cU K) cU λf5 w_=>w_=cU/\
 (Gs (bG e4 true) (aP pg (aB 70 f4) f5 (dr fW))/\True)/\
 Gd (bG e4 true) (λK=>aA pg (aE .eql 70 (.tmp 37) (.tmp 45) e7 f5) cU K) cU λf6 w_=>w_=cU/\
 aA pg (cH e4 f6 (.bool false)) cU λf7 w_=>w_=cU/\
 cU=cU/\
 R f7 cU
def KE a0 a1 a2 w(R:K1):=
 Gf R a0 a1 a2 w
theorem ON{a0 a1 a2 w R}(h:KE a0 a1 a2 w R):aG pg nP #[a0,a1,a2] w R:=
 jX (ann:=PC) Tryz.f43 Nr [a0,a1,a2] SK 48 TryzM.mixed Tryz.func43 (kL h dE)
def Gl:FA:=⟨AY,λi=> .leaf ([],[]) []⟩
def Ji:List ResultVar:=[.tmp 2]
noncomputable def Ek:Code:=bA Tryz.f44
def JD(R:K1) w:=
 R (aL2 0) w
def JE(kn:K3)(k0:K0)(R:K1) b6 b7 b8 w:=
 aA pg (aE .lss 3 aN aN b8 b7) w λb9 w=>
 cS b9
  (aA pg (aR 151 b6 b8) w λc0 w=>
  aA pg (aB 60 c0) w λc1 w=>
  aA pg (AO c1 []) w λc3 w=>
  aA pg (aE .neq 31 (.tmp 14) (.const (aL2 0)) c3 (aL2 0)) w λc5 w=>
  cS c5
   (R c3 w)
   (aA pg (aE .add 3 aN aN b8 (aL2 1)) w λc7 w=>
   kn b6 b7 c7 w))
  (k0 w)
def DG(k0:K0)(R:K1) b6 b7 b8 w:=
 bM (λ(X:aL1->K0) (t:aL1) (w:aL0)=>JE (λ_ _ b8 w=>X b8 w) k0 R b6 b7 t w) b8 w
theorem YE(k0:K0)(R:K1)(h0:E0 Q k0 0)(hr:HR Ji R Q)(h:DG k0 R (g 6) (g 7) (g 8) w):dM pg Gl (bI (aO 1 (bL 1 (aO 1 Ek)))) Q g w:=by
 refine Fl (λg:Env=>g 8) (λX t w=>JE (λ_ _ b8 w=>X b8 w) k0 R (g 6) (g 7) t w) h (λX g1 w1 ha hL=> ?_)
 rw[<-fC 6 ha,<-fC 7 ha]at hL
 exact(El [(0,(Mq0 k0))] (GO (λ_ _ b8 w=>X b8 w) 6 7 8) hL dE hr ⟨h0,trivial⟩)
def S6 (kn:K3) Fw w:=
 aA pg (eK .len #[151] 3 [Fw]) w λb7 w=>
 kn Fw b7 (aL2 0) w
def JF(kn:K0)(R:K1) Fw w:=
 S6 (DG kn R) Fw w
def JG(R:K1) Fw w:=
 JF (JD R) R Fw w
theorem YF(kn:K0)(R:K1)(hn:N0 Q kn)(hr:HR Ji R Q)(h:JF kn R (g 0) w):dM pg Gl (bL 1 (aO 1 Ek)) Q g w:=
 dN 1 (iS (GO (DG kn R) 6 7 8) h (λg w h=>aJ (BK 0 (YE _ g w kn R hn hr h))))
def S7 (kn:K1) Fw w:=
 kn Fw w
def S9 (R:K1) Fw w:=
 S7 (JG R) Fw w
def abX a0 w(R:K1):=
 S9 R a0 w
theorem aaD{a0 w R}(h:abX a0 w R):aG pg AY #[a0] w R:=
 jX (ann:=Gl) Tryz.f44 Ek [a0] Ji 18 TryzM.mixed Tryz.func44 (dN 1 (iS (Mq1 (JG R) 0) h (λg w h=>aJ (dN 1 (YF _ g w (JD R) R (λg w h=>aJ (kL h dE)) dE h)))))
def PA:FA:=⟨nN,λi=>match Nat.beq i 1 with|true=> .leaf ([12],[]) (fz 12 (ft [] (fz 1 [])))|false=> .leaf ([],[]) []⟩
def SI:List ResultVar:=[.tmp 3]
noncomputable def Np:Code:=bA Tryz.f45
def Gc(R:K1) b0 b1 b2 w:=
 aA pg (aB 43 b0) (dr w) λb4 w_=>w_=(dr w)/\
 aA pg (cQ b4) (dr w) λb5 w_=>w_=(dr w)/\
 aA pg (aD 99 b5 0) (dr w) λb6 w_=>w_=(dr w)/\
 aA pg (aB 34 b6) (dr w) λb7 w_=>w_=(dr w)/\
 aA pg (aB 43 b0) (dr w) λb8 w_=>w_=(dr w)/\
 aA pg (cQ b8) (dr w) λb9 w_=>w_=(dr w)/\
 aA pg (aD 99 b9 1) (dr w) λc0 w_=>w_=(dr w)/\
 aA pg (aB 9 c0) (dr w) λc1 w_=>w_=(dr w)/\
 aA pg (aE .add 9 aN aN c1 (.string ⟨#[46,112,97,114,116]⟩)) (dr w) λc2 w_=>w_=(dr w)/\
 aA pg (aB 26 b1) (dr w) λc3 w_=>w_=(dr w)/\
 aA pg (cP 26 3 c3) (dr w) λc4 w_=>w_=(dr w)/\
 aA pg (aB 22 b2) (dr w) λc5 w_=>w_=(dr w)/\
 aG pg gD #[b7,c2,c4,c5] (dr w) λc6 fW=>
 fW=fW/\
 R c6 fW
def KC a0 a1 a2 w(R:K1):=
 Gc R a0 a1 a2 w
theorem OL{a0 a1 a2 w R}(h:KC a0 a1 a2 w R):aG pg nN #[a0,a1,a2] w R:=
 jX (ann:=PA) Tryz.f45 Np [a0,a1,a2] SI 17 TryzM.mixed Tryz.func45 (kL h dE)
def PB:FA:=⟨nO,λi=> .leaf ([],[]) []⟩
def SJ:List ResultVar:=[.tmp 2]
noncomputable def Nq:Code:=bA Tryz.f46
def Ge(R:K1) b0 b1 w:=
 aA pg (aB 43 b0) w λb3 w=>
 aA pg (aB 3 b1) w λb4 w=>
 aA pg (cP 3 26 b4) w λb5 w=>
 aA pg (bV 109 [(0,(.int .u8 2)),(1,b5)]) w λb6 w=>
 aG pg mE #[b3,b6] w λb7 w=>
 R b7 w
def KD a0 a1 w(R:K1):=
 Ge R a0 a1 w
theorem OM{a0 a1 w R}(h:KD a0 a1 w R):aG pg nO #[a0,a1] w R:=
 jX (ann:=PB) Tryz.f46 Nq [a0,a1] SJ 8 TryzM.mixed Tryz.func46 (kL h dE)
def Nh:FA:=⟨mE,λi=>match Nat.beq i 3 with|true=> .leaf ([14],[]) (fz 14 (ft [] (fz 1 [])))|false=> .leaf ([],[]) []⟩
def Qf:List ResultVar:=[.tmp 4]
noncomputable def L5:Code:=bA Tryz.f47
def wN(R:K1) e_6 w:=
 R e_6 w
def DZ(kn:K1) fB b_5 e_6 w:=
 aA pg (aE .eql 31 (.tmp 29) (.const (aL2 0)) e_6 (aL2 0)) w λe0 w=>
 cS e0
  (aA pg (cQ fB) w λe2 w=>
  aA pg (aD 99 e2 5) w λe3 w=>
  aA pg (aB 3 e3) w λe4 w=>
  aA pg (eK .len #[22] 3 [b_5]) w λe6 w=>
  aA pg (aE .add 3 aN aN e4 e6) w λe7 w=>
  aA pg (cQ fB) w λe8 w=>
  aA pg (aD 99 e8 5) w λe9 w=>
  aA pg (aF 3 e9 e7) w λ_u w=>
  kn e_6 w)
  (kn e_6 w)
def wO(R:K1) fB b_5 e_6 w:=
 DZ (wN R) fB b_5 e_6 w
def D3 (kn:K3) fB r_1 w:=
 aA pg (jK 109 r_1) w λr_3 w=>
 aA pg (aB 109 r_3) w λb8 w=>
 aG pg CD #[b8] w λb9 w=>
 aA pg (aQ b9 0) w λc0 w=>
 aA pg (aQ b9 1) w λc1 w=>
 aA pg (aE .eql 31 (.tmp 12) (.const (aL2 0)) c1 (aL2 0)) w λc3 w=>
 cS c3
  ((dr w)=(dr w)/\
  aA pg (cQ fB) (dr w) λc5 w_=>w_=(dr w)/\
  aA pg (aD 99 c5 0) (dr w) λc6 w_=>w_=(dr w)/\
  aA pg (aB 34 c6) (dr w) λc7 w_=>w_=(dr w)/\
  (dr w)=(dr w)/\
  aA pg (cQ fB) (dr w) λc9 w_=>w_=(dr w)/\
  aA pg (aD 99 c9 1) (dr w) λd0 w_=>w_=(dr w)/\
  aA pg (aB 9 d0) (dr w) λd1 w_=>w_=(dr w)/\
  aA pg (aE .add 9 aN aN d1 (.string ⟨#[46,108,111,103]⟩)) (dr w) λd2 w_=>w_=(dr w)/\
  (dr w)=(dr w)/\
  aA pg (cQ fB) (dr w) λd4 w_=>w_=(dr w)/\
  aA pg (aD 99 d4 5) (dr w) λd5 w_=>w_=(dr w)/\
  aA pg (aB 3 d5) (dr w) λd6 w_=>w_=(dr w)/\
  (dr w)=(dr w)/\
  aG pg gD #[c7,d2,d6,c0] (dr w) λd8 aEB=>
  aEB=aEB/\
  kn fB c0 d8 aEB)
  (kn fB c0 c1 w)
def D4 (R:K1) fB r_1 w:=
 D3 (wO R) fB r_1 w
def JB a0 a1 w(R:K1):=
 D4 R a0 a1 w
theorem M3 {a0 a1 w R}(h:JB a0 a1 w R):aG pg mE #[a0,a1] w R:=
 jX (ann:=Nh) Tryz.f47 L5 [a0,a1] Qf 41 TryzM.mixed Tryz.func47 (dN 3 (iS (GO (wO R) 0 5 6) h (λg w h=>aJ (dN 1 (iS (Mq1 (wN R) 6) h (λg w h=>aJ (kL h dE)))))))
def KP:FA:=⟨jP,λi=>match Nat.beq i 1 with|true=> .leaf ([13],[]) (fz 13 (ft [] (fz 1 [])))|false=> .leaf ([],[]) []⟩
def MJ:List ResultVar:=[.tmp 1]
noncomputable def JU:Code:=bA Tryz.f48
def Cx(R:K1) b0 w:=
 aA pg (aB 43 b0) (dr w) λb2 w_=>w_=(dr w)/\
 aA pg (cQ b2) (dr w) λb3 w_=>w_=(dr w)/\
 aA pg (aD 99 b3 0) (dr w) λb4 w_=>w_=(dr w)/\
 aA pg (aB 34 b4) (dr w) λb5 w_=>w_=(dr w)/\
 aA pg (aB 43 b0) (dr w) λb6 w_=>w_=(dr w)/\
 aA pg (cQ b6) (dr w) λb7 w_=>w_=(dr w)/\
 aA pg (aD 99 b7 1) (dr w) λb8 w_=>w_=(dr w)/\
 aA pg (aB 9 b8) (dr w) λb9 w_=>w_=(dr w)/\
 aA pg (aE .add 9 aN aN b9 (.string ⟨#[46,112,97,114,116]⟩)) (dr w) λc0 w_=>w_=(dr w)/\
 aA pg (aB 43 b0) (dr w) λc1 w_=>w_=(dr w)/\
 aA pg (cQ c1) (dr w) λc2 w_=>w_=(dr w)/\
 aA pg (aD 99 c2 1) (dr w) λc3 w_=>w_=(dr w)/\
 aA pg (aB 9 c3) (dr w) λc4 w_=>w_=(dr w)/\
 aG pg tV #[b5,c0,c4] (dr w) λc5 aEA=>
 aEA=aEA/\
 R c5 aEA
def Ga a0 w(R:K1):=
 Cx R a0 w
theorem J2 {a0 w R}(h:Ga a0 w R):aG pg jP #[a0] w R:=
 jX (ann:=KP) Tryz.f48 JU [a0] MJ 16 TryzM.mixed Tryz.func48 (kL h dE)
def QG:FA:=⟨tV,λi=> .leaf ([],[]) []⟩
def T6:List ResultVar:=[.tmp 6]
noncomputable def PG:Code:=bA Tryz.f49
def GX(R:K1) fI aDJ aDG w:=
 aG pg mC #[fI] w λc1 w=>
 aA pg (aE .neq 31 (.tmp 12) (.const (aL2 0)) c1 (aL2 0)) w λc3 w=>
 cS c3
  (R c1 w)
  (aG pg Eb #[aDJ] w λc6 w=>
  aA pg (G2 .not c6) w λc7 w=>
  Gd (bG c7 false) (λK=>K aDG w) w λc9 w=>
  Gd (bG c7 false) (λK=>aG pg Eb #[c9] w K) w λd0 w=>
  Gd (bG c7 false) (λK=>aA pg (G2 .not d0) w K) w λd1 w=>
  aA pg (cH c7 (.bool true) d1) w λd2 w=>
  cS d2
   (R (aL2 1) w)
   (aA pg (cQ fI) w λd5 w=>
   aA pg (aD 76 d5 2) w λd6 w=>
   aA pg (aB 73 d6) w λd7 w=>
   aA pg (Dp 73 d7 aDJ true) w λd9 w=>
   aA pg (aQ d9 0) w λe0 w=>
   aA pg (aQ d9 1) w λe1 w=>
   aA pg (G2 .not e1) w λe3 w=>
   cS e3
    (R (aL2 21) w)
    (aA pg (bV 137 [(0,(aL2 1)),(1,aDJ),(2,aDG)]) w λe7 w=>
    aG pg oZ #[fI,e7] w λe8 w=>
    R e8 w)))
def Ma a0 a1 a2 w(R:K1):=
 GX R a0 a1 a2 w
theorem PT{a0 a1 a2 w R}(h:Ma a0 a1 a2 w R):aG pg tV #[a0,a1,a2] w R:=
 jX (ann:=QG) Tryz.f49 PG [a0,a1,a2] T6 39 TryzM.mixed Tryz.func49 (kL h dE)
def YU:FA:=⟨mC,λi=> .leaf ([],[]) []⟩
def aeR:List ResultVar:=[.tmp 2]
noncomputable def Wp:Code:=bA Tryz.f50
def OV(R:K1) fI w:=
 aA pg (aE .eql 34 (.tmp 4) (.const (.pointer none)) fI (.pointer none)) w λb5 w=>
 cS b5
  (R (aL2 1) w)
  (aA pg (cQ fI) w λb8 w=>
  aA pg (aD 76 b8 5) w λb9 w=>
  aA pg (aB 4 b9) w λc0 w=>
  cS c0
   (R (aL2 20) w)
   (R (aL2 0) w))
def Ww a0 w(R:K1):=
 OV R a0 w
theorem Wx{a0 w R}(h:Ww a0 w R):aG pg mC #[a0] w R:=
 jX (ann:=YU) Tryz.f50 Wp [a0] aeR 11 TryzM.mixed Tryz.func50 (kL h dE)
def KM:FA:=⟨fN,λi=> .leaf ([],[]) []⟩
def MG:List ResultVar:=[.tmp 2]
noncomputable def JR:Code:=bA Tryz.f51
def Cr(R:K1) fB w:=
 aA pg (aE .eql 22 (.tmp 3) (.const (.slice none 0 0)) fB (.slice none 0 0)) w λb4 w=>
 cS b4
  (R (.slice none 0 0) w)
  (aA pg (bB 22 0 []) w λb5 w=>
  aA pg (eK .append #[22,22] 22 [b5,fB]) w λb7 w=>
  R b7 w)
def FW a0 w(R:K1):=
 Cr R a0 w
theorem JZ{a0 w R}(h:FW a0 w R):aG pg fN #[a0] w R:=
 jX (ann:=KM) Tryz.f51 JR [a0] MG 8 TryzM.mixed Tryz.func51 (kL h dE)
def KN:FA:=⟨nV,λi=> .leaf ([],[]) []⟩
def MH:List ResultVar:=[.tmp 2]
noncomputable def JS:Code:=bA Tryz.f52
def Cs(R:K1) fB w:=
 aA pg (aE .eql 45 (.tmp 3) (.const (.slice none 0 0)) fB (.slice none 0 0)) w λb4 w=>
 cS b4
  (R (.slice none 0 0) w)
  (aA pg (bB 45 0 []) w λb5 w=>
  aA pg (eK .append #[45,45] 45 [b5,fB]) w λb7 w=>
  R b7 w)
def FX a0 w(R:K1):=
 Cs R a0 w
theorem J0 {a0 w R}(h:FX a0 w R):aG pg nV #[a0] w R:=
 jX (ann:=KN) Tryz.f52 JS [a0] MH 8 TryzM.mixed Tryz.func52 (kL h dE)
def axJ:FA:=⟨Qw,λi=> .leaf ([],[]) []⟩
def aB8:List ResultVar:=[.cell 2 70]
noncomputable def asS:Code:=bA Tryz.f53
def aoQ(R:K1) Ef w:=
 aA pg (bE 70) w λb2 w=>
 aG pg Th #[] w λb4 w=>
 aG pg iT #[b4,Ef] w λb7 w=>
 aG pg CI #[b4] w λb9 w=>
 aA pg (aF 70 b2 b9) w λ_u w=>
 lO pg 70 b2 w λr0=>R r0 w
def aEj a0 w(R:K1):=
 aoQ R a0 w
theorem avY{a0 w R}(h:aEj a0 w R):aG pg Qw #[a0] w R:=
 jX (ann:=axJ) Tryz.f53 asS [a0] aB8 10 TryzM.mixed Tryz.func53 (kL h dE)
def Gj:FA:=⟨AT,λi=> .leaf ([],[]) []⟩
def Jh:List ResultVar:=[.tmp 4,.tmp 5]
noncomputable def Ei:Code:=bA Tryz.f54
def Sb(R:K1) w:=
 R (.tuple #[(aL2 0),(aL2 12)]) w
def IZ(kn:K3)(k0:K0)(R:K1) mN dA n_6 w:=
 aA pg (aE .leq 26 aN aN n_6 (.int .u64 1024)) w λc4 w=>
 cS c4
  (aA pg (cP 3 26 dA) w λc9 w=>
  aA pg (aE .mul 26 aN aN n_6 c9) w λd0 w=>
  aA pg (aE .geq 26 aN aN d0 mN) w λd2 w=>
  cS d2
   (aA pg (cP 26 3 n_6) w λd4 w=>
   R (.tuple #[d4,(aL2 0)]) w)
   (aA pg (aE .add 26 aN aN n_6 (.int .u64 1)) w λc6 w=>
   kn mN dA c6 w))
  (k0 w)
def Dj(k0:K0)(R:K1) mN dA n_6 w:=
 bM (λ(X:aL1->K0) (t:aL1) (w:aL0)=>IZ (λ_ _ n_6 w=>X n_6 w) k0 R mN dA t w) n_6 w
theorem XG(k0:K0)(R:K1)(h0:E0 Q k0 0)(hr:HR Jh R Q)(h:Dj k0 R (g 0) (g 1) (g 6) w):dM pg Gj (bI (aO 1 (bL 1 (aO 2 Ei)))) Q g w:=by
 refine Fl (λg:Env=>g 6) (λX t w=>IZ (λ_ _ n_6 w=>X n_6 w) k0 R (g 0) (g 1) t w) h (λX g1 w1 ha hL=> ?_)
 rw[<-fC 0 ha,<-fC 1 ha]at hL
 exact(El [(0,(Mq0 k0))] (GO (λ_ _ n_6 w=>X n_6 w) 0 1 6) hL dE hr ⟨h0,trivial⟩)
def Sc(kn:K3) mN dA w:=
 kn mN dA (.int .u64 0) w
def I0 (kn:K0)(R:K1) mN dA w:=
 Sc (Dj kn R) mN dA w
def I1 (R:K1) mN dA w:=
 I0 (Sb R) R mN dA w
theorem XH(kn:K0)(R:K1)(hn:N0 Q kn)(hr:HR Jh R Q)(h:I0 kn R (g 0) (g 1) w):dM pg Gj (bL 1 (aO 2 Ei)) Q g w:=
 dN 1 (iS (GO (Dj kn R) 0 1 6) h (λg w h=>aJ (BK 0 (XG _ g w kn R hn hr h))))
def Sd(kn:K2)(R:K1) mN dA w:=
 aA pg (aE .lss 3 aN aN dA (aL2 1)) w λb8 w=>
 Gd (bG b8 false) (λK=>K dA w) w λc0 w=>
 Gd (bG b8 false) (λK=>aA pg (aE .gtr 3 aN aN c0 (aL2 65536)) w K) w λc1 w=>
 aA pg (cH b8 (.bool true) c1) w λc2 w=>
 cS c2
  (R (.tuple #[(aL2 0),(aL2 1)]) w)
  (kn mN dA w)
def Se(R:K1) mN dA w:=
 Sd (I1 R) R mN dA w
def abN a0 a1 w(R:K1):=
 Se R a0 a1 w
theorem ZJ{a0 a1 w R}(h:abN a0 a1 w R):aG pg AT #[a0,a1] w R:=
 jX (ann:=Gj) Tryz.f54 Ei [a0,a1] Jh 25 TryzM.mixed Tryz.func54 (dN 2 (Up (Qv (I1 R) 0 1) h (λg w h=>aJ (dN 1 (XH _ g w (Sb R) R (λg w h=>aJ (kL h dE)) dE h))) dE))
def agQ:FA:=⟨tX,λi=> .leaf ([],[]) []⟩
def amT:List ResultVar:=[.tmp 4,.tmp 5,.tmp 6]
noncomputable def acU:Code:=bA Tryz.f55
def U0 (R:K1) fI cV w:=
 aA pg (jK 40 fI) w λrN w=>
 aA pg (aB 40 rN) w λc0 w=>
 aG pg Ac #[c0,cV] w λc2 w=>
 aA pg (aQ c2 0) w λc3 w=>
 aA pg (aQ c2 1) w λc4 w=>
 aA pg (aE .eql 31 (.tmp 15) (.const (aL2 21)) c4 (aL2 21)) w λc6 w=>
 cS c6
  (R (.tuple #[(.string ⟨#[]⟩),(.bool false),(aL2 0)]) w)
  (aA pg (aE .eql 31 (.tmp 18) (.const (aL2 0)) c4 (aL2 0)) w λc9 w=>
  R (.tuple #[c3,c9,c4]) w)
def ajF a0 a1 w(R:K1):=
 U0 R a0 a1 w
theorem aeO{a0 a1 w R}(h:ajF a0 a1 w R):aG pg tX #[a0,a1] w R:=
 jX (ann:=agQ) Tryz.f55 acU [a0,a1] amT 21 TryzM.mixed Tryz.func55 (kL h dE)
def Ag:FA:=⟨sI,λi=>match Nat.beq i 8 with|true=> .leaf ([10],[]) (fz 10 (ft [] (fz 1 [])))|false=> .leaf ([],[]) []⟩
def aeV:List ResultVar:=[.tmp 4]
noncomputable def xB:Code:=bA Tryz.f56
def GA(R:K1) bT w:=
 R bT w
def Bz(kn:K4) zV M6 bT pY w:=
 aA pg (aE .add 3 aN aN pY (aL2 1)) w λc7 w=>
 kn zV M6 bT c7 w
def BA(kn:K4) zV M6 bT pY aHX w:=
 aA pg (bB 45 1 [(0,aHX)]) w λi4 w=>
 aA pg (eK .append #[45,45] 45 [bT,i4]) w λi5 w=>
 kn zV M6 i5 pY w
def Pf(kn:K5) zV M6 bT pY w:=
 aA pg (aD 44 M6 0) w λc9 w=>
 aA pg (aB 26 c9) w λd0 w=>
 aA pg (aD 44 M6 1) w λd1 w=>
 aA pg (aB 27 d1) w λd2 w=>
 aA pg (cP 27 3 d2) w λd3 w=>
 aG pg Aa #[d0,d3,pY] w λd5 w=>
 aA pg (aQ d5 0) w λd6 w=>
 aA pg (aQ d5 1) w λd7 w=>
 aA pg (aQ d5 2) w λd8 w=>
 aA pg (aE .eql 31 (.tmp 29) (.const (aL2 0)) d8 (aL2 0)) w λe0 w=>
 Gd (bG e0 true) (λK=>K d6 w) w λe2 w=>
 Gd (bG e0 true) (λK=>K d7 w) w λe3 w=>
 Gd (bG e0 true) (λK=>aA pg (cP 3 26 e3) w K) w λe4 w=>
 Gd (bG e0 true) (λK=>aA pg (aE .add 26 aN aN e2 e4) w K) w λe5 w=>
 Gd (bG e0 true) (λK=>K zV w) w λe6 w=>
 Gd (bG e0 true) (λK=>aA pg (eK .len #[9] 3 [e6]) w K) w λe7 w=>
 Gd (bG e0 true) (λK=>aA pg (cP 3 26 e7) w K) w λe8 w=>
 Gd (bG e0 true) (λK=>aA pg (aE .leq 26 aN aN e5 e8) w K) w λe9 w=>
 aA pg (cH e0 e9 (.bool false)) w λf0 w=>
 cS f0
  (aA pg (aB 44 M6) (dr w) λf1 w_=>w_=(dr w)/\
  (dr w)=(dr w)/\
  (dr w)=(dr w)/\
  (dr w)=(dr w)/\
  aA pg (cP 26 3 d6) (dr w) λf5 w_=>w_=(dr w)/\
  (dr w)=(dr w)/\
  aA pg (cP 26 3 d6) (dr w) λf7 w_=>w_=(dr w)/\
  (dr w)=(dr w)/\
  aA pg (aE .add 3 aN aN f7 d7) (dr w) λf9 w_=>w_=(dr w)/\
  aA pg (dH 9 zV (some f5) (some f9) none) (dr w) λi0 w_=>w_=(dr w)/\
  aG pg AW #[f1,pY,i0] (dr w) λi1 aEF=>
  aEF=aEF/\
  kn zV M6 bT pY i1 aEF)
  (kn zV M6 bT pY (.bool false) w)
def GB(kn:K4) zV M6 bT pY w:=
 Pf (BA kn) zV M6 bT pY w
def GC(kn:K4) zV M6 bT pY w:=
 GB (Bz kn) zV M6 bT pY w
theorem VF(kn:K4)(hn:N4 Q kn 1 2 5 6)(h:GB kn (g 1) (g 2) (g 5) (g 6) w):dM pg Ag (bL 1 (aO 1 (bI (bI (aO 1 (bL 1 (aO 2 xB))))))) Q g w:=
 BK 1 (dN 3 (iS (YN (BA kn) 1 2 5 6 10) h (λg w h=>aJ (iS _ h hn))))
def Pg(kn:K4)(k0:K1) zV M6 bT pY w:=
 aA pg (aD 44 M6 2) w λc2 w=>
 aA pg (aB 28 c2) w λc3 w=>
 aA pg (eK .len #[28] 3 [c3]) w λc4 w=>
 aA pg (aE .lss 3 aN aN pY c4) w λc5 w=>
 cS c5
  (kn zV M6 bT pY w)
  (k0 bT w)
def GD(kn:K4)(k0:K1) zV M6 bT pY w:=
 Pg (GC kn) k0 zV M6 bT pY w
def Av(k0:K1) zV M6 bT pY w:=
 bM (λ(X:(aL1×aL1)->K0) (t:aL1×aL1) (w:aL0)=>GD (λ_ _ bT pY w=>X (bT,pY) w) k0 zV M6 t.1 t.2 w) (bT,pY) w
theorem T0 (k0:K1)(h0:E1 Q k0 0 5)(h:Av k0 (g 1) (g 2) (g 5) (g 6) w):dM pg Ag (bI (aO 1 (bL 1 (aO 2 xB)))) Q g w:=by
 refine Fl (λg:Env=>(g 5,g 6)) (λX t w=>GD (λ_ _ bT pY w=>X (bT,pY) w) k0 (g 1) (g 2) t.1 t.2 w) h (λX g1 w1 ha hL=> ?_)
 rw[<-fC 1 ha,<-fC 2 ha]at hL
 exact(dN 1 (El [(0,(Mq1 k0 5))] (kr:=no) (CN (GC (λ_ _ bT pY w=>X (bT,pY) w)) 1 2 5 6) hL (λg w h=>aJ (dN 1 (VF _ g w (Bz (λ_ _ bT pY w=>X (bT,pY) w)) (λg w h=>aJ (iS (CN (λ_ _ bT pY w=>X (bT,pY) w) 1 2 5 6) h dE)) h))) JO ⟨h0,trivial⟩))
def MA(kn:K4) zV M6 bT w:=
 kn zV M6 bT (aL2 0) w
def EA(kn:K1) zV M6 bT w:=
 MA (Av kn) zV M6 bT w
def EB(R:K1) zV M6 bT w:=
 EA (GA R) zV M6 bT w
theorem T1 (kn:K1)(hn:N1 Q kn 5)(h:EA kn (g 1) (g 2) (g 5) w):dM pg Ag (bL 1 (aO 2 xB)) Q g w:=
 dN 1 (iS (CN (Av kn) 1 2 5 6) h (λg w h=>aJ (BK 0 (T0 _ g w kn hn h))))
def MB(kn:K3) m_0 zV w:=
 aA pg (jK 44 m_0) w λM6 w=>
 kn zV M6 (.slice none 0 0) w
def MC(R:K1) m_0 zV w:=
 MB (EB R) m_0 zV w
def Yb a0 a1 w(R:K1):=
 MC R a0 a1 w
theorem Yc{a0 a1 w R}(h:Yb a0 a1 w R):aG pg sI #[a0,a1] w R:=
 jX (ann:=Ag) Tryz.f56 xB [a0,a1] aeV 57 TryzM.mixed Tryz.func56 (dN 2 (iS (GO (EB R) 1 2 5) h (λg w h=>aJ (dN 1 (T1 _ g w (GA R) (λg w h=>aJ (kL h dE)) h)))))
def KL:FA:=⟨Cd,λi=> .leaf ([],[]) []⟩
def OD:List ResultVar:=[.tmp 2]
noncomputable def H9:Code:=bA Tryz.f57
def Ox(R:K1) w:=
 R (.bool true) w
def Oy(kn:K2)(k0:K0)(R:K1) iJ i_3 w:=
 aA pg (eK .len #[45] 3 [iJ]) w λb6 w=>
 aA pg (aE .lss 3 aN aN i_3 b6) w λb7 w=>
 cS b7
  (aA pg (aR 45 iJ i_3) w λc2 w=>
  aA pg (aB 4 c2) w λc3 w=>
  aA pg (G2 .not c3) w λc4 w=>
  cS c4
   (R (.bool false) w)
   (aA pg (aE .add 3 aN aN i_3 (aL2 1)) w λb9 w=>
   kn iJ b9 w))
  (k0 w)
def Hz(k0:K0)(R:K1) iJ i_3 w:=
 bM (λ(X:aL1->K0) (t:aL1) (w:aL0)=>Oy (λ_ i_3 w=>X i_3 w) k0 R iJ t w) i_3 w
theorem aeL(k0:K0)(R:K1)(h0:E0 Q k0 0)(hr:HR OD R Q)(h:Hz k0 R (g 0) (g 3) w):dM pg KL (bI (aO 1 (bL 1 (aO 1 H9)))) Q g w:=by
 refine Fl (λg:Env=>g 3) (λX t w=>Oy (λ_ i_3 w=>X i_3 w) k0 R (g 0) t w) h (λX g1 w1 ha hL=> ?_)
 rw[<-fC 0 ha]at hL
 exact(El [(0,(Mq0 k0))] (Qv (λ_ i_3 w=>X i_3 w) 0 3) hL dE hr ⟨h0,trivial⟩)
def XU(kn:K2) iJ w:=
 kn iJ (aL2 0) w
def Oz(kn:K0)(R:K1) iJ w:=
 XU (Hz kn R) iJ w
def OA(R:K1) iJ w:=
 Oz (Ox R) R iJ w
theorem aeM(kn:K0)(R:K1)(hn:N0 Q kn)(hr:HR OD R Q)(h:Oz kn R (g 0) w):dM pg KL (bL 1 (aO 1 H9)) Q g w:=
 dN 1 (iS (Qv (Hz kn R) 0 3) h (λg w h=>aJ (BK 0 (aeL _ g w kn R hn hr h))))
def XV(kn:K1) iJ w:=
 kn iJ w
def XW(R:K1) iJ w:=
 XV (OA R) iJ w
def aoI a0 w(R:K1):=
 XW R a0 w
theorem ajC{a0 w R}(h:aoI a0 w R):aG pg Cd #[a0] w R:=
 jX (ann:=KL) Tryz.f57 H9 [a0] OD 15 TryzM.mixed Tryz.func57 (dN 1 (iS (Mq1 (OA R) 0) h (λg w h=>aJ (dN 1 (aeM _ g w (Ox R) R (λg w h=>aJ (kL h dE)) dE h)))))
def H4:FA:=⟨Hc,λi=>match Nat.beq i 6 with|true=> .leaf ([1],[(1,5),(1,6)]) (fz 1 (ft [] (fz 3 (fu [3] (fu [4] (fz 1 []))))))|false=> .leaf ([],[]) []⟩
def LD:List ResultVar:=[.tmp 2,.tmp 3]
noncomputable def Gt:Code:=bA Tryz.f58
def Lu(R:K1) jL tI w:=
 R (.tuple #[jL,tI]) w
def Lv(kn:K3)(k0:K2)(R:K1) Ef jL tI w:=
 aA pg (aE .add 3 aN aN tI (aL2 13)) w λc0 w=>
 aA pg (eK .len #[9] 3 [Ef]) w λc2 w=>
 aA pg (aE .leq 3 aN aN c0 c2) w λc3 w=>
 cS c3
  (aA pg (aE .add 3 aN aN tI (aL2 1)) w λc7 w=>
  aA pg (dH 9 Ef (some c7) none none) w λc8 w=>
  aA pg (bV 158 [(0,c8)]) w λc9 w=>
  aG pg CE #[c9,(aL2 8)] w λd0 w=>
  aA pg (aQ d0 0) w λd1 w=>
  aA pg (aQ d0 1) w λd2 w=>
  aA pg (bE 158) w λb6 w=>
  aA pg (aF 158 b6 d1) w λ_u w=>
  aA pg (VS 9 Ef tI) w λd5 w=>
  aA pg (bV 123 [(0,d5),(1,d2)]) w λd7 w=>
  aA pg (bE 123) w λr_8 w=>
  aA pg (aF 123 r_8 d7) w λ_u w=>
  aA pg (aB 123 r_8) (dr w) λd8 w_=>w_=(dr w)/\
  aG pg Cc #[d8] (dr w) λd9 YK=>
  YK=YK/\
  YK=YK/\
  YK=YK/\
  aA pg (aE .add 3 aN aN tI (aL2 13)) YK λe3 w_=>w_=YK/\
  (aP pg (aE .add 3 aN aN tI (aL2 13)) e3 (dr w)/\True)/\
  aA pg (dH 9 Ef (some tI) (some e3) none) YK λe4 w_=>w_=YK/\
  (aP pg (dH 9 Ef (some tI) (some e3) none) e4 (dr w)/\True)/\
  aA pg (aE .neq 9 (.tmp 29) (.tmp 34) d9 e4) YK λe5 w_=>w_=YK/\
  cS e5
   (R (.tuple #[jL,tI]) YK)
   (aA pg (aB 123 r_8) YK λe9 w=>
   aA pg (bB 120 1 [(0,e9)]) w λf0 w=>
   aA pg (eK .append #[120,120] 120 [jL,f0]) w λf1 w=>
   aA pg (aE .add 3 aN aN tI (aL2 13)) w λf3 w=>
   kn Ef f1 f3 w))
  (k0 jL tI w)
def Fu(k0:K2)(R:K1) Ef jL tI w:=
 bM (λ(X:(aL1×aL1)->K0) (t:aL1×aL1) (w:aL0)=>Lv (λ_ jL tI w=>X (jL,tI) w) k0 R Ef t.1 t.2 w) (jL,tI) w
theorem ZU(k0:K2)(R:K1)(h0:E2 Q k0 0 4 5)(hr:HR LD R Q)(h:Fu k0 R (g 0) (g 4) (g 5) w):dM pg H4 (bI (bL 1 (aO 3 Gt))) Q g w:=by
 refine Fl (λg:Env=>(g 4,g 5)) (λX t w=>Lv (λ_ jL tI w=>X (jL,tI) w) k0 R (g 0) t.1 t.2 w) h (λX g1 w1 ha hL=> ?_)
 rw[<-fC 0 ha]at hL
 exact(El [(0,(Qv k0 4 5))] (GO (λ_ jL tI w=>X (jL,tI) w) 0 4 5) hL dE hr ⟨h0,trivial⟩)
def Lw(R:K1) Ef jL tI w:=
 Fu (Lu R) R Ef jL tI w
theorem ZV(kn:K2)(R:K1)(hn:N2 Q kn 4 5)(hr:HR LD R Q)(h:Fu kn R (g 0) (g 4) (g 5) w):dM pg H4 (bL 1 (aO 3 Gt)) Q g w:=
 BK 0 (ZU _ g w kn R hn hr h)
def UX(kn:K3) Ef w:=
 kn Ef (.slice none 0 0) (aL2 0) w
def UY(R:K1) Ef w:=
 UX (Lw R) Ef w
def ajB a0 w(R:K1):=
 UY R a0 w
theorem aeK{a0 w R}(h:ajB a0 w R):aG pg Hc #[a0] w R:=
 jX (ann:=H4) Tryz.f58 Gt [a0] LD 46 TryzM.mixed Tryz.func58 (dN 3 (iS (GO (Lw R) 0 4 5) h (λg w h=>aJ (dN 1 (ZV _ g w (Lu R) R (λg w h=>aJ (kL h dE)) dE h)))))
def YY:FA:=⟨yB,λi=>match Nat.beq i 5 with|true=> .leaf ([3,4],[(1,3)]) (fz 3 (ft [1] (ft [] (fz 1 []))))|false=> .leaf ([],[]) []⟩
def aeX:List ResultVar:=[.cell 6 40,.cell 7 47,.tmp 8]
noncomputable def Wt:Code:=bA Tryz.f59
def BC(R:K1) qE s_4 b6 b7 aI4 w:=
 aA pg (aB 40 qE) (dr w) λe3 w_=>w_=(dr w)/\
 aA pg (aB 47 s_4) (dr w) λe4 w_=>w_=(dr w)/\
 (dr w)=(dr w)/\
 aA pg (aF 40 b6 e3) (dr w) λ_u3 YJ=>
 (aP pg (aB 47 s_4) e4 YJ/\True)/\
 aA pg (aF 47 b7 e4) YJ λ_u4 Te=>
 Te=Te/\
 lO pg 40 b6 Te λr0=>lO pg 47 b7 Te λr1=>R (.tuple #[r0,r1,aI4]) Te
def Pk(kn:K5) fI SL NI w:=
 aA pg (jK 40 fI) w λqE w=>
 aA pg (jK 47 SL) w λs_4 w=>
 aA pg (jK 123 NI) w λr_5 w=>
 aA pg (bE 40) w λb6 w=>
 aA pg (bE 47) w λb7 w=>
 aA pg (aB 123 r_5) w λc1 w=>
 aG pg Cc #[c1] w λc2 w=>
 aA pg (aB 40 qE) w λc4 w=>
 aA pg (aD 47 s_4 0) w λc5 w=>
 aA pg (aB 9 c5) w λc6 w=>
 aA pg (aE .add 9 aN aN c6 (.string ⟨#[46,108,111,103]⟩)) w λc7 w=>
 aA pg (aD 47 s_4 4) w λc8 w=>
 aA pg (aB 3 c8) w λc9 w=>
 aA pg (bV 96 [(1,c7),(3,c9),(4,c2)]) w λd1 w=>
 aG pg iB #[c4,d1] w λd2 w=>
 aA pg (aQ d2 0) w λd3 w=>
 aA pg (aQ d2 1) w λd4 w=>
 aA pg (aF 40 qE d3) w λ_u w=>
 aA pg (aE .eql 31 (.tmp 25) (.const (aL2 0)) d4 (aL2 0)) w λd6 w=>
 cS d6
  (aA pg (aD 47 s_4 4) w λd7 w=>
  aA pg (aB 3 d7) w λd8 w=>
  aA pg (eK .len #[9] 3 [c2]) w λe0 w=>
  aA pg (aE .add 3 aN aN d8 e0) w λe1 w=>
  aA pg (aD 47 s_4 4) w λe2 w=>
  aA pg (aF 3 e2 e1) w λ_u w=>
  kn qE s_4 b6 b7 d4 w)
  (kn qE s_4 b6 b7 d4 w)
def Pm(R:K1) fI SL NI w:=
 Pk (BC R) fI SL NI w
def Yf a0 a1 a2 w(R:K1):=
 Pm R a0 a1 a2 w
theorem Yg{a0 a1 a2 w R}(h:Yf a0 a1 a2 w R):aG pg yB #[a0,a1,a2] w R:=
 jX (ann:=YY) Tryz.f59 Wt [a0,a1,a2] aeX 36 TryzM.mixed Tryz.func59 (dN 4 (iS (YN (BC R) 3 4 6 7 10) h (λg w h=>aJ (kL h dE))))
def YX:FA:=⟨CH,λi=>match Nat.beq i 13 with|true=> .leaf ([11,14,18],[(0,11),(3,11),(17,18)]) (fz 11 (ft [7,10] (fz 2 (ft [] (fz 3 (ft [0] (fz 1 [])))))))|false=> .leaf ([],[]) []⟩
def aeW:List ResultVar:=[.cell 4 40,.tmp 5,.tmp 6]
noncomputable def Ws:Code:=bA Tryz.f60
def BB(R:K1) rN Bf b4 aGW b_8 b9 w:=
 aA pg (eK .len #[9] 3 [b_8]) w λf4 w=>
 aA pg (cP 3 26 f4) w λf5 w=>
 aA pg (aD 47 Bf 1) w λf6 w=>
 aA pg (aD 44 f6 0) w λf7 w=>
 aA pg (aB 26 f7) w λf8 w=>
 aA pg (aE .eql 26 (.tmp 45) (.tmp 48) f5 f8) w λf9 w=>
 Gd (bG f9 true) (λK=>K b9 w) w λi1 w=>
 aA pg (cH f9 i1 (.bool false)) w λi2 w=>
 cS i2
  (aA pg (aB 40 rN) w λi3 w=>
  aA pg (aF 40 b4 i3) w λ_u w=>
  lO pg 40 b4 w λr0=>R (.tuple #[r0,b_8,(aL2 0)]) w)
  (aA pg (aB 40 rN) (dr w) λi6 w_=>w_=(dr w)/\
  (dr w)=(dr w)/\
  (dr w)=(dr w)/\
  aA pg (eK .len #[9] 3 [b_8]) (dr w) λi9 w_=>w_=(dr w)/\
  aA pg (aD 47 Bf 1) (dr w) λj0 w_=>w_=(dr w)/\
  aA pg (aD 44 j0 0) (dr w) λj1 w_=>w_=(dr w)/\
  aA pg (aB 26 j1) (dr w) λj2 w_=>w_=(dr w)/\
  aA pg (cP 26 3 j2) (dr w) λj3 w_=>w_=(dr w)/\
  (dr w)=(dr w)/\
  aA pg (eK .len #[9] 3 [b_8]) (dr w) λj5 w_=>w_=(dr w)/\
  aA pg (aE .sub 3 aN aN j3 j5) (dr w) λj6 w_=>w_=(dr w)/\
  aA pg (yX 22 j6 j6) (dr w) λj7 V2=>
  (aP pg (eK .len #[9] 3 [b_8]) i9 V2/\aP pg (aB 40 rN) i6 V2/\True)/\
  aA pg (cP 22 9 j7) V2 λj8 w_=>w_=V2/\
  aA pg (bV 96 [(1,aGW),(3,i9),(4,j8)]) V2 λj9 w_=>w_=V2/\
  aG pg iB #[i6,j9] V2 λl0 V3=>
  V3=V3/\
  aA pg (aQ l0 0) V3 λl1 w_=>w_=V3/\
  aA pg (aQ l0 1) V3 λl2 w_=>w_=V3/\
  aA pg (aF 40 rN l1) V3 λ_u18 arK=>
  (aP pg (aQ l0 1) l2 arK/\True)/\
  arK=arK/\
  aA pg (aB 40 rN) arK λl3 w=>
  aA pg (aF 40 b4 l3) w λ_u w=>
  lO pg 40 b4 w λr0=>R (.tuple #[r0,b_8,l2]) w)
def Ph(kn:K6)(R:K1) fI SL w:=
 aA pg (jK 40 fI) w λrN w=>
 aA pg (jK 47 SL) w λBf w=>
 aA pg (bE 40) w λb4 w=>
 aA pg (aD 47 Bf 0) w λc1 w=>
 aA pg (aB 9 c1) w λc2 w=>
 aA pg (aE .add 9 aN aN c2 (.string ⟨#[46,112,97,114,116]⟩)) w λc3 w=>
 aA pg (aB 40 rN) w λc5 w=>
 aG pg tX #[c5,c3] w λc7 w=>
 aA pg (aQ c7 0) w λc8 w=>
 aA pg (aQ c7 1) w λc9 w=>
 aA pg (aQ c7 2) w λd0 w=>
 aA pg (aE .neq 31 (.tmp 21) (.const (aL2 0)) d0 (aL2 0)) w λd2 w=>
 cS d2
  (aA pg (aB 40 rN) w λd3 w=>
  aA pg (aF 40 b4 d3) w λ_u w=>
  lO pg 40 b4 w λr0=>R (.tuple #[r0,(.string ⟨#[]⟩),d0]) w)
  (aA pg (eK .len #[9] 3 [c8]) w λd6 w=>
  aA pg (cP 3 26 d6) w λd7 w=>
  aA pg (aD 47 Bf 1) w λd8 w=>
  aA pg (aD 44 d8 0) w λd9 w=>
  aA pg (aB 26 d9) w λe0 w=>
  aA pg (aE .gtr 26 aN aN d7 e0) w λe1 w=>
  cS e1
   (aA pg (aB 40 rN) w λe3 w=>
   aA pg (bV 96 [(0,(aL2 2)),(1,c3)]) w λe5 w=>
   aG pg iB #[e3,e5] w λe6 w=>
   aA pg (aQ e6 0) w λe7 w=>
   aA pg (aQ e6 1) w λe8 w=>
   aA pg (aF 40 rN e7) w λ_u w=>
   aA pg (aE .neq 31 (.tmp 39) (.const (aL2 0)) e8 (aL2 0)) w λf0 w=>
   cS f0
    (aA pg (aB 40 rN) w λf1 w=>
    aA pg (aF 40 b4 f1) w λ_u w=>
    lO pg 40 b4 w λr0=>R (.tuple #[r0,(.string ⟨#[]⟩),e8]) w)
    (kn rN Bf b4 c3 (.string ⟨#[]⟩) (.bool false) w))
   (kn rN Bf b4 c3 c8 c9 w))
def Pj(R:K1) fI SL w:=
 Ph (BB R) R fI SL w
def Yd a0 a1 w(R:K1):=
 Pj R a0 a1 w
theorem Ye{a0 a1 w R}(h:Yd a0 a1 w R):aG pg CH #[a0,a1] w R:=
 jX (ann:=YX) Tryz.f60 Ws [a0,a1] aeW 76 TryzM.mixed Tryz.func60 (dN 5 (Up (Mq6 (BB R) 2 3 4 7 8 9) h (λg w h=>aJ (kL h dE)) dE))
def agP:FA:=⟨qN,λi=> .leaf ([],[]) []⟩
def amQ:List ResultVar:=[.cell 2 40,.tmp 3]
noncomputable def acT:Code:=bA Tryz.f61
def UP(R:K1) fI w:=
 aA pg (jK 40 fI) w λQZ w=>
 aA pg (bE 40) w λb2 w=>
 aA pg (aD 40 QZ 4) w λb5 w=>
 aA pg (aB 4 b5) w λb6 w=>
 cS b6
  (aA pg (aB 40 QZ) w λb7 w=>
  aA pg (aF 40 b2 b7) w λ_u w=>
  lO pg 40 b2 w λr0=>R (.tuple #[r0,(aL2 20)]) w)
  (aA pg (aB 40 QZ) w λb9 w=>
  aG pg AV #[b9] w λc0 w=>
  aA pg (aQ c0 0) w λc1 w=>
  aA pg (aQ c0 1) w λc2 w=>
  aA pg (aF 40 QZ c1) w λ_u w=>
  cS c2
   (aA pg (aB 40 QZ) w λc4 w=>
   aA pg (aF 40 b2 c4) w λ_u w=>
   lO pg 40 b2 w λr0=>R (.tuple #[r0,(aL2 20)]) w)
   (aA pg (aB 40 QZ) w λc5 w=>
   aG pg tW #[c5] w λc6 w=>
   aA pg (aD 40 QZ 1) w λc7 w=>
   aA pg (aF 37 c7 c6) w λ_u w=>
   aA pg (aD 40 QZ 2) w λc8 w=>
   aA pg (aF 38 c8 (.slice none 0 0)) w λ_u w=>
   aA pg (aB 40 QZ) w λc9 w=>
   aA pg (aF 40 b2 c9) w λ_u w=>
   lO pg 40 b2 w λr0=>R (.tuple #[r0,(aL2 0)]) w))
def aiX a0 w(R:K1):=
 UP R a0 w
theorem aeH{a0 w R}(h:aiX a0 w R):aG pg qN #[a0] w R:=
 jX (ann:=agP) Tryz.f61 acT [a0] amQ 20 TryzM.mixed Tryz.func61 (kL h dE)
def Nc:FA:=⟨qO,λi=> .leaf ([],[]) []⟩
def Qb:List ResultVar:=[.tmp 2]
noncomputable def L1:Code:=bA Tryz.f62
def DU(R:K1) aEd w:=
 aG pg wB #[aEd] w λb5 w=>
 aG pg pC #[b5] w λb7 w=>
 R b5 w
def Jr a0 w(R:K1):=
 DU R a0 w
theorem MT{a0 w R}(h:Jr a0 w R):aG pg qO #[a0] w R:=
 jX (ann:=Nc) Tryz.f62 L1 [a0] Qb 9 TryzM.mixed Tryz.func62 (kL h dE)
def Vm:FA:=⟨zZ,λi=> .leaf ([],[]) []⟩
def Yr:List ResultVar:=[.tmp 2]
noncomputable def TL:Code:=bA Tryz.f63
def Kk(R:K1) m_0 w:=
 aA pg (jK 73 m_0) w λm_1 w=>
 aA pg (Pn (.func 88) [] [m_1]) w λb3 w=>
 R b3 w
def RN a0 w(R:K1):=
 Kk R a0 w
theorem TV{a0 w R}(h:RN a0 w R):aG pg zZ #[a0] w R:=
 jX (ann:=Vm) Tryz.f63 TL [a0] Yr 4 TryzM.mixed Tryz.func63 (kL h dE)
def Af:FA:=⟨BG,λi=>match Nat.beq i 12 with|true=> .leaf ([10],[]) (fz 10 (ft [] []))|false=> .leaf ([],[]) []⟩
def abT:List ResultVar:=[.tmp 4]
noncomputable def vX:Code:=bA Tryz.f64
def Sh(R:K1) iJ w:=
 R iJ w
def abP(kn:K1)(R:K1) iJ tL xL DQ w:=
 aA pg (aE .lss 3 aN aN xL (aL2 0)) w λj2 w=>
 cS j2
  (R iJ w)
  (aA pg (aD 96 tL 1) w λj5 w=>
  aA pg (aB 9 j5) w λj6 w=>
  aG pg vI #[iJ,j6] w λj7 w=>
  aA pg (aD 96 tL 0) w λj8 w=>
  aA pg (aB 3 j8) w λj9 w=>
  aA pg (aE .eql 3 (.tmp 69) (.const (aL2 1)) j9 (aL2 1)) w λl0 w=>
  cS l0
   (aA pg (aD 96 tL 2) w λl2 w=>
   aA pg (aB 9 l2) w λl3 w=>
   aA pg (bV 85 [(0,l3),(1,DQ)]) w λl5 w=>
   aG pg CF #[j7,l5] w λl6 w=>
   kn l6 w)
   (kn j7 w))
def Si(R:K1) iJ tL xL DQ w:=
 abP (Sh R) R iJ tL xL DQ w
def Sj(R:K1) iJ tL YZ w:=
 aA pg (aD 96 tL 1) w λi5 w=>
 aA pg (aB 9 i5) w λi6 w=>
 aA pg (cP 22 9 YZ) w λi8 w=>
 aA pg (bV 85 [(0,i6),(1,i8)]) w λi9 w=>
 aG pg CF #[iJ,i9] w λj0 w=>
 R j0 w
def Sk(kn:K4)(k2:K3) iJ tL YZ k_8 w:=
 aA pg (aD 96 tL 4) w λe8 w=>
 aA pg (aB 9 e8) w λe9 w=>
 aA pg (eK .len #[9] 3 [e9]) w λf0 w=>
 aA pg (aE .lss 3 aN aN k_8 f0) w λf1 w=>
 cS f1
  ((dr w)=(dr w)/\
  aA pg (aD 96 tL 3) (dr w) λf5 w_=>w_=(dr w)/\
  aA pg (aB 3 f5) (dr w) λf6 w_=>w_=(dr w)/\
  (dr w)=(dr w)/\
  aA pg (aE .add 3 aN aN f6 k_8) (dr w) λf8 w_=>w_=(dr w)/\
  aA pg (aD 96 tL 4) (dr w) λf9 w_=>w_=(dr w)/\
  aA pg (aB 9 f9) (dr w) λi0 w_=>w_=(dr w)/\
  (dr w)=(dr w)/\
  aA pg (VS 9 i0 k_8) (dr w) λi2 w_=>w_=(dr w)/\
  aA pg (aR 22 YZ f8) (dr w) λi3 w_=>w_=(dr w)/\
  aA pg (aF 5 i3 i2) (dr w) λ_u10 aHq=>
  aA pg (aE .add 3 aN aN k_8 (aL2 1)) aHq λf3 w=>
  kn iJ tL YZ f3 w)
  (k2 iJ tL YZ w)
def Kp(k2:K3) iJ tL YZ k_8 w:=
 bM (λ(X:aL1->K0) (t:aL1) (w:aL0)=>Sk (λ_ _ _ k_8 w=>X k_8 w) k2 iJ tL YZ t w) k_8 w
theorem aiR(k2:K3)(h2:E3 Q k2 2 0 3 7)(h:Kp k2 (g 0) (g 3) (g 7) (g 8) w):dM pg Af (bI (aO 1 (bL 1 (aO 1 (aO 1 (cT (aO 1 (bL 1 (aO 4 vX))))))))) Q g w:=by
 refine Fl (λg:Env=>g 8) (λX t w=>Sk (λ_ _ _ k_8 w=>X k_8 w) k2 (g 0) (g 3) (g 7) t w) h (λX g1 w1 ha hL=> ?_)
 rw[<-fC 0 ha,<-fC 3 ha,<-fC 7 ha]at hL
 exact(El [(2,(GO k2 0 3 7))] (kr:=no) (CN (λ_ _ _ k_8 w=>X k_8 w) 0 3 7 8) hL dE JO ⟨h2,trivial⟩)
def abQ(kn:K4) iJ tL YZ w:=
 kn iJ tL YZ (aL2 0) w
def Sm(kn:K3) iJ tL YZ w:=
 abQ (Kp kn) iJ tL YZ w
def Oq(R:K1) iJ tL YZ w:=
 Sm (Sj R) iJ tL YZ w
theorem aiS(kn:K3)(hn:N3 Q kn 0 3 7)(h:Sm kn (g 0) (g 3) (g 7) w):dM pg Af (bL 1 (aO 1 (aO 1 (cT (aO 1 (bL 1 (aO 4 vX))))))) Q g w:=
 dN 1 (iS (CN (Kp kn) 0 3 7 8) h (λg w h=>aJ (BK 2 (aiR _ g w kn hn h))))
def Ot(kn:K3)(k0:K3) iJ tL YZ w:=
 aA pg (eK .len #[22] 3 [YZ]) w λd6 w=>
 aA pg (aD 96 tL 3) w λd7 w=>
 aA pg (aB 3 d7) w λd8 w=>
 aA pg (aD 96 tL 4) w λd9 w=>
 aA pg (aB 9 d9) w λe0 w=>
 aA pg (eK .len #[9] 3 [e0]) w λe1 w=>
 aA pg (aE .add 3 aN aN d8 e1) w λe2 w=>
 aA pg (aE .lss 3 aN aN d6 e2) w λe3 w=>
 cS e3
  (aA pg (bB 22 1 [(0,(.int .u8 0))]) w λe5 w=>
  aA pg (eK .append #[22,22] 22 [YZ,e5]) w λe6 w=>
  kn iJ tL e6 w)
  (k0 iJ tL YZ w)
def Hw(k0:K3) iJ tL YZ w:=
 bM (λ(X:aL1->K0) (t:aL1) (w:aL0)=>Ot (λ_ _ YZ w=>X YZ w) k0 iJ tL t w) YZ w
theorem aeB(k0:K3)(h0:E3 Q k0 0 0 3 7)(h:Hw k0 (g 0) (g 3) (g 7) w):dM pg Af (bI (bL 1 (aO 1 (cT (aO 1 (bL 1 (aO 4 vX))))))) Q g w:=by
 refine Fl (λg:Env=>g 7) (λX t w=>Ot (λ_ _ YZ w=>X YZ w) k0 (g 0) (g 3) t w) h (λX g1 w1 ha hL=> ?_)
 rw[<-fC 0 ha,<-fC 3 ha]at hL
 exact(El [(0,(GO k0 0 3 7))] (kr:=no) (GO (λ_ _ YZ w=>X YZ w) 0 3 7) hL dE JO ⟨h0,trivial⟩)
def Ou(R:K1) iJ tL YZ w:=
 Hw (Oq R) iJ tL YZ w
theorem aeC(kn:K3)(hn:N3 Q kn 0 3 7)(h:Hw kn (g 0) (g 3) (g 7) w):dM pg Af (bL 1 (aO 1 (cT (aO 1 (bL 1 (aO 4 vX)))))) Q g w:=
 BK 0 (aeB _ g w kn hn h)
def XL(kn:K3) iJ tL DQ w:=
 aA pg (cP 9 22 DQ) w λd4 w=>
 kn iJ tL d4 w
def XM(R:K1) iJ tL DQ w:=
 XL (Ou R) iJ tL DQ w
def XN(kn:K4) iJ tL xL DQ w:=
 kn iJ tL xL DQ w
def Ov(kn:K4)(R:K1) iJ tL xL DQ d2 w:=
 cS d2 (XM R iJ tL DQ w) (XN kn iJ tL xL DQ w)
def XO(kn:K5) iJ tL xL DQ w:=
 aA pg (aD 96 tL 0) w λd0 w=>
 aA pg (aB 3 d0) w λd1 w=>
 aA pg (aE .eql 3 (.tmp 21) (.const (aL2 0)) d1 (aL2 0)) w λd2 w=>
 kn iJ tL xL DQ d2 w
def Ow(kn:K4)(R:K1) iJ tL xL DQ w:=
 XO (Ov kn R) iJ tL xL DQ w
def Hx(R:K1) iJ tL xL DQ w:=
 Ow (Si R) R iJ tL xL DQ w
theorem aeD(kn:K4)(R:K1)(hn:N4 Q kn 0 3 5 6)(hr:HR abT R Q)(h:Ow kn R (g 0) (g 3) (g 5) (g 6) w):dM pg Af (bL 1 (aO 4 vX)) Q g w:=
 dN 1 (iS (YN (Ov kn R) 0 3 5 6 22) h (λg w h=>aJ (cdD (.tmp 22) (λh=>(dN 1 (iS (GO (Ou R) 0 3 7) h (λg w h=>aJ (dN 1 (aeC _ g w (Oq R) (λg w h=>aJ (dN 1 (aiS _ g w (Sj R) (λg w h=>aJ (kL h hr)) h))) h)))))) (λh=>(iS _ h hn)) h)))
def XP(kn:K4) iJ o_1 w:=
 aA pg (jK 96 o_1) w λtL w=>
 aA pg (aD 96 tL 1) w λc0 w=>
 aA pg (aB 9 c0) w λc1 w=>
 aG pg Ab #[iJ,c1] w λc2 w=>
 aA pg (aE .geq 3 aN aN c2 (aL2 0)) w λc4 w=>
 cS c4
  (aA pg (aR 37 iJ c2) w λc7 w=>
  aA pg (aD 85 c7 1) w λc8 w=>
  aA pg (aB 9 c8) w λc9 w=>
  kn iJ tL c2 c9 w)
  (kn iJ tL c2 (.string ⟨#[]⟩) w)
def XQ(R:K1) iJ o_1 w:=
 XP (Hx R) iJ o_1 w
def avF a0 a1 w(R:K1):=
 XQ R a0 a1 w
theorem amF{a0 a1 w R}(h:avF a0 a1 w R):aG pg BG #[a0,a1] w R:=
 jX (ann:=Af) Tryz.f64 vX [a0,a1] abT 78 TryzM.mixed Tryz.func64 (dN 4 (iS (CN (Hx R) 0 3 5 6) h (λg w h=>aJ (dN 1 (aeD _ g w (Si R) R (λg w h=>aJ (dN 3 (Up (Mq1 (Sh R) 0) h (λg w h=>aJ (kL h dE)) dE))) dE h)))))
def acL:FA:=⟨AW,λi=>match Nat.beq i 2 with|true=> .leaf ([10],[(10,11),(10,12),(10,14),(10,15)]) (fz 10 (ft [] (fu [0] (fu [1] (fz 1 (fu [3] (fu [4] (fz 3 []))))))))|false=> .leaf ([],[]) []⟩
def akB:List ResultVar:=[.tmp 6]
noncomputable def Zc:Code:=bA Tryz.f65
def Sz(R:K1) m_0 i_1 tG w:=
 aA pg (jK 44 m_0) w λWZ w=>
 aA pg (aD 44 WZ 0) w λc1 w=>
 aA pg (aB 26 c1) w λc2 w=>
 aA pg (aD 44 WZ 1) w λc3 w=>
 aA pg (aB 27 c3) w λc4 w=>
 aA pg (cP 27 3 c4) w λc5 w=>
 aG pg Aa #[c2,c5,i_1] w λc7 w=>
 aA pg (aQ c7 0) w λc8 w=>
 aA pg (aQ c7 1) w λc9 w=>
 aA pg (aQ c7 2) w λd0 w=>
 (dr w)=(dr w)/\
 aA pg (aE .eql 31 (.tmp 21) (.const (aL2 0)) d0 (aL2 0)) (dr w) λd2 w_=>w_=(dr w)/\
 (dr w)=(dr w)/\
 Gd (bG d2 true) (λK=>K tG (dr w)) (dr w) λd4 w_=>w_=(dr w)/\
 Gd (bG d2 true) (λK=>aA pg (eK .len #[9] 3 [d4]) (dr w) K) (dr w) λd5 w_=>w_=(dr w)/\
 Gd (bG d2 true) (λK=>K c9 (dr w)) (dr w) λd6 w_=>w_=(dr w)/\
 Gd (bG d2 true) (λK=>aA pg (aE .eql 3 (.tmp 25) (.tmp 26) d5 d6) (dr w) K) (dr w) λd7 w_=>w_=(dr w)/\
 aA pg (cH d2 d7 (.bool false)) (dr w) λd8 w_=>w_=(dr w)/\
 (dr w)=(dr w)/\
 Gd (bG d8 true) (λK=>K tG (dr w)) (dr w) λe0 w_=>w_=(dr w)/\
 Gd (bG d8 true) (λK=>aG pg Ha #[e0] (dr w) K) (dr w) λe1 cU=>
 Gd (bG d8 true) (λK=>aA pg (aD 44 WZ 2) cU K) cU λe2 w_=>w_=cU/\
 (Gs (bG d8 true) (aP pg (aD 44 WZ 2) e2 (dr w))/\True)/\
 Gd (bG d8 true) (λK=>aA pg (aB 28 e2) cU K) cU λe3 w_=>w_=cU/\
 (Gs (bG d8 true) (aP pg (aB 28 e2) e3 (dr w))/\True)/\
 Gd (bG d8 true) (λK=>K i_1 cU) cU λe4 w_=>w_=cU/\
 Gd (bG d8 true) (λK=>aA pg (aR 28 e3 e4) cU K) cU λe5 w_=>w_=cU/\
 (Gs (bG d8 true) (aP pg (aR 28 e3 e4) e5 (dr w))/\True)/\
 Gd (bG d8 true) (λK=>aA pg (aB 70 e5) cU K) cU λe6 w_=>w_=cU/\
 (Gs (bG d8 true) (aP pg (aB 70 e5) e6 (dr w))/\True)/\
 Gd (bG d8 true) (λK=>aA pg (aE .eql 70 (.tmp 31) (.tmp 36) e1 e6) cU K) cU λe7 w_=>w_=cU/\
 aA pg (cH d8 e7 (.bool false)) cU λe8 w_=>w_=cU/\
 cU=cU/\
 R e8 cU
def abS a0 a1 a2 w(R:K1):=
 Sz R a0 a1 a2 w
theorem ZY{a0 a1 a2 w R}(h:abS a0 a1 a2 w R):aG pg AW #[a0,a1,a2] w R:=
 jX (ann:=acL) Tryz.f65 Zc [a0,a1,a2] akB 39 TryzM.mixed Tryz.func65 (kL h dE)
def agM:FA:=⟨Aa,λi=> .leaf ([],[]) []⟩
def amM:List ResultVar:=[.tmp 6,.tmp 7,.tmp 8]
noncomputable def acQ:Code:=bA Tryz.f66
def UG(R:K1) mN dA Ur w:=
 aG pg AT #[mN,dA] w λc5 w=>
 aA pg (aQ c5 0) w λc6 w=>
 aA pg (aQ c5 1) w λc7 w=>
 aA pg (aE .neq 31 (.tmp 18) (.const (aL2 0)) c7 (aL2 0)) w λc9 w=>
 cS c9
  (R (.tuple #[(.int .u64 0),(aL2 0),c7]) w)
  (aA pg (aE .lss 3 aN aN Ur (aL2 0)) w λd2 w=>
  Gd (bG d2 false) (λK=>K Ur w) w λd4 w=>
  Gd (bG d2 false) (λK=>K c6 w) w λd5 w=>
  Gd (bG d2 false) (λK=>aA pg (aE .geq 3 aN aN d4 d5) w K) w λd6 w=>
  aA pg (cH d2 (.bool true) d6) w λd7 w=>
  cS d7
   (R (.tuple #[(.int .u64 0),(aL2 0),(aL2 17)]) w)
   (aA pg (cP 3 26 dA) w λd9 w=>
   aA pg (cP 3 26 Ur) w λe1 w=>
   aA pg (aE .mul 26 aN aN d9 e1) w λe2 w=>
   aA pg (aE .sub 26 aN aN mN e2) w λe5 w=>
   aA pg (cP 3 26 dA) w λe7 w=>
   aA pg (aE .lss 26 aN aN e5 e7) w λe8 w=>
   cS e8
    (aA pg (aE .sub 26 aN aN mN e2) w λf2 w=>
    aA pg (cP 26 3 f2) w λf3 w=>
    R (.tuple #[e2,f3,(aL2 0)]) w)
    (R (.tuple #[e2,dA,(aL2 0)]) w)))
def aiO a0 a1 a2 w(R:K1):=
 UG R a0 a1 a2 w
theorem adZ{a0 a1 a2 w R}(h:aiO a0 a1 a2 w R):aG pg Aa #[a0,a1,a2] w R:=
 jX (ann:=agM) Tryz.f66 acQ [a0,a1,a2] amM 46 TryzM.mixed Tryz.func66 (kL h dE)
def agO:FA:=⟨Ac,λi=> .leaf ([],[]) []⟩
def amO:List ResultVar:=[.tmp 4,.tmp 5]
noncomputable def acS:Code:=bA Tryz.f67
def UL(R:K1) fI cV w:=
 aA pg (jK 40 fI) w λrN w=>
 aA pg (aD 40 rN 4) w λb8 w=>
 aA pg (aB 4 b8) w λb9 w=>
 cS b9
  (R (.tuple #[(.string ⟨#[]⟩),(aL2 20)]) w)
  (aA pg (aB 40 rN) w λc0 w=>
  aG pg tW #[c0] w λc1 w=>
  aG pg Ab #[c1,cV] w λc4 w=>
  aA pg (aE .lss 3 aN aN c4 (aL2 0)) w λc6 w=>
  cS c6
   (R (.tuple #[(.string ⟨#[]⟩),(aL2 21)]) w)
   (aA pg (aR 37 c1 c4) w λc9 w=>
   aA pg (aD 85 c9 1) w λd0 w=>
   aA pg (aB 9 d0) w λd1 w=>
   R (.tuple #[d1,(aL2 0)]) w))
def aiV a0 a1 w(R:K1):=
 UL R a0 a1 w
theorem aeF{a0 a1 w R}(h:aiV a0 a1 w R):aG pg Ac #[a0,a1] w R:=
 jX (ann:=agO) Tryz.f67 acS [a0,a1] amO 22 TryzM.mixed Tryz.func67 (kL h dE)
def Wh:FA:=⟨vH,λi=>match Nat.beq i 6 with|true=> .leaf ([6],[]) (fz 6 (ft [] []))|false=> .leaf ([],[]) []⟩
def Z2:List ResultVar:=[]
noncomputable def Vq:Code:=bA Tryz.f68
def Mb(kn:K0) f_0 o_1 w:=
 aA pg (jK 137 o_1) w λtL w=>
 aA pg (aD 137 tL 1) w λb9 w=>
 aA pg (aB 9 b9) w λc0 w=>
 aA pg (Dp 73 f_0 c0 true) w λc1 w=>
 aA pg (aQ c1 0) w λc2 w=>
 aA pg (aQ c1 1) w λc3 w=>
 aA pg (aD 137 tL 0) w λc4 w=>
 aA pg (aB 3 c4) w λc5 w=>
 aA pg (aE .eql 3 (.tmp 15) (.const (aL2 0)) c5 (aL2 0)) w λc7 w=>
 cS c7
  (aA pg (eK .len #[22] 3 [c2]) w λc9 w=>
  aA pg (aD 137 tL 3) w λd0 w=>
  aA pg (aB 3 d0) w λd1 w=>
  aA pg (aD 137 tL 4) w λd2 w=>
  aA pg (aB 22 d2) w λd3 w=>
  aA pg (eK .len #[22] 3 [d3]) w λd4 w=>
  aA pg (aE .add 3 aN aN d1 d4) w λd5 w=>
  aA pg (eK .max #[3,3] 3 [c9,d5]) w λd6 w=>
  aA pg (yX 22 d6 d6) w λd7 w=>
  aA pg (eK .copy #[22,22] 3 [d7,c2]) w λe0 w=>
  (dr w)=(dr w)/\
  aA pg (aD 137 tL 3) (dr w) λe2 w_=>w_=(dr w)/\
  aA pg (aB 3 e2) (dr w) λe3 w_=>w_=(dr w)/\
  aA pg (dH 22 d7 (some e3) none none) (dr w) λe4 w_=>w_=(dr w)/\
  aA pg (aD 137 tL 4) (dr w) λe5 w_=>w_=(dr w)/\
  aA pg (aB 22 e5) (dr w) λe6 w_=>w_=(dr w)/\
  aA pg (eK .copy #[22,22] 3 [e4,e6]) (dr w) λe7 aJh=>
  aA pg (aD 137 tL 1) aJh λe9 w=>
  aA pg (aB 9 e9) w λf0 w=>
  aA pg (VT 73 f_0 f0 d7) w λ_u w=>
  kn w)
  (aA pg (aE .eql 3 (.tmp 15) (.const (aL2 1)) c5 (aL2 1)) w λf3 w=>
  cS f3
   (cS c3
    (aA pg (aD 137 tL 1) w λf6 w=>
    aA pg (aB 9 f6) w λf7 w=>
    aA pg (eK .delete #[73,9] 0 [f_0,f7]) w λ_u w=>
    aA pg (aD 137 tL 2) w λf9 w=>
    aA pg (aB 9 f9) w λi0 w=>
    aA pg (VT 73 f_0 i0 c2) w λ_u w=>
    kn w)
    (kn w))
   (aA pg (aE .eql 3 (.tmp 15) (.const (aL2 2)) c5 (aL2 2)) w λi3 w=>
   cS i3
    (aA pg (aD 137 tL 1) w λi5 w=>
    aA pg (aB 9 i5) w λi6 w=>
    aA pg (eK .delete #[73,9] 0 [f_0,i6]) w λ_u w=>
    kn w)
    (kn w)))
def Un a0 a1 w(R:K1):=
 Mb (λw=>R (.tuple #[]) w) a0 a1 w
theorem Vu{a0 a1 w R}(h:Un a0 a1 w R):aG pg vH #[a0,a1] w R:=
 jX (ann:=Wh) Tryz.f68 Vq [a0,a1] Z2 57 TryzM.mixed Tryz.func68 (iS (Mq0 (λw=>R (.tuple #[]) w)) h dE)
def apI:FA:=⟨Eb,λi=> .leaf ([],[]) []⟩
def avK:List ResultVar:=[.tmp 2]
noncomputable def alO:Code:=bA Tryz.f70
def aaN(R:K1) aDF w:=
 aA pg (eK .len #[9] 3 [aDF]) w λb4 w=>
 aA pg (aE .geq 3 aN aN b4 (aL2 1)) w λb5 w=>
 Gd (bG b5 true) (λK=>K aDF w) w λb7 w=>
 Gd (bG b5 true) (λK=>aA pg (eK .len #[9] 3 [b7]) w K) w λb8 w=>
 Gd (bG b5 true) (λK=>aA pg (aE .leq 3 aN aN b8 (aL2 32)) w K) w λb9 w=>
 aA pg (cH b5 b9 (.bool false)) w λc0 w=>
 R c0 w
def asZ a0 w(R:K1):=
 aaN R a0 w
theorem alS{a0 w R}(h:asZ a0 w R):aG pg Eb #[a0] w R:=
 jX (ann:=apI) Tryz.f70 alO [a0] avK 11 TryzM.mixed Tryz.func70 (kL h dE)
def AJ:FA:=⟨wW,λi=> .leaf ([],[]) []⟩
def VN:List ResultVar:=[.tmp 2]
noncomputable def yI:Code:=bA Tryz.f71
def BR(R:K1) P8 w:=
 R P8 w
def BS(kn:K2)(k0:K1) P8 b7 w:=
 aA pg (avT b7 false 0) w λb8 w=>
 aA pg (aQ b8 0) w λb9 w=>
 cS b9
  (aA pg (arC b7) w λc0 w=>
  aA pg (aQ c0 1) w λc1 w=>
  aA pg (eK .len #[22] 3 [c1]) w λc4 w=>
  aA pg (aE .add 3 aN aN P8 c4) w λc5 w=>
  kn c5 b7 w)
  (k0 P8 w)
def uH(k0:K1) P8 b7 w:=
 bM (λ(X:aL1->K0) (t:aL1) (w:aL0)=>BS (λP8 _ w=>X P8 w) k0 t b7 w) P8 w
theorem PU(k0:K1)(h0:E1 Q k0 0 3)(h:uH k0 (g 3) (g 7) w):dM pg AJ (bI (aO 1 (bL 1 (aO 2 yI)))) Q g w:=by
 refine Fl (λg:Env=>g 3) (λX t w=>BS (λP8 _ w=>X P8 w) k0 t (g 7) w) h (λX g1 w1 ha hL=> ?_)
 rw[<-fC 7 ha]at hL
 exact(El [(0,(Mq1 k0 3))] (kr:=no) (Qv (λP8 _ w=>X P8 w) 3 7) hL dE JO ⟨h0,trivial⟩)
def Io(kn:K2) f_0 P8 w:=
 aA pg (Z8 73 f_0) w λb7 w=>
 kn P8 b7 w
def BT(kn:K1) f_0 P8 w:=
 Io (uH kn) f_0 P8 w
def BU(R:K1) f_0 P8 w:=
 BT (BR R) f_0 P8 w
theorem PV(kn:K1)(hn:N1 Q kn 3)(h:BT kn (g 0) (g 3) w):dM pg AJ (bL 1 (aO 2 yI)) Q g w:=
 dN 1 (iS (Qv (uH kn) 3 7) h (λg w h=>aJ (BK 0 (PU _ g w kn hn h))))
def Ip(kn:K2) f_0 w:=
 kn f_0 (aL2 0) w
def Iq(R:K1) f_0 w:=
 Ip (BU R) f_0 w
def OW a0 w(R:K1):=
 Iq R a0 w
theorem Q9 {a0 w R}(h:OW a0 w R):aG pg wW #[a0] w R:=
 jX (ann:=AJ) Tryz.f71 yI [a0] VN 17 TryzM.mixed Tryz.func71 (dN 2 (iS (Qv (BU R) 0 3) h (λg w h=>aJ (dN 1 (PV _ g w (BR R) (λg w h=>aJ (kL h dE)) h)))))
def Vl:FA:=⟨oZ,λi=>match Nat.beq i 3 with|true=> .leaf ([6,7,10],[(2,6),(3,6),(4,6)]) (fz 6 (ft [1,2,3] (ft [] (fz 2 (ft [] [])))))|false=>match Nat.beq i 4 with|true=> .leaf ([5],[]) (fz 5 (ft [] []))|false=> .leaf ([],[]) []⟩
def Yq:List ResultVar:=[.tmp 4]
noncomputable def TK:Code:=bA Tryz.f72
def Kf(R:K1) fI o_1 w:=
 aA pg (jK 137 o_1) w λtL w=>
 aG pg qM #[fI] w λb6 w=>
 cS b6
  (R (aL2 20) w)
  ((dr w)=(dr w)/\
  (dr w)=(dr w)/\
  aA pg (cQ fI) (dr w) λb9 w_=>w_=(dr w)/\
  aA pg (aD 76 b9 3) (dr w) λc0 w_=>w_=(dr w)/\
  aA pg (aB 74 c0) (dr w) λc1 w_=>w_=(dr w)/\
  aA pg (aB 137 tL) (dr w) λc2 w_=>w_=(dr w)/\
  aA pg (bB 74 1 [(0,c2)]) (dr w) λc3 alA=>
  (aP pg (aB 74 c0) c1 alA/\aP pg (aD 76 b9 3) c0 alA/\aP pg (cQ fI) b9 alA/\True)/\
  aA pg (eK .append #[74,74] 74 [c1,c3]) alA λc4 aEC=>
  aA pg (cQ fI) aEC λc5 w_=>w_=aEC/\
  aA pg (aD 76 c5 3) aEC λc6 w_=>w_=aEC/\
  aA pg (aF 74 c6 c4) aEC λ_u10 Td=>
  (dr Td)=(dr Td)/\
  aA pg (cQ fI) (dr Td) λc8 w_=>w_=(dr Td)/\
  aA pg (aD 76 c8 2) (dr Td) λc9 w_=>w_=(dr Td)/\
  aA pg (aB 73 c9) (dr Td) λd0 w_=>w_=(dr Td)/\
  aA pg (aB 137 tL) (dr Td) λd1 w_=>w_=(dr Td)/\
  aG pg vH #[d0,d1] (dr Td) λd2 aJf=>
  R (aL2 0) aJf)
def Q7 a0 a1 w(R:K1):=
 Kf R a0 a1 w
theorem TR{a0 a1 w R}(h:Q7 a0 a1 w R):aG pg oZ #[a0,a1] w R:=
 jX (ann:=Vl) Tryz.f72 TK [a0,a1] Yq 23 TryzM.mixed Tryz.func72 (kL h dE)
def H2:FA:=⟨Hb,λi=>match Nat.beq i 12 with|true=> .leaf ([],[]) (fz 22 [])|false=> .leaf ([],[]) []⟩
def amR:List ResultVar:=[.tmp 4]
noncomputable def Gq:Code:=bA Tryz.f73
def Lp(R:K1) rN LO w:=
 aA pg (aD 40 rN 0) w λo4 w=>
 aA pg (aB 3 o4) w λo5 w=>
 aA pg (aE .gtr 3 aN aN LO o5) w λo6 w=>
 cS o6
  (R (aL2 22) w)
  (R (aL2 0) w)
def Lq(kn:K4)(k0:K2) rN l_6 LO k_9 w:=
 aA pg (eK .len #[37] 3 [l_6]) w λn1 w=>
 aA pg (aE .lss 3 aN aN k_9 n1) w λn2 w=>
 cS n2
  (aA pg (aR 37 l_6 k_9) w λn8 w=>
  aA pg (aD 85 n8 1) w λn9 w=>
  aA pg (aB 9 n9) w λo0 w=>
  aA pg (eK .len #[9] 3 [o0]) w λo1 w=>
  aA pg (aE .add 3 aN aN LO o1) w λo2 w=>
  aA pg (aE .add 3 aN aN k_9 (aL2 1)) w λn4 w=>
  kn rN l_6 o2 n4 w)
  (k0 rN LO w)
def Fq(k0:K2) rN l_6 LO k_9 w:=
 bM (λ(X:(aL1×aL1)->K0) (t:aL1×aL1) (w:aL0)=>Lq (λ_ _ LO k_9 w=>X (LO,k_9) w) k0 rN l_6 t.1 t.2 w) (LO,k_9) w
theorem ZP(k0:K2)(h0:E2 Q k0 0 2 8)(h:Fq k0 (g 2) (g 6) (g 8) (g 9) w):dM pg H2 (bI (aO 1 (bL 1 (aO 10 Gq)))) Q g w:=by
 refine Fl (λg:Env=>(g 8,g 9)) (λX t w=>Lq (λ_ _ LO k_9 w=>X (LO,k_9) w) k0 (g 2) (g 6) t.1 t.2 w) h (λX g1 w1 ha hL=> ?_)
 rw[<-fC 2 ha,<-fC 6 ha]at hL
 exact(El [(0,(Qv k0 2 8))] (kr:=no) (CN (λ_ _ LO k_9 w=>X (LO,k_9) w) 2 6 8 9) hL dE JO ⟨h0,trivial⟩)
def UQ(kn:K4) rN l_6 LO w:=
 kn rN l_6 LO (aL2 0) w
def Lr(kn:K2) rN l_6 LO w:=
 UQ (Fq kn) rN l_6 LO w
def Bb(R:K1) rN l_6 LO w:=
 Lr (Lp R) rN l_6 LO w
theorem ZQ(kn:K2)(hn:N2 Q kn 2 8)(h:Lr kn (g 2) (g 6) (g 8) w):dM pg H2 (bL 1 (aO 10 Gq)) Q g w:=
 dN 1 (iS (CN (Fq kn) 2 6 8 9) h (λg w h=>aJ (BK 0 (ZP _ g w kn hn h))))
def UR(kn:K3)(R:K1) fI o_1 w:=
 aA pg (jK 40 fI) w λrN w=>
 aA pg (jK 96 o_1) w λtL w=>
 aA pg (aD 40 rN 4) w λc0 w=>
 aA pg (aB 4 c0) w λc1 w=>
 cS c1
  (R (aL2 20) w)
  (aA pg (aD 96 tL 1) w λc2 w=>
  aA pg (aB 9 c2) w λc3 w=>
  aA pg (aE .eql 9 (.tmp 13) (.const (.string ⟨#[]⟩)) c3 (.string ⟨#[]⟩)) w λc4 w=>
  Gd (bG c4 false) (λK=>aA pg (aD 96 tL 1) w K) w λc6 w=>
  Gd (bG c4 false) (λK=>aA pg (aB 9 c6) w K) w λc7 w=>
  Gd (bG c4 false) (λK=>aA pg (eK .len #[9] 3 [c7]) w K) w λc8 w=>
  Gd (bG c4 false) (λK=>aA pg (aE .gtr 3 aN aN c8 (aL2 32)) w K) w λc9 w=>
  aA pg (cH c4 (.bool true) c9) w λd0 w=>
  aA pg (aD 96 tL 0) w λd1 w=>
  aA pg (aB 3 d1) w λd2 w=>
  aA pg (aE .eql 3 (.tmp 22) (.const (aL2 1)) d2 (aL2 1)) w λd3 w=>
  Gd (bG d3 true) (λK=>aA pg (aD 96 tL 2) w K) w λd5 w=>
  Gd (bG d3 true) (λK=>aA pg (aB 9 d5) w K) w λd6 w=>
  Gd (bG d3 true) (λK=>aA pg (aE .eql 9 (.tmp 26) (.const (.string ⟨#[]⟩)) d6 (.string ⟨#[]⟩)) w K) w λd7 w=>
  Gd (bG d3 true) (λK=>K d7 w) w λd8 w=>
  Gd (bG d8 false) (λK=>aA pg (aD 96 tL 2) w K) w λd9 w=>
  Gd (bG d8 false) (λK=>aA pg (aB 9 d9) w K) w λe0 w=>
  Gd (bG d8 false) (λK=>aA pg (eK .len #[9] 3 [e0]) w K) w λe1 w=>
  Gd (bG d8 false) (λK=>aA pg (aE .gtr 3 aN aN e1 (aL2 32)) w K) w λe2 w=>
  Gd (bG d3 true) (λK=>aA pg (cH d8 (.bool true) e2) w K) w λe3 w=>
  aA pg (cH d3 e3 (.bool false)) w λe4 w=>
  Gd (bG e4 false) (λK=>aA pg (aD 96 tL 0) w K) w λe6 w=>
  Gd (bG e4 false) (λK=>aA pg (aB 3 e6) w K) w λe7 w=>
  Gd (bG e4 false) (λK=>aA pg (aE .eql 3 (.tmp 37) (.const (aL2 0)) e7 (aL2 0)) w K) w λe8 w=>
  Gd (bG e4 false) (λK=>K e8 w) w λe9 w=>
  Gd (bG e9 true) (λK=>aA pg (aD 96 tL 3) w K) w λf0 w=>
  Gd (bG e9 true) (λK=>aA pg (aB 3 f0) w K) w λf1 w=>
  Gd (bG e9 true) (λK=>aA pg (aE .lss 3 aN aN f1 (aL2 0)) w K) w λf2 w=>
  Gd (bG e4 false) (λK=>aA pg (cH e9 f2 (.bool false)) w K) w λf3 w=>
  aA pg (cH e4 (.bool true) f3) w λf4 w=>
  Gd (bG f4 false) (λK=>aA pg (aD 96 tL 0) w K) w λf6 w=>
  Gd (bG f4 false) (λK=>aA pg (aB 3 f6) w K) w λf7 w=>
  Gd (bG f4 false) (λK=>aA pg (aE .lss 3 aN aN f7 (aL2 2)) w K) w λf8 w=>
  Gd (bG f4 false) (λK=>K f8 w) w λf9 w=>
  Gd (bG f9 true) (λK=>K d0 w) w λi0 w=>
  Gd (bG f4 false) (λK=>aA pg (cH f9 i0 (.bool false)) w K) w λi1 w=>
  aA pg (cH f4 (.bool true) i1) w λi2 w=>
  cS i2
   (R (aL2 1) w)
   (aA pg (aB 40 rN) w λi3 w=>
   aG pg tW #[i3] w λi4 w=>
   aA pg (aD 96 tL 1) w λi6 w=>
   aA pg (aB 9 i6) w λi7 w=>
   aG pg Ab #[i4,i7] w λi8 w=>
   aA pg (aD 96 tL 0) w λi9 w=>
   aA pg (aB 3 i9) w λj0 w=>
   aA pg (aE .gtr 3 aN aN j0 (aL2 0)) w λj1 w=>
   cS j1
    (aA pg (aE .lss 3 aN aN i8 (aL2 0)) w λj3 w=>
    cS j3
     (R (aL2 21) w)
     (R (aL2 0) w))
    ((dr w)=(dr w)/\
    aA pg (aE .lss 3 aN aN i8 (aL2 0)) (dr w) λj5 w_=>w_=(dr w)/\
    (dr w)=(dr w)/\
    Gd (bG j5 true) (λK=>aA pg (aD 96 tL 3) (dr w) K) (dr w) λj7 w_=>w_=(dr w)/\
    Gd (bG j5 true) (λK=>aA pg (aB 3 j7) (dr w) K) (dr w) λj8 w_=>w_=(dr w)/\
    Gd (bG j5 true) (λK=>aA pg (aE .gtr 3 aN aN j8 (aL2 0)) (dr w) K) (dr w) λj9 w_=>w_=(dr w)/\
    aA pg (cH j5 j9 (.bool false)) (dr w) λl0 w_=>w_=(dr w)/\
    (dr w)=(dr w)/\
    Gd (bG l0 false) (λK=>K i8 (dr w)) (dr w) λl2 w_=>w_=(dr w)/\
    Gd (bG l0 false) (λK=>aA pg (aE .geq 3 aN aN l2 (aL2 0)) (dr w) K) (dr w) λl3 w_=>w_=(dr w)/\
    Gd (bG l0 false) (λK=>K l3 (dr w)) (dr w) λl4 w_=>w_=(dr w)/\
    Gd (bG l4 true) (λK=>aA pg (aD 96 tL 3) (dr w) K) (dr w) λl5 w_=>w_=(dr w)/\
    Gd (bG l4 true) (λK=>aA pg (aB 3 l5) (dr w) K) (dr w) λl6 w_=>w_=(dr w)/\
    Gd (bG l4 true) (λK=>K i4 (dr w)) (dr w) λl7 w_=>w_=(dr w)/\
    Gd (bG l4 true) (λK=>K i8 (dr w)) (dr w) λl8 w_=>w_=(dr w)/\
    Gd (bG l4 true) (λK=>aA pg (aR 37 l7 l8) (dr w) K) (dr w) λl9 w_=>w_=(dr w)/\
    Gd (bG l4 true) (λK=>aA pg (aD 85 l9 1) (dr w) K) (dr w) λm0 w_=>w_=(dr w)/\
    Gd (bG l4 true) (λK=>aA pg (aB 9 m0) (dr w) K) (dr w) λm1 w_=>w_=(dr w)/\
    Gd (bG l4 true) (λK=>aA pg (eK .len #[9] 3 [m1]) (dr w) K) (dr w) λm2 w_=>w_=(dr w)/\
    Gd (bG l4 true) (λK=>aA pg (aE .gtr 3 aN aN l6 m2) (dr w) K) (dr w) λm3 w_=>w_=(dr w)/\
    Gd (bG l0 false) (λK=>aA pg (cH l4 m3 (.bool false)) (dr w) K) (dr w) λm4 w_=>w_=(dr w)/\
    aA pg (cH l0 (.bool true) m4) (dr w) λm5 w_=>w_=(dr w)/\
    cS m5
     (R (aL2 17) (dr w))
     (aA pg (aB 96 tL) (dr w) λm7 w=>
     aG pg BG #[i4,m7] w λm8 w=>
     kn rN m8 (aL2 0) w))))
def US(R:K1) fI o_1 w:=
 UR (Bb R) R fI o_1 w
def aiY a0 a1 w(R:K1):=
 US R a0 a1 w
theorem aeI{a0 a1 w R}(h:aiY a0 a1 w R):aG pg Hb #[a0,a1] w R:=
 jX (ann:=H2) Tryz.f73 Gq [a0,a1] amR 107 TryzM.mixed Tryz.func73 (dN 10 (Up (GO (Bb R) 2 6 8) h (λg w h=>aJ (dN 1 (ZQ _ g w (Lp R) (λg w h=>aJ (kL h dE)) h))) dE))
def acK:FA:=⟨AV,λi=> .leaf ([],[]) []⟩
def akA:List ResultVar:=[.cell 2 40,.tmp 3]
noncomputable def Zb:Code:=bA Tryz.f74
def I6 (R:K1) QZ b2 w:=
 aA pg (aB 40 QZ) w λc6 w=>
 aA pg (aF 40 b2 c6) w λ_u w=>
 lO pg 40 b2 w λr0=>R (.tuple #[r0,(.bool false)]) w
def Sn(kn:K2)(R:K1) fI w:=
 aA pg (jK 40 fI) w λQZ w=>
 aA pg (bE 40) w λb2 w=>
 aA pg (aD 40 QZ 3) w λb4 w=>
 aA pg (aB 3 b4) w λb5 w=>
 aA pg (aE .eql 3 (.tmp 5) (.const (aL2 0)) b5 (aL2 0)) w λb6 w=>
 cS b6
  (aA pg (aD 40 QZ 4) w λb7 w=>
  aA pg (aF 4 b7 (.bool true)) w λ_u w=>
  aA pg (aB 40 QZ) w λb8 w=>
  aA pg (aF 40 b2 b8) w λ_u w=>
  lO pg 40 b2 w λr0=>R (.tuple #[r0,(.bool true)]) w)
  (aA pg (aD 40 QZ 3) w λb9 w=>
  aA pg (aB 3 b9) w λc0 w=>
  aA pg (aE .gtr 3 aN aN c0 (aL2 0)) w λc1 w=>
  cS c1
   (aA pg (aD 40 QZ 3) w λc2 w=>
   aA pg (aB 3 c2) w λc3 w=>
   aA pg (aE .sub 3 aN aN c3 (aL2 1)) w λc4 w=>
   aA pg (aD 40 QZ 3) w λc5 w=>
   aA pg (aF 3 c5 c4) w λ_u w=>
   kn QZ b2 w)
   (kn QZ b2 w))
def So(R:K1) fI w:=
 Sn (I6 R) R fI w
def abR a0 w(R:K1):=
 So R a0 w
theorem ZR{a0 w R}(h:abR a0 w R):aG pg AV #[a0] w R:=
 jX (ann:=acK) Tryz.f74 Zb [a0] akA 17 TryzM.mixed Tryz.func74 (dN 3 (Up (Qv (I6 R) 1 2) h (λg w h=>aJ (kL h dE)) dE))
def KO:FA:=⟨tY,λi=> .leaf ([],[]) []⟩
def MI:List ResultVar:=[.tmp 4]
noncomputable def JT:Code:=bA Tryz.f75
def Ct(R:K1) fB v_1 w:=
 aG pg AH #[fB,v_1] w λb7 w=>
 aA pg (aE .geq 3 aN aN b7 (aL2 0)) w λb8 w=>
 R b8 w
def FZ a0 a1 w(R:K1):=
 Ct R a0 a1 w
theorem J1 {a0 a1 w R}(h:FZ a0 a1 w R):aG pg tY #[a0,a1] w R:=
 jX (ann:=KO) Tryz.f75 JT [a0,a1] MI 9 TryzM.mixed Tryz.func75 (kL h dE)
def nJ:FA:=⟨fY,λi=>match Nat.beq i 12 with|true=> .leaf ([],[]) (fz 4 [])|false=> .leaf ([],[]) []⟩
def ajU:List ResultVar:=[.tmp 2,.tmp 3]
noncomputable def bX:Code:=bA Tryz.f76
def xN(kn:K0)(k0:K0) jL n_5 ZA w:=
 aG pg tS #[ZA] w λc5 w=>
 aG pg jO #[c5,(aL2 1)] w λc7 w=>
 aA pg (cP 26 5 c7) w λc8 w=>
 aG pg jO #[c5,(aL2 8)] w λd0 w=>
 aA pg (bV 109 [(0,c8),(1,d0)]) w λd1 w=>
 aA pg (bE 109) w λr_8 w=>
 aA pg (aF 109 r_8 d1) w λ_u w=>
 aA pg (aB 109 r_8) w λd2 w=>
 aA pg (bV 109 []) w λd3 w=>
 aA pg (aE .eql 109 (.tmp 22) (.tmp 23) d2 d3) w λd4 w=>
 cS d4
  (k0 w)
  (aA pg (aB 109 r_8) w λd6 w=>
  aG pg CD #[d6] w λd7 w=>
  aA pg (aQ d7 0) w λd8 w=>
  aA pg (aQ d7 1) w λd9 w=>
  aA pg (aE .neq 31 (.tmp 30) (.const (aL2 0)) d9 (aL2 0)) w λe1 w=>
  Gd (bG e1 false) (λK=>K d8 w) w λe3 w=>
  Gd (bG e1 false) (λK=>K ZA w) w λe4 w=>
  Gd (bG e1 false) (λK=>aG pg rQ #[e3,e4] w K) w λe5 w=>
  Gd (bG e1 false) (λK=>aA pg (G2 .not e5) w K) w λe6 w=>
  aA pg (cH e1 (.bool true) e6) w λe7 w=>
  cS e7
   (k0 w)
   (aA pg (aB 104 jL) w λe8 w=>
   aA pg (aB 109 r_8) w λe9 w=>
   aA pg (bB 104 1 [(0,e9)]) w λf0 w=>
   aA pg (eK .append #[104,104] 104 [e8,f0]) w λf1 w=>
   aA pg (aF 104 jL f1) w λ_u w=>
   aA pg (aB 3 n_5) w λf2 w=>
   aA pg (aE .add 3 aN aN f2 (aL2 13)) w λf3 w=>
   aA pg (aF 3 n_5 f3) w λ_u w=>
   kn w))
theorem RH(kn:K0)(k0:K0)(hn:N0 Q kn)(h0:E0 Q k0 0)(h:xN kn k0 (g 4) (g 5) (g 6) w):dM pg nJ (Yh bX) Q g w:=
 El [(0,(Mq0 k0))] (kr:=no) _ h hn JO ⟨h0,trivial⟩
def Da(kn:K3) jL n_5 c3 w:=
 kn jL n_5 c3 w
theorem RG(kn:K3)(hn:N3 Q kn 4 5 6)(h:Da kn (g 4) (g 5) (g 13) w):dM pg nJ (aeP bX) Q g w:=
 iS _ h hn
def O6 (l:Nat)(R:K1)(jL n_5 c3:aL1)(w:aL0):Prop:=
 Da (λjL n_5 ZA w=>Rdy l w λw=>xN (λw=>agE l none R w) (λw=>agE l (some (.exit 0)) R w) jL n_5 ZA w) jL n_5 c3 w
theorem WS{l:Nat}{tmps:Array aL1}{w:aL0}{R:K1}(hsz:tmps.size=46)(h:O6 l R (KT tmps 4) (KT tmps 5) (KT tmps 13) w):aaH pg l fY tmps (aeP bX) (Yh bX) w R:=
 dsR (ann:=nJ) 46 TryzM.mixed hsz (RG (asQ pg nJ l (Yh bX) R) (KT tmps) w (λjL n_5 ZA w=>Rdy l w λw=>xN (agE l none R) (λw=>agE l (some (.exit 0)) R w) jL n_5 ZA w) (λg w h=>let⟨r,h1,h2,h3⟩:=h;⟨r,h1,h2,(RH (ajM l R) g _ (agE l none R) (λw=>agE l (some (.exit 0)) R w) (λ_ _ h=>h) (λ_ _ h=>h) h3)⟩) h) (by kernel_rfl) (by kernel_rfl) (by kernel_rfl)
def sW(R:K1) jL n_5 t1000003 w:=
 aA pg (aB 104 jL) (dr w) λf4 w_=>w_=(dr w)/\
 aA pg (aB 3 n_5) (dr w) λf5 w_=>w_=(dr w)/\
 (dr w)=(dr w)/\
 (dr w)=(dr w)/\
 G3 t1000003 (dr w) λw=>R (.tuple #[f4,f5]) w
def IH(kn:K3)(k0:K3) jL n_5 c2 t1000003 w:=
 ∀g:Env,g 4=jL->g 5=n_5->g 12=c2->g 1000003=t1000003->RF pg fY (.tmp 12) (amI bX) (aeP bX) (Yh bX) (exQ (λg w=>kn (g 4) (g 5) (g 1000003) w) no [(0,(λg w=>k0 (g 4) (g 5) (g 1000003) w))]) g w
theorem WQ(kn:K3)(k0:K3)(hn:N3 Q kn 4 5 1000003)(h0:E3 Q k0 0 4 5 1000003)(h:IH kn k0 (g 4) (g 5) (g 12) (g 1000003) w):dM pg nJ (bI (aO 1 (bL 1 (aO 3 (bI (aO 1 bX)))))) Q g w:=
 exD (kr:=no) (l:=[(0,λg w=>k0 (g 4) (g 5) (g 1000003) w)]) (h g rfl rfl rfl rfl) hn JO ⟨h0,trivial⟩
def II(kn:K3) jL n_5 c2 t1000003 w:=
 IH kn kn jL n_5 c2 t1000003 w
def RI(kn:K4) Ef jL n_5 t1000003 w:=
 aG pg AG #[Ef,(aL2 13)] w λc2 w=>
 kn jL n_5 c2 t1000003 w
def IJ(kn:K3) Ef jL n_5 t1000003 w:=
 RI (II kn) Ef jL n_5 t1000003 w
def IK(R:K1) Ef jL n_5 t1000003 w:=
 IJ (sW R) Ef jL n_5 t1000003 w
theorem WR(kn:K3)(hn:N3 Q kn 4 5 1000003)(h:IJ kn (g 0) (g 4) (g 5) (g 1000003) w):dM pg nJ (bL 1 (aO 3 (bI (aO 1 bX)))) Q g w:=
 dN 1 (iS (CN (II kn) 4 5 12 1000003) h (λg w h=>aJ (BK 0 (WQ _ g w kn kn hn hn h))))
def RJ(kn:K4) Ef t1000003 w:=
 aA pg (bE 104) w λjL w=>
 aA pg (bE 3) w λn_5 w=>
 aA pg (aF 3 n_5 (aL2 0)) w λ_u w=>
 kn Ef jL n_5 t1000003 w
def IL(R:K1) Ef t1000003 w:=
 RJ (IK R) Ef t1000003 w
def O4 (kn:K2) Ef t1000003 w:=
 kn Ef t1000003 w
def O5 (R:K1) Ef t1000003 w:=
 O4 (IL R) Ef t1000003 w
def aaZ a0 w(R:K1):=
 O5 R a0 undef w
theorem Zs{a0 w R}(h:aaZ a0 w R):aG pg fY #[a0] w R:=
 dsF (ann:=nJ) Tryz.f76 bX [a0] ajU 46 TryzM.mixed Tryz.func76 (dN 1 (iS (Qv (IL R) 0 1000003) h (λg w h=>aJ (scD (dN 3 (iS (CN (IK R) 0 4 5 1000003) h (λg w h=>aJ (dN 1 (WR _ g w (sW R) (λg w h=>aJ (kL h dE)) h)))))))))
def Gi:FA:=⟨ES,λi=> .leaf ([],[]) []⟩
def ajT:List ResultVar:=[.tmp 4,.tmp 5]
noncomputable def Eh:Code:=bA Tryz.f77
def ID(R:K1) nL b7 w:=
 R (.tuple #[nL,b7]) w
def C7 (kn:K6) uR nL b7 c0 c1 c2 w:=
 aA pg (aE .add 3 aN aN c2 (aL2 1)) w λd4 w=>
 kn uR nL b7 c0 c1 d4 w
def RD(kn:K6)(k0:K2) uR nL b7 c0 c1 c2 w:=
 aA pg (aE .lss 3 aN aN c2 c1) w λc3 w=>
 cS c3
  (aA pg (aR 104 c0 c2) w λc4 w=>
  aA pg (aB 109 c4) w λc5 w=>
  aA pg (bE 109) w λr_9 w=>
  aA pg (aF 109 r_9 c5) w λ_u w=>
  aA pg (aD 109 r_9 0) w λc6 w=>
  aA pg (aB 5 c6) w λc7 w=>
  aA pg (aE .eql 5 (.tmp 17) (.tmp 18) c7 uR) w λc9 w=>
  cS c9
   (aA pg (aD 109 r_9 1) w λd1 w=>
   aA pg (aB 26 d1) w λd2 w=>
   aA pg (eK .max #[26,26] 26 [nL,d2]) w λd3 w=>
   kn uR d3 (.bool true) c0 c1 c2 w)
   (kn uR nL b7 c0 c1 c2 w))
  (k0 nL b7 w)
def IE(kn:K6)(k0:K2) uR nL b7 c0 c1 c2 w:=
 RD (C7 kn) k0 uR nL b7 c0 c1 c2 w
def C8 (k0:K2) uR nL b7 c0 c1 c2 w:=
 bM (λ(X:(aL1×aL1×aL1)->K0) (t:aL1×aL1×aL1) (w:aL0)=>IE (λ_ nL b7 _ _ c2 w=>X (nL,b7,c2) w) k0 uR t.1 t.2.1 c0 c1 t.2.2 w) (nL,b7,c2) w
theorem WN(k0:K2)(h0:E2 Q k0 0 6 7)(h:C8 k0 (g 1) (g 6) (g 7) (g 10) (g 11) (g 12) w):dM pg Gi (bI (aO 1 (bL 1 (aO 2 Eh)))) Q g w:=by
 refine Fl (λg:Env=>(g 6,g 7,g 12)) (λX t w=>IE (λ_ nL b7 _ _ c2 w=>X (nL,b7,c2) w) k0 (g 1) t.1 t.2.1 (g 10) (g 11) t.2.2 w) h (λX g1 w1 ha hL=> ?_)
 rw[<-fC 1 ha,<-fC 10 ha,<-fC 11 ha]at hL
 exact(dN 3 (El [(0,(Qv k0 6 7))] (kr:=no) (Mq6 (C7 (λ_ nL b7 _ _ c2 w=>X (nL,b7,c2) w)) 1 6 7 10 11 12) hL (λg w h=>aJ (iS (Mq6 (λ_ nL b7 _ _ c2 w=>X (nL,b7,c2) w) 1 6 7 10 11 12) h dE)) JO ⟨h0,trivial⟩))
def RE(kn:K6) iJ uR nL b7 w:=
 aA pg (eK .len #[104] 3 [iJ]) w λc1 w=>
 kn uR nL b7 iJ c1 (aL2 0) w
def IF(kn:K2) iJ uR nL b7 w:=
 RE (C8 kn) iJ uR nL b7 w
def IG(R:K1) iJ uR nL b7 w:=
 IF (ID R) iJ uR nL b7 w
theorem WO(kn:K2)(hn:N2 Q kn 6 7)(h:IF kn (g 0) (g 1) (g 6) (g 7) w):dM pg Gi (bL 1 (aO 2 Eh)) Q g w:=
 dN 1 (iS (Mq6 (C8 kn) 1 6 7 10 11 12) h (λg w h=>aJ (BK 0 (WN _ g w kn hn h))))
def O2 (kn:K4) iJ uR w:=
 kn iJ uR (.int .u64 0) (.bool false) w
def O3 (R:K1) iJ uR w:=
 O2 (IG R) iJ uR w
def aaY a0 a1 w(R:K1):=
 O3 R a0 a1 w
theorem Zr{a0 a1 w R}(h:aaY a0 a1 w R):aG pg ES #[a0,a1] w R:=
 jX (ann:=Gi) Tryz.f77 Eh [a0,a1] ajT 27 TryzM.mixed Tryz.func77 (dN 2 (iS (CN (IG R) 0 1 6 7) h (λg w h=>aJ (dN 1 (WO _ g w (ID R) (λg w h=>aJ (kL h dE)) h)))))
def QF:FA:=⟨tU,λi=> .leaf ([],[]) []⟩
def T5:List ResultVar:=[.tmp 4]
noncomputable def PF:Code:=bA Tryz.f78
def GW(R:K1) fI cV w:=
 aG pg mC #[fI] w λb9 w=>
 aA pg (aE .neq 31 (.tmp 10) (.const (aL2 0)) b9 (aL2 0)) w λc1 w=>
 cS c1
  (R b9 w)
  (aA pg (cQ fI) w λc5 w=>
  aA pg (aD 76 c5 2) w λc6 w=>
  aA pg (aB 73 c6) w λc7 w=>
  aA pg (Dp 73 c7 cV true) w λc9 w=>
  aA pg (aQ c9 0) w λd0 w=>
  aA pg (aQ c9 1) w λd1 w=>
  aA pg (G2 .not d1) w λd3 w=>
  cS d3
   (R (aL2 21) w)
   (aA pg (bV 137 [(0,(aL2 2)),(1,cV)]) w λd6 w=>
   aG pg oZ #[fI,d6] w λd7 w=>
   R d7 w))
def L9 a0 a1 w(R:K1):=
 GW R a0 a1 w
theorem PS{a0 a1 w R}(h:L9 a0 a1 w R):aG pg tU #[a0,a1] w R:=
 jX (ann:=QF) Tryz.f78 PF [a0,a1] T5 28 TryzM.mixed Tryz.func78 (kL h dE)
def TA:FA:=⟨qM,λi=> .leaf ([],[]) []⟩
def VM:List ResultVar:=[.tmp 2]
noncomputable def QS:Code:=bA Tryz.f79
def pE(R:K1) fI w:=
 aA pg (cQ fI) w λd6 w=>
 aA pg (aD 76 d6 5) w λd7 w=>
 aA pg (aB 4 d7) w λd8 w=>
 R d8 w
def Il(kn:K1) fI w:=
 aA pg (cQ fI) w λb5 w=>
 aA pg (aD 76 b5 4) w λb6 w=>
 aA pg (aB 3 b6) w λb7 w=>
 aA pg (aE .eql 3 (.tmp 7) (.const (aL2 0)) b7 (aL2 0)) w λb8 w=>
 cS b8
  (aA pg (cQ fI) w λc0 w=>
  aA pg (aD 76 c0 5) w λc1 w=>
  aA pg (aF 4 c1 (.bool true)) w λ_u w=>
  kn fI w)
  (aA pg (cQ fI) w λc4 w=>
  aA pg (aD 76 c4 4) w λc5 w=>
  aA pg (aB 3 c5) w λc6 w=>
  aA pg (aE .gtr 3 aN aN c6 (aL2 0)) w λc7 w=>
  cS c7
   (aA pg (cQ fI) w λc9 w=>
   aA pg (aD 76 c9 4) w λd0 w=>
   aA pg (aB 3 d0) w λd1 w=>
   aA pg (aE .sub 3 aN aN d1 (aL2 1)) w λd2 w=>
   aA pg (cQ fI) w λd3 w=>
   aA pg (aD 76 d3 4) w λd4 w=>
   aA pg (aF 3 d4 d2) w λ_u w=>
   kn fI w)
   (kn fI w))
def Im(R:K1) fI w:=
 Il (pE R) fI w
def OU a0 w(R:K1):=
 Im R a0 w
theorem Q8 {a0 w R}(h:OU a0 w R):aG pg qM #[a0] w R:=
 jX (ann:=TA) Tryz.f79 QS [a0] VM 29 TryzM.mixed Tryz.func79 (dN 2 (iS (Mq1 (pE R) 0) h (λg w h=>aJ (kL h dE))))
def agK:FA:=⟨CD,λi=> .leaf ([],[]) []⟩
def amK:List ResultVar:=[.tmp 2,.tmp 3]
noncomputable def acO:Code:=bA Tryz.f80
def Ux(R:K1) V7 w:=
 aA pg (jK 109 V7) w λr_1 w=>
 aA pg (aD 109 r_1 0) w λb5 w=>
 aA pg (aB 5 b5) w λb6 w=>
 aA pg (aE .lss 5 aN aN b6 (.int .u8 1)) w λb7 w=>
 Gd (bG b7 false) (λK=>aA pg (aD 109 r_1 0) w K) w λb9 w=>
 Gd (bG b7 false) (λK=>aA pg (aB 5 b9) w K) w λc0 w=>
 Gd (bG b7 false) (λK=>aA pg (aE .gtr 5 aN aN c0 (.int .u8 2)) w K) w λc1 w=>
 aA pg (cH b7 (.bool true) c1) w λc2 w=>
 cS c2
  (R (.tuple #[(.slice none 0 0),(aL2 1)]) w)
  (aG pg tT #[] w λc3 w=>
  aA pg (aD 109 r_1 0) w λc5 w=>
  aA pg (aB 5 c5) w λc6 w=>
  aA pg (cP 5 26 c6) w λc7 w=>
  aG pg gU #[c3,c7,(aL2 1)] w λc8 w=>
  aA pg (aD 109 r_1 1) w λd0 w=>
  aA pg (aB 26 d0) w λd1 w=>
  aG pg gU #[c3,d1,(aL2 8)] w λd2 w=>
  aG pg nM #[c3] w λd5 w=>
  aG pg V9 #[d5] w λd6 w=>
  aA pg (cP 27 26 d6) w λd7 w=>
  aG pg gU #[c3,d7,(aL2 4)] w λd8 w=>
  aG pg nM #[c3] w λe0 w=>
  R (.tuple #[e0,(aL2 0)]) w)
def ahT a0 w(R:K1):=
 Ux R a0 w
theorem adC{a0 w R}(h:ahT a0 w R):aG pg CD #[a0] w R:=
 jX (ann:=agK) Tryz.f80 acO [a0] amK 31 TryzM.mixed Tryz.func80 (kL h dE)
def asG:FA:=⟨Th,λi=> .leaf ([],[]) []⟩
def azF:List ResultVar:=[.tmp 0]
noncomputable def apR:Code:=bA Tryz.f81
def akF(R:K1) w:=
 aA pg (bV 182 [(0,(.int .u32 1779033703)),(1,(.int .u32 3144134277)),(2,(.int .u32 1013904242)),(3,(.int .u32 2773480762)),(4,(.int .u32 1359893119)),(5,(.int .u32 2600822924)),(6,(.int .u32 528734635)),(7,(.int .u32 1541459225))]) w λb1 w=>
 aA pg (bV 185 [(0,b1)]) w λb2 w=>
 aA pg (jK 185 b2) w λb3 w=>
 R b3 w
def aA3 w(R:K1):=
 akF R w
theorem arD{w R}(h:aA3 w R):aG pg Th #[] w R:=
 jX (ann:=asG) Tryz.f81 apR [] azF 4 TryzM.mixed Tryz.func81 (kL h dE)
def H5:FA:=⟨iT,λi=>match Nat.beq i 3 with|true=> .leaf ([9],[]) (fz 9 (ft [] (fz 1 [])))|false=>match Nat.beq i 7 with|true=> .leaf ([9,12],[]) (fz 9 (ft [] (fz 2 (ft [] []))))|false=> .leaf ([],[]) []⟩
def Ys:List ResultVar:=[]
noncomputable def GQ:Code:=bA Tryz.f82
def Dr(kn:K2)(k0:K0) Bt zV w:=
 aA pg (eK .len #[22] 3 [zV]) w λc8 w=>
 aA pg (aE .gtr 3 aN aN c8 (aL2 0)) w λc9 w=>
 cS c9
  ((dr w)=(dr w)/\
  aA pg (cQ Bt) (dr w) λd1 w_=>w_=(dr w)/\
  aA pg (aD 185 d1 1) (dr w) λd2 w_=>w_=(dr w)/\
  (dr w)=(dr w)/\
  aA pg (cQ Bt) (dr w) λd4 w_=>w_=(dr w)/\
  aA pg (aD 185 d4 2) (dr w) λd5 w_=>w_=(dr w)/\
  aA pg (aB 3 d5) (dr w) λd6 w_=>w_=(dr w)/\
  aA pg (dH 183 d2 (some d6) none none) (dr w) λd7 w_=>w_=(dr w)/\
  (dr w)=(dr w)/\
  aA pg (eK .copy #[22,22] 3 [d7,zV]) (dr w) λd9 aHv=>
  aHv=aHv/\
  aA pg (cQ Bt) aHv λe1 w=>
  aA pg (aD 185 e1 2) w λe2 w=>
  aA pg (aB 3 e2) w λe3 w=>
  aA pg (aE .add 3 aN aN e3 d9) w λe5 w=>
  aA pg (cQ Bt) w λe6 w=>
  aA pg (aD 185 e6 2) w λe7 w=>
  aA pg (aF 3 e7 e5) w λ_u w=>
  aA pg (dH 22 zV (some d9) none none) w λf0 w=>
  aA pg (cQ Bt) w λf2 w=>
  aA pg (aD 185 f2 2) w λf3 w=>
  aA pg (aB 3 f3) w λf4 w=>
  aA pg (aE .eql 3 (.tmp 44) (.const (aL2 64)) f4 (aL2 64)) w λf5 w=>
  cS f5
   ((dr w)=(dr w)/\
   (dr w)=(dr w)/\
   aA pg (cQ Bt) (dr w) λf8 w_=>w_=(dr w)/\
   aA pg (aD 185 f8 0) (dr w) λf9 w_=>w_=(dr w)/\
   aA pg (aB 182 f9) (dr w) λi0 w_=>w_=(dr w)/\
   (dr w)=(dr w)/\
   aA pg (cQ Bt) (dr w) λi2 w_=>w_=(dr w)/\
   aA pg (aD 185 i2 1) (dr w) λi3 w_=>w_=(dr w)/\
   aA pg (aB 183 i3) (dr w) λi4 w_=>w_=(dr w)/\
   aG pg Ad #[i0,i4] (dr w) λi5 Tf=>
   aA pg (cQ Bt) Tf λi6 w_=>w_=Tf/\
   aA pg (aD 185 i6 0) Tf λi7 w_=>w_=Tf/\
   aA pg (aF 182 i7 i5) Tf λ_u12 aIr=>
   aA pg (cQ Bt) aIr λi9 w=>
   aA pg (aD 185 i9 2) w λj0 w=>
   aA pg (aF 3 j0 (aL2 0)) w λ_u w=>
   kn Bt f0 w)
   (kn Bt f0 w))
  (k0 w)
def nF(k0:K0) Bt zV w:=
 bM (λ(X:aL1->K0) (t:aL1) (w:aL0)=>Dr (λ_ zV w=>X zV w) k0 Bt t w) zV w
theorem SN(k0:K0)(h0:E0 Q k0 0)(h:nF k0 (g 0) (g 1) w):dM pg H5 (bI (aO 2 GQ)) Q g w:=by
 refine Fl (λg:Env=>g 1) (λX t w=>Dr (λ_ zV w=>X zV w) k0 (g 0) t w) h (λX g1 w1 ha hL=> ?_)
 rw[<-fC 0 ha]at hL
 exact(El [(0,(Mq0 k0))] (kr:=no) (Qv (λ_ zV w=>X zV w) 0 1) hL dE JO ⟨h0,trivial⟩)
def Ku(kn:K2)(R:K1) Bt zV w:=
 aA pg (aE .eql 153 (.tmp 5) (.const (.pointer none)) Bt (.pointer none)) w λb6 w=>
 cS b6
  (R (.tuple #[]) w)
  (aA pg (cQ Bt) w λb8 w=>
  aA pg (aD 185 b8 3) w λb9 w=>
  aA pg (aB 26 b9) w λc0 w=>
  aA pg (eK .len #[22] 3 [zV]) w λc2 w=>
  aA pg (cP 3 26 c2) w λc3 w=>
  aA pg (aE .add 26 aN aN c0 c3) w λc4 w=>
  aA pg (cQ Bt) w λc5 w=>
  aA pg (aD 185 c5 3) w λc6 w=>
  aA pg (aF 26 c6 c4) w λ_u w=>
  kn Bt zV w)
def Kv(kn:K0)(R:K1) Bt zV w:=
 Ku (nF kn) R Bt zV w
def SM a0 a1 w(R:K1):=
 Kv (λw=>R (.tuple #[]) w) R a0 a1 w
theorem Ug{a0 a1 w R}(h:SM a0 a1 w R):aG pg iT #[a0,a1] w R:=
 jX (ann:=H5) Tryz.f82 GQ [a0,a1] Ys 61 TryzM.mixed Tryz.func82 (dN 2 (Up (Qv (nF (λw=>R (.tuple #[]) w)) 0 1) h (λg w h=>aJ (BK 0 (SN _ g w (λw=>R (.tuple #[]) w) dE h))) dE))
def lH:FA:=⟨CI,λi=> .leaf ([],[]) []⟩
def aeY:List ResultVar:=[.cell 2 70]
noncomputable def jW:Code:=bA Tryz.f83
def GF(R:K1) b2 bT w:=
 aA pg (aB 70 bT) w λi1 w=>
 aA pg (aF 70 b2 i1) w λ_u w=>
 lO pg 70 b2 w λr0=>R r0 w
def GG(kn:K4)(k4:K2) b2 qJ bT e4 w:=
 aA pg (aE .lss 3 aN aN e4 (aL2 32)) w λe5 w=>
 cS e5
  (aA pg (aE .quo 3 aN aN e4 (aL2 4)) w λe9 w=>
  aA pg (aD 185 qJ 0) w λf0 w=>
  aA pg (aR 182 f0 e9) w λf1 w=>
  aA pg (aB 27 f1) w λf2 w=>
  aA pg (aE .rem 3 aN aN e4 (aL2 4)) w λf4 w=>
  aA pg (aE .mul 3 aN aN f4 (aL2 8)) w λf5 w=>
  aA pg (aE .sub 3 aN aN (aL2 24) f5) w λf6 w=>
  aA pg (aE .shr 27 aN aN f2 f6) w λf7 w=>
  aA pg (cP 27 5 f7) w λf8 w=>
  aA pg (aR 70 bT e4) w λf9 w=>
  aA pg (aF 5 f9 f8) w λ_u w=>
  aA pg (aE .add 3 aN aN e4 (aL2 1)) w λi0 w=>
  kn b2 qJ bT i0 w)
  (k4 b2 bT w)
def BE(k4:K2) b2 qJ bT e4 w:=
 bM (λ(X:aL1->K0) (t:aL1) (w:aL0)=>GG (λ_ _ _ e4 w=>X e4 w) k4 b2 qJ bT t w) e4 w
theorem VW(k4:K2)(h4:E2 Q k4 4 2 5)(h:BE k4 (g 2) (g 3) (g 5) (g 34) w):dM pg lH (bI (aO 1 (bL 1 (aO 1 (aO 1 (aO 1 (aO 4 jW))))))) Q g w:=by
 refine Fl (λg:Env=>g 34) (λX t w=>GG (λ_ _ _ e4 w=>X e4 w) k4 (g 2) (g 3) (g 5) t w) h (λX g1 w1 ha hL=> ?_)
 rw[<-fC 2 ha,<-fC 3 ha,<-fC 5 ha]at hL
 exact(El [(4,(Qv k4 2 5))] (kr:=no) (CN (λ_ _ _ e4 w=>X e4 w) 2 3 5 34) hL dE JO ⟨h4,trivial⟩)
def Po(kn:K4) b2 qJ bT w:=
 kn b2 qJ bT (aL2 0) w
def GH(kn:K2) b2 qJ bT w:=
 Po (BE kn) b2 qJ bT w
def GI(R:K1) b2 qJ bT w:=
 GH (GF R) b2 qJ bT w
theorem VX(kn:K2)(hn:N2 Q kn 2 5)(h:GH kn (g 2) (g 3) (g 5) w):dM pg lH (bL 1 (aO 1 (aO 1 (aO 1 (aO 4 jW))))) Q g w:=
 dN 1 (iS (CN (BE kn) 2 3 5 34) h (λg w h=>aJ (BK 4 (VW _ g w kn hn h))))
def Pp(kn:K3) b2 qJ w:=
 aA pg (bE 70) w λbT w=>
 kn b2 qJ bT w
def GJ(R:K1) b2 qJ w:=
 Pp (GI R) b2 qJ w
def EC(kn:K4)(k2:K2) Bt b2 qJ Dx w:=
 aA pg (aE .geq 3 aN aN Dx (aL2 0)) w λd1 w=>
 cS d1
  (aA pg (cQ Bt) w λd5 w=>
  aA pg (aD 185 d5 3) w λd6 w=>
  aA pg (aB 26 d6) w λd7 w=>
  aA pg (aE .mul 26 aN aN (.int .u64 8) d7) w λd8 w=>
  aA pg (aE .shr 26 aN aN d8 Dx) w λe0 w=>
  aA pg (cP 26 5 e0) w λe1 w=>
  aA pg (bB 22 1 [(0,e1)]) w λe2 w=>
  aG pg iT #[qJ,e2] w λe3 w=>
  aA pg (aE .sub 3 aN aN Dx (aL2 8)) w λd3 w=>
  kn Bt b2 qJ d3 w)
  (k2 b2 qJ w)
def Aw(k2:K2) Bt b2 qJ Dx w:=
 bM (λ(X:aL1->K0) (t:aL1) (w:aL0)=>EC (λ_ _ _ Dx w=>X Dx w) k2 Bt b2 qJ t w) Dx w
theorem Uc(k2:K2)(h2:E2 Q k2 2 2 3)(h:Aw k2 (g 0) (g 2) (g 3) (g 4) w):dM pg lH (bI (aO 1 (bL 1 (aO 1 (aO 4 jW))))) Q g w:=by
 refine Fl (λg:Env=>g 4) (λX t w=>EC (λ_ _ _ Dx w=>X Dx w) k2 (g 0) (g 2) (g 3) t w) h (λX g1 w1 ha hL=> ?_)
 rw[<-fC 0 ha,<-fC 2 ha,<-fC 3 ha]at hL
 exact(El [(2,(Qv k2 2 3))] (kr:=no) (CN (λ_ _ _ Dx w=>X Dx w) 0 2 3 4) hL dE JO ⟨h2,trivial⟩)
def MK(kn:K4) Bt b2 qJ w:=
 kn Bt b2 qJ (aL2 56) w
def ED(kn:K2) Bt b2 qJ w:=
 MK (Aw kn) Bt b2 qJ w
def EE(R:K1) Bt b2 qJ w:=
 ED (GJ R) Bt b2 qJ w
theorem Ud(kn:K2)(hn:N2 Q kn 2 3)(h:ED kn (g 0) (g 2) (g 3) w):dM pg lH (bL 1 (aO 1 (aO 4 jW))) Q g w:=
 dN 1 (iS (CN (Aw kn) 0 2 3 4) h (λg w h=>aJ (BK 2 (Uc _ g w kn hn h))))
def EF(kn:K3)(k0:K3) Bt b2 qJ w:=
 aA pg (aD 185 qJ 2) w λc5 w=>
 aA pg (aB 3 c5) w λc6 w=>
 aA pg (aE .neq 3 (.tmp 16) (.const (aL2 56)) c6 (aL2 56)) w λc7 w=>
 cS c7
  (aA pg (bB 22 1 [(0,(.int .u8 0))]) w λc8 w=>
  aG pg iT #[qJ,c8] w λc9 w=>
  kn Bt b2 qJ w)
  (k0 Bt b2 qJ w)
def Ax(k0:K3) Bt b2 qJ w:=
 bM (λ(X:Unit->K0) (t:Unit) (w:aL0)=>EF (λ_ _ _ w=>X () w) k0 Bt b2 qJ w) () w
theorem Ue(k0:K3)(h0:E3 Q k0 0 0 2 3)(h:Ax k0 (g 0) (g 2) (g 3) w):dM pg lH (bI (bL 1 (aO 4 jW))) Q g w:=by
 refine Fl (λ_:Env=>()) (λX t w=>EF (λ_ _ _ w=>X () w) k0 (g 0) (g 2) (g 3) w) h (λX g1 w1 ha hL=> ?_)
 rw[<-fC 0 ha,<-fC 2 ha,<-fC 3 ha]at hL
 exact(El [(0,(GO k0 0 2 3))] (kr:=no) (GO (λ_ _ _ w=>X () w) 0 2 3) hL dE JO ⟨h0,trivial⟩)
def EG(R:K1) Bt b2 qJ w:=
 Ax (EE R) Bt b2 qJ w
theorem Uf(kn:K3)(hn:N3 Q kn 0 2 3)(h:Ax kn (g 0) (g 2) (g 3) w):dM pg lH (bL 1 (aO 4 jW)) Q g w:=
 BK 0 (Ue _ g w kn hn h)
def ML(kn:K3)(R:K1) Bt w:=
 aA pg (bE 70) w λb2 w=>
 aA pg (aE .eql 153 (.tmp 7) (.const (.pointer none)) Bt (.pointer none)) w λb8 w=>
 cS b8
  (aG pg Qw #[(.slice none 0 0)] w λb9 w=>
  aA pg (aF 70 b2 b9) w λ_u w=>
  lO pg 70 b2 w λr0=>R r0 w)
  (aA pg (cQ Bt) w λc1 w=>
  aA pg (aB 185 c1) w λc2 w=>
  aA pg (bE 185) w λqJ w=>
  aA pg (aF 185 qJ c2) w λ_u w=>
  aA pg (bB 22 1 [(0,(.int .u8 128))]) w λc3 w=>
  aG pg iT #[qJ,c3] w λc4 w=>
  kn Bt b2 qJ w)
def MM(R:K1) Bt w:=
 ML (EG R) R Bt w
def Yx a0 w(R:K1):=
 MM R a0 w
theorem Yy{a0 w R}(h:Yx a0 w R):aG pg CI #[a0] w R:=
 jX (ann:=lH) Tryz.f83 jW [a0] aeY 52 TryzM.mixed Tryz.func83 (dN 4 (Up (GO (EG R) 0 2 3) h (λg w h=>aJ (dN 1 (Uf _ g w (EE R) (λg w h=>aJ (dN 1 (Ud _ g w (GJ R) (λg w h=>aJ (dN 1 (iS (GO (GI R) 2 3 5) h (λg w h=>aJ (dN 1 (VX _ g w (GF R) (λg w h=>aJ (kL h dE)) h)))))) h))) h))) dE))
def Ee:FA:=⟨CE,λi=> .leaf ([],[]) []⟩
def aeT:List ResultVar:=[.cell 4 158,.tmp 5]
noncomputable def CX:Code:=bA Tryz.f84
def Gv(R:K1) NI b4 x_7 w:=
 aA pg (aB 158 NI) w λf4 w=>
 aA pg (aF 158 b4 f4) w λ_u w=>
 lO pg 158 b4 w λr0=>R (.tuple #[r0,x_7]) w
def Gw(kn:K6)(k0:K3) NI b4 s_6 x_7 P7 i_9 w:=
 aA pg (eK .len #[9] 3 [s_6]) w λe0 w=>
 aA pg (aE .lss 3 aN aN i_9 e0) w λe1 w=>
 cS e1
  (aA pg (VS 9 s_6 i_9) w λe7 w=>
  aA pg (cP 5 26 e7) w λe8 w=>
  aA pg (aE .mul 26 aN aN e8 P7) w λf0 w=>
  aA pg (aE .add 26 aN aN x_7 f0) w λf1 w=>
  aA pg (aE .mul 26 aN aN P7 (.int .u64 256)) w λf3 w=>
  aA pg (aE .add 3 aN aN i_9 (aL2 1)) w λe3 w=>
  kn NI b4 s_6 f1 f3 e3 w)
  (k0 NI b4 x_7 w)
def Bx(k0:K3) NI b4 s_6 x_7 P7 i_9 w:=
 bM (λ(X:(aL1×aL1×aL1)->K0) (t:aL1×aL1×aL1) (w:aL0)=>Gw (λ_ _ _ x_7 P7 i_9 w=>X (x_7,P7,i_9) w) k0 NI b4 s_6 t.1 t.2.1 t.2.2 w) (x_7,P7,i_9) w
theorem VC(k0:K3)(h0:E3 Q k0 0 2 4 7)(h:Bx k0 (g 2) (g 4) (g 6) (g 7) (g 8) (g 9) w):dM pg Ee (bI (aO 1 (bL 1 (aO 3 (aO 2 CX))))) Q g w:=by
 refine Fl (λg:Env=>(g 7,g 8,g 9)) (λX t w=>Gw (λ_ _ _ x_7 P7 i_9 w=>X (x_7,P7,i_9) w) k0 (g 2) (g 4) (g 6) t.1 t.2.1 t.2.2 w) h (λX g1 w1 ha hL=> ?_)
 rw[<-fC 2 ha,<-fC 4 ha,<-fC 6 ha]at hL
 exact(El [(0,(GO k0 2 4 7))] (kr:=no) (Mq6 (λ_ _ _ x_7 P7 i_9 w=>X (x_7,P7,i_9) w) 2 4 6 7 8 9) hL dE JO ⟨h0,trivial⟩)
def O9 (kn:K6) NI b4 s_6 x_7 P7 w:=
 kn NI b4 s_6 x_7 P7 (aL2 0) w
def Gx(kn:K3) NI b4 s_6 x_7 P7 w:=
 O9 (Bx kn) NI b4 s_6 x_7 P7 w
def Gy(R:K1) NI b4 s_6 x_7 P7 w:=
 Gx (Gv R) NI b4 s_6 x_7 P7 w
theorem VD(kn:K3)(hn:N3 Q kn 2 4 7)(h:Gx kn (g 2) (g 4) (g 6) (g 7) (g 8) w):dM pg Ee (bL 1 (aO 3 (aO 2 CX))) Q g w:=
 dN 1 (iS (Mq6 (Bx kn) 2 4 6 7 8 9) h (λg w h=>aJ (BK 0 (VC _ g w kn hn h))))
def Pa(kn:K5) Ep NI b4 w:=
 aA pg (aB 158 NI) w λd3 w=>
 aG pg G9 #[d3,Ep] w λd5 w=>
 aA pg (aQ d5 0) w λd6 w=>
 aA pg (aQ d5 1) w λd7 w=>
 aA pg (aF 158 NI d6) w λ_u w=>
 kn NI b4 d7 (.int .u64 0) (.int .u64 1) w
def Gz(R:K1) Ep NI b4 w:=
 Pa (Gy R) Ep NI b4 w
def Mw(kn:K3) V7 Ep w:=
 aA pg (jK 158 V7) w λNI w=>
 aA pg (bE 158) w λb4 w=>
 aA pg (aD 158 NI 1) w λc0 w=>
 aA pg (aB 31 c0) w λc1 w=>
 aA pg (aE .eql 31 (.tmp 11) (.const (aL2 0)) c1 (aL2 0)) w λc2 w=>
 Gd (bG c2 true) (λK=>K Ep w) w λc4 w=>
 Gd (bG c2 true) (λK=>aA pg (aE .lss 3 aN aN c4 (aL2 1)) w K) w λc5 w=>
 Gd (bG c2 true) (λK=>K c5 w) w λc6 w=>
 Gd (bG c6 false) (λK=>K Ep w) w λc7 w=>
 Gd (bG c6 false) (λK=>aA pg (aE .gtr 3 aN aN c7 (aL2 8)) w K) w λc8 w=>
 Gd (bG c2 true) (λK=>aA pg (cH c6 (.bool true) c8) w K) w λc9 w=>
 aA pg (cH c2 c9 (.bool false)) w λd0 w=>
 cS d0
  (aA pg (aD 158 NI 1) w λd1 w=>
  aA pg (aF 31 d1 (aL2 1)) w λ_u w=>
  kn Ep NI b4 w)
  (kn Ep NI b4 w)
def Mx(R:K1) V7 Ep w:=
 Mw (Gz R) V7 Ep w
def Xk a0 a1 w(R:K1):=
 Mx R a0 a1 w
theorem Xl{a0 a1 w R}(h:Xk a0 a1 w R):aG pg CE #[a0,a1] w R:=
 jX (ann:=Ee) Tryz.f84 CX [a0,a1] aeT 46 TryzM.mixed Tryz.func84 (dN 2 (iS (GO (Gz R) 1 2 4) h (λg w h=>aJ (dN 3 (iS (YN (Gy R) 2 4 6 7 8) h (λg w h=>aJ (dN 1 (VD _ g w (Gv R) (λg w h=>aJ (kL h dE)) h))))))))
def alI:FA:=⟨Cc,λi=>match Nat.beq i 3 with|true=> .split 2 6 (.perm [0,1,2,3,4,5,6,7,8] [(2,6)] ([2,6],[(2,4),(2,5),(3,6)]) (fz 2 (ft [] (fz 1 (fu [1] (fu [2] (ft [2] (fz 2 [])))))))) (.perm [0,1,4,5,6,2,3,7,8] [(6,2)] ([4,5],[(0,4),(1,4)]) (fz 4 (ft [2,3] (ft [] (fz 3 [])))))|false=> .leaf ([],[]) []⟩
def aqZ:List ResultVar:=[.tmp 2]
noncomputable def QU:Code:=bA Tryz.f85
def Hy(R:K1) Bf w:=
 aG pg Na #[Bf] w λd2 w=>
 aA pg (cP 27 26 d2) w λd3 w=>
 aG pg Cb #[d3,(aL2 4)] w λd4 w=>
 aA pg (aE .add 9 aN aN Bf d4) w λd5 w=>
 R d5 w
def XS(kn:K1)(R:K1) V7 w:=
 aA pg (jK 123 V7) w λr_1 w=>
 aA pg (aD 123 r_1 0) w λb4 w=>
 aA pg (aB 5 b4) w λb5 w=>
 aA pg (aE .neq 5 (.tmp 5) (.const (.int .u8 1)) b5 (.int .u8 1)) w λb6 w=>
 Gd (bG b6 true) (λK=>aA pg (aD 123 r_1 0) w K) w λb8 w=>
 Gd (bG b6 true) (λK=>aA pg (aB 5 b8) w K) w λb9 w=>
 Gd (bG b6 true) (λK=>aA pg (aE .neq 5 (.tmp 9) (.const (.int .u8 2)) b9 (.int .u8 2)) w K) w λc0 w=>
 aA pg (cH b6 c0 (.bool false)) w λc1 w=>
 cS c1
  (R (.string ⟨#[]⟩) w)
  (Ord (P9 Cc 3 (xP 3 QU) 2 6 w)
   (aA pg (aD 123 r_1 0) (dr w) λc2 w_=>w_=(dr w)/\
   aA pg (aB 5 c2) (dr w) λc3 w_=>w_=(dr w)/\
   aA pg (bB 22 1 [(0,c3)]) (dr w) λc4 azV=>
   aA pg (cP 22 9 c4) azV λc5 w_=>w_=azV/\
   aA pg (aD 123 r_1 1) azV λc6 w_=>w_=azV/\
   (aP pg (aD 123 r_1 1) c6 (dr w)/\True)/\
   aA pg (aB 26 c6) azV λc7 w_=>w_=azV/\
   (aP pg (aB 26 c6) c7 (dr w)/\True)/\
   aG pg Cb #[c7,(aL2 8)] azV λc8 alA=>
   (aP pg (cP 22 9 c4) c5 alA/\True)/\
   aA pg (aE .add 9 aN aN c5 c8) alA λc9 w_=>w_=alA/\
   alA=alA/\
   kn c9 alA)
   (aA pg (aD 123 r_1 0) (dr w) λc2 w_=>w_=(dr w)/\
   aA pg (aB 5 c2) (dr w) λc3 w_=>w_=(dr w)/\
   aA pg (aD 123 r_1 1) (dr w) λc6 w_=>w_=(dr w)/\
   aA pg (aB 26 c6) (dr w) λc7 w_=>w_=(dr w)/\
   aG pg Cb #[c7,(aL2 8)] (dr w) λc8 aHu=>
   (aP pg (aB 5 c2) c3 aHu/\aP pg (aD 123 r_1 0) c2 aHu/\True)/\
   aA pg (bB 22 1 [(0,c3)]) aHu λc4 JJ=>
   aA pg (cP 22 9 c4) JJ λc5 w_=>w_=JJ/\
   aA pg (aE .add 9 aN aN c5 c8) JJ λc9 w_=>w_=JJ/\
   JJ=JJ/\
   kn c9 JJ))
def XT(R:K1) V7 w:=
 XS (Hy R) R V7 w
def aoH a0 w(R:K1):=
 XT R a0 w
theorem ajA{a0 w R}(h:aoH a0 w R):aG pg Cc #[a0] w R:=
 jX (ann:=alI) Tryz.f85 QU [a0] aqZ 26 TryzM.mixed Tryz.func85 (dN 3 (Up (Mq1 (Hy R) 3) h (λg w h=>aJ (kL h dE)) dE))
def LU:FA:=⟨wB,λi=> .leaf ([],[]) []⟩
def OE:List ResultVar:=[.tmp 2]
noncomputable def KR:Code:=bA Tryz.f86
def DA(R:K1) aEd w:=
 aG pg cB #[(.slice none 0 0),aEd] w λb4 w=>
 R b4 w
def G4 a0 w(R:K1):=
 DA R a0 w
theorem LH{a0 w R}(h:G4 a0 w R):aG pg wB #[a0] w R:=
 jX (ann:=LU) Tryz.f86 KR [a0] OE 5 TryzM.mixed Tryz.func86 (kL h dE)
def QI:FA:=⟨pC,λi=> .leaf ([],[]) []⟩
def T7:List ResultVar:=[]
noncomputable def PH:Code:=bA Tryz.f87
def G5 (kn:K0) AF w:=
 aA pg (eK .len #[80] 3 [AF]) w λb4 w=>
 aA pg (cP 3 194 b4) w λb8 w=>
 aG pg Bm #[b8] w λb9 w=>
 aG pg eE #[AF,(aL2 0),b4,b9] w λc0 w=>
 kn w
def MS a0 w(R:K1):=
 G5 (λw=>R (.tuple #[]) w) a0 w
theorem Qm{a0 w R}(h:MS a0 w R):aG pg pC #[a0] w R:=
 jX (ann:=QI) Tryz.f87 PH [a0] T7 11 TryzM.mixed Tryz.func87 (iS (Mq0 (λw=>R (.tuple #[]) w)) h dE)
def DN:FA:=⟨gY,λi=> .leaf ([],[]) []⟩
def FR:List ResultVar:=[]
noncomputable def CW:Code:=bA Tryz.f88
def yP(kn:K2)(k0:K0)(R:K1) rD b5 w:=
 aA pg (avT b5 false 0) w λb6 w=>
 aA pg (aQ b6 0) w λb7 w=>
 cS b7
  (aA pg (arC b5) w λb8 w=>
  aA pg (aQ b8 0) w λb9 w=>
  aA pg (AO rD [b9]) w λc2 w=>
  aA pg (G2 .not c2) w λc3 w=>
  cS c3
   (R (.tuple #[]) w)
   (kn rD b5 w))
  (k0 w)
def qX(k0:K0)(R:K1) rD b5 w:=
 bM (λ(X:Unit->K0) (t:Unit) (w:aL0)=>yP (λ_ _ w=>X () w) k0 R rD b5 w) () w
theorem Mm(k0:K0)(R:K1)(h0:E0 Q k0 0)(hr:HR FR R Q)(h:qX k0 R (g 0) (g 5) w):dM pg DN (bI (aO 1 CW)) Q g w:=by
 refine Fl (λ_:Env=>()) (λX t w=>yP (λ_ _ w=>X () w) k0 R (g 0) (g 5) w) h (λX g1 w1 ha hL=> ?_)
 rw[<-fC 0 ha,<-fC 5 ha]at hL
 exact(El [(0,(Mq0 k0))] (Qv (λ_ _ w=>X () w) 0 5) hL dE hr ⟨h0,trivial⟩)
def FN(kn:K2) rD b1 w:=
 aA pg (aB 73 b1) w λb4 w=>
 aA pg (Z8 73 b4) w λb5 w=>
 kn rD b5 w
def FO(kn:K0)(R:K1) rD b1 w:=
 FN (qX kn R) rD b1 w
def Kj a0 a1 w(R:K1):=
 FO (λw=>R (.tuple #[]) w) R a0 a1 w
theorem NA{a0 a1 w R}(h:Kj a0 a1 w R):aG pg gY #[a0,a1] w R:=
 jX (ann:=DN) Tryz.f88 CW [a0,a1] FR 14 TryzM.mixed Tryz.func88 (dN 1 (iS (Qv (qX (λw=>R (.tuple #[]) w) R) 0 5) h (λg w h=>aJ (BK 0 (Mm _ g w (λw=>R (.tuple #[]) w) R dE dE h)))))
def HZ:FA:=⟨Ab,λi=> .leaf ([],[]) []⟩
def LC:List ResultVar:=[.tmp 4]
noncomputable def Gn:Code:=bA Tryz.f89
def Lh(R:K1) w:=
 R (aL2 (-1)) w
def Li(kn:K3)(k0:K0)(R:K1) iJ cV xL w:=
 aA pg (eK .len #[37] 3 [iJ]) w λb8 w=>
 aA pg (aE .lss 3 aN aN xL b8) w λb9 w=>
 cS b9
  (aA pg (aR 37 iJ xL) w λc4 w=>
  aA pg (aD 85 c4 0) w λc5 w=>
  aA pg (aB 9 c5) w λc6 w=>
  aA pg (aE .eql 9 (.tmp 16) (.tmp 17) c6 cV) w λc8 w=>
  cS c8
   (R xL w)
   (aA pg (aE .add 3 aN aN xL (aL2 1)) w λc1 w=>
   kn iJ cV c1 w))
  (k0 w)
def Fo(k0:K0)(R:K1) iJ cV xL w:=
 bM (λ(X:aL1->K0) (t:aL1) (w:aL0)=>Li (λ_ _ xL w=>X xL w) k0 R iJ cV t w) xL w
theorem ZL(k0:K0)(R:K1)(h0:E0 Q k0 0)(hr:HR LC R Q)(h:Fo k0 R (g 0) (g 1) (g 5) w):dM pg HZ (bI (aO 1 (bL 1 (aO 1 Gn)))) Q g w:=by
 refine Fl (λg:Env=>g 5) (λX t w=>Li (λ_ _ xL w=>X xL w) k0 R (g 0) (g 1) t w) h (λX g1 w1 ha hL=> ?_)
 rw[<-fC 0 ha,<-fC 1 ha]at hL
 exact(El [(0,(Mq0 k0))] (GO (λ_ _ xL w=>X xL w) 0 1 5) hL dE hr ⟨h0,trivial⟩)
def UI(kn:K3) iJ cV w:=
 kn iJ cV (aL2 0) w
def Lj(kn:K0)(R:K1) iJ cV w:=
 UI (Fo kn R) iJ cV w
def Lk(R:K1) iJ cV w:=
 Lj (Lh R) R iJ cV w
theorem ZM(kn:K0)(R:K1)(hn:N0 Q kn)(hr:HR LC R Q)(h:Lj kn R (g 0) (g 1) w):dM pg HZ (bL 1 (aO 1 Gn)) Q g w:=
 dN 1 (iS (GO (Fo kn R) 0 1 5) h (λg w h=>aJ (BK 0 (ZL _ g w kn R hn hr h))))
def UJ(kn:K2) iJ cV w:=
 kn iJ cV w
def UK(R:K1) iJ cV w:=
 UJ (Lk R) iJ cV w
def aiT a0 a1 w(R:K1):=
 UK R a0 a1 w
theorem aeE{a0 a1 w R}(h:aiT a0 a1 w R):aG pg Ab #[a0,a1] w R:=
 jX (ann:=HZ) Tryz.f89 Gn [a0,a1] LC 20 TryzM.mixed Tryz.func89 (dN 1 (iS (Qv (Lk R) 0 1) h (λg w h=>aJ (dN 1 (ZM _ g w (Lh R) R (λg w h=>aJ (kL h dE)) dE h)))))
def H3:FA:=⟨CF,λi=>match Nat.beq i 3 with|true=> .leaf ([],[]) (fz 14 [])|false=> .leaf ([],[]) []⟩
def amS:List ResultVar:=[.tmp 4]
noncomputable def Gr:Code:=bA Tryz.f90
def Fs(R:K1) iJ f_3 tI w:=
 aA pg (dH 37 iJ none (some tI) none) w λe0 w=>
 aA pg (eK .append #[37,37] 37 [(.slice none 0 0),e0]) w λe1 w=>
 aA pg (aB 85 f_3) w λe3 w=>
 aA pg (bB 37 1 [(0,e3)]) w λe4 w=>
 aA pg (eK .append #[37,37] 37 [e1,e4]) w λe5 w=>
 aA pg (dH 37 iJ (some tI) none none) w λe9 w=>
 aA pg (eK .append #[37,37] 37 [e5,e9]) w λf0 w=>
 R f0 w
def Ls(kn:K3)(k0:K3) iJ f_3 tI w:=
 (dr w)=(dr w)/\
 (dr w)=(dr w)/\
 aA pg (eK .len #[37] 3 [iJ]) (dr w) λc3 w_=>w_=(dr w)/\
 aA pg (aE .lss 3 aN aN tI c3) (dr w) λc4 w_=>w_=(dr w)/\
 (dr w)=(dr w)/\
 Gd (bG c4 true) (λK=>K iJ (dr w)) (dr w) λc6 w_=>w_=(dr w)/\
 Gd (bG c4 true) (λK=>K tI (dr w)) (dr w) λc7 w_=>w_=(dr w)/\
 Gd (bG c4 true) (λK=>aA pg (aR 37 c6 c7) (dr w) K) (dr w) λc8 w_=>w_=(dr w)/\
 Gd (bG c4 true) (λK=>aA pg (aD 85 c8 0) (dr w) K) (dr w) λc9 w_=>w_=(dr w)/\
 Gd (bG c4 true) (λK=>aA pg (aB 9 c9) (dr w) K) (dr w) λd0 w_=>w_=(dr w)/\
 Gd (bG c4 true) (λK=>aA pg (aD 85 f_3 0) (dr w) K) (dr w) λd1 w_=>w_=(dr w)/\
 Gd (bG c4 true) (λK=>aA pg (aB 9 d1) (dr w) K) (dr w) λd2 w_=>w_=(dr w)/\
 Gd (bG c4 true) (λK=>aA pg (aE .lss 9 aN aN d0 d2) (dr w) K) (dr w) λd3 w_=>w_=(dr w)/\
 aA pg (cH c4 d3 (.bool false)) (dr w) λd4 w_=>w_=(dr w)/\
 cS d4
  (aA pg (aE .add 3 aN aN tI (aL2 1)) (dr w) λd6 w=>
  kn iJ f_3 d6 w)
  (k0 iJ f_3 tI (dr w))
def Ft(k0:K3) iJ f_3 tI w:=
 bM (λ(X:aL1->K0) (t:aL1) (w:aL0)=>Ls (λ_ _ tI w=>X tI w) k0 iJ f_3 t w) tI w
theorem ZS(k0:K3)(h0:E3 Q k0 0 0 3 5)(h:Ft k0 (g 0) (g 3) (g 5) w):dM pg H3 (bI (bL 1 (aO 3 Gr))) Q g w:=by
 refine Fl (λg:Env=>g 5) (λX t w=>Ls (λ_ _ tI w=>X tI w) k0 (g 0) (g 3) t w) h (λX g1 w1 ha hL=> ?_)
 rw[<-fC 0 ha,<-fC 3 ha]at hL
 exact(El [(0,(GO k0 0 3 5))] (kr:=no) (GO (λ_ _ tI w=>X tI w) 0 3 5) hL dE JO ⟨h0,trivial⟩)
def Lt(R:K1) iJ f_3 tI w:=
 Ft (Fs R) iJ f_3 tI w
theorem ZT(kn:K3)(hn:N3 Q kn 0 3 5)(h:Ft kn (g 0) (g 3) (g 5) w):dM pg H3 (bL 1 (aO 3 Gr)) Q g w:=
 BK 0 (ZS _ g w kn hn h)
def UT(kn:K3) iJ f_1 w:=
 aA pg (jK 85 f_1) w λf_3 w=>
 aA pg (aD 85 f_3 0) w λb8 w=>
 aA pg (aB 9 b8) w λb9 w=>
 aG pg vI #[iJ,b9] w λc0 w=>
 kn c0 f_3 (aL2 0) w
def UU(R:K1) iJ f_1 w:=
 UT (Lt R) iJ f_1 w
def aiZ a0 a1 w(R:K1):=
 UU R a0 a1 w
theorem aeJ{a0 a1 w R}(h:aiZ a0 a1 w R):aG pg CF #[a0,a1] w R:=
 jX (ann:=H3) Tryz.f90 Gr [a0,a1] amS 41 TryzM.mixed Tryz.func90 (dN 3 (iS (GO (Lt R) 0 3 5) h (λg w h=>aJ (dN 1 (ZT _ g w (Fs R) (λg w h=>aJ (kL h dE)) h)))))
def CT:FA:=⟨vI,λi=> .leaf ([],[]) []⟩
def Z6:List ResultVar:=[.tmp 4]
noncomputable def BL:Code:=bA Tryz.f91
def Ev(R:K1) bT w:=
 R bT w
def Ew(kn:K4) iJ cV bT pY w:=
 aA pg (aE .add 3 aN aN pY (aL2 1)) w λc2 w=>
 kn iJ cV bT c2 w
def My(kn:K4)(k0:K1) iJ cV bT pY w:=
 aA pg (eK .len #[37] 3 [iJ]) w λb9 w=>
 aA pg (aE .lss 3 aN aN pY b9) w λc0 w=>
 cS c0
  (aA pg (aR 37 iJ pY) w λc5 w=>
  aA pg (aD 85 c5 0) w λc6 w=>
  aA pg (aB 9 c6) w λc7 w=>
  aA pg (aE .neq 9 (.tmp 17) (.tmp 18) c7 cV) w λc9 w=>
  cS c9
   (aA pg (aR 37 iJ pY) w λd3 w=>
   aA pg (aB 85 d3) w λd4 w=>
   aA pg (bB 37 1 [(0,d4)]) w λd5 w=>
   aA pg (eK .append #[37,37] 37 [bT,d5]) w λd6 w=>
   kn iJ cV d6 pY w)
   (kn iJ cV bT pY w))
  (k0 bT w)
def Ex(kn:K4)(k0:K1) iJ cV bT pY w:=
 My (Ew kn) k0 iJ cV bT pY w
def Au(k0:K1) iJ cV bT pY w:=
 bM (λ(X:(aL1×aL1)->K0) (t:aL1×aL1) (w:aL0)=>Ex (λ_ _ bT pY w=>X (bT,pY) w) k0 iJ cV t.1 t.2 w) (bT,pY) w
theorem TY(k0:K1)(h0:E1 Q k0 0 5)(h:Au k0 (g 0) (g 1) (g 5) (g 6) w):dM pg CT (bI (aO 1 (bL 1 (aO 2 BL)))) Q g w:=by
 refine Fl (λg:Env=>(g 5,g 6)) (λX t w=>Ex (λ_ _ bT pY w=>X (bT,pY) w) k0 (g 0) (g 1) t.1 t.2 w) h (λX g1 w1 ha hL=> ?_)
 rw[<-fC 0 ha,<-fC 1 ha]at hL
 exact(dN 2 (El [(0,(Mq1 k0 5))] (kr:=no) (CN (Ew (λ_ _ bT pY w=>X (bT,pY) w)) 0 1 5 6) hL (λg w h=>aJ (iS (CN (λ_ _ bT pY w=>X (bT,pY) w) 0 1 5 6) h dE)) JO ⟨h0,trivial⟩))
def Mz(kn:K4) iJ cV bT w:=
 kn iJ cV bT (aL2 0) w
def Ey(kn:K1) iJ cV bT w:=
 Mz (Au kn) iJ cV bT w
def Ez(R:K1) iJ cV bT w:=
 Ey (Ev R) iJ cV bT w
theorem TZ(kn:K1)(hn:N1 Q kn 5)(h:Ey kn (g 0) (g 1) (g 5) w):dM pg CT (bL 1 (aO 2 BL)) Q g w:=
 dN 1 (iS (CN (Au kn) 0 1 5 6) h (λg w h=>aJ (BK 0 (TY _ g w kn hn h))))
def Kq(kn:K3) iJ cV w:=
 kn iJ cV (.slice none 0 0) w
def Kr(R:K1) iJ cV w:=
 Kq (Ez R) iJ cV w
def UW a0 a1 w(R:K1):=
 Kr R a0 a1 w
theorem VE{a0 a1 w R}(h:UW a0 a1 w R):aG pg vI #[a0,a1] w R:=
 jX (ann:=CT) Tryz.f91 BL [a0,a1] Z6 28 TryzM.mixed Tryz.func91 (dN 2 (iS (GO (Ez R) 0 1 5) h (λg w h=>aJ (dN 1 (TZ _ g w (Ev R) (λg w h=>aJ (kL h dE)) h)))))
def agN:FA:=⟨Ha,λi=> .leaf ([],[]) []⟩
def amN:List ResultVar:=[.cell 2 70]
noncomputable def acR:Code:=bA Tryz.f92
def UH(R:K1) Ef w:=
 aA pg (bE 70) w λb2 w=>
 aA pg (aE .add 9 aN aN (.string ⟨#[0]⟩) Ef) w λb4 w=>
 aG pg M9 #[b4] w λb5 w=>
 aA pg (aF 70 b2 b5) w λ_u w=>
 lO pg 70 b2 w λr0=>R r0 w
def aiP a0 w(R:K1):=
 UH R a0 w
theorem aeA{a0 w R}(h:aiP a0 w R):aG pg Ha #[a0] w R:=
 jX (ann:=agN) Tryz.f92 acR [a0] amN 6 TryzM.mixed Tryz.func92 (kL h dE)
def wD:FA:=⟨AH,λi=> .leaf ([],[]) []⟩
def yW:List ResultVar:=[.tmp 4]
noncomputable def uF:Code:=bA Tryz.f94
def zF(R:K1) w:=
 R (aL2 (-1)) w
def zG(kn:K4)(k0:K0)(R:K1) fB v_1 b7 b8 w:=
 aA pg (aE .lss 3 aN aN b8 b7) w λb9 w=>
 cS b9
  (aA pg (aR 45 fB b8) w λc4 w=>
  aA pg (aB 4 c4) w λc5 w=>
  aA pg (aE .eql 4 (.tmp 11) (.tmp 15) v_1 c5) w λc6 w=>
  cS c6
   (R b8 w)
   (aA pg (aE .add 3 aN aN b8 (aL2 1)) w λc8 w=>
   kn fB v_1 b7 c8 w))
  (k0 w)
def rC(k0:K0)(R:K1) fB v_1 b7 b8 w:=
 bM (λ(X:aL1->K0) (t:aL1) (w:aL0)=>zG (λ_ _ _ b8 w=>X b8 w) k0 R fB v_1 b7 t w) b8 w
theorem MQ(k0:K0)(R:K1)(h0:E0 Q k0 0)(hr:HR yW R Q)(h:rC k0 R (g 0) (g 1) (g 7) (g 8) w):dM pg wD (bI (aO 1 (bL 1 (aO 1 uF)))) Q g w:=by
 refine Fl (λg:Env=>g 8) (λX t w=>zG (λ_ _ _ b8 w=>X b8 w) k0 R (g 0) (g 1) (g 7) t w) h (λX g1 w1 ha hL=> ?_)
 rw[<-fC 0 ha,<-fC 1 ha,<-fC 7 ha]at hL
 exact(El [(0,(Mq0 k0))] (CN (λ_ _ _ b8 w=>X b8 w) 0 1 7 8) hL dE hr ⟨h0,trivial⟩)
def F4 (kn:K4) fB v_1 w:=
 aA pg (eK .len #[45] 3 [fB]) w λb7 w=>
 kn fB v_1 b7 (aL2 0) w
def zH(kn:K0)(R:K1) fB v_1 w:=
 F4 (rC kn R) fB v_1 w
def zI(R:K1) fB v_1 w:=
 zH (zF R) R fB v_1 w
theorem MR(kn:K0)(R:K1)(hn:N0 Q kn)(hr:HR yW R Q)(h:zH kn R (g 0) (g 1) w):dM pg wD (bL 1 (aO 1 uF)) Q g w:=
 dN 1 (iS (CN (rC kn R) 0 1 7 8) h (λg w h=>aJ (BK 0 (MQ _ g w kn R hn hr h))))
def F5 (kn:K2) fB v_1 w:=
 kn fB v_1 w
def F6 (R:K1) fB v_1 w:=
 F5 (zI R) fB v_1 w
def KA a0 a1 w(R:K1):=
 F6 R a0 a1 w
theorem OJ{a0 a1 w R}(h:KA a0 a1 w R):aG pg AH #[a0,a1] w R:=
 jX (ann:=wD) Tryz.f94 uF [a0,a1] yW 19 TryzM.mixed Tryz.func94 (dN 1 (iS (Qv (zI R) 0 1) h (λg w h=>aJ (dN 1 (MR _ g w (zF R) R (λg w h=>aJ (kL h dE)) dE h)))))
def Px:FA:=⟨AG,λi=> .leaf ([],[]) []⟩
def SF:List ResultVar:=[.tmp 4]
noncomputable def Nm:Code:=bA Tryz.f95
def yZ(R:K1) vF P8 w:=
 aA pg (Pn (.func 111) [] [vF,P8]) w λb8 w=>
 R b8 w
def FU(kn:K2) fB Ep w:=
 aA pg (jK 22 fB) w λvF w=>
 aA pg (jK 3 Ep) w λP8 w=>
 aA pg (aB 3 P8) w λb5 w=>
 aA pg (aE .lss 3 aN aN b5 (aL2 1)) w λb6 w=>
 cS b6
  (aA pg (aHf 9 (.string ⟨#[99,97,110,110,111,116,32,98,101,32,108,101,115,115,32,116,104,97,110,32,49]⟩)) w λb7 w=>
  aA pg (V (Instr.panic b7)) w λ_u w=>
  kn vF P8 w)
  (kn vF P8 w)
def FV(R:K1) fB Ep w:=
 FU (yZ R) fB Ep w
def Kx a0 a1 w(R:K1):=
 FV R a0 a1 w
theorem OG{a0 a1 w R}(h:Kx a0 a1 w R):aG pg AG #[a0,a1] w R:=
 jX (ann:=Px) Tryz.f95 Nm [a0,a1] SF 9 TryzM.mixed Tryz.func95 (dN 2 (iS (Qv (yZ R) 2 3) h (λg w h=>aJ (kL h dE))))
def QD:FA:=⟨tS,λi=> .leaf ([],[]) []⟩
def T3:List ResultVar:=[.tmp 2]
noncomputable def PD:Code:=bA Tryz.f96
def GR(R:K1) Ef w:=
 aG pg fN #[Ef] w λb4 w=>
 aA pg (bV 197 [(0,b4)]) w λb5 w=>
 aA pg (jK 197 b5) w λb6 w=>
 R b6 w
def L6 a0 w(R:K1):=
 GR R a0 w
theorem PN{a0 w R}(h:L6 a0 w R):aG pg tS #[a0] w R:=
 jX (ann:=QD) Tryz.f96 PD [a0] T3 7 TryzM.mixed Tryz.func96 (kL h dE)
def rF:FA:=⟨jO,λi=> .leaf ([],[]) []⟩
def ME:List ResultVar:=[.tmp 4]
noncomputable def pZ:Code:=bA Tryz.f97
def sL(R:K1) x_5 w:=
 R x_5 w
def sM(kn:K4)(k0:K1) x_5 c8 c9 d0 w:=
 aA pg (aE .lss 3 aN aN d0 c9) w λd1 w=>
 cS d1
  (aA pg (aR 22 c8 d0) w λd3 w=>
  aA pg (aB 5 d3) w λd4 w=>
  aA pg (cP 5 26 d4) w λd7 w=>
  aA pg (aE .mul 3 aN aN (aL2 8) d0) w λd9 w=>
  aA pg (cP 3 194 d9) w λe0 w=>
  aA pg (aE .shl 26 aN aN d7 e0) w λe1 w=>
  aA pg (aE .or 26 aN aN x_5 e1) w λe2 w=>
  aA pg (aE .add 3 aN aN d0 (aL2 1)) w λe3 w=>
  kn e2 c8 c9 e3 w)
  (k0 x_5 w)
def mR(k0:K1) x_5 c8 c9 d0 w:=
 bM (λ(X:(aL1×aL1)->K0) (t:aL1×aL1) (w:aL0)=>sM (λx_5 _ _ d0 w=>X (x_5,d0) w) k0 t.1 c8 c9 t.2 w) (x_5,d0) w
theorem Ia(k0:K1)(h0:E1 Q k0 0 5)(h:mR k0 (g 5) (g 18) (g 19) (g 20) w):dM pg rF (bI (aO 1 (bL 1 (aO 3 pZ)))) Q g w:=by
 refine Fl (λg:Env=>(g 5,g 20)) (λX t w=>sM (λx_5 _ _ d0 w=>X (x_5,d0) w) k0 t.1 (g 18) (g 19) t.2 w) h (λX g1 w1 ha hL=> ?_)
 rw[<-fC 18 ha,<-fC 19 ha]at hL
 exact(El [(0,(Mq1 k0 5))] (kr:=no) (CN (λx_5 _ _ d0 w=>X (x_5,d0) w) 5 18 19 20) hL dE JO ⟨h0,trivial⟩)
def Ch(kn:K4) V7 Ep x_5 w:=
 aA pg (aE .geq 3 aN aN Ep (aL2 1)) w λc3 w=>
 Gd (bG c3 true) (λK=>K Ep w) w λc5 w=>
 Gd (bG c3 true) (λK=>aA pg (aE .leq 3 aN aN c5 (aL2 8)) w K) w λc6 w=>
 aA pg (cH c3 c6 (.bool false)) w λc7 w=>
 aG pg qL #[V7,Ep,c7] w λc8 w=>
 aA pg (eK .len #[22] 3 [c8]) w λc9 w=>
 kn x_5 c8 c9 (aL2 0) w
def sN(kn:K1) V7 Ep x_5 w:=
 Ch (mR kn) V7 Ep x_5 w
def sO(R:K1) V7 Ep x_5 w:=
 sN (sL R) V7 Ep x_5 w
theorem Ib(kn:K1)(hn:N1 Q kn 5)(h:sN kn (g 0) (g 1) (g 5) w):dM pg rF (bL 1 (aO 3 pZ)) Q g w:=
 dN 1 (iS (CN (mR kn) 5 18 19 20) h (λg w h=>aJ (BK 0 (Ia _ g w kn hn h))))
def Ci(kn:K3)(R:K1) V7 Ep w:=
 aA pg (aE .eql 172 (.tmp 8) (.const (.pointer none)) V7 (.pointer none)) w λb9 w=>
 cS b9
  (R (.int .u64 0) w)
  (kn V7 Ep (.int .u64 0) w)
def Cj(R:K1) V7 Ep w:=
 Ci (sO R) R V7 Ep w
def FF a0 a1 w(R:K1):=
 Cj R a0 a1 w
theorem JV{a0 a1 w R}(h:FF a0 a1 w R):aG pg jO #[a0,a1] w R:=
 jX (ann:=rF) Tryz.f97 pZ [a0,a1] ME 35 TryzM.mixed Tryz.func97 (dN 3 (Up (GO (sO R) 0 1 5) h (λg w h=>aJ (dN 1 (Ib _ g w (sL R) (λg w h=>aJ (kL h dE)) h))) dE))
def wC:FA:=⟨rQ,λi=>match Nat.beq i 6 with|true=> .leaf ([],[]) (fz 9 [])|false=> .leaf ([],[]) []⟩
def yV:List ResultVar:=[.tmp 4]
noncomputable def uE:Code:=bA Tryz.f98
def zA(R:K1) w:=
 R (.bool true) w
def zB(kn:K4)(k0:K0)(R:K1) Ub VR c2 c3 w:=
 aA pg (aE .lss 3 aN aN c3 c2) w λc4 w=>
 cS c4
  ((dr w)=(dr w)/\
  (dr w)=(dr w)/\
  aA pg (aR 22 Ub c3) (dr w) λc8 w_=>w_=(dr w)/\
  aA pg (aB 5 c8) (dr w) λc9 w_=>w_=(dr w)/\
  (dr w)=(dr w)/\
  (dr w)=(dr w)/\
  aA pg (aR 22 VR c3) (dr w) λd2 w_=>w_=(dr w)/\
  aA pg (aB 5 d2) (dr w) λd3 w_=>w_=(dr w)/\
  aA pg (aE .neq 5 (.tmp 19) (.tmp 23) c9 d3) (dr w) λd4 w_=>w_=(dr w)/\
  cS d4
   (R (.bool false) (dr w))
   (aA pg (aE .add 3 aN aN c3 (aL2 1)) (dr w) λd5 w=>
   kn Ub VR c2 d5 w))
  (k0 w)
def rB(k0:K0)(R:K1) Ub VR c2 c3 w:=
 bM (λ(X:aL1->K0) (t:aL1) (w:aL0)=>zB (λ_ _ _ c3 w=>X c3 w) k0 R Ub VR c2 t w) c3 w
theorem MO(k0:K0)(R:K1)(h0:E0 Q k0 0)(hr:HR yV R Q)(h:rB k0 R (g 0) (g 1) (g 12) (g 13) w):dM pg wC (bI (aO 1 (bL 1 (aO 2 uE)))) Q g w:=by
 refine Fl (λg:Env=>g 13) (λX t w=>zB (λ_ _ _ c3 w=>X c3 w) k0 R (g 0) (g 1) (g 12) t w) h (λX g1 w1 ha hL=> ?_)
 rw[<-fC 0 ha,<-fC 1 ha,<-fC 12 ha]at hL
 exact(El [(0,(Mq0 k0))] (CN (λ_ _ _ c3 w=>X c3 w) 0 1 12 13) hL dE hr ⟨h0,trivial⟩)
def F1 (kn:K4) Ub VR w:=
 aA pg (eK .len #[22] 3 [Ub]) w λc2 w=>
 kn Ub VR c2 (aL2 0) w
def zC(kn:K0)(R:K1) Ub VR w:=
 F1 (rB kn R) Ub VR w
def zD(R:K1) Ub VR w:=
 zC (zA R) R Ub VR w
theorem MP(kn:K0)(R:K1)(hn:N0 Q kn)(hr:HR yV R Q)(h:zC kn R (g 0) (g 1) w):dM pg wC (bL 1 (aO 2 uE)) Q g w:=
 dN 1 (iS (CN (rB kn R) 0 1 12 13) h (λg w h=>aJ (BK 0 (MO _ g w kn R hn hr h))))
def F2 (kn:K2)(R:K1) Ub VR w:=
 aA pg (eK .len #[22] 3 [Ub]) w λb7 w=>
 aA pg (eK .len #[22] 3 [VR]) w λb9 w=>
 aA pg (aE .neq 3 (.tmp 7) (.tmp 9) b7 b9) w λc0 w=>
 cS c0
  (R (.bool false) w)
  (kn Ub VR w)
def F3 (R:K1) Ub VR w:=
 F2 (zD R) R Ub VR w
def Kz a0 a1 w(R:K1):=
 F3 R a0 a1 w
theorem OI{a0 a1 w R}(h:Kz a0 a1 w R):aG pg rQ #[a0,a1] w R:=
 jX (ann:=wC) Tryz.f98 uE [a0,a1] yV 26 TryzM.mixed Tryz.func98 (dN 2 (Up (Qv (zD R) 0 1) h (λg w h=>aJ (dN 1 (MP _ g w (zA R) R (λg w h=>aJ (kL h dE)) dE h))) dE))
def QE:FA:=⟨tT,λi=> .leaf ([],[]) []⟩
def T4:List ResultVar:=[.tmp 0]
noncomputable def PE:Code:=bA Tryz.f99
def GS(R:K1) w:=
 aA pg (bV 200 []) w λb1 w=>
 aA pg (jK 200 b1) w λb2 w=>
 R b2 w
def L7 w(R:K1):=
 GS R w
theorem PO{w R}(h:L7 w R):aG pg tT #[] w R:=
 jX (ann:=QE) Tryz.f99 PE [] T4 3 TryzM.mixed Tryz.func99 (kL h dE)
def A0:FA:=⟨gU,λi=> .leaf ([],[]) []⟩
def MF:List ResultVar:=[]
noncomputable def AB:Code:=bA Tryz.f100
def sP(kn:K4)(k0:K0) w_0 x_1 c7 c8 w:=
 aA pg (aE .lss 3 aN aN c8 c7) w λc9 w=>
 cS c9
  (aA pg (cQ w_0) w λd3 w=>
  aA pg (aD 200 d3 0) w λd4 w=>
  aA pg (aB 22 d4) w λd5 w=>
  aA pg (aE .mul 3 aN aN (aL2 8) c8) w λd8 w=>
  aA pg (cP 3 194 d8) w λd9 w=>
  aA pg (aE .shr 26 aN aN x_1 d9) w λe0 w=>
  aA pg (cP 26 5 e0) w λe1 w=>
  aA pg (bB 22 1 [(0,e1)]) w λe2 w=>
  aA pg (eK .append #[22,22] 22 [d5,e2]) w λe3 w=>
  aA pg (cQ w_0) w λe4 w=>
  aA pg (aD 200 e4 0) w λe5 w=>
  aA pg (aF 22 e5 e3) w λ_u w=>
  aA pg (aE .add 3 aN aN c8 (aL2 1)) w λe6 w=>
  kn w_0 x_1 c7 e6 w)
  (k0 w)
def mS(k0:K0) w_0 x_1 c7 c8 w:=
 bM (λ(X:aL1->K0) (t:aL1) (w:aL0)=>sP (λ_ _ _ c8 w=>X c8 w) k0 w_0 x_1 c7 t w) c8 w
theorem Ie(k0:K0)(h0:E0 Q k0 0)(h:mS k0 (g 0) (g 1) (g 17) (g 18) w):dM pg A0 (bI (aO 2 AB)) Q g w:=by
 refine Fl (λg:Env=>g 18) (λX t w=>sP (λ_ _ _ c8 w=>X c8 w) k0 (g 0) (g 1) (g 17) t w) h (λX g1 w1 ha hL=> ?_)
 rw[<-fC 0 ha,<-fC 1 ha,<-fC 17 ha]at hL
 exact(El [(0,(Mq0 k0))] (kr:=no) (CN (λ_ _ _ c8 w=>X c8 w) 0 1 17 18) hL dE JO ⟨h0,trivial⟩)
def Ck(kn:K4)(R:K1) w_0 x_1 n_2 w:=
 aA pg (aE .eql 176 (.tmp 7) (.const (.pointer none)) w_0 (.pointer none)) w λb8 w=>
 Gd (bG b8 false) (λK=>K n_2 w) w λc0 w=>
 Gd (bG b8 false) (λK=>aA pg (aE .lss 3 aN aN c0 (aL2 1)) w K) w λc1 w=>
 aA pg (cH b8 (.bool true) c1) w λc2 w=>
 Gd (bG c2 false) (λK=>K n_2 w) w λc4 w=>
 Gd (bG c2 false) (λK=>aA pg (aE .gtr 3 aN aN c4 (aL2 8)) w K) w λc5 w=>
 aA pg (cH c2 (.bool true) c5) w λc6 w=>
 cS c6
  (R (.tuple #[]) w)
  (kn w_0 x_1 n_2 (aL2 0) w)
def Cm(kn:K0)(R:K1) w_0 x_1 n_2 w:=
 Ck (mS kn) R w_0 x_1 n_2 w
def FG a0 a1 a2 w(R:K1):=
 Cm (λw=>R (.tuple #[]) w) R a0 a1 a2 w
theorem JW{a0 a1 a2 w R}(h:FG a0 a1 a2 w R):aG pg gU #[a0,a1,a2] w R:=
 jX (ann:=A0) Tryz.f100 AB [a0,a1,a2] MF 37 TryzM.mixed Tryz.func100 (dN 2 (Up (CN (mS (λw=>R (.tuple #[]) w)) 0 1 17 18) h (λg w h=>aJ (BK 0 (Ie _ g w (λw=>R (.tuple #[]) w) dE h))) dE))
def axI:FA:=⟨V9,λi=> .leaf ([],[]) []⟩
def aB7:List ResultVar:=[.tmp 2]
noncomputable def asR:Code:=bA Tryz.f101
def anF(R:K1) Ef w:=
 aG pg YR #[] w λb4 w=>
 aG pg D9 #[b4,Ef] w λb7 w=>
 aG pg HV #[b4] w λb9 w=>
 R b9 w
def aCZ a0 w(R:K1):=
 anF R a0 w
theorem asW{a0 w R}(h:aCZ a0 w R):aG pg V9 #[a0] w R:=
 jX (ann:=axI) Tryz.f101 asR [a0] aB7 10 TryzM.mixed Tryz.func101 (kL h dE)
def Pv:FA:=⟨nM,λi=> .leaf ([],[]) []⟩
def SD:List ResultVar:=[.tmp 2]
noncomputable def Nk:Code:=bA Tryz.f102
def FH(R:K1) w_0 w:=
 aA pg (aE .eql 176 (.tmp 3) (.const (.pointer none)) w_0 (.pointer none)) w λb4 w=>
 cS b4
  (R (.slice none 0 0) w)
  (aA pg (cQ w_0) w λb6 w=>
  aA pg (aD 200 b6 0) w λb7 w=>
  aA pg (aB 22 b7) w λb8 w=>
  aG pg fN #[b8] w λb9 w=>
  R b9 w)
def J9 a0 w(R:K1):=
 FH R a0 w
theorem Ns{a0 w R}(h:J9 a0 w R):aG pg nM #[a0] w R:=
 jX (ann:=Pv) Tryz.f102 Nk [a0] SD 10 TryzM.mixed Tryz.func102 (kL h dE)
def fP:FA:=⟨Ad,λi=>match Nat.beq i 10 with|true=> .leaf ([9,20,23],[(2,9),(2,20),(3,9),(3,20),(4,9),(4,20),(9,12),(9,13),(9,14),(9,17),(9,18),(9,19),(10,20),(12,20),(13,20),(14,20),(15,20)]) (fz 9 (ft [4,5,6] (fz 2 (fu [2] (fu [3] (fu [4] (fz 2 (fu [7] (fu [8] (fu [9] (ft [4,5,6,7,9,15,16,17] (fz 2 (ft [] [])))))))))))))|false=>match Nat.beq i 15 with|true=> .leaf ([],[]) (fz 6 [])|false=>match Nat.beq i 16 with|true=> .leaf ([3],[(0,3),(1,3),(3,6),(3,7),(3,8),(3,10),(3,11),(3,12),(3,13),(3,14),(3,17),(3,18),(3,21),(3,22)]) (fz 3 (ft [1,2] (fz 2 (fu [2] (fu [3] (fu [4] (fz 1 (fu [6] (fu [7] (fu [8] (fu [9] (fu [10] (fz 2 (fu [13] (fu [14] (fz 2 (fu [17] (fu [18] (fz 2 [])))))))))))))))))))|false=>match Nat.beq i 17 with|true=> .leaf ([1],[(1,3),(1,4),(1,5),(1,7),(1,8),(1,9),(1,10),(1,11),(1,12),(1,13),(1,14),(1,15),(1,16)]) (fz 1 (ft [] (fz 1 (fu [1] (fu [2] (fu [3] (fz 1 (fu [5] (fu [6] (fu [7] (fu [8] (fu [9] (fu [10] (fu [11] (fu [12] (fu [13] (fu [14] (fz 2 []))))))))))))))))))|false=>match Nat.beq i 18 with|true=> .leaf ([2],[]) (fz 2 (ft [] []))|false=>match Nat.beq i 25 with|true=> .leaf ([8],[]) (fz 8 (ft [] []))|false=> .leaf ([],[]) []⟩
def Yt:List ResultVar:=[.cell 4 182]
noncomputable def eZ:Code:=bA Tryz.f103
def Ds(R:K1) b4 HK w:=
 aA pg (aB 182 HK) w λs5 w=>
 aA pg (aF 182 b4 s5) w λ_u w=>
 lO pg 182 b4 w λr0=>R r0 w
def Dt(kn:K4)(k6:K2) vF b4 HK q3 w:=
 aA pg (aE .lss 3 aN aN q3 (aL2 8)) w λq4 w=>
 cS q4
  ((dr w)=(dr w)/\
  aA pg (aR 182 HK q3) (dr w) λq7 w_=>w_=(dr w)/\
  aA pg (aB 27 q7) (dr w) λq8 w_=>w_=(dr w)/\
  (dr w)=(dr w)/\
  aA pg (aR 182 vF q3) (dr w) λs0 w_=>w_=(dr w)/\
  aA pg (aB 27 s0) (dr w) λs1 w_=>w_=(dr w)/\
  aA pg (aE .add 27 aN aN q8 s1) (dr w) λs2 w_=>w_=(dr w)/\
  aA pg (aR 182 HK q3) (dr w) λs3 w_=>w_=(dr w)/\
  aA pg (aF 27 s3 s2) (dr w) λ_u8 aIi=>
  aA pg (aE .add 3 aN aN q3 (aL2 1)) aIi λs4 w=>
  kn vF b4 HK s4 w)
  (k6 b4 HK w)
def xQ(k6:K2) vF b4 HK q3 w:=
 bM (λ(X:aL1->K0) (t:aL1) (w:aL0)=>Dt (λ_ _ _ q3 w=>X q3 w) k6 vF b4 HK t w) q3 w
theorem SP(k6:K2)(h6:E2 Q k6 6 4 9)(h:xQ k6 (g 2) (g 4) (g 9) (g 123) w):dM pg fP (bI (aO 1 (bL 1 (aO 1 (aO 1 (aO 1 (aO 1 (aO 2 eZ)))))))) Q g w:=by
 refine Fl (λg:Env=>g 123) (λX t w=>Dt (λ_ _ _ q3 w=>X q3 w) k6 (g 2) (g 4) (g 9) t w) h (λX g1 w1 ha hL=> ?_)
 rw[<-fC 2 ha,<-fC 4 ha,<-fC 9 ha]at hL
 exact(El [(6,(Qv k6 4 9))] (kr:=no) (CN (λ_ _ _ q3 w=>X q3 w) 2 4 9 123) hL dE JO ⟨h6,trivial⟩)
def Kw(kn:K4) vF b4 HK w:=
 kn vF b4 HK (aL2 0) w
def Du(kn:K2) vF b4 HK w:=
 Kw (xQ kn) vF b4 HK w
def Dv(R:K1) vF b4 HK w:=
 Du (Ds R) vF b4 HK w
theorem SQ(kn:K2)(hn:N2 Q kn 4 9)(h:Du kn (g 2) (g 4) (g 9) w):dM pg fP (bL 1 (aO 1 (aO 1 (aO 1 (aO 1 (aO 2 eZ)))))) Q g w:=
 dN 1 (iS (CN (xQ kn) 2 4 9 123) h (λg w h=>aJ (BK 6 (SP _ g w kn hn h))))
def Dw(kn:K5)(k4:K3) vF b4 GL HK j1 w:=
 aA pg (aE .lss 3 aN aN j1 (aL2 64)) w λj2 w=>
 cS j2
  (aA pg (aR 182 HK (aL2 0)) (dr w) λj4 w_=>w_=(dr w)/\
  aA pg (aB 27 j4) (dr w) λj5 w_=>w_=(dr w)/\
  aA pg (aR 182 HK (aL2 4)) (dr w) λj6 w_=>w_=(dr w)/\
  aA pg (aB 27 j6) (dr w) λj7 w_=>w_=(dr w)/\
  (dr w)=(dr w)/\
  (dr w)=(dr w)/\
  aA pg (aR 182 HK (aL2 7)) (dr (dr w)) λj8 w_=>w_=(dr (dr w))/\
  aA pg (aB 27 j8) (dr (dr w)) λj9 w_=>w_=(dr (dr w))/\
  (dr (dr w))=(dr (dr w))/\
  aG pg CJ #[j7,(aL2 6),(aL2 11),(aL2 25)] (dr (dr w)) λl1 eD=>
  (aP pg (aB 27 j8) j9 eD/\aP pg (aR 182 HK (aL2 7)) j8 eD/\True)/\
  aA pg (aE .add 27 aN aN j9 l1) eD λl2 w_=>w_=eD/\
  eD=eD/\
  aA pg (aR 182 HK (aL2 5)) eD λl4 w_=>w_=eD/\
  (aP pg (aR 182 HK (aL2 5)) l4 (dr (dr w))/\True)/\
  aA pg (aB 27 l4) eD λl5 w_=>w_=eD/\
  (aP pg (aB 27 l4) l5 (dr (dr w))/\True)/\
  aA pg (aE .and 27 aN aN j7 l5) eD λl6 w_=>w_=eD/\
  (aP pg (aE .and 27 aN aN j7 l5) l6 (dr (dr w))/\True)/\
  eD=eD/\
  aA pg (G2 .xor j7) eD λl8 w_=>w_=eD/\
  (aP pg (G2 .xor j7) l8 (dr (dr w))/\True)/\
  aA pg (aR 182 HK (aL2 6)) eD λl9 w_=>w_=eD/\
  (aP pg (aR 182 HK (aL2 6)) l9 (dr (dr w))/\True)/\
  aA pg (aB 27 l9) eD λm0 w_=>w_=eD/\
  (aP pg (aB 27 l9) m0 (dr (dr w))/\True)/\
  aA pg (aE .and 27 aN aN l8 m0) eD λm1 w_=>w_=eD/\
  (aP pg (aE .and 27 aN aN l8 m0) m1 (dr (dr w))/\True)/\
  aA pg (aE .xor 27 aN aN l6 m1) eD λm2 w_=>w_=eD/\
  (aP pg (aE .xor 27 aN aN l6 m1) m2 (dr (dr w))/\True)/\
  aA pg (aE .add 27 aN aN l2 m2) eD λm3 w_=>w_=eD/\
  eD=eD/\
  aA pg (aR 204 (.pointer (some ⟨0,0,none⟩)) j1) eD λm5 w_=>w_=eD/\
  (aP pg (aR 204 (.pointer (some ⟨0,0,none⟩)) j1) m5 (dr (dr w))/\True)/\
  aA pg (aB 27 m5) eD λm6 w_=>w_=eD/\
  (aP pg (aB 27 m5) m6 (dr (dr w))/\True)/\
  aA pg (aE .add 27 aN aN m3 m6) eD λm7 w_=>w_=eD/\
  eD=eD/\
  aA pg (aR 204 GL j1) eD λm9 w_=>w_=eD/\
  (aP pg (aR 204 GL j1) m9 (dr (dr w))/\True)/\
  aA pg (aB 27 m9) eD λn0 w_=>w_=eD/\
  (aP pg (aB 27 m9) n0 (dr (dr w))/\True)/\
  aA pg (aE .add 27 aN aN m7 n0) eD λn1 w_=>w_=eD/\
  eD=eD/\
  (dr eD)=(dr eD)/\
  aG pg CJ #[j5,(aL2 2),(aL2 13),(aL2 22)] (dr eD) λn3 kG=>
  kG=kG/\
  aA pg (aR 182 HK (aL2 1)) kG λn5 w_=>w_=kG/\
  (aP pg (aR 182 HK (aL2 1)) n5 (dr eD)/\True)/\
  aA pg (aB 27 n5) kG λn6 w_=>w_=kG/\
  (aP pg (aB 27 n5) n6 (dr eD)/\True)/\
  aA pg (aE .and 27 aN aN j5 n6) kG λn7 w_=>w_=kG/\
  (aP pg (aE .and 27 aN aN j5 n6) n7 (dr eD)/\True)/\
  kG=kG/\
  aA pg (aR 182 HK (aL2 2)) kG λn9 w_=>w_=kG/\
  (aP pg (aR 182 HK (aL2 2)) n9 (dr eD)/\True)/\
  aA pg (aB 27 n9) kG λo0 w_=>w_=kG/\
  (aP pg (aB 27 n9) o0 (dr eD)/\True)/\
  aA pg (aE .and 27 aN aN j5 o0) kG λo1 w_=>w_=kG/\
  (aP pg (aE .and 27 aN aN j5 o0) o1 (dr eD)/\True)/\
  aA pg (aE .xor 27 aN aN n7 o1) kG λo2 w_=>w_=kG/\
  (aP pg (aE .xor 27 aN aN n7 o1) o2 (dr eD)/\True)/\
  aA pg (aR 182 HK (aL2 1)) kG λo3 w_=>w_=kG/\
  (aP pg (aR 182 HK (aL2 1)) o3 (dr eD)/\True)/\
  aA pg (aB 27 o3) kG λo4 w_=>w_=kG/\
  (aP pg (aB 27 o3) o4 (dr eD)/\True)/\
  aA pg (aR 182 HK (aL2 2)) kG λo5 w_=>w_=kG/\
  (aP pg (aR 182 HK (aL2 2)) o5 (dr eD)/\True)/\
  aA pg (aB 27 o5) kG λo6 w_=>w_=kG/\
  (aP pg (aB 27 o5) o6 (dr eD)/\True)/\
  aA pg (aE .and 27 aN aN o4 o6) kG λo7 w_=>w_=kG/\
  (aP pg (aE .and 27 aN aN o4 o6) o7 (dr eD)/\True)/\
  aA pg (aE .xor 27 aN aN o2 o7) kG λo8 w_=>w_=kG/\
  (aP pg (aE .xor 27 aN aN o2 o7) o8 (dr eD)/\True)/\
  aA pg (aE .add 27 aN aN n3 o8) kG λo9 w_=>w_=kG/\
  kG=kG/\
  aA pg (dH 182 HK (some (aL2 1)) none none) (dr kG) λp0 w_=>w_=(dr kG)/\
  aA pg (dH 182 HK none (some (aL2 7)) none) (dr kG) λp1 w_=>w_=(dr kG)/\
  aA pg (eK .copy #[206,206] 3 [p0,p1]) (dr kG) λp2 aIh=>
  aA pg (aR 182 HK (aL2 4)) aIh λp3 w=>
  aA pg (aB 27 p3) w λp4 w=>
  aA pg (aE .add 27 aN aN p4 n1) w λp6 w=>
  aA pg (aR 182 HK (aL2 4)) w λp7 w=>
  aA pg (aF 27 p7 p6) w λ_u w=>
  aA pg (aE .add 27 aN aN n1 o9) w λq0 w=>
  aA pg (aR 182 HK (aL2 0)) w λq1 w=>
  aA pg (aF 27 q1 q0) w λ_u w=>
  aA pg (aE .add 3 aN aN j1 (aL2 1)) w λq2 w=>
  kn vF b4 GL HK q2 w)
  (k4 vF b4 HK w)
def xR(k4:K3) vF b4 GL HK j1 w:=
 bM (λ(X:aL1->K0) (t:aL1) (w:aL0)=>Dw (λ_ _ _ _ j1 w=>X j1 w) k4 vF b4 GL HK t w) j1 w
theorem SR(k4:K3)(h4:E3 Q k4 4 2 4 9)(h:xR k4 (g 2) (g 4) (g 5) (g 9) (g 61) w):dM pg fP (bI (aO 1 (bL 1 (aO 1 (aO 1 (aO 1 (aO 2 eZ))))))) Q g w:=by
 refine Fl (λg:Env=>g 61) (λX t w=>Dw (λ_ _ _ _ j1 w=>X j1 w) k4 (g 2) (g 4) (g 5) (g 9) t w) h (λX g1 w1 ha hL=> ?_)
 rw[<-fC 2 ha,<-fC 4 ha,<-fC 5 ha,<-fC 9 ha]at hL
 exact(El [(4,(GO k4 2 4 9))] (kr:=no) (YN (λ_ _ _ _ j1 w=>X j1 w) 2 4 5 9 61) hL dE JO ⟨h4,trivial⟩)
def Jj(kn:K5) vF b4 GL HK w:=
 kn vF b4 GL HK (aL2 0) w
def BZ(kn:K3) vF b4 GL HK w:=
 Jj (xR kn) vF b4 GL HK w
def B0 (R:K1) vF b4 GL HK w:=
 BZ (Dv R) vF b4 GL HK w
theorem Qh(kn:K3)(hn:N3 Q kn 2 4 9)(h:BZ kn (g 2) (g 4) (g 5) (g 9) w):dM pg fP (bL 1 (aO 1 (aO 1 (aO 1 (aO 2 eZ))))) Q g w:=
 dN 1 (iS (YN (xR kn) 2 4 5 9 61) h (λg w h=>aJ (BK 4 (SR _ g w kn hn h))))
def Jk(kn:K4) vF b4 GL w:=
 aA pg (aB 182 vF) w λj0 w=>
 aA pg (bE 182) w λHK w=>
 aA pg (aF 182 HK j0) w λ_u w=>
 kn vF b4 GL HK w
def B1 (R:K1) vF b4 GL w:=
 Jk (B0 R) vF b4 GL w
def B2 (kn:K4)(k2:K3) vF b4 GL b8 w:=
 aA pg (aE .lss 3 aN aN b8 (aL2 64)) w λe4 w=>
 cS e4
  ((dr w)=(dr w)/\
  (dr w)=(dr w)/\
  aA pg (aE .sub 3 aN aN b8 (aL2 16)) (dr w) λe9 w_=>w_=(dr w)/\
  aA pg (aR 204 GL e9) (dr w) λf0 w_=>w_=(dr w)/\
  aA pg (aB 27 f0) (dr w) λf1 w_=>w_=(dr w)/\
  (dr w)=(dr w)/\
  aA pg (aE .sub 3 aN aN b8 (aL2 15)) (dr w) λf3 w_=>w_=(dr w)/\
  aA pg (aR 204 GL f3) (dr w) λf4 w_=>w_=(dr w)/\
  aA pg (aB 27 f4) (dr w) λf5 w_=>w_=(dr w)/\
  aG pg HW #[f5,(aL2 7),(aL2 18),(aL2 3)] (dr w) λf6 xT=>
  (aP pg (aB 27 f0) f1 xT/\aP pg (aR 204 GL e9) f0 xT/\aP pg (aE .sub 3 aN aN b8 (aL2 16)) e9 xT/\True)/\
  aA pg (aE .add 27 aN aN f1 f6) xT λf7 w_=>w_=xT/\
  xT=xT/\
  aA pg (aE .sub 3 aN aN b8 (aL2 7)) xT λf9 w_=>w_=xT/\
  (aP pg (aE .sub 3 aN aN b8 (aL2 7)) f9 (dr w)/\True)/\
  aA pg (aR 204 GL f9) xT λi0 w_=>w_=xT/\
  (aP pg (aR 204 GL f9) i0 (dr w)/\True)/\
  aA pg (aB 27 i0) xT λi1 w_=>w_=xT/\
  (aP pg (aB 27 i0) i1 (dr w)/\True)/\
  aA pg (aE .add 27 aN aN f7 i1) xT λi2 w_=>w_=xT/\
  xT=xT/\
  aA pg (aE .sub 3 aN aN b8 (aL2 2)) xT λi4 w_=>w_=xT/\
  (aP pg (aE .sub 3 aN aN b8 (aL2 2)) i4 (dr w)/\True)/\
  aA pg (aR 204 GL i4) xT λi5 w_=>w_=xT/\
  (aP pg (aR 204 GL i4) i5 (dr w)/\True)/\
  aA pg (aB 27 i5) xT λi6 w_=>w_=xT/\
  (aP pg (aB 27 i5) i6 (dr w)/\True)/\
  aG pg HW #[i6,(aL2 17),(aL2 19),(aL2 10)] xT λi7 EN=>
  (aP pg (aE .add 27 aN aN f7 i1) i2 EN/\aP pg (aB 27 i0) i1 EN/\aP pg (aR 204 GL f9) i0 EN/\aP pg (aE .sub 3 aN aN b8 (aL2 7)) f9 EN/\aP pg (aE .add 27 aN aN f1 f6) f7 EN/\aP pg (aB 27 f0) f1 EN/\aP pg (aR 204 GL e9) f0 EN/\aP pg (aE .sub 3 aN aN b8 (aL2 16)) e9 EN/\True)/\
  aA pg (aE .add 27 aN aN i2 i7) EN λi8 w_=>w_=EN/\
  aA pg (aR 204 GL b8) EN λi9 w_=>w_=EN/\
  aA pg (aF 27 i9 i8) EN λ_u23 aHp=>
  aA pg (aE .add 3 aN aN b8 (aL2 1)) aHp λe6 w=>
  kn vF b4 GL e6 w)
  (k2 vF b4 GL w)
def vA(k2:K3) vF b4 GL b8 w:=
 bM (λ(X:aL1->K0) (t:aL1) (w:aL0)=>B2 (λ_ _ _ b8 w=>X b8 w) k2 vF b4 GL t w) b8 w
theorem Qi(k2:K3)(h2:E3 Q k2 2 2 4 5)(h:vA k2 (g 2) (g 4) (g 5) (g 8) w):dM pg fP (bI (aO 1 (bL 1 (aO 1 (aO 2 eZ))))) Q g w:=by
 refine Fl (λg:Env=>g 8) (λX t w=>B2 (λ_ _ _ b8 w=>X b8 w) k2 (g 2) (g 4) (g 5) t w) h (λX g1 w1 ha hL=> ?_)
 rw[<-fC 2 ha,<-fC 4 ha,<-fC 5 ha]at hL
 exact(El [(2,(GO k2 2 4 5))] (kr:=no) (CN (λ_ _ _ b8 w=>X b8 w) 2 4 5 8) hL dE JO ⟨h2,trivial⟩)
def Jl(kn:K4) vF b4 GL w:=
 kn vF b4 GL (aL2 16) w
def B3 (kn:K3) vF b4 GL w:=
 Jl (vA kn) vF b4 GL w
def B4 (R:K1) vF b4 GL w:=
 B3 (B1 R) vF b4 GL w
theorem Qj(kn:K3)(hn:N3 Q kn 2 4 5)(h:B3 kn (g 2) (g 4) (g 5) w):dM pg fP (bL 1 (aO 1 (aO 2 eZ))) Q g w:=
 dN 1 (iS (CN (vA kn) 2 4 5 8) h (λg w h=>aJ (BK 2 (Qi _ g w kn hn h))))
def B6 (kn:K5)(k0:K3) vF b4 GL c6 c7 w:=
 aA pg (aE .lss 3 aN aN c7 (aL2 64)) w λc8 w=>
 cS c8
  (aA pg (VS 183 c6 c7) w λd0 w=>
  aA pg (aE .quo 3 aN aN c7 (aL2 4)) w λd2 w=>
  aA pg (aE .quo 3 aN aN c7 (aL2 4)) w λd4 w=>
  aA pg (aR 204 GL d4) w λd5 w=>
  aA pg (aB 27 d5) w λd6 w=>
  aA pg (aE .shl 27 aN aN d6 (.int .u64 8)) w λd7 w=>
  aA pg (cP 5 27 d0) w λd9 w=>
  aA pg (aE .or 27 aN aN d7 d9) w λe0 w=>
  aA pg (aR 204 GL d2) w λe1 w=>
  aA pg (aF 27 e1 e0) w λ_u w=>
  aA pg (aE .add 3 aN aN c7 (aL2 1)) w λe2 w=>
  kn vF b4 GL c6 e2 w)
  (k0 vF b4 GL w)
def vB(k0:K3) vF b4 GL c6 c7 w:=
 bM (λ(X:aL1->K0) (t:aL1) (w:aL0)=>B6 (λ_ _ _ _ c7 w=>X c7 w) k0 vF b4 GL c6 t w) c7 w
theorem Qk(k0:K3)(h0:E3 Q k0 0 2 4 5)(h:vB k0 (g 2) (g 4) (g 5) (g 16) (g 17) w):dM pg fP (bI (aO 1 (bL 1 (aO 2 eZ)))) Q g w:=by
 refine Fl (λg:Env=>g 17) (λX t w=>B6 (λ_ _ _ _ c7 w=>X c7 w) k0 (g 2) (g 4) (g 5) (g 16) t w) h (λX g1 w1 ha hL=> ?_)
 rw[<-fC 2 ha,<-fC 4 ha,<-fC 5 ha,<-fC 16 ha]at hL
 exact(El [(0,(GO k0 2 4 5))] (kr:=no) (YN (λ_ _ _ _ c7 w=>X c7 w) 2 4 5 16 17) hL dE JO ⟨h0,trivial⟩)
def Jm(kn:K5) vF jM b4 GL w:=
 aA pg (aB 183 jM) w λc6 w=>
 kn vF b4 GL c6 (aL2 0) w
def B7 (kn:K3) vF jM b4 GL w:=
 Jm (vB kn) vF jM b4 GL w
def B8 (R:K1) vF jM b4 GL w:=
 B7 (B4 R) vF jM b4 GL w
theorem Ql(kn:K3)(hn:N3 Q kn 2 4 5)(h:B7 kn (g 2) (g 3) (g 4) (g 5) w):dM pg fP (bL 1 (aO 2 eZ)) Q g w:=
 dN 1 (iS (YN (vB kn) 2 4 5 16 17) h (λg w h=>aJ (BK 0 (Qk _ g w kn hn h))))
def Jn(kn:K4) fB zV w:=
 aA pg (jK 182 fB) w λvF w=>
 aA pg (jK 183 zV) w λjM w=>
 aA pg (bE 182) w λb4 w=>
 aA pg (bE 204) w λGL w=>
 kn vF jM b4 GL w
def Jo(R:K1) fB zV w:=
 Jn (B8 R) fB zV w
def SO a0 a1 w(R:K1):=
 Jo R a0 a1 w
theorem Uh{a0 a1 w R}(h:SO a0 a1 w R):aG pg Ad #[a0,a1] w R:=
 jX (ann:=fP) Tryz.f103 eZ [a0,a1] Yt 136 TryzM.mixed Tryz.func103 (dN 2 (iS (CN (B8 R) 2 3 4 5) h (λg w h=>aJ (dN 1 (Ql _ g w (B4 R) (λg w h=>aJ (dN 1 (Qj _ g w (B1 R) (λg w h=>aJ (dN 1 (iS (CN (B0 R) 2 4 5 9) h (λg w h=>aJ (dN 1 (Qh _ g w (Dv R) (λg w h=>aJ (dN 1 (SQ _ g w (Ds R) (λg w h=>aJ (kL h dE)) h))) h)))))) h))) h)))))
def agL:FA:=⟨G9,λi=> .leaf ([],[]) []⟩
def amL:List ResultVar:=[.cell 4 158,.tmp 5]
noncomputable def acP:Code:=bA Tryz.f104
def UF(R:K1) V7 Ep w:=
 aA pg (jK 158 V7) w λNI w=>
 aA pg (bE 158) w λb4 w=>
 aA pg (aD 158 NI 1) w λb7 w=>
 aA pg (aB 31 b7) w λb8 w=>
 aA pg (aE .neq 31 (.tmp 8) (.const (aL2 0)) b8 (aL2 0)) w λb9 w=>
 cS b9
  (aA pg (aB 158 NI) w λc0 w=>
  aA pg (aF 158 b4 c0) w λ_u w=>
  lO pg 158 b4 w λr0=>R (.tuple #[r0,(.string ⟨#[]⟩)]) w)
  (aA pg (aE .lss 3 aN aN Ep (aL2 0)) w λc2 w=>
  cS c2
   (aA pg (aD 158 NI 1) w λc3 w=>
   aA pg (aF 31 c3 (aL2 1)) w λ_u w=>
   aA pg (aB 158 NI) w λc4 w=>
   aA pg (aF 158 b4 c4) w λ_u w=>
   lO pg 158 b4 w λr0=>R (.tuple #[r0,(.string ⟨#[]⟩)]) w)
   (aA pg (aD 158 NI 0) w λc6 w=>
   aA pg (aB 9 c6) w λc7 w=>
   aA pg (eK .len #[9] 3 [c7]) w λc8 w=>
   aA pg (aE .gtr 3 aN aN Ep c8) w λc9 w=>
   cS c9
    (aA pg (aD 158 NI 1) w λd0 w=>
    aA pg (aF 31 d0 (aL2 10)) w λ_u w=>
    aA pg (aB 158 NI) w λd1 w=>
    aA pg (aF 158 b4 d1) w λ_u w=>
    lO pg 158 b4 w λr0=>R (.tuple #[r0,(.string ⟨#[]⟩)]) w)
    (aA pg (aD 158 NI 0) w λd2 w=>
    aA pg (aB 9 d2) w λd3 w=>
    aA pg (dH 9 d3 none (some Ep) none) w λd5 w=>
    aA pg (aD 158 NI 0) w λd6 w=>
    aA pg (aB 9 d6) w λd7 w=>
    aA pg (dH 9 d7 (some Ep) none none) w λd9 w=>
    aA pg (aD 158 NI 0) w λe0 w=>
    aA pg (aF 9 e0 d9) w λ_u w=>
    aA pg (aB 158 NI) w λe1 w=>
    aA pg (aF 158 b4 e1) w λ_u w=>
    lO pg 158 b4 w λr0=>R (.tuple #[r0,d5]) w)))
def aiK a0 a1 w(R:K1):=
 UF R a0 a1 w
theorem adJ{a0 a1 w R}(h:aiK a0 a1 w R):aG pg G9 #[a0,a1] w R:=
 jX (ann:=agL) Tryz.f104 acP [a0,a1] amL 33 TryzM.mixed Tryz.func104 (kL h dE)
def KK:FA:=⟨Cb,λi=> .leaf ([],[]) []⟩
def aqW:List ResultVar:=[.tmp 4]
noncomputable def H8:Code:=bA Tryz.f105
def NL(R:K1) bT w:=
 aA pg (cP 22 9 bT) w λd3 w=>
 R d3 w
def Hn(kn:K4)(k0:K1) AF Ep bT pY w:=
 aA pg (aE .lss 3 aN aN pY Ep) w λc1 w=>
 cS c1
  (aA pg (aE .rem 26 aN aN AF (.int .u64 256)) w λc6 w=>
  aA pg (cP 26 5 c6) w λc7 w=>
  aA pg (bB 22 1 [(0,c7)]) w λc8 w=>
  aA pg (eK .append #[22,22] 22 [bT,c8]) w λc9 w=>
  aA pg (aE .quo 26 aN aN AF (.int .u64 256)) w λd1 w=>
  aA pg (aE .add 3 aN aN pY (aL2 1)) w λc3 w=>
  kn d1 Ep c9 c3 w)
  (k0 bT w)
def Ho(k0:K1) AF Ep bT pY w:=
 bM (λ(X:(aL1×aL1×aL1)->K0) (t:aL1×aL1×aL1) (w:aL0)=>Hn (λAF _ bT pY w=>X (AF,bT,pY) w) k0 t.1 Ep t.2.1 t.2.2 w) (AF,bT,pY) w
theorem adH(k0:K1)(h0:E1 Q k0 0 5)(h:Ho k0 (g 0) (g 1) (g 5) (g 6) w):dM pg KK (bI (aO 1 (bL 1 (aO 3 H8)))) Q g w:=by
 refine Fl (λg:Env=>(g 0,g 5,g 6)) (λX t w=>Hn (λAF _ bT pY w=>X (AF,bT,pY) w) k0 t.1 (g 1) t.2.1 t.2.2 w) h (λX g1 w1 ha hL=> ?_)
 rw[<-fC 1 ha]at hL
 exact(El [(0,(Mq1 k0 5))] (kr:=no) (CN (λAF _ bT pY w=>X (AF,bT,pY) w) 0 1 5 6) hL dE JO ⟨h0,trivial⟩)
def Xm(kn:K4) AF Ep bT w:=
 kn AF Ep bT (aL2 0) w
def NM(kn:K1) AF Ep bT w:=
 Xm (Ho kn) AF Ep bT w
def NN(R:K1) AF Ep bT w:=
 NM (NL R) AF Ep bT w
theorem adI(kn:K1)(hn:N1 Q kn 5)(h:NM kn (g 0) (g 1) (g 5) w):dM pg KK (bL 1 (aO 3 H8)) Q g w:=
 dN 1 (iS (CN (Ho kn) 0 1 5 6) h (λg w h=>aJ (BK 0 (adH _ g w kn hn h))))
def Xn(kn:K3)(R:K1) AF Ep w:=
 aA pg (aE .gtr 3 aN aN Ep (aL2 8)) w λb8 w=>
 cS b8
  (R (.string ⟨#[]⟩) w)
  (kn AF Ep (.slice none 0 0) w)
def Xo(R:K1) AF Ep w:=
 Xn (NN R) R AF Ep w
def aoE a0 a1 w(R:K1):=
 Xo R a0 a1 w
theorem aiJ{a0 a1 w R}(h:aoE a0 a1 w R):aG pg Cb #[a0,a1] w R:=
 jX (ann:=KK) Tryz.f105 H8 [a0,a1] aqW 24 TryzM.mixed Tryz.func105 (dN 3 (Up (GO (NN R) 0 1 5) h (λg w h=>aJ (dN 1 (adI _ g w (NL R) (λg w h=>aJ (kL h dE)) h))) dE))
def CS:FA:=⟨Na,λi=> .leaf ([],[]) []⟩
def avM:List ResultVar:=[.tmp 2]
noncomputable def A7:Code:=bA Tryz.f106
def R6 (R:K1) qJ w:=
 aA pg (aE .xor 27 aN aN qJ (.int .u32 4294967295)) w λe2 w=>
 R e2 w
def R7 (kn:K3) fB qJ wG w:=
 aA pg (aE .add 3 aN aN wG (aL2 1)) w λc2 w=>
 kn fB qJ c2 w
def R8 (kn:K4) fB qJ wG k_5 w:=
 aA pg (aE .add 3 aN aN k_5 (aL2 1)) w λd2 w=>
 kn fB qJ wG d2 w
def abL(kn:K4)(k2:K3) fB qJ wG k_5 w:=
 aA pg (aE .lss 3 aN aN k_5 (aL2 8)) w λd0 w=>
 cS d0
  (aA pg (aE .rem 27 aN aN qJ (.int .u32 2)) w λd4 w=>
  aA pg (aE .eql 27 (.tmp 24) (.const (.int .u32 1)) d4 (.int .u32 1)) w λd5 w=>
  aA pg (aE .quo 27 aN aN qJ (.int .u32 2)) w λd7 w=>
  cS d5
   (aA pg (aE .xor 27 aN aN d7 (.int .u32 2197175160)) w λe0 w=>
   kn fB e0 wG k_5 w)
   (kn fB d7 wG k_5 w))
  (k2 fB qJ wG w)
def R9 (kn:K4)(k2:K3) fB qJ wG k_5 w:=
 abL (R8 kn) k2 fB qJ wG k_5 w
def Ko(k2:K3) fB qJ wG k_5 w:=
 bM (λ(X:(aL1×aL1)->K0) (t:aL1×aL1) (w:aL0)=>R9 (λ_ qJ _ k_5 w=>X (qJ,k_5) w) k2 fB t.1 wG t.2 w) (qJ,k_5) w
theorem aiN(k2:K3)(h2:E3 Q k2 2 0 3 4)(h:Ko k2 (g 0) (g 3) (g 4) (g 5) w):dM pg CS (bI (aO 2 (bI (bL 1 (aO 1 (bI (bI (aO 1 (bL 1 (aO 2 A7)))))))))) Q g w:=by
 refine Fl (λg:Env=>(g 3,g 5)) (λX t w=>R9 (λ_ qJ _ k_5 w=>X (qJ,k_5) w) k2 (g 0) t.1 (g 4) t.2 w) h (λX g1 w1 ha hL=> ?_)
 rw[<-fC 0 ha,<-fC 4 ha]at hL
 exact(dN 2 (El [(2,(GO k2 0 3 4))] (kr:=no) (CN (R8 (λ_ qJ _ k_5 w=>X (qJ,k_5) w)) 0 3 4 5) hL (λg w h=>aJ (iS (CN (λ_ qJ _ k_5 w=>X (qJ,k_5) w) 0 3 4 5) h dE)) JO ⟨h2,trivial⟩))
def abM(kn:K4) fB qJ wG w:=
 aA pg (VS 9 fB wG) w λc6 w=>
 aA pg (cP 5 27 c6) w λc7 w=>
 aA pg (aE .xor 27 aN aN qJ c7) w λc8 w=>
 kn fB c8 wG (aL2 0) w
def Sa(kn:K3) fB qJ wG w:=
 abM (Ko kn) fB qJ wG w
def Ol(kn:K3) fB qJ wG w:=
 Sa (R7 kn) fB qJ wG w
theorem adW(kn:K3)(hn:N3 Q kn 0 3 4)(h:Sa kn (g 0) (g 3) (g 4) w):dM pg CS (bL 1 (aO 1 (bI (bI (aO 1 (bL 1 (aO 2 A7))))))) Q g w:=
 BK 1 (dN 2 (iS (CN (Ko kn) 0 3 4 5) h (λg w h=>aJ (BK 2 (aiN _ g w kn hn h)))))
def XC(kn:K3)(k0:K1) fB qJ wG w:=
 aA pg (eK .len #[9] 3 [fB]) w λb9 w=>
 aA pg (aE .lss 3 aN aN wG b9) w λc0 w=>
 cS c0
  (kn fB qJ wG w)
  (k0 qJ w)
def Om(kn:K3)(k0:K1) fB qJ wG w:=
 XC (Ol kn) k0 fB qJ wG w
def Hv(k0:K1) fB qJ wG w:=
 bM (λ(X:(aL1×aL1)->K0) (t:aL1×aL1) (w:aL0)=>Om (λ_ qJ wG w=>X (qJ,wG) w) k0 fB t.1 t.2 w) (qJ,wG) w
theorem adX(k0:K1)(h0:E1 Q k0 0 3)(h:Hv k0 (g 0) (g 3) (g 4) w):dM pg CS (bI (aO 1 (bL 1 (aO 2 A7)))) Q g w:=by
 refine Fl (λg:Env=>(g 3,g 4)) (λX t w=>Om (λ_ qJ wG w=>X (qJ,wG) w) k0 (g 0) t.1 t.2 w) h (λX g1 w1 ha hL=> ?_)
 rw[<-fC 0 ha]at hL
 exact(dN 1 (El [(0,(Mq1 k0 3))] (kr:=no) (GO (Ol (λ_ qJ wG w=>X (qJ,wG) w)) 0 3 4) hL (λg w h=>aJ (dN 1 (adW _ g w (R7 (λ_ qJ wG w=>X (qJ,wG) w)) (λg w h=>aJ (iS (GO (λ_ qJ wG w=>X (qJ,wG) w) 0 3 4) h dE)) h))) JO ⟨h0,trivial⟩))
def XD(kn:K3) fB qJ w:=
 kn fB qJ (aL2 0) w
def On(kn:K1) fB qJ w:=
 XD (Hv kn) fB qJ w
def Oo(R:K1) fB qJ w:=
 On (R6 R) fB qJ w
theorem adY(kn:K1)(hn:N1 Q kn 3)(h:On kn (g 0) (g 3) w):dM pg CS (bL 1 (aO 2 A7)) Q g w:=
 dN 1 (iS (GO (Hv kn) 0 3 4) h (λg w h=>aJ (BK 0 (adX _ g w kn hn h))))
def XE(kn:K2) fB w:=
 kn fB (.int .u32 4294967295) w
def XF(R:K1) fB w:=
 XE (Oo R) fB w
def avE a0 w(R:K1):=
 XF R a0 w
theorem amE{a0 w R}(h:avE a0 w R):aG pg Na #[a0] w R:=
 jX (ann:=CS) Tryz.f106 A7 [a0] avM 33 TryzM.mixed Tryz.func106 (dN 2 (iS (Qv (Oo R) 0 3) h (λg w h=>aJ (dN 1 (adY _ g w (R6 R) (λg w h=>aJ (kL h dE)) h)))))
def dZ:FA:=⟨cB,λi=> .leaf ([],[]) []⟩
def LF:List ResultVar:=[.tmp 4]
noncomputable def aU:Code:=bA Tryz.f107
def jG(kn:K0) vF v_5 w:=
 aA pg (aB 80 vF) w λb8 w=>
 aA pg (bB 80 1 [(0,v_5)]) w λc0 w=>
 aA pg (eK .append #[80,80] 80 [b8,c0]) w λc1 w=>
 aA pg (aF 80 vF c1) w λ_u w=>
 kn w
theorem EJ(kn:K0)(hn:N0 Q kn)(h:jG kn (g 2) (g 5) w):dM pg dZ (Yh aU) Q g w:=
 iS _ h hn
def oS(kn:K2) vF b7 w:=
 kn vF b7 w
theorem EI(kn:K2)(hn:N2 Q kn 2 5)(h:oS kn (g 2) (g 7) w):dM pg dZ (aeP aU) Q g w:=
 iS _ h hn
def AE(l:Nat)(R:K1)(vF b7:aL1)(w:aL0):Prop:=
 oS (λvF v_5 w=>Rdy l w λw=>jG (λw=>agE l none R w) vF v_5 w) vF b7 w
theorem HH{l:Nat}{tmps:Array aL1}{w:aL0}{R:K1}(hsz:tmps.size=13)(h:AE l R (KT tmps 2) (KT tmps 7) w):aaH pg l cB tmps (aeP aU) (Yh aU) w R:=
 dsR (ann:=dZ) 13 TryzM.mixed hsz (EI (asQ pg dZ l (Yh aU) R) (KT tmps) w (λvF v_5 w=>Rdy l w λw=>jG (agE l none R) vF v_5 w) (λg w h=>let⟨r,h1,h2,h3⟩:=h;⟨r,h1,h2,(EJ (ajM l R) g _ (agE l none R) (λ_ _ h=>h) h3)⟩) h) (by kernel_rfl) (by kernel_rfl) (by kernel_rfl)
def lZ(R:K1) vF t1000003 w:=
 aA pg (aB 80 vF) w λc2 w=>
 G3 t1000003 w λw=>R c2 w
def mA(kn:K2) vF b6 t1000003 w:=
 ∀g:Env,g 2=vF->g 6=b6->g 1000003=t1000003->RF pg cB (.tmp 6) (amI aU) (aeP aU) (Yh aU) (exQ (λg w=>kn (g 2) (g 1000003) w) no []) g w
theorem HF(kn:K2)(hn:N2 Q kn 2 1000003)(h:mA kn (g 2) (g 6) (g 1000003) w):dM pg dZ (bI (aO 1 (bL 1 (aO 1 aU)))) Q g w:=
 exD (kr:=no) (l:=[]) (h g rfl rfl rfl) hn JO trivial
def Bg(kn:K3) Yv vF t1000003 w:=
 kn vF Yv t1000003 w
def rI(kn:K2) Yv vF t1000003 w:=
 Bg (mA kn) Yv vF t1000003 w
def rJ(R:K1) Yv vF t1000003 w:=
 rI (lZ R) Yv vF t1000003 w
theorem HG(kn:K2)(hn:N2 Q kn 2 1000003)(h:rI kn (g 1) (g 2) (g 1000003) w):dM pg dZ (bL 1 (aO 1 aU)) Q g w:=
 dN 1 (iS (GO (mA kn) 2 6 1000003) h (λg w h=>aJ (BK 0 (HF _ g w kn hn h))))
def Bh(kn:K3) fB Yv t1000003 w:=
 aA pg (jK 80 fB) w λvF w=>
 kn Yv vF t1000003 w
def Bi(R:K1) fB Yv t1000003 w:=
 Bh (rJ R) fB Yv t1000003 w
def DR a0 a1 w(R:K1):=
 Bi R a0 a1 undef w
theorem Jp{a0 a1 w R}(h:DR a0 a1 w R):aG pg cB #[a0,a1] w R:=
 dsF (ann:=dZ) Tryz.f107 aU [a0,a1] LF 13 TryzM.mixed Tryz.func107 (dN 1 (iS (GO (rJ R) 1 2 1000003) h (λg w h=>aJ (dN 1 (HG _ g w (lZ R) (λg w h=>aJ (kL h dE)) h)))))
def lI:FA:=⟨eE,λi=>match Nat.beq i 17 with|true=> .leaf ([12],[]) (fz 12 (ft [] (fz 2 [])))|false=> .leaf ([],[]) []⟩
def mL:List ResultVar:=[]
noncomputable def kO:Code:=bA Tryz.f108
def tN(kn:K6)(k1:K6) cM xU tG eH bU bJ sX FP w:=
 (dr w)=(dr w)/\
 aA pg (aE .gtr 3 aN aN xU (aL2 0)) (dr w) λl4 w_=>w_=(dr w)/\
 (dr w)=(dr w)/\
 Gd (bG l4 true) (λK=>K cM (dr w)) (dr w) λl6 w_=>w_=(dr w)/\
 Gd (bG l4 true) (λK=>K xU (dr w)) (dr w) λl7 w_=>w_=(dr w)/\
 Gd (bG l4 true) (λK=>aA pg (aE .sub 3 aN aN l7 (aL2 1)) (dr w) K) (dr w) λl8 w_=>w_=(dr w)/\
 Gd (bG l4 true) (λK=>aA pg (aR 80 l6 l8) (dr w) K) (dr w) λl9 w_=>w_=(dr w)/\
 Gd (bG l4 true) (λK=>aA pg (aB 9 l9) (dr w) K) (dr w) λm0 w_=>w_=(dr w)/\
 Gd (bG l4 true) (λK=>K cM (dr w)) (dr w) λm1 w_=>w_=(dr w)/\
 Gd (bG l4 true) (λK=>K FP (dr w)) (dr w) λm2 w_=>w_=(dr w)/\
 Gd (bG l4 true) (λK=>aA pg (aR 80 m1 m2) (dr w) K) (dr w) λm3 w_=>w_=(dr w)/\
 Gd (bG l4 true) (λK=>aA pg (aB 9 m3) (dr w) K) (dr w) λm4 w_=>w_=(dr w)/\
 Gd (bG l4 true) (λK=>aG pg vG #[m0,m4] (dr w) K) (dr w) λm5 V4=>
 Gd (bG l4 true) (λK=>aA pg (G2 .not m5) V4 K) V4 λm6 w_=>w_=V4/\
 aA pg (cH l4 m6 (.bool false)) V4 λm7 w_=>w_=V4/\
 cS m7
  (aG pg AX #[cM,xU,tG,FP] V4 λn2 w=>
  k1 cM n2 tG eH bU bJ w)
  (aG pg Ec #[cM,xU,tG,FP] V4 λn9 w=>
  aA pg (aQ n9 0) w λo0 w=>
  aA pg (aQ n9 1) w λo1 w=>
  aA pg (aE .sub 3 aN aN o0 xU) w λo5 w=>
  aA pg (aE .sub 3 aN aN tG o0) w λo8 w=>
  aA pg (aE .quo 3 aN aN sX (aL2 8)) w λp0 w=>
  aA pg (aE .lss 3 aN aN o5 o8) w λp3 w=>
  cS p3
   (aA pg (aE .geq 3 aN aN o5 p0) w λp6 w=>
   aG pg eE #[cM,xU,o0,eH] w λq1 w=>
   aA pg (aE .add 3 aN aN o0 (aL2 1)) w λq3 w=>
   kn cM q3 tG eH p6 o1 w)
   (aA pg (aE .geq 3 aN aN o8 p0) w λq6 w=>
   aA pg (aE .add 3 aN aN o0 (aL2 1)) w λq9 w=>
   aG pg eE #[cM,q9,tG,eH] w λs2 w=>
   kn cM xU o0 eH q6 o1 w))
def F7 (kn:K8)(R:K1) cM xU tG eH bU bJ sX FP aqC w:=
 Gd (bG bU true) (λK=>K bJ w) w λj3 w=>
 aA pg (cH bU j3 (.bool false)) w λj4 w=>
 Gd (bG j4 true) (λK=>K aqC w) w λj6 w=>
 Gd (bG j4 true) (λK=>aA pg (aE .eql 208 (.tmp 66) (.const (aL2 1)) j6 (aL2 1)) w K) w λj7 w=>
 aA pg (cH j4 j7 (.bool false)) w λj8 w=>
 cS j8
  (aG pg vJ #[cM,xU,tG] w λl2 w=>
  cS l2
   (R (.tuple #[]) w)
   (kn cM xU tG eH bU bJ sX FP w))
  (kn cM xU tG eH bU bJ sX FP w)
def tO(kn:K6)(k1:K6)(R:K1) cM xU tG eH bU bJ sX FP aqC w:=
 F7 (tN kn k1) R cM xU tG eH bU bJ sX FP aqC w
def F8 (kn:K9) cM xU tG eH bU bJ sX w:=
 aG pg CK #[cM,xU,tG] w λf6 w=>
 aA pg (aQ f6 0) w λf7 w=>
 aA pg (aQ f6 1) w λf8 w=>
 aA pg (aE .eql 208 (.tmp 49) (.const (aL2 2)) f8 (aL2 2)) w λi0 w=>
 cS i0
  (aG pg Cz #[cM,xU,tG] w λi4 w=>
  aA pg (aE .sub 3 aN aN tG (aL2 1)) w λi6 w=>
  aA pg (aE .sub 3 aN aN f7 xU) w λi9 w=>
  aA pg (aE .sub 3 aN aN i6 i9) w λj0 w=>
  kn cM xU tG eH bU bJ sX j0 (aL2 1) w)
  (kn cM xU tG eH bU bJ sX f7 f8 w)
def tP(kn:K6)(k1:K6)(R:K1) cM xU tG eH bU bJ sX w:=
 F8 (tO kn k1 R) cM xU tG eH bU bJ sX w
def tQ(kn:K7)(R:K1) cM xU tG eH bU bJ w:=
 aA pg (aE .sub 3 aN aN tG xU) w λd1 w=>
 aA pg (aE .leq 3 aN aN d1 (aL2 12)) w λd3 w=>
 cS d3
  (aG pg cX #[cM,xU,tG] w λd7 w=>
  R (.tuple #[]) w)
  (aA pg (aE .eql 3 (.tmp 28) (.const (aL2 0)) eH (aL2 0)) w λd9 w=>
  cS d9
   (aG pg FC #[cM,xU,tG] w λe3 w=>
   R (.tuple #[]) w)
   (aA pg (G2 .not bU) w λe5 w=>
   cS e5
    (aG pg BH #[cM,xU,tG] w λe9 w=>
    aA pg (aE .sub 3 aN aN eH (aL2 1)) w λf1 w=>
    kn cM xU tG f1 bU bJ d1 w)
    (kn cM xU tG eH bU bJ d1 w)))
def tR(kn:K6)(k1:K6)(R:K1) cM xU tG eH bU bJ w:=
 tQ (tP kn k1 R) R cM xU tG eH bU bJ w
def iD(kn:K6)(R:K1) cM xU tG eH bU bJ w:=
 tR kn kn R cM xU tG eH bU bJ w
def iE(R:K1) cM xU tG eH bU bJ w:=
 bM (λ(X:(aL1×aL1×aL1×aL1×aL1)->K0) (t:aL1×aL1×aL1×aL1×aL1) (w:aL0)=>iD (λ_ xU tG eH bU bJ w=>X (xU,tG,eH,bU,bJ) w) R cM t.1 t.2.1 t.2.2.1 t.2.2.2.1 t.2.2.2.2 w) (xU,tG,eH,bU,bJ) w
theorem DB(kn:K6)(R:K1)(hn:N6 Q kn 0 1 2 3 8 9)(hr:HR mL R Q)(h:iD kn R (g 0) (g 1) (g 2) (g 3) (g 8) (g 9) w):dM pg lI (bI (bI (aO 2 kO))) Q g w:=
 BK 1 (dN 4 (Up (Mq7 (tP kn kn R) 0 1 2 3 8 9 10) h (λg w h=>aJ (dN 2 (iS (Mq9 (tO kn kn R) 0 1 2 3 8 9 10 11 12) h (λg w h=>aJ (dN 1 (Up (Mq8 (tN kn kn) 0 1 2 3 8 9 10 11) h (λg w h=>aJ (El [(1,(Mq6 kn 0 1 2 3 8 9))] (kr:=no) _ h hn JO ⟨hn,trivial⟩)) hr)))))) hr))
theorem DC(R:K1)(hr:HR mL R Q)(h:iE R (g 0) (g 1) (g 2) (g 3) (g 8) (g 9) w):dM pg lI (bI (aO 2 kO)) Q g w:=by
 refine Fl (λg:Env=>(g 1,g 2,g 3,g 8,g 9)) (λX t w=>iD (λ_ xU tG eH bU bJ w=>X (xU,tG,eH,bU,bJ) w) R (g 0) t.1 t.2.1 t.2.2.1 t.2.2.2.1 t.2.2.2.2 w) h (λX g1 w1 ha hL=> ?_)
 rw[<-fC 0 ha]at hL
 exact(DB _ g1 w1 (λ_ xU tG eH bU bJ w=>X (xU,tG,eH,bU,bJ) w) R dE hr hL)
def tB(kn:K6) cM xU tG eH w:=
 kn cM xU tG eH (.bool true) (.bool true) w
def tC(R:K1) cM xU tG eH w:=
 tB (iE R) cM xU tG eH w
def zL a0 a1 a2 a3 w(R:K1):=
 tC R a0 a1 a2 a3 w
theorem DM{a0 a1 a2 a3 w R}(h:zL a0 a1 a2 a3 w R):aG pg eE #[a0,a1,a2,a3] w R:=
 jX (ann:=lI) Tryz.f108 kO [a0,a1,a2,a3] mL 134 TryzM.mixed Tryz.func108 (dN 2 (iS (Mq6 (iE R) 0 1 2 3 8 9) h (λg w h=>aJ (BK 0 (DC _ g w R dE h)))))
def Wk:FA:=⟨Bm,λi=> .leaf ([],[]) []⟩
def Z4:List ResultVar:=[.tmp 2]
noncomputable def Vs:Code:=bA Tryz.f109
def Mn(R:K1) AF w:=
 cS (.bool false)
  (aA pg (cP 194 27 AF) w λb4 w=>
  aG pg Wa #[b4] w λb5 w=>
  R b5 w)
  (aG pg wY #[AF] w λb7 w=>
  R b7 w)
def Uz a0 w(R:K1):=
 Mn R a0 w
theorem Vy{a0 w R}(h:Uz a0 w R):aG pg Bm #[a0] w R:=
 jX (ann:=Wk) Tryz.f109 Vs [a0] Z4 8 TryzM.mixed Tryz.func109 (kL h dE)
def fO:FA:=⟨M9,λi=>match Nat.beq i 21 with|true=> .leaf ([31],[]) (fz 31 (ft [] []))|false=>match Nat.beq i 24 with|true=> .leaf ([6,8,20,22,29],[(2,6),(2,8),(2,20),(2,22),(3,6),(3,8),(3,20),(3,22),(4,6),(4,8),(4,20),(4,22),(6,11),(6,15),(6,16),(6,17),(6,25),(8,11),(8,15),(8,16),(8,17),(8,25),(9,20),(9,22),(11,20),(11,22),(12,20),(12,22),(13,20),(13,22),(15,20),(15,22),(16,20),(16,22),(17,20),(17,22),(18,20),(18,22),(20,25),(22,25)]) (fz 6 (ft [1,2,3] (fz 1 (ft [3,4,5] (fz 2 (fu [2,4] (fz 3 (fu [6,8] (fu [7,9] (fu [8,10] (fz 2 (ft [1,2,3,4,6,7,8,10,15,16,17] (fz 1 (ft [3,4,5,6,8,9,10,12,17,18,19] (fz 2 (fu [2,4,16,18] (fz 3 (ft [] []))))))))))))))))))|false=>match Nat.beq i 29 with|true=> .leaf ([7,8],[]) (fz 7 (ft [] (ft [] [])))|false=>match Nat.beq i 33 with|true=> .leaf ([8],[]) (fz 8 (ft [] []))|false=> .leaf ([],[]) []⟩
def avL:List ResultVar:=[.cell 2 70]
noncomputable def eL:Code:=bA Tryz.f110
def RY(R:K1) b2 BX w:=
 aA pg (aB 70 BX) w λy8 w=>
 aA pg (aF 70 b2 y8) w λ_u w=>
 lO pg 70 b2 w λr0=>R r0 w
def RZ(kn:K4)(k12:K2) b2 tJ BX DK w:=
 aA pg (aE .lss 3 aN aN DK (aL2 32)) w λx2 w=>
 cS x2
  (aA pg (aE .quo 3 aN aN DK (aL2 4)) w λx7 w=>
  aA pg (aR 181 tJ x7) w λx8 w=>
  aA pg (aB 27 x8) w λx9 w=>
  aA pg (aE .rem 3 aN aN DK (aL2 4)) w λy1 w=>
  aA pg (aE .mul 3 aN aN (aL2 8) y1) w λy2 w=>
  aA pg (aE .sub 3 aN aN (aL2 24) y2) w λy3 w=>
  aA pg (cP 3 194 y3) w λy4 w=>
  aA pg (aE .shr 27 aN aN x9 y4) w λy5 w=>
  aA pg (cP 27 5 y5) w λy6 w=>
  aA pg (aR 70 BX DK) w λy7 w=>
  aA pg (aF 5 y7 y6) w λ_u w=>
  aA pg (aE .add 3 aN aN DK (aL2 1)) w λx4 w=>
  kn b2 tJ BX x4 w)
  (k12 b2 BX w)
def Kn(k12:K2) b2 tJ BX DK w:=
 bM (λ(X:aL1->K0) (t:aL1) (w:aL0)=>RZ (λ_ _ _ DK w=>X DK w) k12 b2 tJ BX t w) DK w
theorem aiL(k12:K2)(h12:E2 Q k12 12 2 17)(h:Kn k12 (g 2) (g 6) (g 17) (g 18) w):dM pg fO (bI (aO 1 (bL 1 (aO 1 (aO 1 (aO 2 (aO 1 (aO 1 (aO 1 (aO 3 eL)))))))))) Q g w:=by
 refine Fl (λg:Env=>g 18) (λX t w=>RZ (λ_ _ _ DK w=>X DK w) k12 (g 2) (g 6) (g 17) t w) h (λX g1 w1 ha hL=> ?_)
 rw[<-fC 2 ha,<-fC 6 ha,<-fC 17 ha]at hL
 exact(El [(12,(Qv k12 2 17))] (kr:=no) (CN (λ_ _ _ DK w=>X DK w) 2 6 17 18) hL dE JO ⟨h12,trivial⟩)
def abG(kn:K4) b2 tJ BX w:=
 kn b2 tJ BX (aL2 0) w
def R0 (kn:K2) b2 tJ BX w:=
 abG (Kn kn) b2 tJ BX w
def R1 (R:K1) b2 tJ BX w:=
 R0 (RY R) b2 tJ BX w
theorem aiM(kn:K2)(hn:N2 Q kn 2 17)(h:R0 kn (g 2) (g 6) (g 17) w):dM pg fO (bL 1 (aO 1 (aO 1 (aO 2 (aO 1 (aO 1 (aO 1 (aO 3 eL)))))))) Q g w:=
 dN 1 (iS (CN (Kn kn) 2 6 17 18) h (λg w h=>aJ (BK 12 (aiL _ g w kn hn h))))
def abH(kn:K3) b2 tJ w:=
 aA pg (bE 70) w λBX w=>
 kn b2 tJ BX w
def R2 (R:K1) b2 tJ w:=
 abH (R1 R) b2 tJ w
def NO(kn:K5) b2 jM tJ BW iG w:=
 aA pg (aE .add 3 aN aN iG (aL2 64)) w λi7 w=>
 kn b2 jM tJ BW i7 w
def NP(kn:K7)(k10:K5) b2 jM tJ BW iG HJ Zg w:=
 aA pg (aE .lss 3 aN aN Zg (aL2 8)) w λv0 w=>
 cS v0
  ((dr w)=(dr w)/\
  aA pg (aR 181 tJ Zg) (dr w) λv4 w_=>w_=(dr w)/\
  aA pg (aB 27 v4) (dr w) λv5 w_=>w_=(dr w)/\
  (dr w)=(dr w)/\
  aA pg (aR 181 HJ Zg) (dr w) λv7 w_=>w_=(dr w)/\
  aA pg (aB 27 v7) (dr w) λv8 w_=>w_=(dr w)/\
  aA pg (aE .add 27 aN aN v5 v8) (dr w) λv9 w_=>w_=(dr w)/\
  aA pg (aR 181 tJ Zg) (dr w) λx0 w_=>w_=(dr w)/\
  aA pg (aF 27 x0 v9) (dr w) λ_u8 aIl=>
  aA pg (aE .add 3 aN aN Zg (aL2 1)) aIl λv2 w=>
  kn b2 jM tJ BW iG HJ v2 w)
  (k10 b2 jM tJ BW iG w)
def Hp(k10:K5) b2 jM tJ BW iG HJ Zg w:=
 bM (λ(X:aL1->K0) (t:aL1) (w:aL0)=>NP (λ_ _ _ _ _ _ Zg w=>X Zg w) k10 b2 jM tJ BW iG HJ t w) Zg w
theorem adK(k10:K5)(h10:E5 Q k10 10 2 3 6 7 8)(h:Hp k10 (g 2) (g 3) (g 6) (g 7) (g 8) (g 14) (g 16) w):dM pg fO (bI (aO 1 (aO 1 (aO 1 (aO 1 (aO 1 (bI (bL 1 (aO 1 (bI (bI (aO 1 (bL 1 (aO 2 (aO 1 (aO 1 (aO 1 (aO 3 eL)))))))))))))))))) Q g w:=by
 refine Fl (λg:Env=>g 16) (λX t w=>NP (λ_ _ _ _ _ _ Zg w=>X Zg w) k10 (g 2) (g 3) (g 6) (g 7) (g 8) (g 14) t w) h (λX g1 w1 ha hL=> ?_)
 rw[<-fC 2 ha,<-fC 3 ha,<-fC 6 ha,<-fC 7 ha,<-fC 8 ha,<-fC 14 ha]at hL
 exact(El [(10,(YN k10 2 3 6 7 8))] (kr:=no) (Mq7 (λ_ _ _ _ _ _ Zg w=>X Zg w) 2 3 6 7 8 14 16) hL dE JO ⟨h10,trivial⟩)
def Xp(kn:K7) b2 jM tJ BW iG HJ w:=
 kn b2 jM tJ BW iG HJ (aL2 0) w
def NQ(kn:K5) b2 jM tJ BW iG HJ w:=
 Xp (Hp kn) b2 jM tJ BW iG HJ w
def NS(kn:K8)(k8:K6) b2 jM tJ BW iG JQ HJ c5 w:=
 aA pg (aE .lss 3 aN aN c5 (aL2 64)) w λs8 w=>
 cS s8
  (aA pg (aB 181 HJ) (dr w) λu1 w_=>w_=(dr w)/\
  (dr w)=(dr w)/\
  aA pg (aR 204 BW c5) (dr w) λu3 w_=>w_=(dr w)/\
  aA pg (aB 27 u3) (dr w) λu4 w_=>w_=(dr w)/\
  (dr w)=(dr w)/\
  aA pg (aR 204 JQ c5) (dr w) λu6 w_=>w_=(dr w)/\
  aA pg (aB 27 u6) (dr w) λu7 w_=>w_=(dr w)/\
  aG pg ET #[u1,u4,u7] (dr w) λu8 aIj=>
  aA pg (aF 181 HJ u8) aIj λ_u8 aIk=>
  aA pg (aE .add 3 aN aN c5 (aL2 1)) aIk λu0 w=>
  kn b2 jM tJ BW iG JQ HJ u0 w)
  (k8 b2 jM tJ BW iG HJ w)
def Hq(k8:K6) b2 jM tJ BW iG JQ HJ c5 w:=
 bM (λ(X:aL1->K0) (t:aL1) (w:aL0)=>NS (λ_ _ _ _ _ _ _ c5 w=>X c5 w) k8 b2 jM tJ BW iG JQ HJ t w) c5 w
theorem adL(k8:K6)(h8:E6 Q k8 8 2 3 6 7 8 14)(h:Hq k8 (g 2) (g 3) (g 6) (g 7) (g 8) (g 9) (g 14) (g 15) w):dM pg fO (bI (aO 1 (bL 1 (aO 1 (aO 1 (aO 1 (bI (bL 1 (aO 1 (bI (bI (aO 1 (bL 1 (aO 2 (aO 1 (aO 1 (aO 1 (aO 3 eL)))))))))))))))))) Q g w:=by
 refine Fl (λg:Env=>g 15) (λX t w=>NS (λ_ _ _ _ _ _ _ c5 w=>X c5 w) k8 (g 2) (g 3) (g 6) (g 7) (g 8) (g 9) (g 14) t w) h (λX g1 w1 ha hL=> ?_)
 rw[<-fC 2 ha,<-fC 3 ha,<-fC 6 ha,<-fC 7 ha,<-fC 8 ha,<-fC 9 ha,<-fC 14 ha]at hL
 exact(El [(8,(Mq6 k8 2 3 6 7 8 14))] (kr:=no) (Mq8 (λ_ _ _ _ _ _ _ c5 w=>X c5 w) 2 3 6 7 8 9 14 15) hL dE JO ⟨h8,trivial⟩)
def Xq(kn:K8) b2 jM tJ BW iG JQ HJ w:=
 kn b2 jM tJ BW iG JQ HJ (aL2 0) w
def NT(kn:K6) b2 jM tJ BW iG JQ HJ w:=
 Xq (Hq kn) b2 jM tJ BW iG JQ HJ w
def NU(kn:K5) b2 jM tJ BW iG JQ HJ w:=
 NT (NQ kn) b2 jM tJ BW iG JQ HJ w
theorem adM(kn:K6)(hn:N6 Q kn 2 3 6 7 8 14)(h:NT kn (g 2) (g 3) (g 6) (g 7) (g 8) (g 9) (g 14) w):dM pg fO (bL 1 (aO 1 (aO 1 (aO 1 (bI (bL 1 (aO 1 (bI (bI (aO 1 (bL 1 (aO 2 (aO 1 (aO 1 (aO 1 (aO 3 eL)))))))))))))))) Q g w:=
 dN 1 (iS (Mq8 (Hq kn) 2 3 6 7 8 9 14 15) h (λg w h=>aJ (BK 8 (adL _ g w kn hn h))))
def Xr(kn:K7) b2 jM tJ BW iG JQ w:=
 aA pg (aB 181 tJ) w λs6 w=>
 aA pg (bE 181) w λHJ w=>
 aA pg (aF 181 HJ s6) w λ_u w=>
 kn b2 jM tJ BW iG JQ HJ w
def NV(kn:K5) b2 jM tJ BW iG JQ w:=
 Xr (NU kn) b2 jM tJ BW iG JQ w
def NW(kn:K7) b2 jM tJ BW iG JQ c0 w:=
 aA pg (aE .add 3 aN aN c0 (aL2 1)) w λj1 w=>
 kn b2 jM tJ BW iG JQ j1 w
def Xs(kn:K7)(k6:K6) b2 jM tJ BW iG JQ c0 w:=
 aA pg (aE .lss 3 aN aN c0 (aL2 64)) w λi9 w=>
 cS i9
  (aA pg (aE .lss 3 aN aN c0 (aL2 16)) w λj3 w=>
  cS j3
   (aA pg (aE .mul 3 aN aN (aL2 4) c0) w λj6 w=>
   aA pg (aE .add 3 aN aN iG j6) w λj7 w=>
   (dr w)=(dr w)/\
   (dr w)=(dr w)/\
   (dr w)=(dr w)/\
   aA pg (aR 22 jM j7) (dr w) λl1 w_=>w_=(dr w)/\
   aA pg (aB 5 l1) (dr w) λl2 w_=>w_=(dr w)/\
   aA pg (cP 5 27 l2) (dr w) λl3 w_=>w_=(dr w)/\
   aA pg (aE .shl 27 aN aN l3 (.int .u64 24)) (dr w) λl4 w_=>w_=(dr w)/\
   (dr w)=(dr w)/\
   (dr w)=(dr w)/\
   aA pg (aE .add 3 aN aN j7 (aL2 1)) (dr w) λl7 w_=>w_=(dr w)/\
   aA pg (aR 22 jM l7) (dr w) λl8 w_=>w_=(dr w)/\
   aA pg (aB 5 l8) (dr w) λl9 w_=>w_=(dr w)/\
   aA pg (cP 5 27 l9) (dr w) λm0 w_=>w_=(dr w)/\
   aA pg (aE .shl 27 aN aN m0 (.int .u64 16)) (dr w) λm1 w_=>w_=(dr w)/\
   aA pg (aE .or 27 aN aN l4 m1) (dr w) λm2 w_=>w_=(dr w)/\
   (dr w)=(dr w)/\
   (dr w)=(dr w)/\
   aA pg (aE .add 3 aN aN j7 (aL2 2)) (dr w) λm5 w_=>w_=(dr w)/\
   aA pg (aR 22 jM m5) (dr w) λm6 w_=>w_=(dr w)/\
   aA pg (aB 5 m6) (dr w) λm7 w_=>w_=(dr w)/\
   aA pg (cP 5 27 m7) (dr w) λm8 w_=>w_=(dr w)/\
   aA pg (aE .shl 27 aN aN m8 (.int .u64 8)) (dr w) λm9 w_=>w_=(dr w)/\
   aA pg (aE .or 27 aN aN m2 m9) (dr w) λn0 w_=>w_=(dr w)/\
   (dr w)=(dr w)/\
   (dr w)=(dr w)/\
   aA pg (aE .add 3 aN aN j7 (aL2 3)) (dr w) λn3 w_=>w_=(dr w)/\
   aA pg (aR 22 jM n3) (dr w) λn4 w_=>w_=(dr w)/\
   aA pg (aB 5 n4) (dr w) λn5 w_=>w_=(dr w)/\
   aA pg (cP 5 27 n5) (dr w) λn6 w_=>w_=(dr w)/\
   aA pg (aE .or 27 aN aN n0 n6) (dr w) λn7 w_=>w_=(dr w)/\
   aA pg (aR 204 JQ c0) (dr w) λn8 w_=>w_=(dr w)/\
   aA pg (aF 27 n8 n7) (dr w) λ_u31 aHr=>
   kn b2 jM tJ BW iG JQ c0 aHr)
   (aA pg (aE .sub 3 aN aN c0 (aL2 15)) w λo0 w=>
   aA pg (aR 204 JQ o0) w λo1 w=>
   aA pg (aB 27 o1) w λo2 w=>
   aA pg (aE .sub 3 aN aN c0 (aL2 2)) w λo4 w=>
   aA pg (aR 204 JQ o4) w λo5 w=>
   aA pg (aB 27 o5) w λo6 w=>
   (dr w)=(dr w)/\
   (dr w)=(dr w)/\
   aA pg (aE .sub 3 aN aN c0 (aL2 16)) (dr w) λo9 w_=>w_=(dr w)/\
   aA pg (aR 204 JQ o9) (dr w) λp0 w_=>w_=(dr w)/\
   aA pg (aB 27 p0) (dr w) λp1 w_=>w_=(dr w)/\
   (dr w)=(dr w)/\
   aG pg fZ #[o2,(.int .u64 7)] (dr w) λp3 Tb=>
   (aP pg (aB 27 p0) p1 Tb/\aP pg (aR 204 JQ o9) p0 Tb/\aP pg (aE .sub 3 aN aN c0 (aL2 16)) o9 Tb/\True)/\
   Tb=Tb/\
   aG pg fZ #[o2,(.int .u64 18)] Tb λp5 tF=>
   (aP pg (aB 27 p0) p1 tF/\aP pg (aR 204 JQ o9) p0 tF/\aP pg (aE .sub 3 aN aN c0 (aL2 16)) o9 tF/\True)/\
   aA pg (aE .xor 27 aN aN p3 p5) tF λp6 w_=>w_=tF/\
   tF=tF/\
   aA pg (aE .shr 27 aN aN o2 (.int .u64 3)) tF λp8 w_=>w_=tF/\
   (aP pg (aE .shr 27 aN aN o2 (.int .u64 3)) p8 Tb/\aP pg (aE .shr 27 aN aN o2 (.int .u64 3)) p8 (dr w)/\True)/\
   aA pg (aE .xor 27 aN aN p6 p8) tF λp9 w_=>w_=tF/\
   aA pg (aE .add 27 aN aN p1 p9) tF λq0 w_=>w_=tF/\
   tF=tF/\
   aA pg (aE .sub 3 aN aN c0 (aL2 7)) tF λq2 w_=>w_=tF/\
   (aP pg (aE .sub 3 aN aN c0 (aL2 7)) q2 Tb/\aP pg (aE .sub 3 aN aN c0 (aL2 7)) q2 (dr w)/\True)/\
   aA pg (aR 204 JQ q2) tF λq3 w_=>w_=tF/\
   (aP pg (aR 204 JQ q2) q3 Tb/\aP pg (aR 204 JQ q2) q3 (dr w)/\True)/\
   aA pg (aB 27 q3) tF λq4 w_=>w_=tF/\
   (aP pg (aB 27 q3) q4 Tb/\aP pg (aB 27 q3) q4 (dr w)/\True)/\
   aA pg (aE .add 27 aN aN q0 q4) tF λq5 w_=>w_=tF/\
   tF=tF/\
   aG pg fZ #[o6,(.int .u64 17)] tF λq7 B9=>
   (aP pg (aE .add 27 aN aN q0 q4) q5 B9/\aP pg (aB 27 q3) q4 B9/\aP pg (aR 204 JQ q2) q3 B9/\aP pg (aE .sub 3 aN aN c0 (aL2 7)) q2 B9/\aP pg (aE .add 27 aN aN p1 p9) q0 B9/\aP pg (aE .xor 27 aN aN p6 p8) p9 B9/\aP pg (aE .shr 27 aN aN o2 (.int .u64 3)) p8 B9/\aP pg (aE .xor 27 aN aN p3 p5) p6 B9/\aP pg (aB 27 p0) p1 B9/\aP pg (aR 204 JQ o9) p0 B9/\aP pg (aE .sub 3 aN aN c0 (aL2 16)) o9 B9/\True)/\
   B9=B9/\
   aG pg fZ #[o6,(.int .u64 19)] B9 λq9 oU=>
   (aP pg (aE .add 27 aN aN q0 q4) q5 oU/\aP pg (aB 27 q3) q4 oU/\aP pg (aR 204 JQ q2) q3 oU/\aP pg (aE .sub 3 aN aN c0 (aL2 7)) q2 oU/\aP pg (aE .add 27 aN aN p1 p9) q0 oU/\aP pg (aE .xor 27 aN aN p6 p8) p9 oU/\aP pg (aE .shr 27 aN aN o2 (.int .u64 3)) p8 oU/\aP pg (aE .xor 27 aN aN p3 p5) p6 oU/\aP pg (aB 27 p0) p1 oU/\aP pg (aR 204 JQ o9) p0 oU/\aP pg (aE .sub 3 aN aN c0 (aL2 16)) o9 oU/\True)/\
   aA pg (aE .xor 27 aN aN q7 q9) oU λs0 w_=>w_=oU/\
   oU=oU/\
   aA pg (aE .shr 27 aN aN o6 (.int .u64 10)) oU λs2 w_=>w_=oU/\
   (aP pg (aE .shr 27 aN aN o6 (.int .u64 10)) s2 B9/\aP pg (aE .shr 27 aN aN o6 (.int .u64 10)) s2 tF/\aP pg (aE .shr 27 aN aN o6 (.int .u64 10)) s2 Tb/\aP pg (aE .shr 27 aN aN o6 (.int .u64 10)) s2 (dr w)/\True)/\
   aA pg (aE .xor 27 aN aN s0 s2) oU λs3 w_=>w_=oU/\
   aA pg (aE .add 27 aN aN q5 s3) oU λs4 w_=>w_=oU/\
   aA pg (aR 204 JQ c0) oU λs5 w_=>w_=oU/\
   aA pg (aF 27 s5 s4) oU λ_u29 aHs=>
   kn b2 jM tJ BW iG JQ c0 aHs))
  (k6 b2 jM tJ BW iG JQ w)
def NX(kn:K7)(k6:K6) b2 jM tJ BW iG JQ c0 w:=
 Xs (NW kn) k6 b2 jM tJ BW iG JQ c0 w
def Hr(k6:K6) b2 jM tJ BW iG JQ c0 w:=
 bM (λ(X:aL1->K0) (t:aL1) (w:aL0)=>NX (λ_ _ _ _ _ _ c0 w=>X c0 w) k6 b2 jM tJ BW iG JQ t w) c0 w
theorem adN(k6:K6)(h6:E6 Q k6 6 2 3 6 7 8 9)(h:Hr k6 (g 2) (g 3) (g 6) (g 7) (g 8) (g 9) (g 10) w):dM pg fO (bI (aO 1 (bL 1 (aO 1 (bI (bL 1 (aO 1 (bI (bI (aO 1 (bL 1 (aO 2 (aO 1 (aO 1 (aO 1 (aO 3 eL)))))))))))))))) Q g w:=by
 refine Fl (λg:Env=>g 10) (λX t w=>NX (λ_ _ _ _ _ _ c0 w=>X c0 w) k6 (g 2) (g 3) (g 6) (g 7) (g 8) (g 9) t w) h (λX g1 w1 ha hL=> ?_)
 rw[<-fC 2 ha,<-fC 3 ha,<-fC 6 ha,<-fC 7 ha,<-fC 8 ha,<-fC 9 ha]at hL
 exact(dN 2 (El [(6,(Mq6 k6 2 3 6 7 8 9))] (kr:=no) (Mq7 (NW (λ_ _ _ _ _ _ c0 w=>X c0 w)) 2 3 6 7 8 9 10) hL (λg w h=>aJ (iS (Mq7 (λ_ _ _ _ _ _ c0 w=>X c0 w) 2 3 6 7 8 9 10) h dE)) JO ⟨h6,trivial⟩))
def Xt(kn:K7) b2 jM tJ BW iG JQ w:=
 kn b2 jM tJ BW iG JQ (aL2 0) w
def NY(kn:K6) b2 jM tJ BW iG JQ w:=
 Xt (Hr kn) b2 jM tJ BW iG JQ w
def NZ(kn:K5) b2 jM tJ BW iG JQ w:=
 NY (NV kn) b2 jM tJ BW iG JQ w
theorem adO(kn:K6)(hn:N6 Q kn 2 3 6 7 8 9)(h:NY kn (g 2) (g 3) (g 6) (g 7) (g 8) (g 9) w):dM pg fO (bL 1 (aO 1 (bI (bL 1 (aO 1 (bI (bI (aO 1 (bL 1 (aO 2 (aO 1 (aO 1 (aO 1 (aO 3 eL)))))))))))))) Q g w:=
 dN 1 (iS (Mq7 (Hr kn) 2 3 6 7 8 9 10) h (λg w h=>aJ (BK 6 (adN _ g w kn hn h))))
def Xu(kn:K6) b2 jM tJ BW iG w:=
 aA pg (bE 204) w λJQ w=>
 kn b2 jM tJ BW iG JQ w
def Di(kn:K5) b2 jM tJ BW iG w:=
 Xu (NZ kn) b2 jM tJ BW iG w
def Oa(kn:K5) b2 jM tJ BW iG w:=
 Di (NO kn) b2 jM tJ BW iG w
theorem adP(kn:K5)(hn:N5 Q kn 2 3 6 7 8)(h:Di kn (g 2) (g 3) (g 6) (g 7) (g 8) w):dM pg fO (bL 1 (aO 1 (bI (bI (aO 1 (bL 1 (aO 2 (aO 1 (aO 1 (aO 1 (aO 3 eL))))))))))) Q g w:=
 BK 5 (dN 1 (iS (Mq6 (NZ kn) 2 3 6 7 8 9) h (λg w h=>aJ (dN 1 (adO _ g w (NV kn) (λg w h=>aJ (dN 1 (iS (Mq7 (NU kn) 2 3 6 7 8 9 14) h (λg w h=>aJ (dN 1 (adM _ g w (NQ kn) (λg w h=>aJ (dN 1 (iS (Mq7 (Hp kn) 2 3 6 7 8 14 16) h (λg w h=>aJ (BK 10 (adK _ g w kn hn h)))))) h)))))) h)))))
def Xv(kn:K5)(k4:K2) b2 jM tJ BW iG w:=
 aA pg (eK .len #[22] 3 [jM]) w λi4 w=>
 aA pg (aE .lss 3 aN aN iG i4) w λi5 w=>
 cS i5
  (kn b2 jM tJ BW iG w)
  (k4 b2 tJ w)
def Ob(kn:K5)(k4:K2) b2 jM tJ BW iG w:=
 Xv (Oa kn) k4 b2 jM tJ BW iG w
def Hs(k4:K2) b2 jM tJ BW iG w:=
 bM (λ(X:aL1->K0) (t:aL1) (w:aL0)=>Ob (λ_ _ _ _ iG w=>X iG w) k4 b2 jM tJ BW t w) iG w
theorem adQ(k4:K2)(h4:E2 Q k4 4 2 6)(h:Hs k4 (g 2) (g 3) (g 6) (g 7) (g 8) w):dM pg fO (bI (aO 1 (bL 1 (aO 2 (aO 1 (aO 1 (aO 1 (aO 3 eL)))))))) Q g w:=by
 refine Fl (λg:Env=>g 8) (λX t w=>Ob (λ_ _ _ _ iG w=>X iG w) k4 (g 2) (g 3) (g 6) (g 7) t w) h (λX g1 w1 ha hL=> ?_)
 rw[<-fC 2 ha,<-fC 3 ha,<-fC 6 ha,<-fC 7 ha]at hL
 exact(dN 1 (El [(4,(Qv k4 2 6))] (kr:=no) (YN (Oa (λ_ _ _ _ iG w=>X iG w)) 2 3 6 7 8) hL (λg w h=>aJ (dN 1 (adP _ g w (NO (λ_ _ _ _ iG w=>X iG w)) (λg w h=>aJ (iS (YN (λ_ _ _ _ iG w=>X iG w) 2 3 6 7 8) h dE)) h))) JO ⟨h4,trivial⟩))
def Xw(kn:K5) b2 jM tJ BW w:=
 kn b2 jM tJ BW (aL2 0) w
def Oc(kn:K2) b2 jM tJ BW w:=
 Xw (Hs kn) b2 jM tJ BW w
def Od(R:K1) b2 jM tJ BW w:=
 Oc (R2 R) b2 jM tJ BW w
theorem adR(kn:K2)(hn:N2 Q kn 2 6)(h:Oc kn (g 2) (g 3) (g 6) (g 7) w):dM pg fO (bL 1 (aO 2 (aO 1 (aO 1 (aO 1 (aO 3 eL)))))) Q g w:=
 dN 1 (iS (YN (Hs kn) 2 3 6 7 8) h (λg w h=>aJ (BK 4 (adQ _ g w kn hn h))))
def Xx(kn:K4) b2 jM w:=
 aA pg (bV 181 [(0,(.int .u32 1779033703)),(1,(.int .u32 3144134277)),(2,(.int .u32 1013904242)),(3,(.int .u32 2773480762)),(4,(.int .u32 1359893119)),(5,(.int .u32 2600822924)),(6,(.int .u32 528734635)),(7,(.int .u32 1541459225))]) w λi0 w=>
 aA pg (bE 181) w λtJ w=>
 aA pg (aF 181 tJ i0) w λ_u w=>
 aG pg EU #[] w λi1 w=>
 aA pg (bE 204) w λBW w=>
 aA pg (aF 204 BW i1) w λ_u w=>
 kn b2 jM tJ BW w
def Oe(R:K1) b2 jM w:=
 Xx (Od R) b2 jM w
def Of(kn:K4)(k2:K2) b2 jM n_4 xL w:=
 aA pg (aE .lss 3 aN aN xL (aL2 8)) w λe7 w=>
 cS e7
  (aA pg (aE .mul 3 aN aN (aL2 8) xL) w λf3 w=>
  aA pg (aE .sub 3 aN aN (aL2 56) f3) w λf4 w=>
  aA pg (cP 3 194 f4) w λf5 w=>
  aA pg (aE .shr 26 aN aN n_4 f5) w λf6 w=>
  aA pg (cP 26 5 f6) w λf7 w=>
  aA pg (bB 22 1 [(0,f7)]) w λf8 w=>
  aA pg (eK .append #[22,22] 22 [jM,f8]) w λf9 w=>
  aA pg (aE .add 3 aN aN xL (aL2 1)) w λe9 w=>
  kn b2 f9 n_4 e9 w)
  (k2 b2 jM w)
def Ht(k2:K2) b2 jM n_4 xL w:=
 bM (λ(X:(aL1×aL1)->K0) (t:aL1×aL1) (w:aL0)=>Of (λ_ jM _ xL w=>X (jM,xL) w) k2 b2 t.1 n_4 t.2 w) (jM,xL) w
theorem adS(k2:K2)(h2:E2 Q k2 2 2 3)(h:Ht k2 (g 2) (g 3) (g 4) (g 5) w):dM pg fO (bI (aO 1 (bL 1 (aO 1 (aO 1 (aO 3 eL)))))) Q g w:=by
 refine Fl (λg:Env=>(g 3,g 5)) (λX t w=>Of (λ_ jM _ xL w=>X (jM,xL) w) k2 (g 2) t.1 (g 4) t.2 w) h (λX g1 w1 ha hL=> ?_)
 rw[<-fC 2 ha,<-fC 4 ha]at hL
 exact(El [(2,(Qv k2 2 3))] (kr:=no) (CN (λ_ jM _ xL w=>X (jM,xL) w) 2 3 4 5) hL dE JO ⟨h2,trivial⟩)
def Xy(kn:K4) b2 jM n_4 w:=
 kn b2 jM n_4 (aL2 0) w
def Og(kn:K2) b2 jM n_4 w:=
 Xy (Ht kn) b2 jM n_4 w
def Oh(R:K1) b2 jM n_4 w:=
 Og (Oe R) b2 jM n_4 w
theorem adT(kn:K2)(hn:N2 Q kn 2 3)(h:Og kn (g 2) (g 3) (g 4) w):dM pg fO (bL 1 (aO 1 (aO 1 (aO 3 eL)))) Q g w:=
 dN 1 (iS (CN (Ht kn) 2 3 4 5) h (λg w h=>aJ (BK 2 (adS _ g w kn hn h))))
def Xz(kn:K3) fB b2 jM w:=
 aA pg (eK .len #[9] 3 [fB]) w λe3 w=>
 aA pg (cP 3 26 e3) w λe4 w=>
 aA pg (aE .mul 26 aN aN e4 (.int .u64 8)) w λe5 w=>
 kn b2 jM e5 w
def Oi(R:K1) fB b2 jM w:=
 Xz (Oh R) fB b2 jM w
def Oj(kn:K3)(k0:K3) fB b2 jM w:=
 aA pg (eK .len #[22] 3 [jM]) w λd5 w=>
 aA pg (aE .add 3 aN aN d5 (aL2 8)) w λd6 w=>
 aA pg (aE .rem 3 aN aN d6 (aL2 64)) w λd7 w=>
 aA pg (aE .neq 3 (.tmp 27) (.const (aL2 0)) d7 (aL2 0)) w λd8 w=>
 cS d8
  (aA pg (bB 22 1 [(0,(.int .u8 0))]) w λe0 w=>
  aA pg (eK .append #[22,22] 22 [jM,e0]) w λe1 w=>
  kn fB b2 e1 w)
  (k0 fB b2 jM w)
def Hu(k0:K3) fB b2 jM w:=
 bM (λ(X:aL1->K0) (t:aL1) (w:aL0)=>Oj (λ_ _ jM w=>X jM w) k0 fB b2 t w) jM w
theorem adU(k0:K3)(h0:E3 Q k0 0 0 2 3)(h:Hu k0 (g 0) (g 2) (g 3) w):dM pg fO (bI (bL 1 (aO 3 eL))) Q g w:=by
 refine Fl (λg:Env=>g 3) (λX t w=>Oj (λ_ _ jM w=>X jM w) k0 (g 0) (g 2) t w) h (λX g1 w1 ha hL=> ?_)
 rw[<-fC 0 ha,<-fC 2 ha]at hL
 exact(El [(0,(GO k0 0 2 3))] (kr:=no) (GO (λ_ _ jM w=>X jM w) 0 2 3) hL dE JO ⟨h0,trivial⟩)
def Ok(R:K1) fB b2 jM w:=
 Hu (Oi R) fB b2 jM w
theorem adV(kn:K3)(hn:N3 Q kn 0 2 3)(h:Hu kn (g 0) (g 2) (g 3) w):dM pg fO (bL 1 (aO 3 eL)) Q g w:=
 BK 0 (adU _ g w kn hn h)
def XA(kn:K3) fB w:=
 aA pg (bE 70) w λb2 w=>
 aA pg (cP 9 22 fB) w λd0 w=>
 aA pg (bB 22 1 [(0,(.int .u8 128))]) w λd2 w=>
 aA pg (eK .append #[22,22] 22 [d0,d2]) w λd3 w=>
 kn fB b2 d3 w
def XB(R:K1) fB w:=
 XA (Ok R) fB w
def avD a0 w(R:K1):=
 XB R a0 w
theorem amD{a0 w R}(h:avD a0 w R):aG pg M9 #[a0] w R:=
 jX (ann:=fO) Tryz.f110 eL [a0] avL 179 TryzM.mixed Tryz.func110 (dN 3 (iS (GO (Ok R) 0 2 3) h (λg w h=>aJ (dN 1 (adV _ g w (Oi R) (λg w h=>aJ (dN 1 (iS (GO (Oh R) 2 3 4) h (λg w h=>aJ (dN 1 (adT _ g w (Oe R) (λg w h=>aJ (dN 2 (iS (CN (Od R) 2 3 6 7) h (λg w h=>aJ (dN 1 (adR _ g w (R2 R) (λg w h=>aJ (dN 1 (iS (GO (R1 R) 2 6 17) h (λg w h=>aJ (dN 1 (aiM _ g w (RY R) (λg w h=>aJ (kL h dE)) h)))))) h)))))) h)))))) h)))))
def AA:FA:=⟨iU,λi=>match Nat.beq i 3 with|true=> .leaf ([],[]) (fz 7 [])|false=> .leaf ([],[]) []⟩
def Bd:List ResultVar:=[]
noncomputable def yJ:Code:=bA Tryz.f111
def rK(kn:K4)(k0:K0)(R:K1) rD b1 b2 wG w:=
 aA pg (aB 22 b1) w λb7 w=>
 aA pg (eK .len #[22] 3 [b7]) w λb8 w=>
 aA pg (aE .lss 3 aN aN wG b8) w λb9 w=>
 cS b9
  (aA pg (aB 3 b2) (dr w) λc3 w_=>w_=(dr w)/\
  aA pg (aB 22 b1) (dr w) λc4 w_=>w_=(dr w)/\
  (dr w)=(dr w)/\
  aA pg (dH 22 c4 (some wG) none none) (dr w) λc6 w_=>w_=(dr w)/\
  aA pg (eK .len #[22] 3 [c6]) (dr w) λc7 w_=>w_=(dr w)/\
  aA pg (eK .min #[3,3] 3 [c3,c7]) (dr w) λc8 w_=>w_=(dr w)/\
  (dr w)=(dr w)/\
  aA pg (aB 22 b1) (dr w) λd0 w=>
  aA pg (aE .add 3 aN aN wG c8) w λd4 w=>
  aA pg (aE .add 3 aN aN wG c8) w λd7 w=>
  aA pg (dH 22 d0 (some wG) (some d4) (some d7)) w λd8 w=>
  aA pg (AO rD [d8]) w λd9 w=>
  aA pg (G2 .not d9) w λe0 w=>
  cS e0
   (R (.tuple #[]) w)
   (aA pg (aB 3 b2) w λc1 w=>
   aA pg (aE .add 3 aN aN wG c1) w λc2 w=>
   kn rD b1 b2 c2 w))
  (k0 w)
def mB(k0:K0)(R:K1) rD b1 b2 wG w:=
 bM (λ(X:aL1->K0) (t:aL1) (w:aL0)=>rK (λ_ _ _ wG w=>X wG w) k0 R rD b1 b2 t w) wG w
theorem HI(k0:K0)(R:K1)(h0:E0 Q k0 0)(hr:HR Bd R Q)(h:mB k0 R (g 0) (g 1) (g 2) (g 4) w):dM pg AA (bI (aO 1 yJ)) Q g w:=by
 refine Fl (λg:Env=>g 4) (λX t w=>rK (λ_ _ _ wG w=>X wG w) k0 R (g 0) (g 1) (g 2) t w) h (λX g1 w1 ha hL=> ?_)
 rw[<-fC 0 ha,<-fC 1 ha,<-fC 2 ha]at hL
 exact(El [(0,(Mq0 k0))] (CN (λ_ _ _ wG w=>X wG w) 0 1 2 4) hL dE hr ⟨h0,trivial⟩)
def Bj(kn:K4) rD b1 b2 w:=
 kn rD b1 b2 (aL2 0) w
def Bk(kn:K0)(R:K1) rD b1 b2 w:=
 Bj (mB kn R) rD b1 b2 w
def DT a0 a1 a2 w(R:K1):=
 Bk (λw=>R (.tuple #[]) w) R a0 a1 a2 w
theorem Jq{a0 a1 a2 w R}(h:DT a0 a1 a2 w R):aG pg iU #[a0,a1,a2] w R:=
 jX (ann:=AA) Tryz.f111 yJ [a0,a1,a2] Bd 31 TryzM.mixed Tryz.func111 (dN 1 (iS (CN (mB (λw=>R (.tuple #[]) w) R) 0 1 2 4) h (λg w h=>aJ (BK 0 (HI _ g w (λw=>R (.tuple #[]) w) R dE dE h)))))
def Nb:FA:=⟨qL,λi=> .leaf ([],[]) []⟩
def Qa:List ResultVar:=[.tmp 6]
noncomputable def LZ:Code:=bA Tryz.f112
def DO(R:K1) V7 Ep aH0 w:=
 aA pg (cQ V7) w λc0 w=>
 aA pg (aD 197 c0 1) w λc1 w=>
 aA pg (aB 31 c1) w λc2 w=>
 aA pg (aE .neq 31 (.tmp 12) (.const (aL2 0)) c2 (aL2 0)) w λc3 w=>
 cS c3
  (R (.slice none 0 0) w)
  (aA pg (G2 .not aH0) w λc6 w=>
  cS c6
   (aA pg (cQ V7) w λc8 w=>
   aA pg (aD 197 c8 1) w λc9 w=>
   aA pg (aF 31 c9 (aL2 1)) w λ_u w=>
   R (.slice none 0 0) w)
   (aA pg (cQ V7) w λd3 w=>
   aA pg (aD 197 d3 0) w λd4 w=>
   aA pg (aB 22 d4) w λd5 w=>
   aA pg (eK .len #[22] 3 [d5]) w λd6 w=>
   aA pg (aE .gtr 3 aN aN Ep d6) w λd7 w=>
   cS d7
    (aA pg (cQ V7) w λd9 w=>
    aA pg (aD 197 d9 1) w λe0 w=>
    aA pg (aF 31 e0 (aL2 10)) w λ_u w=>
    R (.slice none 0 0) w)
    (aA pg (cQ V7) w λe2 w=>
    aA pg (aD 197 e2 0) w λe3 w=>
    aA pg (aB 22 e3) w λe4 w=>
    aA pg (dH 22 e4 none (some Ep) (some Ep)) w λe7 w=>
    aA pg (cQ V7) w λf0 w=>
    aA pg (aD 197 f0 0) w λf1 w=>
    aA pg (aB 22 f1) w λf2 w=>
    aA pg (dH 22 f2 (some Ep) none none) w λf4 w=>
    aA pg (cQ V7) w λf5 w=>
    aA pg (aD 197 f5 0) w λf6 w=>
    aA pg (aF 22 f6 f4) w λ_u w=>
    R e7 w)))
def Ic a0 a1 a2 w(R:K1):=
 DO R a0 a1 a2 w
theorem L8 {a0 a1 a2 w R}(h:Ic a0 a1 a2 w R):aG pg qL #[a0,a1,a2] w R:=
 jX (ann:=Nb) Tryz.f112 LZ [a0,a1,a2] Qa 48 TryzM.mixed Tryz.func112 (kL h dE)
def asF:FA:=⟨YR,λi=> .leaf ([],[]) []⟩
def azE:List ResultVar:=[.tmp 0]
noncomputable def apQ:Code:=bA Tryz.f113
def ahA(R:K1) w:=
 aA pg (bV 222 [(0,(.int .u32 4294967295))]) w λb1 w=>
 aA pg (jK 222 b1) w λb2 w=>
 R b2 w
def aAn w(R:K1):=
 ahA R w
theorem apU{w R}(h:aAn w R):aG pg YR #[] w R:=
 jX (ann:=asF) Tryz.f113 apQ [] azE 3 TryzM.mixed Tryz.func113 (kL h dE)
def HX:FA:=⟨D9,λi=>match Nat.beq i 5 with|true=> .leaf ([16],[]) (fz 16 (ft [] []))|false=>match Nat.beq i 6 with|true=> .leaf ([16],[]) (fz 16 (ft [] []))|false=> .leaf ([],[]) []⟩
def Ym:List ResultVar:=[]
noncomputable def GP:Code:=bA Tryz.f114
def CY(kn:K4)(k0:K0) Bt b8 b9 c0 w:=
 aA pg (aE .lss 3 aN aN c0 b9) w λc1 w=>
 cS c1
  (aA pg (aR 22 b8 c0) w λc2 w=>
  aA pg (aB 5 c2) w λc3 w=>
  aA pg (cQ Bt) w λc5 w=>
  aA pg (aD 222 c5 0) w λc6 w=>
  aA pg (aB 27 c6) w λc7 w=>
  aA pg (cP 5 27 c3) w λc9 w=>
  aA pg (aE .xor 27 aN aN c7 c9) w λd0 w=>
  aA pg (cQ Bt) w λd1 w=>
  aA pg (aD 222 d1 0) w λd2 w=>
  aA pg (aF 27 d2 d0) w λ_u w=>
  (dr w)=(dr w)/\
  (dr w)=(dr w)/\
  aA pg (cQ Bt) (dr w) λd5 w_=>w_=(dr w)/\
  aA pg (aD 222 d5 0) (dr w) λd6 w_=>w_=(dr w)/\
  aA pg (aB 27 d6) (dr w) λd7 w_=>w_=(dr w)/\
  aA pg (aE .shr 27 aN aN d7 (.int .u64 4)) (dr w) λd8 w_=>w_=(dr w)/\
  (dr w)=(dr w)/\
  aA pg (cQ Bt) (dr w) λe0 w_=>w_=(dr w)/\
  aA pg (aD 222 e0 0) (dr w) λe1 w_=>w_=(dr w)/\
  aA pg (aB 27 e1) (dr w) λe2 w_=>w_=(dr w)/\
  aA pg (aE .and 27 aN aN e2 (.int .u32 15)) (dr w) λe3 w_=>w_=(dr w)/\
  aA pg (aR 223 (.pointer (some ⟨1,0,none⟩)) e3) (dr w) λe4 w_=>w_=(dr w)/\
  aA pg (aB 27 e4) (dr w) λe5 w_=>w_=(dr w)/\
  aA pg (aE .xor 27 aN aN d8 e5) (dr w) λe6 w_=>w_=(dr w)/\
  aA pg (cQ Bt) (dr w) λe7 w_=>w_=(dr w)/\
  aA pg (aD 222 e7 0) (dr w) λe8 w_=>w_=(dr w)/\
  aA pg (aF 27 e8 e6) (dr w) λ_u16 nU=>
  (dr nU)=(dr nU)/\
  (dr nU)=(dr nU)/\
  aA pg (cQ Bt) (dr nU) λf1 w_=>w_=(dr nU)/\
  aA pg (aD 222 f1 0) (dr nU) λf2 w_=>w_=(dr nU)/\
  aA pg (aB 27 f2) (dr nU) λf3 w_=>w_=(dr nU)/\
  aA pg (aE .shr 27 aN aN f3 (.int .u64 4)) (dr nU) λf4 w_=>w_=(dr nU)/\
  (dr nU)=(dr nU)/\
  aA pg (cQ Bt) (dr nU) λf6 w_=>w_=(dr nU)/\
  aA pg (aD 222 f6 0) (dr nU) λf7 w_=>w_=(dr nU)/\
  aA pg (aB 27 f7) (dr nU) λf8 w_=>w_=(dr nU)/\
  aA pg (aE .and 27 aN aN f8 (.int .u32 15)) (dr nU) λf9 w_=>w_=(dr nU)/\
  aA pg (aR 223 (.pointer (some ⟨1,0,none⟩)) f9) (dr nU) λi0 w_=>w_=(dr nU)/\
  aA pg (aB 27 i0) (dr nU) λi1 w_=>w_=(dr nU)/\
  aA pg (aE .xor 27 aN aN f4 i1) (dr nU) λi2 w_=>w_=(dr nU)/\
  aA pg (cQ Bt) (dr nU) λi3 w_=>w_=(dr nU)/\
  aA pg (aD 222 i3 0) (dr nU) λi4 w_=>w_=(dr nU)/\
  aA pg (aF 27 i4 i2) (dr nU) λ_u16 aIo=>
  aA pg (aE .add 3 aN aN c0 (aL2 1)) aIo λi5 w=>
  kn Bt b8 b9 i5 w)
  (k0 w)
def xC(k0:K0) Bt b8 b9 c0 w:=
 bM (λ(X:aL1->K0) (t:aL1) (w:aL0)=>CY (λ_ _ _ c0 w=>X c0 w) k0 Bt b8 b9 t w) c0 w
theorem QY(k0:K0)(h0:E0 Q k0 0)(h:xC k0 (g 0) (g 8) (g 9) (g 10) w):dM pg HX (bI (aO 2 GP)) Q g w:=by
 refine Fl (λg:Env=>g 10) (λX t w=>CY (λ_ _ _ c0 w=>X c0 w) k0 (g 0) (g 8) (g 9) t w) h (λX g1 w1 ha hL=> ?_)
 rw[<-fC 0 ha,<-fC 8 ha,<-fC 9 ha]at hL
 exact(El [(0,(Mq0 k0))] (kr:=no) (CN (λ_ _ _ c0 w=>X c0 w) 0 8 9 10) hL dE JO ⟨h0,trivial⟩)
def J7 (kn:K4)(R:K1) Bt zV w:=
 aA pg (aE .eql 201 (.tmp 6) (.const (.pointer none)) Bt (.pointer none)) w λb7 w=>
 cS b7
  (R (.tuple #[]) w)
  (aA pg (eK .len #[22] 3 [zV]) w λb9 w=>
  kn Bt zV b9 (aL2 0) w)
def J8 (kn:K0)(R:K1) Bt zV w:=
 J7 (xC kn) R Bt zV w
def QX a0 a1 w(R:K1):=
 J8 (λw=>R (.tuple #[]) w) R a0 a1 w
theorem TN{a0 a1 w R}(h:QX a0 a1 w R):aG pg D9 #[a0,a1] w R:=
 jX (ann:=HX) Tryz.f114 GP [a0,a1] Ym 56 TryzM.mixed Tryz.func114 (dN 2 (Up (CN (xC (λw=>R (.tuple #[]) w)) 0 8 9 10) h (λg w h=>aJ (BK 0 (QY _ g w (λw=>R (.tuple #[]) w) dE h))) dE))
def YT:FA:=⟨HV,λi=> .leaf ([],[]) []⟩
def aeQ:List ResultVar:=[.tmp 2]
noncomputable def Wo:Code:=bA Tryz.f115
def OQ(R:K1) Bt w:=
 aA pg (aE .eql 201 (.tmp 3) (.const (.pointer none)) Bt (.pointer none)) w λb4 w=>
 cS b4
  (R (.int .u32 0) w)
  (aA pg (cQ Bt) w λb6 w=>
  aA pg (aD 222 b6 0) w λb7 w=>
  aA pg (aB 27 b7) w λb8 w=>
  aA pg (G2 .xor b8) w λb9 w=>
  R b9 w)
def Wu a0 w(R:K1):=
 OQ R a0 w
theorem Wv{a0 w R}(h:Wu a0 w R):aG pg HV #[a0] w R:=
 jX (ann:=YT) Tryz.f115 Wo [a0] aeQ 10 TryzM.mixed Tryz.func115 (kL h dE)
def apJ:FA:=⟨HW,λi=>match Nat.beq i 1 with|true=> .leaf ([3,7],[(3,6),(3,11),(7,11)]) (fz 3 (ft [] (fz 2 (fu [2] (ft [] (fz 3 (fu [3,7] (fz 2 []))))))))|false=> .leaf ([],[]) []⟩
def avN:List ResultVar:=[.tmp 8]
noncomputable def alP:Code:=bA Tryz.f116
def abU(R:K1) AF xU tG axV w:=
 (dr w)=(dr w)/\
 (dr w)=(dr w)/\
 aA pg (G2 .neg xU) (dr w) λc1 w_=>w_=(dr w)/\
 aG pg dO #[AF,c1] (dr w) λc2 awT=>
 awT=awT/\
 awT=awT/\
 aA pg (G2 .neg tG) awT λc5 w_=>w_=awT/\
 (aP pg (G2 .neg tG) c5 (dr w)/\True)/\
 aG pg dO #[AF,c5] awT λc6 aaF=>
 aA pg (aE .xor 27 aN aN c2 c6) aaF λc7 w_=>w_=aaF/\
 aaF=aaF/\
 aaF=aaF/\
 aA pg (aE .shr 27 aN aN AF axV) aaF λd0 w_=>w_=aaF/\
 (aP pg (aE .shr 27 aN aN AF axV) d0 awT/\aP pg (aE .shr 27 aN aN AF axV) d0 (dr w)/\True)/\
 aA pg (aE .xor 27 aN aN c7 d0) aaF λd1 w_=>w_=aaF/\
 aaF=aaF/\
 R d1 aaF
def avZ a0 a1 a2 a3 w(R:K1):=
 abU R a0 a1 a2 a3 w
theorem amW{a0 a1 a2 a3 w R}(h:avZ a0 a1 a2 a3 w R):aG pg HW #[a0,a1,a2,a3] w R:=
 jX (ann:=apJ) Tryz.f116 alP [a0,a1,a2,a3] avN 22 TryzM.mixed Tryz.func116 (kL h dE)
def agR:FA:=⟨CJ,λi=> .leaf ([],[]) []⟩
def amU:List ResultVar:=[.tmp 8]
noncomputable def acV:Code:=bA Tryz.f117
def U6 (R:K1) AF xU tG c_3 w:=
 aA pg (G2 .neg xU) w λc1 w=>
 aG pg dO #[AF,c1] w λc2 w=>
 aA pg (G2 .neg tG) w λc5 w=>
 aG pg dO #[AF,c5] w λc6 w=>
 aA pg (aE .xor 27 aN aN c2 c6) w λc7 w=>
 aA pg (G2 .neg c_3) w λd0 w=>
 aG pg dO #[AF,d0] w λd1 w=>
 aA pg (aE .xor 27 aN aN c7 d1) w λd2 w=>
 R d2 w
def akH a0 a1 a2 a3 w(R:K1):=
 U6 R a0 a1 a2 a3 w
theorem aeZ{a0 a1 a2 a3 w R}(h:akH a0 a1 a2 a3 w R):aG pg CJ #[a0,a1,a2,a3] w R:=
 jX (ann:=agR) Tryz.f117 acV [a0,a1,a2,a3] amU 23 TryzM.mixed Tryz.func117 (kL h dE)
def eY:FA:=⟨cX,λi=>match Nat.beq i 4 with|true=> .leaf ([13],[]) (fz 13 (ft [] (fz 1 [])))|false=>match Nat.beq i 6 with|true=> .leaf ([15,17],[(4,15)]) (fz 15 (ft [10] (fz 1 (ft [] []))))|false=> .leaf ([],[]) []⟩
def Be:List ResultVar:=[]
noncomputable def eQ:Code:=bA Tryz.f118
def iL(kn:K4) cM xU tG pY w:=
 aA pg (aE .add 3 aN aN pY (aL2 1)) w λc4 w=>
 kn cM xU tG c4 w
def iM(kn:K5)(k2:K4) cM xU tG pY j_7 w:=
 (dr w)=(dr w)/\
 (dr w)=(dr w)/\
 aA pg (aE .gtr 3 aN aN j_7 xU) (dr w) λc8 w_=>w_=(dr w)/\
 (dr w)=(dr w)/\
 Gd (bG c8 true) (λK=>K cM (dr w)) (dr w) λd0 w_=>w_=(dr w)/\
 Gd (bG c8 true) (λK=>K j_7 (dr w)) (dr w) λd1 w_=>w_=(dr w)/\
 Gd (bG c8 true) (λK=>aA pg (aR 80 d0 d1) (dr w) K) (dr w) λd2 w_=>w_=(dr w)/\
 Gd (bG c8 true) (λK=>aA pg (aB 9 d2) (dr w) K) (dr w) λd3 w_=>w_=(dr w)/\
 Gd (bG c8 true) (λK=>K cM (dr w)) (dr w) λd4 w_=>w_=(dr w)/\
 Gd (bG c8 true) (λK=>K j_7 (dr w)) (dr w) λd5 w_=>w_=(dr w)/\
 Gd (bG c8 true) (λK=>aA pg (aE .sub 3 aN aN d5 (aL2 1)) (dr w) K) (dr w) λd6 w_=>w_=(dr w)/\
 Gd (bG c8 true) (λK=>aA pg (aR 80 d4 d6) (dr w) K) (dr w) λd7 w_=>w_=(dr w)/\
 Gd (bG c8 true) (λK=>aA pg (aB 9 d7) (dr w) K) (dr w) λd8 w_=>w_=(dr w)/\
 Gd (bG c8 true) (λK=>aG pg vG #[d3,d8] (dr w) K) (dr w) λd9 nI=>
 aA pg (cH c8 d9 (.bool false)) nI λe0 w_=>w_=nI/\
 cS e0
  ((dr nI)=(dr nI)/\
  (dr nI)=(dr nI)/\
  (dr nI)=(dr nI)/\
  (dr nI)=(dr nI)/\
  aA pg (aE .sub 3 aN aN j_7 (aL2 1)) (dr nI) λe7 w_=>w_=(dr nI)/\
  (dr nI)=(dr nI)/\
  (dr nI)=(dr nI)/\
  aA pg (aE .sub 3 aN aN j_7 (aL2 1)) (dr nI) λf0 w_=>w_=(dr nI)/\
  aA pg (aR 80 cM f0) (dr nI) λf1 w_=>w_=(dr nI)/\
  aA pg (aB 9 f1) (dr nI) λf2 w_=>w_=(dr nI)/\
  (dr nI)=(dr nI)/\
  (dr nI)=(dr nI)/\
  aA pg (aR 80 cM j_7) (dr nI) λf5 w_=>w_=(dr nI)/\
  aA pg (aB 9 f5) (dr nI) λf6 w_=>w_=(dr nI)/\
  aA pg (aR 80 cM j_7) (dr nI) λf7 w_=>w_=(dr nI)/\
  aA pg (aF 9 f7 f2) (dr nI) λ_u15 aA9=>
  (aP pg (aE .sub 3 aN aN j_7 (aL2 1)) e7 aA9/\True)/\
  aA pg (aR 80 cM e7) aA9 λf8 w_=>w_=aA9/\
  aA pg (aF 9 f8 f6) aA9 λ_u17 aIp=>
  aA pg (aE .sub 3 aN aN j_7 (aL2 1)) aIp λe2 w=>
  kn cM xU tG pY e2 w)
  (k2 cM xU tG pY nI)
def fG(k2:K4) cM xU tG pY j_7 w:=
 bM (λ(X:aL1->K0) (t:aL1) (w:aL0)=>iM (λ_ _ _ _ j_7 w=>X j_7 w) k2 cM xU tG pY t w) j_7 w
theorem zJ(k2:K4)(h2:E4 Q k2 2 0 1 2 6)(h:fG k2 (g 0) (g 1) (g 2) (g 6) (g 7) w):dM pg eY (bI (aO 1 (bI (bL 1 (aO 1 (bI (bI (aO 1 eQ)))))))) Q g w:=by
 refine Fl (λg:Env=>g 7) (λX t w=>iM (λ_ _ _ _ j_7 w=>X j_7 w) k2 (g 0) (g 1) (g 2) (g 6) t w) h (λX g1 w1 ha hL=> ?_)
 rw[<-fC 0 ha,<-fC 1 ha,<-fC 2 ha,<-fC 6 ha]at hL
 exact(El [(2,(CN k2 0 1 2 6))] (kr:=no) (YN (λ_ _ _ _ j_7 w=>X j_7 w) 0 1 2 6 7) hL dE JO ⟨h2,trivial⟩)
def oY(kn:K5) cM xU tG pY w:=
 kn cM xU tG pY pY w
def iN(kn:K4) cM xU tG pY w:=
 oY (fG kn) cM xU tG pY w
def iO(kn:K4) cM xU tG pY w:=
 iN (iL kn) cM xU tG pY w
theorem zK(kn:K4)(hn:N4 Q kn 0 1 2 6)(h:iN kn (g 0) (g 1) (g 2) (g 6) w):dM pg eY (bL 1 (aO 1 (bI (bI (aO 1 eQ))))) Q g w:=
 BK 1 (dN 1 (iS (YN (fG kn) 0 1 2 6 7) h (λg w h=>aJ (BK 2 (zJ _ g w kn hn h)))))
def iP(kn:K4)(k0:K0) cM xU tG pY w:=
 aA pg (aE .lss 3 aN aN pY tG) w λc2 w=>
 cS c2
  (kn cM xU tG pY w)
  (k0 w)
def fA(kn:K4)(k0:K0) cM xU tG pY w:=
 iP (iO kn) k0 cM xU tG pY w
def dL(k0:K0) cM xU tG pY w:=
 bM (λ(X:aL1->K0) (t:aL1) (w:aL0)=>fA (λ_ _ _ pY w=>X pY w) k0 cM xU tG t w) pY w
theorem xZ(k0:K0)(h0:E0 Q k0 0)(h:dL k0 (g 0) (g 1) (g 2) (g 6) w):dM pg eY (bI (aO 1 eQ)) Q g w:=by
 refine Fl (λg:Env=>g 6) (λX t w=>fA (λ_ _ _ pY w=>X pY w) k0 (g 0) (g 1) (g 2) t w) h (λX g1 w1 ha hL=> ?_)
 rw[<-fC 0 ha,<-fC 1 ha,<-fC 2 ha]at hL
 exact(dN 1 (El [(0,(Mq0 k0))] (kr:=no) (CN (iO (λ_ _ _ pY w=>X pY w)) 0 1 2 6) hL (λg w h=>aJ (dN 1 (zK _ g w (iL (λ_ _ _ pY w=>X pY w)) (λg w h=>aJ (iS (CN (λ_ _ _ pY w=>X pY w) 0 1 2 6) h dE)) h))) JO ⟨h0,trivial⟩))
def hU(kn:K4) cM xU tG w:=
 aA pg (aE .add 3 aN aN xU (aL2 1)) w λb9 w=>
 kn cM xU tG b9 w
def iA(kn:K0) cM xU tG w:=
 hU (dL kn) cM xU tG w
def kF a0 a1 a2 w(R:K1):=
 iA (λw=>R (.tuple #[]) w) a0 a1 a2 w
theorem nG{a0 a1 a2 w R}(h:kF a0 a1 a2 w R):aG pg cX #[a0,a1,a2] w R:=
 jX (ann:=eY) Tryz.f118 eQ [a0,a1,a2] Be 49 TryzM.mixed Tryz.func118 (dN 1 (iS (CN (dL (λw=>R (.tuple #[]) w)) 0 1 2 6) h (λg w h=>aJ (BK 0 (xZ _ g w (λw=>R (.tuple #[]) w) dE h)))))
def Wg:FA:=⟨vG,λi=> .leaf ([],[]) []⟩
def Z1:List ResultVar:=[.tmp 4]
noncomputable def Vp:Code:=bA Tryz.f124
def LY(R:K1) AF y_1 w:=
 aG pg sH #[AF] w λb6 w=>
 Gd (bG b6 true) (λK=>K y_1 w) w λb8 w=>
 Gd (bG b6 true) (λK=>aG pg sH #[b8] w K) w λb9 w=>
 Gd (bG b6 true) (λK=>aA pg (G2 .not b9) w K) w λc0 w=>
 aA pg (cH b6 c0 (.bool false)) w λc1 w=>
 Gd (bG c1 false) (λK=>K AF w) w λc3 w=>
 Gd (bG c1 false) (λK=>K y_1 w) w λc4 w=>
 Gd (bG c1 false) (λK=>aA pg (aE .lss 9 aN aN c3 c4) w K) w λc5 w=>
 aA pg (cH c1 (.bool true) c5) w λc6 w=>
 R c6 w
def Um a0 a1 w(R:K1):=
 LY R a0 a1 w
theorem Vo{a0 a1 w R}(h:Um a0 a1 w R):aG pg vG #[a0,a1] w R:=
 jX (ann:=Wg) Tryz.f124 Vp [a0,a1] Z1 17 TryzM.mixed Tryz.func124 (kL h dE)
def TB:FA:=⟨wY,λi=> .leaf ([],[]) []⟩
def VO:List ResultVar:=[.tmp 2]
noncomputable def QT:Code:=bA Tryz.f128
def uT(R:K1) AF n_2 w:=
 aA pg (cP 26 5 AF) w λd1 w=>
 aA pg (VS 9 (.string ⟨#[0,1,2,2,3,3,3,3,4,4,4,4,4,4,4,4,5,5,5,5,5,5,5,5,5,5,5,5,5,5,5,5,6,6,6,6,6,6,6,6,6,6,6,6,6,6,6,6,6,6,6,6,6,6,6,6,6,6,6,6,6,6,6,6,7,7,7,7,7,7,7,7,7,7,7,7,7,7,7,7,7,7,7,7,7,7,7,7,7,7,7,7,7,7,7,7,7,7,7,7,7,7,7,7,7,7,7,7,7,7,7,7,7,7,7,7,7,7,7,7,7,7,7,7,7,7,7,7,8,8,8,8,8,8,8,8,8,8,8,8,8,8,8,8,8,8,8,8,8,8,8,8,8,8,8,8,8,8,8,8,8,8,8,8,8,8,8,8,8,8,8,8,8,8,8,8,8,8,8,8,8,8,8,8,8,8,8,8,8,8,8,8,8,8,8,8,8,8,8,8,8,8,8,8,8,8,8,8,8,8,8,8,8,8,8,8,8,8,8,8,8,8,8,8,8,8,8,8,8,8,8,8,8,8,8,8,8,8,8,8,8,8,8,8,8,8,8,8,8,8,8,8,8,8,8,8]⟩) d1) w λd2 w=>
 aA pg (cP 5 3 d2) w λd3 w=>
 aA pg (aE .add 3 aN aN n_2 d3) w λd4 w=>
 R d4 w
def IP(kn:K2) AF n_2 w:=
 aA pg (aE .geq 26 aN aN AF (.int .u64 256)) w λc4 w=>
 cS c4
  (aA pg (aE .shr 26 aN aN AF (.int .u64 8)) w λc6 w=>
  aA pg (aE .add 3 aN aN n_2 (aL2 8)) w λc8 w=>
  kn c6 c8 w)
  (kn AF n_2 w)
def uU(R:K1) AF n_2 w:=
 IP (uT R) AF n_2 w
def IQ(kn:K2) AF n_2 w:=
 aA pg (aE .geq 26 aN aN AF (.int .u64 65536)) w λb8 w=>
 cS b8
  (aA pg (aE .shr 26 aN aN AF (.int .u64 16)) w λc0 w=>
  aA pg (aE .add 3 aN aN n_2 (aL2 16)) w λc2 w=>
  kn c0 c2 w)
  (kn AF n_2 w)
def uV(R:K1) AF n_2 w:=
 IQ (uU R) AF n_2 w
def IS(kn:K2) AF w:=
 aA pg (aE .geq 26 aN aN AF (.int .u64 4294967296)) w λb4 w=>
 cS b4
  (aA pg (aE .shr 26 aN aN AF (.int .u64 32)) w λb6 w=>
  kn b6 (aL2 32) w)
  (kn AF (aL2 0) w)
def IT(R:K1) AF w:=
 IS (uV R) AF w
def O7 a0 w(R:K1):=
 IT R a0 w
theorem RO{a0 w R}(h:O7 a0 w R):aG pg wY #[a0] w R:=
 jX (ann:=TB) Tryz.f128 QT [a0] VO 25 TryzM.mixed Tryz.func128 (dN 2 (iS (Qv (uV R) 0 2) h (λg w h=>aJ (dN 1 (iS (Qv (uU R) 0 2) h (λg w h=>aJ (dN 1 (iS (Qv (uT R) 0 2) h (λg w h=>aJ (kL h dE))))))))))
def acJ:FA:=⟨EU,λi=> .leaf ([],[]) []⟩
def ajY:List ResultVar:=[.cell 0 204]
noncomputable def Za:Code:=bA Tryz.f129
def R5 (R:K1) w:=
 aA pg (bE 204) w λb0 w=>
 aA pg (bV 204 [(0,(.int .u32 1116352408)),(1,(.int .u32 1899447441)),(2,(.int .u32 3049323471)),(3,(.int .u32 3921009573)),(4,(.int .u32 961987163)),(5,(.int .u32 1508970993)),(6,(.int .u32 2453635748)),(7,(.int .u32 2870763221)),(8,(.int .u32 3624381080)),(9,(.int .u32 310598401)),(10,(.int .u32 607225278)),(11,(.int .u32 1426881987)),(12,(.int .u32 1925078388)),(13,(.int .u32 2162078206)),(14,(.int .u32 2614888103)),(15,(.int .u32 3248222580)),(16,(.int .u32 3835390401)),(17,(.int .u32 4022224774)),(18,(.int .u32 264347078)),(19,(.int .u32 604807628)),(20,(.int .u32 770255983)),(21,(.int .u32 1249150122)),(22,(.int .u32 1555081692)),(23,(.int .u32 1996064986)),(24,(.int .u32 2554220882)),(25,(.int .u32 2821834349)),(26,(.int .u32 2952996808)),(27,(.int .u32 3210313671)),(28,(.int .u32 3336571891)),(29,(.int .u32 3584528711)),(30,(.int .u32 113926993)),(31,(.int .u32 338241895)),(32,(.int .u32 666307205)),(33,(.int .u32 773529912)),(34,(.int .u32 1294757372)),(35,(.int .u32 1396182291)),(36,(.int .u32 1695183700)),(37,(.int .u32 1986661051)),(38,(.int .u32 2177026350)),(39,(.int .u32 2456956037)),(40,(.int .u32 2730485921)),(41,(.int .u32 2820302411)),(42,(.int .u32 3259730800)),(43,(.int .u32 3345764771)),(44,(.int .u32 3516065817)),(45,(.int .u32 3600352804)),(46,(.int .u32 4094571909)),(47,(.int .u32 275423344)),(48,(.int .u32 430227734)),(49,(.int .u32 506948616)),(50,(.int .u32 659060556)),(51,(.int .u32 883997877)),(52,(.int .u32 958139571)),(53,(.int .u32 1322822218)),(54,(.int .u32 1537002063)),(55,(.int .u32 1747873779)),(56,(.int .u32 1955562222)),(57,(.int .u32 2024104815)),(58,(.int .u32 2227730452)),(59,(.int .u32 2361852424)),(60,(.int .u32 2428436474)),(61,(.int .u32 2756734187)),(62,(.int .u32 3204031479)),(63,(.int .u32 3329325298))]) w λb1 w=>
 aA pg (aF 204 b0 b1) w λ_u w=>
 lO pg 204 b0 w λr0=>R r0 w
def abK w(R:K1):=
 R5 R w
theorem ZI{w R}(h:abK w R):aG pg EU #[] w R:=
 jX (ann:=acJ) Tryz.f129 Za [] ajY 2 TryzM.mixed Tryz.func129 (kL h dE)
def acH:FA:=⟨fZ,λi=> .leaf ([],[]) []⟩
def ajW:List ResultVar:=[.tmp 4]
noncomputable def Y8:Code:=bA Tryz.f130
def R3 (R:K1) AF Ep w:=
 aA pg (aE .shr 27 aN aN AF Ep) w λb7 w=>
 aA pg (aE .sub 194 aN aN (.int .u64 32) Ep) w λc0 w=>
 aA pg (aE .shl 27 aN aN AF c0) w λc1 w=>
 aA pg (aE .or 27 aN aN b7 c1) w λc2 w=>
 R c2 w
def abI a0 a1 w(R:K1):=
 R3 R a0 a1 w
theorem ZG{a0 a1 w R}(h:abI a0 a1 w R):aG pg fZ #[a0,a1] w R:=
 jX (ann:=acH) Tryz.f130 Y8 [a0,a1] ajW 13 TryzM.mixed Tryz.func130 (kL h dE)
def acI:FA:=⟨ET,λi=>match Nat.beq i 3 with|true=> .leaf ([3,5,8],[(0,3),(0,5),(0,8),(1,3),(1,5),(1,8),(3,12),(3,13),(3,14),(3,16),(3,17),(3,18),(3,19),(3,20),(5,12),(5,13),(5,14),(5,16),(5,17),(5,18),(5,19),(5,20),(6,8),(8,12),(8,13),(8,14),(8,16),(8,17),(8,18),(8,19),(8,20)]) (fz 3 (ft [1,2] (fz 1 (ft [3,4] (fz 2 (ft [1,6,7] (fz 3 (fu [3,6,8] (fu [4,7,9] (fu [5,8,10] (fz 1 (fu [7,10,12] (fu [8,11,13] (fu [9,12,14] (fu [10,13,15] (fu [11,14,16] (fz 6 [])))))))))))))))))|false=>match Nat.beq i 4 with|true=> .leaf ([1,3,6],[(1,9),(1,10),(1,11),(1,13),(1,14),(1,15),(1,16),(1,17),(1,18),(1,19),(1,20),(1,21),(1,22),(3,9),(3,10),(3,11),(3,13),(3,14),(3,15),(3,16),(3,17),(3,18),(3,19),(3,20),(3,21),(3,22),(4,6),(6,9),(6,10),(6,11),(6,13),(6,14),(6,15),(6,16),(6,17),(6,18),(6,19),(6,20),(6,21),(6,22)]) (fz 1 (ft [] (fz 1 (ft [] (fz 2 (ft [1] (fz 2 (fu [2,5,7] (fu [3,6,8] (fu [4,7,9] (fz 1 (fu [6,9,11] (fu [7,10,12] (fu [8,11,13] (fu [9,12,14] (fu [10,13,15] (fu [11,14,16] (fu [12,15,17] (fu [13,16,18] (fu [14,17,19] (fu [15,18,20] (fz 2 []))))))))))))))))))))))|false=> .leaf ([],[]) []⟩
def ajX:List ResultVar:=[.cell 6 181]
noncomputable def Y9:Code:=bA Tryz.f131
def R4 (R:K1) v_0 k_1 w_2 w:=
 aA pg (jK 181 v_0) w λQt w=>
 aA pg (bE 181) w λb6 w=>
 aA pg (aR 181 Qt (aL2 4)) w λc1 w=>
 aA pg (aB 27 c1) w λc2 w=>
 aA pg (aR 181 Qt (aL2 0)) w λc3 w=>
 aA pg (aB 27 c3) w λc4 w=>
 aA pg (aR 181 Qt (aL2 7)) (dr w) λc5 w_=>w_=(dr w)/\
 aA pg (aB 27 c5) (dr w) λc6 w_=>w_=(dr w)/\
 (dr w)=(dr w)/\
 aG pg fZ #[c2,(.int .u64 6)] (dr w) λc8 aaG=>
 (aP pg (aB 27 c5) c6 aaG/\aP pg (aR 181 Qt (aL2 7)) c5 aaG/\True)/\
 aaG=aaG/\
 aG pg fZ #[c2,(.int .u64 11)] aaG λd0 JJ=>
 (aP pg (aB 27 c5) c6 JJ/\aP pg (aR 181 Qt (aL2 7)) c5 JJ/\True)/\
 aA pg (aE .xor 27 aN aN c8 d0) JJ λd1 w_=>w_=JJ/\
 JJ=JJ/\
 aG pg fZ #[c2,(.int .u64 25)] JJ λd3 gC=>
 (aP pg (aE .xor 27 aN aN c8 d0) d1 gC/\aP pg (aB 27 c5) c6 gC/\aP pg (aR 181 Qt (aL2 7)) c5 gC/\True)/\
 aA pg (aE .xor 27 aN aN d1 d3) gC λd4 w_=>w_=gC/\
 aA pg (aE .add 27 aN aN c6 d4) gC λd5 w_=>w_=gC/\
 gC=gC/\
 aA pg (aR 181 Qt (aL2 5)) gC λd7 w_=>w_=gC/\
 (aP pg (aR 181 Qt (aL2 5)) d7 JJ/\aP pg (aR 181 Qt (aL2 5)) d7 aaG/\aP pg (aR 181 Qt (aL2 5)) d7 (dr w)/\True)/\
 aA pg (aB 27 d7) gC λd8 w_=>w_=gC/\
 (aP pg (aB 27 d7) d8 JJ/\aP pg (aB 27 d7) d8 aaG/\aP pg (aB 27 d7) d8 (dr w)/\True)/\
 aA pg (aE .and 27 aN aN c2 d8) gC λd9 w_=>w_=gC/\
 (aP pg (aE .and 27 aN aN c2 d8) d9 JJ/\aP pg (aE .and 27 aN aN c2 d8) d9 aaG/\aP pg (aE .and 27 aN aN c2 d8) d9 (dr w)/\True)/\
 gC=gC/\
 aA pg (G2 .xor c2) gC λe1 w_=>w_=gC/\
 (aP pg (G2 .xor c2) e1 JJ/\aP pg (G2 .xor c2) e1 aaG/\aP pg (G2 .xor c2) e1 (dr w)/\True)/\
 aA pg (aR 181 Qt (aL2 6)) gC λe2 w_=>w_=gC/\
 (aP pg (aR 181 Qt (aL2 6)) e2 JJ/\aP pg (aR 181 Qt (aL2 6)) e2 aaG/\aP pg (aR 181 Qt (aL2 6)) e2 (dr w)/\True)/\
 aA pg (aB 27 e2) gC λe3 w_=>w_=gC/\
 (aP pg (aB 27 e2) e3 JJ/\aP pg (aB 27 e2) e3 aaG/\aP pg (aB 27 e2) e3 (dr w)/\True)/\
 aA pg (aE .and 27 aN aN e1 e3) gC λe4 w_=>w_=gC/\
 (aP pg (aE .and 27 aN aN e1 e3) e4 JJ/\aP pg (aE .and 27 aN aN e1 e3) e4 aaG/\aP pg (aE .and 27 aN aN e1 e3) e4 (dr w)/\True)/\
 aA pg (aE .xor 27 aN aN d9 e4) gC λe5 w_=>w_=gC/\
 (aP pg (aE .xor 27 aN aN d9 e4) e5 JJ/\aP pg (aE .xor 27 aN aN d9 e4) e5 aaG/\aP pg (aE .xor 27 aN aN d9 e4) e5 (dr w)/\True)/\
 aA pg (aE .add 27 aN aN d5 e5) gC λe6 w_=>w_=gC/\
 gC=gC/\
 aA pg (aE .add 27 aN aN e6 k_1) gC λe8 w_=>w_=gC/\
 gC=gC/\
 aA pg (aE .add 27 aN aN e8 w_2) gC λf0 w_=>w_=gC/\
 gC=gC/\
 (dr gC)=(dr gC)/\
 aG pg fZ #[c4,(.int .u64 2)] (dr gC) λf2 Uj=>
 Uj=Uj/\
 aG pg fZ #[c4,(.int .u64 13)] Uj λf4 HL=>
 aA pg (aE .xor 27 aN aN f2 f4) HL λf5 w_=>w_=HL/\
 HL=HL/\
 aG pg fZ #[c4,(.int .u64 22)] HL λf7 vT=>
 (aP pg (aE .xor 27 aN aN f2 f4) f5 vT/\True)/\
 aA pg (aE .xor 27 aN aN f5 f7) vT λf8 w_=>w_=vT/\
 vT=vT/\
 aA pg (aR 181 Qt (aL2 1)) vT λi0 w_=>w_=vT/\
 (aP pg (aR 181 Qt (aL2 1)) i0 HL/\aP pg (aR 181 Qt (aL2 1)) i0 Uj/\aP pg (aR 181 Qt (aL2 1)) i0 (dr gC)/\True)/\
 aA pg (aB 27 i0) vT λi1 w_=>w_=vT/\
 (aP pg (aB 27 i0) i1 HL/\aP pg (aB 27 i0) i1 Uj/\aP pg (aB 27 i0) i1 (dr gC)/\True)/\
 aA pg (aE .and 27 aN aN c4 i1) vT λi2 w_=>w_=vT/\
 (aP pg (aE .and 27 aN aN c4 i1) i2 HL/\aP pg (aE .and 27 aN aN c4 i1) i2 Uj/\aP pg (aE .and 27 aN aN c4 i1) i2 (dr gC)/\True)/\
 vT=vT/\
 aA pg (aR 181 Qt (aL2 2)) vT λi4 w_=>w_=vT/\
 (aP pg (aR 181 Qt (aL2 2)) i4 HL/\aP pg (aR 181 Qt (aL2 2)) i4 Uj/\aP pg (aR 181 Qt (aL2 2)) i4 (dr gC)/\True)/\
 aA pg (aB 27 i4) vT λi5 w_=>w_=vT/\
 (aP pg (aB 27 i4) i5 HL/\aP pg (aB 27 i4) i5 Uj/\aP pg (aB 27 i4) i5 (dr gC)/\True)/\
 aA pg (aE .and 27 aN aN c4 i5) vT λi6 w_=>w_=vT/\
 (aP pg (aE .and 27 aN aN c4 i5) i6 HL/\aP pg (aE .and 27 aN aN c4 i5) i6 Uj/\aP pg (aE .and 27 aN aN c4 i5) i6 (dr gC)/\True)/\
 aA pg (aE .xor 27 aN aN i2 i6) vT λi7 w_=>w_=vT/\
 (aP pg (aE .xor 27 aN aN i2 i6) i7 HL/\aP pg (aE .xor 27 aN aN i2 i6) i7 Uj/\aP pg (aE .xor 27 aN aN i2 i6) i7 (dr gC)/\True)/\
 aA pg (aR 181 Qt (aL2 1)) vT λi8 w_=>w_=vT/\
 (aP pg (aR 181 Qt (aL2 1)) i8 HL/\aP pg (aR 181 Qt (aL2 1)) i8 Uj/\aP pg (aR 181 Qt (aL2 1)) i8 (dr gC)/\True)/\
 aA pg (aB 27 i8) vT λi9 w_=>w_=vT/\
 (aP pg (aB 27 i8) i9 HL/\aP pg (aB 27 i8) i9 Uj/\aP pg (aB 27 i8) i9 (dr gC)/\True)/\
 aA pg (aR 181 Qt (aL2 2)) vT λj0 w_=>w_=vT/\
 (aP pg (aR 181 Qt (aL2 2)) j0 HL/\aP pg (aR 181 Qt (aL2 2)) j0 Uj/\aP pg (aR 181 Qt (aL2 2)) j0 (dr gC)/\True)/\
 aA pg (aB 27 j0) vT λj1 w_=>w_=vT/\
 (aP pg (aB 27 j0) j1 HL/\aP pg (aB 27 j0) j1 Uj/\aP pg (aB 27 j0) j1 (dr gC)/\True)/\
 aA pg (aE .and 27 aN aN i9 j1) vT λj2 w_=>w_=vT/\
 (aP pg (aE .and 27 aN aN i9 j1) j2 HL/\aP pg (aE .and 27 aN aN i9 j1) j2 Uj/\aP pg (aE .and 27 aN aN i9 j1) j2 (dr gC)/\True)/\
 aA pg (aE .xor 27 aN aN i7 j2) vT λj3 w_=>w_=vT/\
 (aP pg (aE .xor 27 aN aN i7 j2) j3 HL/\aP pg (aE .xor 27 aN aN i7 j2) j3 Uj/\aP pg (aE .xor 27 aN aN i7 j2) j3 (dr gC)/\True)/\
 aA pg (aE .add 27 aN aN f8 j3) vT λj4 w_=>w_=vT/\
 vT=vT/\
 aA pg (aE .add 27 aN aN f0 j4) vT λj7 w=>
 aA pg (aR 181 Qt (aL2 0)) w λj8 w=>
 aA pg (aB 27 j8) w λj9 w=>
 aA pg (aR 181 Qt (aL2 1)) w λl0 w=>
 aA pg (aB 27 l0) w λl1 w=>
 aA pg (aR 181 Qt (aL2 2)) w λl2 w=>
 aA pg (aB 27 l2) w λl3 w=>
 aA pg (aR 181 Qt (aL2 3)) w λl4 w=>
 aA pg (aB 27 l4) w λl5 w=>
 aA pg (aE .add 27 aN aN l5 f0) w λl7 w=>
 aA pg (aR 181 Qt (aL2 4)) w λl8 w=>
 aA pg (aB 27 l8) w λl9 w=>
 aA pg (aR 181 Qt (aL2 5)) w λm0 w=>
 aA pg (aB 27 m0) w λm1 w=>
 aA pg (aR 181 Qt (aL2 6)) w λm2 w=>
 aA pg (aB 27 m2) w λm3 w=>
 aA pg (bV 181 [(0,j7),(1,j9),(2,l1),(3,l3),(4,l7),(5,l9),(6,m1),(7,m3)]) w λm4 w=>
 aA pg (aF 181 b6 m4) w λ_u w=>
 lO pg 181 b6 w λr0=>R r0 w
def abJ a0 a1 a2 w(R:K1):=
 R4 R a0 a1 a2 w
theorem ZH{a0 a1 a2 w R}(h:abJ a0 a1 a2 w R):aG pg ET #[a0,a1,a2] w R:=
 jX (ann:=acI) Tryz.f131 Y9 [a0,a1,a2] ajX 85 TryzM.mixed Tryz.func131 (kL h dE)
def HY:FA:=⟨dO,λi=> .leaf ([],[]) []⟩
def JY:List ResultVar:=[.tmp 4]
noncomputable def Hg:Code:=bA Tryz.f132
def AD(R:K1) AF k_1 w:=
 aA pg (cP 3 194 k_1) w λb7 w=>
 aA pg (aE .and 194 aN aN b7 (.int .u64 31)) w λb8 w=>
 aA pg (aE .shl 27 aN aN AF b8) w λc1 w=>
 aA pg (aE .sub 194 aN aN (.int .u64 32) b8) w λc4 w=>
 aA pg (aE .shr 27 aN aN AF c4) w λc5 w=>
 aA pg (aE .or 27 aN aN c1 c5) w λc6 w=>
 R c6 w
def Dc a0 a1 w(R:K1):=
 AD R a0 a1 w
theorem Hj{a0 a1 w R}(h:Dc a0 a1 w R):aG pg dO #[a0,a1] w R:=
 jX (ann:=HY) Tryz.f132 Hg [a0,a1] JY 17 TryzM.mixed Tryz.func132 (kL h dE)
def Vh:FA:=⟨sH,λi=> .leaf ([],[]) []⟩
def Yl:List ResultVar:=[.tmp 2]
noncomputable def TG:Code:=bA Tryz.f138
def J5 (R:K1) AF w:=
 aA pg (aE .neq 9 (.tmp 3) (.tmp 4) AF AF) w λb5 w=>
 R b5 w
def QP a0 w(R:K1):=
 J5 R a0 w
theorem TF{a0 w R}(h:QP a0 w R):aG pg sH #[a0] w R:=
 jX (ann:=Vh) Tryz.f138 TG [a0] Yl 6 TryzM.mixed Tryz.func138 (kL h dE)
end Go.Proofs.YteelnmpbnaohpaaGreatDoor
namespace Go.En
open Go
section
variable{P:Program}{w:aL0}{t:TypeId}{ox oy:Operand}{k:IntKind}{a b:Int}
theorem jJ(s:Sem aL1):(V s).run P w=(s.run P w).andThen λv w=> .ok (.value v) w:=by
 unfold V;rw[Sem.run_bind]<;>rfl
theorem aH9 (s:Sem Unit):(U s).run P w=(s.run P w).andThen λ_ w=> .ok .skip w:=by
 unfold U;rw[Sem.run_bind]<;>rfl
theorem fT:(aE .add t ox oy (.int k a) (.int k b)).run P w= .ok (.value (.int k (k.wrap (a+b)))) w:=by
 simp[aE,Eo,jJ,binOp,Op.intArith]
theorem Mv:(aE .sub t ox oy (.int k a) (.int k b)).run P w= .ok (.value (.int k (k.wrap (a-b)))) w:=by
 simp[aE,Eo,jJ,binOp,Op.intArith]
theorem UC:(aE .mul t ox oy (.int k a) (.int k b)).run P w= .ok (.value (.int k (k.wrap (a*b)))) w:=by
 simp[aE,Eo,jJ,binOp,Op.intArith]
theorem UE(h:b≠0):(aE .quo t ox oy (.int k a) (.int k b)).run P w= .ok (.value (.int k (k.wrap (a.tdiv b)))) w:=by
 simp[aE,Eo,jJ,binOp,Op.intDiv,h]
theorem abC(h:b≠0):(aE .rem t ox oy (.int k a) (.int k b)).run P w= .ok (.value (.int k (a.tmod b))) w:=by
 simp[aE,Eo,jJ,binOp,Op.intDiv,h]
def acA(k:IntKind)(a b:Int):Int:=k.wrap (BitVec.ofInt k.bits a&&&BitVec.ofInt k.bits b).toNat
def orI(k:IntKind)(a b:Int):Int:=k.wrap (BitVec.ofInt k.bits a|||BitVec.ofInt k.bits b).toNat
def afF(k:IntKind)(a b:Int):Int:=k.wrap (BitVec.ofInt k.bits a^^^BitVec.ofInt k.bits b).toNat
def aAg(k:IntKind)(a b:Int):Int:=k.wrap (BitVec.ofInt k.bits a&&& ~~~BitVec.ofInt k.bits b).toNat
theorem abB:(aE .and t ox oy (.int k a) (.int k b)).run P w= .ok (.value (.int k (acA k a b))) w:=by
 simp[aE,Eo,jJ,binOp,Op.intBits,acA]
theorem aBZ:(aE .or t ox oy (.int k a) (.int k b)).run P w= .ok (.value (.int k (orI k a b))) w:=by
 simp[aE,Eo,jJ,binOp,Op.intBits,orI]
theorem RW:(aE .xor t ox oy (.int k a) (.int k b)).run P w= .ok (.value (.int k (afF k a b))) w:=by
 simp[aE,Eo,jJ,binOp,Op.intBits,afF]
theorem Xi:(aE .andNot t ox oy (.int k a) (.int k b)).run P w= .ok (.value (.int k (aAg k a b))) w:=by
 simp[aE,Eo,jJ,binOp,Op.intBits,aAg]
theorem aoB{k':IntKind}(h:0<=b):(aE .shl t ox oy (.int k a) (.int k' b)).run P w= .ok (.value (.int k (k.wrap (a*2^(min b.toNat k.bits))))) w:=by
 simp[aE,Eo,jJ,binOp,Op.shift,Int.not_lt.2 h]
theorem Mu{k':IntKind}(h:0<=b):(aE .shr t ox oy (.int k a) (.int k' b)).run P w= .ok (.value (.int k (a.fdiv (2^(min b.toNat k.bits))))) w:=by
 simp[aE,Eo,jJ,binOp,Op.shift,Int.not_lt.2 h]
theorem O8:(aE .eql t ox oy (.int k a) (.int k b)).run P w= .ok (.value (.bool (a==b))) w:=by
 simp[aE,Eo,jJ,binOp,Op.intCmp,eqGuard]
theorem Km:(aE .neq t ox oy (.int k a) (.int k b)).run P w= .ok (.value (.bool (a !=b))) w:=by
 simp[aE,Eo,jJ,binOp,Op.intCmp,eqGuard]
theorem eX:(aE .lss t ox oy (.int k a) (.int k b)).run P w= .ok (.value (.bool (decide (a<b)))) w:=by
 simp[aE,Eo,jJ,binOp,Op.intCmp]
theorem auT:(aE .leq t ox oy (.int k a) (.int k b)).run P w= .ok (.value (.bool (decide (a<=b)))) w:=by
 simp[aE,Eo,jJ,binOp,Op.intCmp]
theorem vQ:(aE .gtr t ox oy (.int k a) (.int k b)).run P w= .ok (.value (.bool (decide (b<a)))) w:=by
 simp[aE,Eo,jJ,binOp,Op.intCmp]
theorem Dg:(aE .geq t ox oy (.int k a) (.int k b)).run P w= .ok (.value (.bool (decide (b<=a)))) w:=by
 simp[aE,Eo,jJ,binOp,Op.intCmp]
theorem aAL:(G2 .neg (.int k a)).run P w= .ok (.value (.int k (k.wrap (0-a)))) w:=by
 simp[G2,jJ,Op.unary,Op.intArith]
theorem anZ:(G2 .xor (.int k a)).run P w= .ok (.value (.int k (afF k (if k.signed then-1 else k.max) a))) w:=by
 simp[G2,jJ,Op.unary,Op.intBits,afF]
theorem UD(c:Bool):(G2 .not (.bool c)).run P w= .ok (.value (.bool !c)) w:=by
 simp[G2,jJ,Op.unary]
theorem jH(c:Bool)(x y:aL1):(cH (.bool c) x y).run P w= .ok (.value (if c then x else y)) w:=by
 simp[cH,asBool]
theorem akD{x y:aL1}{r:Bool}(hg:eqGuard .eql t ox oy x y=pure ())(hb:binOp .eql t x y=(do pure (.bool (<-Op.equal t x y))))(he:(Op.equal t x y).run P w= .ok r w):
 (aE .eql t ox oy x y).run P w= .ok (.value (.bool r)) w:=by
 unfold aE
 simp only[Eo,jJ,hg,hb,pure_bind]
 rw[Sem.run_bind,he]<;>rfl
theorem avS{x y:aL1}{r:Bool}(hg:eqGuard .neq t ox oy x y=pure ())(hb:binOp .neq t x y=(do pure (.bool (!(<-Op.equal t x y)))))(he:(Op.equal t x y).run P w= .ok r w):
 (aE .neq t ox oy x y).run P w= .ok (.value (.bool (!r))) w:=by
 unfold aE
 simp only[Eo,jJ,hg,hb,pure_bind]
 rw[Sem.run_bind,he]<;>rfl
theorem aBA(n:Nat)(c d:Bool)(hu:P.underlying t=some .bool):(Op.equalIn (n+1) t (.bool c) (.bool d)).run P w= .ok (c==d) w:=by
 simp only[Op.equalIn,underlying]
 simp[hu]
theorem aAq(c d:Bool)(hu:P.underlying t=some .bool):(Op.equal t (.bool c) (.bool d)).run P w= .ok (c==d) w:=aBA 9999 c d hu
theorem aG3 (c d:Bool)(hu:P.underlying t=some .bool):(aE .eql t ox oy (.bool c) (.bool d)).run P w= .ok (.value (.bool (c==d))) w:=
 akD rfl rfl (aAq c d hu)
theorem aG4 (c d:Bool)(hu:P.underlying t=some .bool):(aE .neq t ox oy (.bool c) (.bool d)).run P w= .ok (.value (.bool (!(c==d)))) w:=
 avS rfl rfl (aAq c d hu)
theorem dG{n:Int}(h0: -9223372036854775808<=n)(h1:n<=9223372036854775807):IntKind.i64.wrap n=n:=by
 unfold IntKind.wrap;simp[IntKind.bits,IntKind.signed];split<;>omega
theorem gX{n:Int}(h0:0<=n)(h1:n<=18446744073709551615):IntKind.u64.wrap n=n:=by
 unfold IntKind.wrap;simp[IntKind.bits,IntKind.signed];omega
theorem aBb{n:Int}(h0: -2147483648<=n)(h1:n<=2147483647):IntKind.i32.wrap n=n:=by
 unfold IntKind.wrap;simp[IntKind.bits,IntKind.signed];split<;>omega
theorem JM{n:Int}(h0:0<=n)(h1:n<=4294967295):IntKind.u32.wrap n=n:=by
 unfold IntKind.wrap;simp[IntKind.bits,IntKind.signed];omega
theorem aBc{n:Int}(h0:0<=n)(h1:n<=65535):IntKind.u16.wrap n=n:=by
 unfold IntKind.wrap;simp[IntKind.bits,IntKind.signed];omega
theorem azW{n:Int}(h0:0<=n)(h1:n<=255):IntKind.u8.wrap n=n:=by
 unfold IntKind.wrap;simp[IntKind.bits,IntKind.signed];omega
theorem aJi(n:Int):IntKind.u64.wrap n=n%18446744073709551616:=by
 unfold IntKind.wrap;simp[IntKind.bits,IntKind.signed]
theorem wu8 (n:Int):IntKind.u8.wrap n=n%256:=by
 unfold IntKind.wrap;simp[IntKind.bits,IntKind.signed]
theorem aqM(x y:ByteArray)(h:((x.size+y.size:Nat):Int)<=9223372036854775807):(aE .add t ox oy (.string x) (.string y)).run P w= .ok (.value (.string (x++y))) w:=by
 have:¬(((x.size+y.size:Nat):Int)>IntKind.i64.max):=by
  have e:IntKind.i64.max=9223372036854775807:=by decide
  rw[e];omega
 simp only[aE,Eo,jJ,binOp,Op.stringOp,this,if_false]
 rfl
theorem Lg(x y:ByteArray):(aE .eql t ox oy (.string x) (.string y)).run P w= .ok (.value (.bool (x.toList==y.toList))) w:=by
 simp[aE,Eo,jJ,binOp,Op.stringOp,eqGuard]
theorem ZC(x y:ByteArray):(aE .neq t ox oy (.string x) (.string y)).run P w= .ok (.value (.bool !(x.toList==y.toList))) w:=by
 simp[aE,Eo,jJ,binOp,Op.stringOp,eqGuard]
theorem aC6 (n:Nat){e:TypeId}(hu:P.underlying t=some (.pointer e))(x:Option Addr):(Op.equalIn (n+1) t (.pointer x) (.pointer none)).run P w= .ok x.isNone w:=by
 simp only[Op.equalIn,underlying]
 cases x<;>simp[hu]
theorem aC7 {e:TypeId}(hu:P.underlying t=some (.pointer e))(x:Option Addr):(Op.equal t (.pointer x) (.pointer none)).run P w= .ok x.isNone w:=aC6 9999 hu x
theorem aFc(m:Nat){e:TypeId}(hu:P.underlying t=some (.slice e))(x:Option Addr)(n c:Nat):(Op.equalIn (m+1) t (.slice x n c) (.slice none 0 0)).run P w= .ok x.isNone w:=by
 simp only[Op.equalIn,underlying]
 cases x<;>simp[hu]
theorem aHU{e:TypeId}(hu:P.underlying t=some (.slice e))(x:Option Addr)(n c:Nat):(Op.equal t (.slice x n c) (.slice none 0 0)).run P w= .ok x.isNone w:=aFc 9999 hu x n c
theorem ZB{e:TypeId}(hu:P.underlying t=some (.pointer e))(x:Option Addr):(aE .eql t ox oy (.pointer x) (.pointer none)).run P w= .ok (.value (.bool x.isNone)) w:=
 akD rfl rfl (aC7 hu x)
theorem aD0 {e:TypeId}(hu:P.underlying t=some (.pointer e))(x:Option Addr):(aE .neq t ox oy (.pointer x) (.pointer none)).run P w= .ok (.value (.bool (!x.isNone))) w:=
 avS rfl rfl (aC7 hu x)
theorem aqN{e:TypeId}(hu:P.underlying t=some (.slice e))(x:Option Addr)(n c:Nat):(aE .eql t ox oy (.slice x n c) (.slice none 0 0)).run P w= .ok (.value (.bool x.isNone)) w:=
 akD rfl rfl (aHU hu x n c)
theorem Es{s:TypeId}{d:TypeDesc}{kd:IntKind}(hs:P.underlying s=some d)(hu:P.underlying t=some (.int kd)):(cP s t (.int k a)).run P w= .ok (.value (.int kd (kd.wrap a))) w:=by
 cases d<;>simp[cP,jJ,convert,underlying,hs,hu,Conv.intToInt]
theorem IY{ty:TypeId}{e:TypeId}(hu:P.underlying t=some (.slice e))(x:Option Addr)(n c:Nat):(eK .len #[t] ty [.slice x n c]).run P w= .ok (.value (.int .i64 n)) w:=by
 simp[eK,builtin,Builtin.len_,underlying,hu,goInt]
theorem aG8 {ty:TypeId}(hu:P.underlying t=some .string)(x:ByteArray):(eK .len #[t] ty [.string x]).run P w= .ok (.value (.int .i64 x.size)) w:=by
 simp[eK,builtin,Builtin.len_,underlying,hu,goInt]
theorem aoA{ats:Array TypeId}{ty:TypeId}:(eK .min ats ty [.int k a,.int k b]).run P w= .ok (.value (.int k (if b<a then b else a))) w:=by
 simp[eK,builtin,Builtin.min_,Builtin.min2]
theorem aAK{ats:Array TypeId}{ty:TypeId}:(eK .max ats ty [.int k a,.int k b]).run P w= .ok (.value (.int k (if b>a then b else a))) w:=by
 simp[eK,builtin,Builtin.max_,Builtin.max2]
theorem x20 (a b:aL1):(aQ (.tuple #[a,b]) 0).run P w= .ok (.value a) w:=Eq.trans rfl rfl
theorem x21 (a b:aL1):(aQ (.tuple #[a,b]) 1).run P w= .ok (.value b) w:=Eq.trans rfl rfl
theorem x30 (a b c:aL1):(aQ (.tuple #[a,b,c]) 0).run P w= .ok (.value a) w:=Eq.trans rfl rfl
theorem x31 (a b c:aL1):(aQ (.tuple #[a,b,c]) 1).run P w= .ok (.value b) w:=Eq.trans rfl rfl
theorem x32 (a b c:aL1):(aQ (.tuple #[a,b,c]) 2).run P w= .ok (.value c) w:=Eq.trans rfl rfl
theorem x40 (a b c d:aL1):(aQ (.tuple #[a,b,c,d]) 0).run P w= .ok (.value a) w:=Eq.trans rfl rfl
theorem x41 (a b c d:aL1):(aQ (.tuple #[a,b,c,d]) 1).run P w= .ok (.value b) w:=Eq.trans rfl rfl
theorem x42 (a b c d:aL1):(aQ (.tuple #[a,b,c,d]) 2).run P w= .ok (.value c) w:=Eq.trans rfl rfl
theorem x43 (a b c d:aL1):(aQ (.tuple #[a,b,c,d]) 3).run P w= .ok (.value d) w:=Eq.trans rfl rfl
theorem aiG(x:Addr):(cQ (.pointer (some x))).run P w= .ok (.value (.pointer (some x))) w:=Eq.trans rfl rfl
theorem bR{fs:Array Field}{f:Field}{i:Nat}{inf:TypeInfo}(hu:P.underlying t=some (.struct fs))(hf:fs[i]?=some f)
 (hi:P.info? f.type=some inf) (hz:inf.size≠0) (x:Addr):(aD t (.pointer (some x)) i).run P w= .ok (.value (.pointer (some (x.add f.offset)))) w:=by
 simp[aD,jJ,Instr.fieldAt,underlying,hu,hf,Instr.sureAddr,fieldPlace,sizeOf,typeInfo,hi,hz]
theorem auS{e:TypeId}{inf:TypeInfo}(hu:P.underlying t=some (.slice e))(hi:P.info? e=some inf)(x:Addr)(n c:Nat)(h0:0<=a)(h1:a<n):
 (aR t (.slice (some x) n c) (.int k a)).run P w= .ok (.value (.pointer (some (x.add (a.toNat*inf.size))))) w:=by
 simp[aR,jJ,Instr.indexAt,asIntOf,underlying,hu,h0,h1,sizeOf,typeInfo,hi]
theorem aDZ{e:TypeId}{len:Nat}{inf:TypeInfo}(hu:P.underlying t=some (.array len e))(hi:P.info? e=some inf)(x:Addr)(h0:0<=a)(h1:a<len):
 (aR t (.pointer (some x)) (.int k a)).run P w= .ok (.value (.pointer (some (x.add (a.toNat*inf.size))))) w:=by
 simp[aR,jJ,Instr.indexAt,asIntOf,underlying,hu,h0,h1,sizeOf,typeInfo,hi,Instr.sureAddr]
theorem aG7 (hu:P.underlying t=some .string)(x:ByteArray)(h0:0<=a)(h1:a.toNat<x.size):
 (VS t (.string x) (.int k a)).run P w= .ok (.value (.int .u8 (x[a.toNat]'h1).toNat)) w:=by
 simp[VS,jJ,Instr.index,asIntOf,underlying,hu,h0,h1]
end
def bD(w:aL0)(b:Nat)(cs:List aL1):Prop:=
 ∃T lo hi,w.heap[b]?=some (.cells cs.toArray T (lo,hi))/\(cs.length<=lo∨hi=lo)
structure aL(w w':aL0)(M:Nat->Prop):Prop where
 os:w'.os=w.os
 tape:w'.tape=w.tape
 output:w'.output=w.output
 size:w.heap.size<=w'.heap.size
 keep:∀b,b<w.heap.size->¬M b->w'.heap[b]?=w.heap[b]?
def aT:Nat->Prop:=λ_=>False
theorem aL.refl (w:aL0)(M:Nat->Prop):aL w w M:=⟨rfl,rfl,rfl,aJO _,λ_ _ _=>rfl⟩
theorem aL.mono {w w':aL0}{M N:Nat->Prop}(h:aL w w' M)(hm:∀b,b<w.heap.size->M b->N b):aL w w' N:=
 ⟨h.os,h.tape,h.output,h.size,λb hb hn=>h.keep b hb λhM=>hn (hm b hb hM)⟩
theorem aL.trans {a b c:aL0}{M N:Nat->Prop}(h:aL a b M)(k:aL b c N)(hn:∀x,x<a.heap.size->N x->M x):aL a c M:=
 ⟨k.os.trans h.os,k.tape.trans h.tape,k.output.trans h.output,aK5 h.size k.size,
   λx hx hM=>(k.keep x (aKe hx h.size) λh=>hM (hn x hx h)).trans (h.keep x hx hM)⟩
theorem aL.seq {a b c:aL0}{M:Nat->Prop}(h:aL a b M)(k:aL b c M):aL a c M:=h.trans k λ_ _ h=>h
theorem aL.new {a b c:aL0}{M:Nat->Prop}{x:Nat}(h:aL a b M)(k:aL b c (λy=>y=x))(hx:a.heap.size<=x):aL a c M:=
 h.trans k λy hy e=>absurd hy (by subst e;omega)
theorem aL.more {a b c:aL0}{M:Nat->Prop}(h:aL a b M)(k:aL b c (λ_=>False)):aL a c M:=h.trans k λ_ _ h=>h.elim
theorem aL.below {w w':aL0}(h:aL w w' aT):Go.RowKit.Below w.heap.size w w':=
 ⟨h.os,h.tape,h.output,h.size,λk hk=>h.keep k hk λh=>h⟩
theorem aL.dr (w:aL0)(M:Nat->Prop):aL w (dr w) M:=⟨rfl,rfl,rfl,aJO _,λ_ _ _=>rfl⟩
theorem aL.alloc (w:aL0)(o:Obj)(M:Nat->Prop):aL w (w.alloc o) M:=
 ⟨rfl,rfl,rfl,by simp,λb hb _=>by show(w.heap.push o)[b]?=_;rw[Array.getElem?_push,if_neg (by omega)]⟩
theorem acW(w:aL0)(a:Addr)(v:aL1)(b:Nat)(h:b≠a.block):(w.setCell a v).heap[b]?=w.heap[b]?:=Go.RowKit.Below.heap_setCell w a v b h
theorem aL.setCell (w:aL0)(a:Addr)(v:aL1){M:Nat->Prop}(h:a.block<w.heap.size->M a.block):aL w (w.setCell a v) M:=
 ⟨rfl,rfl,rfl,by simp,λb hb hM=>acW w a v b λe=>hM (e▸h (e▸hb))⟩
theorem bD.lt {w:aL0}{b:Nat}{cs:List aL1}(h:bD w b cs):b<w.heap.size:=by
 obtain⟨T,lo,hi,h,_⟩:=h
 rcases aKA b w.heap.size with h'|h'
 .exact h'
 .rw [aKn h']at h;cases h
theorem bD.ext {w w':aL0}{b:Nat}{cs:List aL1}{M:Nat->Prop}(h:bD w b cs)(hx:aL w w' M)(hM:¬M b):bD w' b cs:=by
 have:=h.lt
 obtain⟨T,lo,hi,h,k⟩:=h
 exact⟨T,lo,hi,by rw[hx.keep b this hM];exact h,k⟩
theorem bD.cell {w:aL0}{b off:Nat}{cs:List aL1}(h:bD w b cs):w.cell? ⟨b,off,none⟩=cs[off]?:=by
 obtain⟨T,lo,hi,h,_⟩:=h
 simp[World.cell?,h]
theorem bD.free {w:aL0}{b off:Nat}{cs:List aL1}{s:Option Nat}(h:bD w b cs)(ho:off<cs.length):w.frozen? ⟨b,off,s⟩=false:=by
 obtain⟨T,lo,hi,h,k⟩:=h
 simp only[World.frozen?,h]
 rcases k with k|k<;>(simp;omega)
theorem bD.setCell {w:aL0}{b off:Nat}{cs:List aL1}(h:bD w b cs)(v:aL1):bD (w.setCell ⟨b,off,none⟩ v) b (cs.set off v):=by
 have hb:=h.lt
 obtain⟨T,lo,hi,h,k⟩:=h
 refine⟨T,lo,hi, ?_,by simpa using k⟩
 simp only[World.setCell,aK6,h]
 simp
theorem bD.alloc (w:aL0)(cs:List aL1)(T:TypeId):bD (w.alloc (.cells cs.toArray T)) w.heap.size cs:=
 ⟨T,0,0,by show(w.heap.push _)[w.heap.size]?=_;simp,.inr rfl⟩
theorem aCR{w w':aL0}{M:Nat->Prop}{a:Addr}{v:aL1}(h:w.cell? a=some v)(hx:aL w w' M)(hM:¬M a.block):w'.cell? a=some v:=by
 have hb:=World.block_lt_of_cell? w a h
 have e:=hx.keep _ hb hM
 unfold World.cell? at h⊢
 rw[e];exact h
section
variable{P:Program}{w:aL0}{t:TypeId}
def apG(d:TypeDesc):Bool:=match d with| .struct _| .array _ _=>true|_=>false
theorem HQ{d:TypeDesc}(hu:P.underlying t=some d):(isAgg t).run P w= .ok (apG d) w:=by
 cases d<;>simp[isAgg,underlying,hu,apG]
theorem eB{i:TypeInfo}(hi:P.info? t=some i):(sizeOf t).run P w= .ok i.size w:=by simp[sizeOf,typeInfo,hi]
theorem WU{b off:Nat}{cs:List aL1}(ho:bD w b cs):∀(n i:Nat) (acc:Array aL1),off+i+n<=cs.length→
 (loadCellsFrom ⟨b,off,none⟩ i n acc).run P w= .ok (acc++((cs.drop (off+i)).take n).toArray) w:=by
 intro n
 induction n with
 |zero=>intro i acc _;simp[loadCellsFrom]
 |succ n ih=>
  intro i acc h
  have hc:w.cell? ((⟨b,off,none⟩:Addr).add i)=some cs[off+i]:=by
   unfold Addr.add
   split
   .rename_i hi;subst hi;rw[ho.cell];simp
   .show w.cell? ⟨b,off+i,none⟩=_;rw[ho.cell];simp
  simp only[loadCellsFrom,Sem.run_bind,run_load,hc,Result.andThen_ok]
  rw[ih (i+1) _ (by omega)]
  congr 1
  rw[aKB (by omega:off+i<cs.length)]
  simp[aKy]
theorem Uy{b off n:Nat}{cs:List aL1}(ho:bD w b cs)(h:off+n<=cs.length):
 (loadCells ⟨b,off,none⟩ n).run P w= .ok ((cs.drop off).take n).toArray w:=by
 unfold loadCells
 rw[WU ho n 0 #[] (by omega)]
 simp
theorem rA{d:TypeDesc}{i:TypeInfo}(hu:P.underlying t=some d)(hd:apG d=true)(hi:P.info? t=some i){b off:Nat}{cs:List aL1}(ho:bD w b cs)(h:off+i.size<=cs.length):
 (aB t (.pointer (some ⟨b,off,none⟩))).run P w= .ok (.value (.agg ((cs.drop off).take i.size).toArray)) w:=by
 unfold aB
 rw[jJ]
 simp only[Instr.loadAt,Instr.sureAddr,loadVar,pure_bind,Sem.run_bind,HQ hu,hd,Result.andThen_ok,if_true,eB hi,Uy ho h,Sem.run_pure]
def one(v:aL1):Bool:=match v with| .agg _| .tuple _=>false|_=>true
theorem azH{a:Addr}{v x:aL1}(hv:one v=true)(hc:w.cell? a=some x)(hf:w.frozen? a=false):(store a v).run P w= .ok () (w.setCell a v):=by
 unfold store
 cases v<;>simp[one]at hv<;>simp[Sem.run,hc,hf]
def eI(cs:List aL1)(off:Nat):List aL1->List aL1
 |[]=>cs
 |v::vs=>eI (cs.set off v) (off+1) vs
theorem Js{b:Nat}{M:Nat->Prop}(hM:M b):∀(vs:List aL1) (w:aL0) (off i:Nat) (cs:List aL1),bD w b cs->off+i+vs.length<=cs.length->(∀v∈vs,one v=true)→
 ∃w',(storeCells ⟨b,off,none⟩ vs i).run P w= .ok () w'/\bD w' b (eI cs (off+i) vs)/\aL w w' M/\w'.heap.size=w.heap.size/\w'.drawn=w.drawn:=by
 intro vs
 induction vs with
 |nil=>intro w off i cs ho _ _;exact⟨w,by simp[storeCells],ho,aL.refl _ _,rfl,rfl⟩
 |cons v vs ih=>
  intro w off i cs ho h hv
  simp only[aJX]at h
  have ha:(⟨b,off,none⟩:Addr).add i=⟨b,off+i,none⟩:=by
   unfold Addr.add;split
   .rename_i hi;subst hi;rfl
   .rfl
  have hlt:off+i<cs.length:=by omega
  have hc:w.cell? ⟨b,off+i,none⟩=some cs[off+i]:=by rw[ho.cell];simp
  have hs:=azH (P:=P) (hv v (by simp)) hc (ho.free hlt)
  obtain⟨w',h1,h2,h3,h4,h5⟩:=ih (w.setCell ⟨b,off+i,none⟩ v) off (i+1) (cs.set (off+i) v) (ho.setCell v) (by simp;omega) (λx hx=>hv x (aJT _ hx))
  refine⟨w', ?_,h2,(aL.setCell w _ v λ_=>hM).trans h3 (λ_ _ h=>h),by rw[h4];simp,by rw[h5]<;>rfl⟩
  simp only[storeCells,Sem.run_bind,ha,hs,Result.andThen_ok]
  exact h1
theorem lL{i:TypeInfo}(hi:P.info? t=some i){b off:Nat}{cs:List aL1}(ho:bD w b cs){v:aL1}(hs:v.cells.size=i.size)
 (hv:∀x∈v.cells.toList,one x=true) (h:off+i.size<=cs.length) {K:aL1->aL0->Prop}
 (hk:∀w',bD w' b (eI cs off v.cells.toList)->aL w w' (λx=>x=b)->w'.heap.size=w.heap.size->K undef w'):aA P (aF t (.pointer (some ⟨b,off,none⟩)) v) w K:=by
 obtain⟨w',h1,h2,h3,h4,_⟩:=Js (P:=P) (M:=λx=>x=b) rfl v.cells.toList w off 0 cs ho (by simp[hs];omega) hv
 have:(aF t (.pointer (some ⟨b,off,none⟩)) v).run P w= .ok .skip w':=by
  unfold aF
  rw[aH9]
  simp only[Instr.storeAt,Instr.sureAddr,storeVar,pure_bind,Sem.run_bind,eB hi,Result.andThen_ok,hs]
  simp[h1]
 unfold aA
 rw[this]
 exact hk w' h2 h3 h4
theorem anT{v:aL1}(hv:one v=true):v.cells= #[v]:=by cases v<;>simp[one]at hv<;>rfl
theorem gO{i:TypeInfo}(hi:P.info? t=some i)(h1:i.size=1){b off:Nat}{cs:List aL1}(ho:bD w b cs){v:aL1}(hv:one v=true)(h:off<cs.length){K:aL1->aL0->Prop}
 (hk:∀w',bD w' b (cs.set off v)->aL w w' (λx=>x=b)->w'.heap.size=w.heap.size->K undef w'):aA P (aF t (.pointer (some ⟨b,off,none⟩)) v) w K:=by
 have e:=anT hv
 refine lL hi ho (by rw[e,h1]<;>rfl) (by rw[e];simpa using hv) (by omega) λw' a b c=>hk w' ?_ b c
 rw[e]at a;exact a
def ldC(c:Option aL1)(w:aL0)(far:Result Next):Result Next:=match c with|some v=> .ok (.value v) w|none=>far
def far(P:Program)(t:TypeId)(x:Addr)(w:aL0):Result Next:=(aB t (.pointer (some x))).run P w
theorem bK(v:aL1)(w:aL0)(f:Result Next):ldC (some v) w f= .ok (.value v) w:=rfl
theorem NJ{d:TypeDesc}(hu:P.underlying t=some d)(hd:apG d=false)(x:Addr)(w:aL0):
 (aB t (.pointer (some x))).run P w=ldC (w.cell? x) w (far P t x w):=by
 cases h:w.cell? x with
 |none=>rfl
 |some v=>
  unfold aB
  rw[jJ]
  simp only[Instr.loadAt,Instr.sureAddr,loadVar,pure_bind,Sem.run_bind,HQ hu,hd,Result.andThen_ok,aJM,if_false,run_load,h,ldC]
theorem Fh{d:TypeDesc}{i:TypeInfo}(hu:P.underlying t=some d)(hd:apG d=true)(hi:P.info? t=some i){b off:Nat}{cs:List aL1}(ho:bD w b cs)(h:off+i.size<=cs.length){K:aL1->Prop}
 (hk:K (.agg ((cs.drop off).take i.size).toArray)):lO P t (.pointer (some ⟨b,off,none⟩)) w K:=by
 refine⟨_, ?_,hk⟩
 simp only[asAddr,loadVar,pure_bind,Sem.run_bind,HQ hu,hd,Result.andThen_ok,if_true,eB hi,Uy ho h,Sem.run_pure]
theorem cA{v:aL1}{K:aL1->aL0->Prop}(hk:∀w',bD w' w.heap.size v.cells.toList->aL w w' aT->w'.heap.size=w.heap.size+1->K (.pointer (some ⟨w.heap.size,0,none⟩)) w'):
 aA P (jK t v) w K:=by
 have:(jK t v).run P w= .ok (.value (.pointer (some ⟨w.heap.size,0,none⟩))) (w.alloc (.cells v.cells.toList.toArray t)):=by
  unfold jK;rw[jJ]
  simp[Instr.box,newVar,newRow]
 unfold aA
 rw[this]
 exact hk _ (bD.alloc _ _ _) (aL.alloc _ _ _) (by simp)
theorem iZ{i:TypeInfo}{z:aL1}(hi:P.info? t=some i)(hz:i.zero=some z){K:aL1->aL0->Prop}
 (hk:∀w',bD w' w.heap.size z.cells.toList->aL w w' aT->w'.heap.size=w.heap.size+1->K (.pointer (some ⟨w.heap.size,0,none⟩)) w'):
 aA P (bE t) w K:=by
 have:(bE t).run P w= .ok (.value (.pointer (some ⟨w.heap.size,0,none⟩))) (w.alloc (.cells z.cells.toList.toArray t)):=by
  unfold bE;rw[jJ]
  simp[Instr.alloc,zeroValue,typeInfo,hi,hz,newVar,newRow]
 unfold aA
 rw[this]
 exact hk _ (bD.alloc _ _ _) (aL.alloc _ _ _) (by simp)
end
theorem lJ{P:Program}{w:aL0}{k:IntKind}{a:Int}{y:Nat}{code:BoundsCode}(h0:0<=a)(h1:a<=y):(Instr.sliceBound (.int k a) y code).run P w= .ok a.toNat w:=by
 simp[Instr.sliceBound,asIntOf,h0,h1]
section
variable{P:Program}{w:aL0}{t e:TypeId}{k k':IntKind}{lo hi:Int}{i:TypeInfo}
def dD(x:Option Addr)(m l sz:Nat):Option Addr:=if m=l then x else x.map (·.add (l*sz))
theorem aiH(hu:P.underlying t=some (.slice e))(hi':P.info? e=some i)(x:Option Addr)(n c:Nat)(h0:0<=lo)(h1:lo<=n):
 (dH t (.slice x n c) (some (.int k lo)) none none).run P w= .ok (.value (.slice (dD x c lo.toNat i.size) (n-lo.toNat) (c-lo.toNat))) w:=by
 simp only[dH,jJ,Instr.sliceAt,underlying,hu,Sem.run_bind,run_program,Result.andThen_ok,Sem.run_pure,Instr.slice,Instr.sliceBounds,pure_bind,lJ h0 h1,eB hi',dD]
theorem ayQ(hu:P.underlying t=some (.slice e))(hi':P.info? e=some i)(x:Option Addr)(n c:Nat)(h0:0<=hi)(h1:hi<=c):
 (dH t (.slice x n c) none (some (.int k hi)) none).run P w= .ok (.value (.slice (dD x c 0 i.size) (hi.toNat-0) (c-0))) w:=by
 simp only[dH,jJ,Instr.sliceAt,underlying,hu,Sem.run_bind,run_program,Result.andThen_ok,Sem.run_pure,Instr.slice,Instr.sliceBounds,pure_bind,lJ h0 h1,eB hi',dD]
theorem aqO(hu:P.underlying t=some (.slice e))(hi':P.info? e=some i)(x:Option Addr)(n c:Nat)(h0:0<=lo)(h1:lo<=hi)(h2:hi<=c):
 (dH t (.slice x n c) (some (.int k lo)) (some (.int k' hi)) none).run P w= .ok (.value (.slice (dD x c lo.toNat i.size) (hi.toNat-lo.toNat) (c-lo.toNat))) w:=by
 have h3:(0:Int)<=hi:=by omega
 have h4:lo<=(hi.toNat:Int):=by omega
 simp only[dH,jJ,Instr.sliceAt,underlying,hu,Sem.run_bind,run_program,Result.andThen_ok,Sem.run_pure,Instr.slice,Instr.sliceBounds,pure_bind,lJ h3 h2,lJ h0 h4,eB hi',dD]
theorem auW(hu:P.underlying t=some .string)(x:ByteArray)(h0:0<=lo)(h1:lo<=x.size):
 (dH t (.string x) (some (.int k lo)) none none).run P w= .ok (.value (.string (x.extract lo.toNat x.size))) w:=by
 simp only[dH,jJ,Instr.sliceAt,underlying,hu,Sem.run_bind,run_program,Result.andThen_ok,Sem.run_pure,Instr.slice,Instr.sliceBounds,pure_bind,aLM,aJM,if_false,lJ h0 h1]
theorem auV(hu:P.underlying t=some .string)(x:ByteArray)(h0:0<=hi)(h1:hi<=x.size):
 (dH t (.string x) none (some (.int k hi)) none).run P w= .ok (.value (.string (x.extract 0 hi.toNat))) w:=by
 simp only[dH,jJ,Instr.sliceAt,underlying,hu,Sem.run_bind,run_program,Result.andThen_ok,Sem.run_pure,Instr.slice,Instr.sliceBounds,pure_bind,aLM,aJM,if_false,lJ h0 h1]
theorem amA(hu:P.underlying t=some .string)(x:ByteArray)(h0:0<=lo)(h1:lo<=hi)(h2:hi<=x.size):
 (dH t (.string x) (some (.int k lo)) (some (.int k' hi)) none).run P w= .ok (.value (.string (x.extract lo.toNat hi.toNat))) w:=by
 have h3:(0:Int)<=hi:=by omega
 have h4:lo<=(hi.toNat:Int):=by omega
 simp only[dH,jJ,Instr.sliceAt,underlying,hu,Sem.run_bind,run_program,Result.andThen_ok,Sem.run_pure,Instr.slice,Instr.sliceBounds,pure_bind,aLM,aJM,if_false,lJ h3 h2,lJ h0 h4]
def GK(a:Addr)(m l sz:Nat):Addr:=if m=l then a else a.add (l*sz)
theorem abD{n:Nat}(hu:P.underlying t=some (.array n e))(hi':P.info? e=some i)(x:Addr)(h0:0<=lo)(h1:lo<=n):
 (dH t (.pointer (some x)) (some (.int k lo)) none none).run P w= .ok (.value (.slice (some (GK x n lo.toNat i.size)) (n-lo.toNat) (n-lo.toNat))) w:=by
 simp only[dH,jJ,Instr.sliceAt,Instr.sureAddr,underlying,hu,Sem.run_bind,run_program,Result.andThen_ok,Sem.run_pure,Instr.sliceBounds,pure_bind,lJ h0 h1,eB hi',GK]
theorem auU{n:Nat}(hu:P.underlying t=some (.array n e))(hi':P.info? e=some i)(x:Addr)(h0:0<=hi)(h1:hi<=n):
 (dH t (.pointer (some x)) none (some (.int k hi)) none).run P w= .ok (.value (.slice (some (GK x n 0 i.size)) (hi.toNat-0) (n-0))) w:=by
 simp only[dH,jJ,Instr.sliceAt,Instr.sureAddr,underlying,hu,Sem.run_bind,run_program,Result.andThen_ok,Sem.run_pure,Instr.sliceBounds,pure_bind,lJ h0 h1,eB hi',GK]
end
def Sl(w:aL0)(v:aL1)(l:List aL1):Prop:=
 ∃a n c,v= .slice a n c/\n=l.length/\n<=c/\(0<n->∃b off,a=some ⟨b,off,none⟩/\∀i,i<n->w.cell? ⟨b,off+i,none⟩=l[i]?)
def fK(v:aL1)(M:Nat->Prop):Prop:=match v with| .slice (some a) (_+1) _=>M a.block|_=>False
theorem Sl.ext {w w':aL0}{v:aL1}{l:List aL1}{M:Nat->Prop}(h:Sl w v l)(hx:aL w w' M)(hM:¬fK v M):Sl w' v l:=by
 obtain⟨a,n,c,rfl,hn,hc,h⟩:=h
 refine⟨a,n,c,rfl,hn,hc,λh0=> ?_⟩
 obtain⟨b,off,rfl,h2⟩:=h h0
 refine⟨b,off,rfl,λi hi=> ?_⟩
 have h1:=h2 i hi
 obtain⟨v,hv⟩:∃v,l[i]?=some v:=⟨l[i],by simp⟩
 rw[hv]at h1⊢
 refine aCR h1 hx ?_
 obtain⟨m,rfl⟩:∃m,n=m+1:=⟨n-1,by omega⟩
 exact hM
theorem Sl.old {w:aL0}{v:aL1}{l:List aL1}(h:Sl w v l):¬fK v (λb=>w.heap.size<=b):=by
 obtain⟨a,n,c,rfl,hn,hc,h⟩:=h
 unfold fK
 split
 .rename_i x m _ e
  obtain⟨rfl,rfl,rfl⟩:a=some x/\n=m+1/\c=_:=by simpa using e
  obtain⟨b,off,e,h2⟩:=h (by omega)
  have e:=aKO e;subst e
  have h1:=h2 0 (by omega)
  obtain⟨v,hv⟩:∃v,l[0]?=some v:=⟨l[0],by simp⟩
  rw[hv]at h1
  have:=World.block_lt_of_cell? _ _ h1
  simp at this⊢;omega
 .simp
def gT(x:UInt8):aL1:= .int .u8 x.toNat
abbrev Bs(w:aL0)(v:aL1)(l:List UInt8):Prop:=Sl w v (l.map gT)
theorem CP(b o n:Nat):(⟨b,o,none⟩:Addr).add n=⟨b,o+n,none⟩:=by
 unfold Addr.add;split
 .rename_i h;subst h;rfl
 .rfl
section
variable{P:Program}{w:aL0}{t e:TypeId}{k:IntKind}{a:Int}
theorem Et{inf:TypeInfo}{sz:Nat}(hz:inf.size=sz)(hu:P.underlying t=some (.slice e))(hi:P.info? e=some inf)(b o n c:Nat)(h0:0<=a)(h1:a<n):
 (aR t (.slice (some ⟨b,o,none⟩) n c) (.int k a)).run P w= .ok (.value (.pointer (some ⟨b,o+a.toNat*sz,none⟩))) w:=by
 rw[auS hu hi _ n c h0 h1,CP,hz]
theorem Tr{inf:TypeInfo}(hz:inf.size=1)(hu:P.underlying t=some (.slice e))(hi:P.info? e=some inf)(b o n c:Nat)(h0:0<=a)(h1:a<n):
 (aR t (.slice (some ⟨b,o,none⟩) n c) (.int k a)).run P w= .ok (.value (.pointer (some ⟨b,o+a.toNat,none⟩))) w:=by
 rw[auS hu hi _ n c h0 h1,CP,hz,aLp]
theorem Mt{inf:TypeInfo}{len:Nat}(hz:inf.size=1)(hu:P.underlying t=some (.array len e))(hi:P.info? e=some inf)(b o:Nat)(h0:0<=a)(h1:a<(len:Int)):
 (aR t (.pointer (some ⟨b,o,none⟩)) (.int k a)).run P w= .ok (.value (.pointer (some ⟨b,o+a.toNat,none⟩))) w:=by
 rw[aDZ hu hi _ h0 h1,CP,hz,aLp]
end
def lst(x:ByteArray):List UInt8:=x.data.toList
theorem RL(x:ByteArray)(a b:Nat):lst (x.extract a b)=((lst x).drop a).take (b-a):=by
 unfold lst;rw[ByteArray.data_extract,Array.toList_extract,List.extract_eq_take_drop]
theorem ahV(x y:ByteArray):lst (x++y)=lst x++lst y:=by
 unfold lst;rw[ByteArray.data_append,Array.toList_append]
section
variable{P:Program}{w:aL0}{s d e:TypeId}
theorem aDY(hs:P.underlying s=some (.slice e))(hd:P.underlying d=some .string)(he:P.underlying e=some (.int .u8)){l:List UInt8}{v:aL1}(h:Bs w v l):
 (cP s d v).run P w= .ok (.value (.string ⟨l.toArray⟩)) w:=by
 obtain⟨a,n,c,rfl,hn,hc,h⟩:=h
 simp only[aJC]at hn
 unfold cP
 rw[jJ]
 have key:(convert s d (.slice a n c)).run P w= .ok (.string ⟨l.toArray⟩) w:=by
  cases a with
  |none=>
   have hl:l=[]:=by
    cases l with
    |nil=>rfl
    |cons x l=>obtain⟨b,off,e,_⟩:=h (by rw[hn];simp);cases e
   subst hl
   rw[run_convert_bytes_string w s d e none n c hs he hd]
   rfl
  |some x=>
   subst hn
   refine run_convert_bytes_back w s d e x c l hs he hd λj hj=> ?_
   obtain⟨b,off,hx,h2⟩:=h (by omega)
   have hx:=aKO hx
   subst hx
   rw[CP,h2 j hj]
   simp[gT,hj]
 rw[key]<;>rfl
theorem azO(hs:P.underlying s=some .string)(hd:P.underlying d=some (.slice e))(he:P.underlying e=some (.int .u8)){x:ByteArray}{K:aL1->aL0->Prop}
 (hk:∀w' c,Sl w' (.slice (some ⟨w.heap.size,0,none⟩) x.size c) (x.data.toList.map gT)->aL w w' aT->w'.heap.size=w.heap.size+1→
  (∃r,bD w' w.heap.size (x.data.toList.map gT++List.replicate r (Value.int .u8 0))/\c=x.size+r)->K (.slice (some ⟨w.heap.size,0,none⟩) x.size c) w'):aA P (cP s d (.string x)) w K:=by
 have run:=run_bytes_of_string (P:=P) w s d e x hs hd he
 have hcap:x.size<=grownCap w x.size 0 e:=aKJ _ _
 generalize grownCap w x.size 0 e=c at run hcap
 obtain⟨r,rfl⟩:∃r,c=x.size+r:=⟨c-x.size,by omega⟩
 have hrow:bytesRow x (x.size+r)=(x.data.toList.map gT++List.replicate r (Value.int .u8 0)).toArray:=by
  unfold bytesRow
  have:x.size+r-x.size=r:=by omega
  rw[this]
  apply Array.ext'
  simp only[Array.toList_append,Array.toList_map,Array.toList_replicate]
  rfl
 rw[hrow]at run
 have hlen:(x.data.toList.map gT).length=x.size:=by rw[aJC,aLG]<;>rfl
 have hsz:(x.data.toList.map gT++List.replicate r (Value.int .u8 0)).toArray.size=x.size+r:=by
  rw[aKL,aJF,aJ9,hlen]
 rw[hsz]at run
 unfold aA cP
 rw[jJ,run]
 have ho:bD (w.drew.alloc (.cells (x.data.toList.map gT++List.replicate r (Value.int .u8 0)).toArray e (x.size+r,x.size+r+1))) w.heap.size (x.data.toList.map gT++List.replicate r (Value.int .u8 0)):=
  ⟨e,x.size+r,x.size+r+1,Array.getElem?_push_size,.inl (by rw[aJF,aJ9,hlen];exact aJO _)⟩
 have hx:aL w (w.drew.alloc (.cells (x.data.toList.map gT++List.replicate r (Value.int .u8 0)).toArray e (x.size+r,x.size+r+1))) aT:=(aL.dr w aT).trans (aL.alloc _ _ aT) (λ_ _ h=>h)
 refine hk _ _ ⟨_,_,_,rfl,hlen.symm,by omega,λ_=>⟨_,_,rfl,λi hi=> ?_⟩⟩ hx (by show(w.heap.push _).size=_;rw[Array.size_push]) ⟨r,ho,rfl⟩
 rw[ho.cell]
 simp only[aJG]
 rw[aJ0 (by rw[hlen];exact hi)]
end
theorem Eg(l:List UInt8):∀x∈l.map gT,one x=true:=by
 intro x hx
 obtain⟨c,_,rfl⟩:=aKq.1 hx
 rfl
theorem aCb{b o m l sz:Nat}(h:l≠m):GK ⟨b,o,none⟩ m l sz=⟨b,o+l*sz,none⟩:=by
 unfold GK;rw[if_neg (λe=>h e.symm),CP]
theorem VY{b o m l:Nat}(h:l≠m):GK ⟨b,o,none⟩ m l 1=⟨b,o+l,none⟩:=by rw[aCb h,aLp]
theorem Sl.drop {w:aL0}{b o n c:Nat}{l:List aL1}(h:Sl w (.slice (some ⟨b,o,none⟩) n c) l){k:Nat}(hk:k<=n):
 Sl w (.slice (dD (some ⟨b,o,none⟩) c k 1) (n-k) (c-k)) (l.drop k):=by
 obtain⟨x,m,c',e,hm,hc,hh⟩:=h
 cases e
 refine⟨_,_,_,rfl,by rw[aJS];omega,by omega,λh0=> ?_⟩
 obtain⟨b',o',e,h2⟩:=hh (by omega)
 cases e
 have hne:¬c=k:=by omega
 refine⟨b,o+k,by unfold dD;rw[if_neg hne,aKs,CP,aLp],λi hi=> ?_⟩
 rw[aKy,h2 (k+i) (by omega),aK7]
theorem Sl.take {w:aL0}{b o n c:Nat}{l:List aL1}(h:Sl w (.slice (some ⟨b,o,none⟩) n c) l){k:Nat}(hk:k<=n):
 Sl w (.slice (dD (some ⟨b,o,none⟩) c 0 1) (k-0) (c-0)) (l.take k):=by
 obtain⟨x,m,c',e,hm,hc,hh⟩:=h
 cases e
 refine⟨_,_,_,rfl,by rw[aJP];omega,by omega,λh0=> ?_⟩
 obtain⟨b',o',e,h2⟩:=hh (by omega)
 cases e
 have hne:¬c=0:=by omega
 refine⟨b,o,by unfold dD;rw[if_neg hne,aKs,CP]<;>rfl,λi hi=> ?_⟩
 rw[h2 i (by omega),aKE (by omega)]
theorem aBD{b o n c k:Nat}{M:Nat->Prop}(h:¬fK (.slice (some ⟨b,o,none⟩) n c) M)(hn:0<n)(m:Nat):¬fK (.slice (dD (some ⟨b,o,none⟩) c k 1) m (c-k)) M:=by
 have hb:¬M b:=by
  obtain⟨n',rfl⟩:∃n',n=n'+1:=⟨n-1,by omega⟩
  exact h
 unfold fK dD
 split
 .rename_i x q _ e
  simp only[Value.slice.injEq]at e
  obtain⟨e,_,_⟩:=e
  split at e
  .cases e;exact hb
  .rw [aKs,CP]at e;cases e;exact hb
 .simp
theorem bD.bs {w:aL0}{b off c:Nat}{cs:List aL1}{l:List UInt8}(h:bD w b cs)(hc:l.length<=c)(hl:∀i (hi:i<l.length),cs[off+i]?=some (gT l[i])):Bs w (.slice (some ⟨b,off,none⟩) l.length c) l:=
 ⟨_,_,_,rfl,by simp,hc,λ_=>⟨b,off,rfl,λi hi=>by rw[h.cell,hl i hi];simp[hi]⟩⟩
section
variable{P:Program}{w:aL0}{t e:TypeId}{k:IntKind}{a:Int}
theorem aG5 {len:Nat}{d:TypeDesc}{i:TypeInfo}(hu:P.underlying t=some (.array len e))(hd:P.underlying e=some d)(ha:apG d=false)(hi:P.info? e=some i)(h1:i.size=1)
 (cs:Array aL1) (h0:0<=a) (hl:a<(len:Int)) {v:aL1} (hv:cs[a.toNat]?=some v):(VS t (.agg cs) (.int k a)).run P w= .ok (.value v) w:=by
 unfold VS
 rw[jJ]
 simp only[Instr.index,asIntOf,pure_bind,underlying,hu,Sem.run_bind,run_program,Result.andThen_ok,Sem.run_pure,h0,hl,and_self,if_true,eB hi,h1,aLp,part,HQ hd,ha,aJM,if_false,hv]
def aHV(P:Program)(t:TypeId)(cs:Array aL1)(k:IntKind)(a:Int)(w:aL0):Result Next:=(VS t (.agg cs) (.int k a)).run P w
theorem aG6 {len:Nat}{d:TypeDesc}{i:TypeInfo}(hu:P.underlying t=some (.array len e))(hd:P.underlying e=some d)(ha:apG d=false)(hi:P.info? e=some i)(h1:i.size=1)
 (cs:Array aL1) (h0:0<=a) (hl:a<(len:Int)):(VS t (.agg cs) (.int k a)).run P w=ldC cs[a.toNat]? w (aHV P t cs k a w):=by
 cases hv:cs[a.toNat]? with
 |none=>rfl
 |some v=>exact aG5 hu hd ha hi h1 cs h0 hl hv
theorem WW{b off:Nat}{l:List aL1}(h:∀i,i<l.length->w.cell? ⟨b,off+i,none⟩=l[i]?)(n:Nat)(hn:n<=l.length):
 (loadCells ⟨b,off,none⟩ n).run P w= .ok (l.take n).toArray w:=by
 have key:∀(m i:Nat) (acc:Array aL1),i+m<=l.length->(loadCellsFrom ⟨b,off,none⟩ i m acc).run P w= .ok (acc++((l.drop i).take m).toArray) w:=by
  intro m
  induction m with
  |zero=>intro i acc _;simp[loadCellsFrom]
  |succ m ih=>
   intro i acc hm
   have hc:=h i (by omega)
   rw[aJE (by omega)]at hc
   simp only[loadCellsFrom,Sem.run_bind,run_load,CP,hc,Result.andThen_ok]
   rw[ih (i+1) _ (by omega),aKB (by omega:i<l.length),List.take_succ_cons]
   simp
 unfold loadCells
 rw[key n 0 #[] (by omega)]
 simp
theorem alT{sz n:Nat}{v:aL1}{l:List aL1}(h1:sz=1)(h:Sl w v l)(hn:n<=l.length):(Builtin.firstCells sz n v).run P w= .ok (l.take n).toArray w:=by
 subst h1
 obtain⟨x,m,c,rfl,hm,hc,hh⟩:=h
 cases x with
 |none=>
  have:l=[]:=by
   cases l with
   |nil=>rfl
   |cons y l=>obtain⟨b,off,e,_⟩:=hh (by rw[hm];simp);cases e
  subst this
  simp[Builtin.firstCells]
 |some x=>
  simp only[Builtin.firstCells,aLp]
  by_cases h0:0<m
  .obtain ⟨b,off,e,h2⟩:=hh h0
   have e:=aKO e;subst e
   exact WW (λi hi=>h2 i (by omega)) n hn
  .have h00:n=0:=by omega
   subst h00
   simp[loadCells,loadCellsFrom]
theorem aHh{v:aL1}{l:List aL1}(h:Sl w v l):(Builtin.lenOf v).run P w= .ok l.length w:=by
 obtain⟨x,m,c,rfl,hm,hc,hh⟩:=h
 simp[Builtin.lenOf,hm]
theorem awJ{ty t2:TypeId}{i:TypeInfo}(hu:P.underlying t=some (.slice e))(hi:P.info? e=some i)(h1:i.size=1){b off dl c:Nat}{cs:List aL1}(ho:bD w b cs)(hl:off+dl<=cs.length)
 {v:aL1} {l:List aL1} (h:Sl w v l) (hv:∀x∈l,one x=true) {K:aL1->aL0->Prop}
 (hk:∀w',bD w' b (eI cs off (l.take (min l.length dl)))->aL w w' (λx=>x=b)->w'.heap.size=w.heap.size->K (.int .i64 (min l.length dl:Nat)) w'):
 aA P (eK .copy #[t,t2] ty [.slice (some ⟨b,off,none⟩) dl c,v]) w K:=by
 have hlen:(l.take (min l.length dl)).length=min l.length dl:=by rw[aJP];omega
 obtain⟨w',s1,s2,s3,s4,_⟩:=Js (P:=P) (M:=λx=>x=b) rfl (l.take (min l.length dl)) w off 0 cs ho (by rw[hlen];omega) (λx hx=>hv x (aLn hx))
 have:(eK .copy #[t,t2] ty [.slice (some ⟨b,off,none⟩) dl c,v]).run P w= .ok (.value (.int .i64 (min l.length dl:Nat))) w':=by
  unfold eK builtin
  simp only[Builtin.copy_,aKU,aJD,aJJ]
  simp only[underlying,Sem.run_bind,run_program,Result.andThen_ok,hu,Sem.run_pure,aHh h,eB hi,h1]
  have:=alT (P:=P) (n:=min l.length dl) rfl h (Nat.min_le_left _ _)
  rw[show(Nat.min l.length dl)=min l.length dl from rfl,this]
  simp only[Result.andThen_ok,s1,goInt]
 unfold aA
 rw[this]
 exact hk w' (by simpa using s2) s3 s4
theorem awK{i:TypeInfo}{z:aL1}(hu:P.underlying t=some (.slice e))(hi:P.info? e=some i)(h1:i.size=1)(hz:i.zero=some z)(hz1:one z=true){n:Int}(h0:0<=n)(hn:i.bytes*n<=2^48)(hn2:n<=9223372036854775807)
 {K:aL1->aL0->Prop}
 (hk:∀w',bD w' w.heap.size (List.replicate n.toNat z)->aL w w' aT->w'.heap.size=w.heap.size+1->K (.slice (some ⟨w.heap.size,0,none⟩) n.toNat n.toNat) w'):
 aA P (yX t (.int k n) (.int k n)) w K:=by
 have hw:IntKind.i64.wrap n=n:=dG (by omega) hn2
 have hcells:z.cells= #[z]:=anT hz1
 have harr:(Array.range n.toNat).map (λj=>(#[z]:Array aL1)[j%(#[z]:Array aL1).size]!)=(List.replicate n.toNat z).toArray:=by
  apply Array.ext
  .simp
  .intro j h1 h2;simp[Nat.mod_one]
 have hz':(zeroValue e).run P w= .ok z w:=by simp[zeroValue,typeInfo,hi,hz]
 have:(yX t (.int k n) (.int k n)).run P w= .ok (.value (.slice (some ⟨w.heap.size,0,none⟩) n.toNat n.toNat)) (w.alloc (.cells (List.replicate n.toNat z).toArray e)):=by
  unfold yX
  rw[jJ]
  have t1:(decide (n<0)||decide ((i.bytes:Int)*n>2^48)||decide (n<0)||decide (n>n))=false:=by
   simp only[aLm,decide_eq_false_iff_not];omega
  by_cases hn0:n.toNat=0
  .simp only[Instr.makeSlice,underlying,typeInfo,asInt,asIntOf,pure_bind,Sem.run_bind,run_program,Result.andThen_ok,hu,hi,Sem.run_pure,hw,t1,aJM,if_false,run_askRoom,eB hi,h1,aLp,hn0,if_true,newRow,run_newObj]
   have:(Array.range 0).map (λx=>(#[]:Array aL1)[x%(#[]:Array aL1).size]!)=(List.replicate 0 z).toArray:=by simp
   rw[this]
   rfl
  .simp only[Instr.makeSlice,underlying,typeInfo,asInt,asIntOf,pure_bind,Sem.run_bind,run_program,Result.andThen_ok,hu,hi,Sem.run_pure,hw,t1,aJM,if_false,run_askRoom,eB hi,h1,aLp,hn0,hz',hcells,newRow,run_newObj,harr]
   rfl
 unfold aA
 rw[this]
 exact hk _ (bD.alloc _ _ _) (aL.alloc _ _ _) (by simp)
end
def Cl(w:aL0)(sz:Nat)(v:aL1)(n:Nat)(l:List aL1):Prop:=
 ∃a c,v= .slice a n c/\l.length=n*sz/\(0<n->∃b off,a=some ⟨b,off,none⟩/\∀i,i<l.length->w.cell? ⟨b,off+i,none⟩=l[i]?)
def mP(w:aL0)(base sz:Nat)(v:aL1)(n:Nat)(l:List aL1):Prop:=
 l.length=n*sz/\((v= .slice none 0 0/\n=0)∨
   ∃b c rest,v= .slice (some ⟨b,0,none⟩) n c/\base<=b/\bD w b (l++rest)/\(l++rest).length=c*sz/\n<=c)
def DJ(w:aL0)(S:Nat->Prop)(sz:Nat)(v:aL1)(n:Nat)(l:List aL1):Prop:=
 l.length=n*sz/\((v= .slice none 0 0/\n=0)∨
   ∃b c rest,v= .slice (some ⟨b,0,none⟩) n c/\S b/\bD w b (l++rest)/\(l++rest).length=c*sz/\n<=c)
theorem Sl.cl {w:aL0}{v:aL1}{l:List aL1}(h:Sl w v l):Cl w 1 v l.length l:=by
 obtain⟨a,n,c,rfl,rfl,hc,h⟩:=h
 exact⟨a,c,rfl,by omega,λh0=>h h0⟩
theorem bD.cl {w:aL0}{b sz n c off:Nat}{cs l:List aL1}(h:bD w b cs)(hl:l.length=n*sz)(hcs:∀i,i<l.length->cs[off+i]?=l[i]?):Cl w sz (.slice (some ⟨b,off,none⟩) n c) n l:=
 ⟨_,_,rfl,hl,λ_=>⟨b,off,rfl,λi hi=>by rw[h.cell,hcs i hi]⟩⟩
theorem mP.nil (w:aL0)(base sz:Nat):mP w base sz (.slice none 0 0) 0 []:=⟨by simp,.inl ⟨rfl,rfl⟩⟩
theorem mP.ext {w w':aL0}{base sz n:Nat}{v:aL1}{l:List aL1}{M:Nat->Prop}(h:mP w base sz v n l)(hx:aL w w' M)(hM:∀b,base<=b->¬M b):mP w' base sz v n l:=by
 refine⟨h.1, ?_⟩
 rcases h.2 with h2|⟨b,c,rest,h1,h2,h3,h4,h5⟩
 .exact .inl h2
 .exact .inr ⟨b,c,rest,h1,h2,h3.ext hx (hM b h2),h4,h5⟩
theorem mP.cl {w:aL0}{base sz n:Nat}{v:aL1}{l:List aL1}(h:mP w base sz v n l):Cl w sz v n l:=by
 rcases h.2 with⟨rfl,rfl⟩|⟨b,c,rest,rfl,h2,h3,h4,h5⟩
 .exact ⟨_,_,rfl,h.1,λh=>by omega⟩
 .refine ⟨_,_,rfl,h.1,λ_=>⟨b,0,rfl,λi hi=> ?_⟩⟩
  rw[h3.cell,aJG,aJ0 hi]
theorem mP.sl {w:aL0}{base n:Nat}{v:aL1}{l:List aL1}(h:mP w base 1 v n l):Sl w v l:=by
 have hl:=h.1
 rcases h.2 with⟨rfl,rfl⟩|⟨b,c,rest,rfl,h2,h3,h4,h5⟩
 .exact ⟨_,_,_,rfl,by omega,by omega,λh=>by omega⟩
 .refine ⟨_,_,_,rfl,by omega,h5,λ_=>⟨b,0,rfl,λi hi=> ?_⟩⟩
  rw[h3.cell,aJG,aJ0 (by omega)]
section
variable{P:Program}{w:aL0}{t e:TypeId}
theorem WV{b off:Nat}{l:List aL1}(h:∀i,i<l.length->w.cell? ⟨b,off+i,none⟩=l[i]?):(loadCells ⟨b,off,none⟩ l.length).run P w= .ok l.toArray w:=by
 have:=WW (P:=P) h l.length (aJO _)
 rwa [List.take_length]at this
theorem Fa{sz n:Nat}{v:aL1}{l:List aL1}(h:Cl w sz v n l):(Builtin.firstCells sz n v).run P w= .ok l.toArray w:=by
 obtain⟨x,c,rfl,hl,hh⟩:=h
 cases x with
 |none=>
  have:n=0:=by
   rcases Nat.eq_zero_or_pos n with h|h
   .exact h
   .obtain ⟨b,off,e,_⟩:=hh h;cases e
  subst this
  have:l=[]:=aKd.1 (by omega)
  subst this
  simp[Builtin.firstCells]
 |some x=>
  simp only[Builtin.firstCells]
  rw[<-hl]
  by_cases h0:0<n
  .obtain ⟨b,off,e,h2⟩:=hh h0
   have e:=aKO e;subst e
   exact WV h2
  .have:n=0:=by omega
   subst this
   have:l=[]:=aKd.1 (by omega)
   subst this
   simp[loadCells,loadCellsFrom]
theorem M5 (zs:Array aL1)(n:Nat):(Builtin.zeroCells zs n).size=n*zs.size:=by simp[Builtin.zeroCells]
theorem jN(vs:List aL1):∀(aJB rest:List aL1),vs.length<=rest.length->eI (aJB++rest) aJB.length vs=aJB++vs++rest.drop vs.length:=by
 induction vs with
 |nil=>intro aJB rest _;simp[eI]
 |cons v vs ih=>
  intro aJB rest h
  cases rest with
  |nil=>simp at h
  |cons r rest=>
   have:=ih (aJB++[v]) rest (by simpa using h)
   simp only[eI,aJF,aJX,aKD,aJW,aLe,aJ1]at this⊢
   rw[List.drop_succ_cons,<-this,aKj _ _ (aJO _),aKT,aJV,aJG]
theorem awI{S:Nat->Prop}{sz n m:Nat}{i:TypeInfo}{z:aL1}{ty t2 e2:TypeId}(hu:P.underlying t=some (.slice e))(hu2:P.underlying t2=some (.slice e2))(hi:P.info? e=some i)(hsz:i.size=sz)(hz:i.zero=some z)(hzs:z.cells.size=sz)
 {v x:aL1} {l news:List aL1} (h:DJ w S sz v n l) (hx:Cl w sz x m news) (hone:∀y∈news,one y=true) (hb:∀b,w.heap.size<=b->S b)
 (hn:n+m<=9223372036854775807) (hbytes:(n+m)*i.bytes<=140737488355328) (_hpos:i.bytes≠0)
 {K:aL1->aL0->Prop} (hk:∀v' w',DJ w' S sz v' (n+m) (l++news)->aL w w' S->Cl w' sz v n l->K v' w'):aA P (eK .append #[t,t2] ty [v,x]) w K:=by
 have hlx:(Builtin.lenOf x).run P w= .ok m w:=by
  obtain⟨a,c,rfl,_⟩:=hx;simp[Builtin.lenOf]
 have hnl:=hx.choose_spec.choose_spec.2.1
 have hfx:=Fa (P:=P) hx
 have hmax:IntKind.i64.max=9223372036854775807:=by decide
 have hnot:¬(((n+m:Nat):Int)>IntKind.i64.max/\(False∨i.bytes=0)):=by rw[hmax];omega
 have hz':∀w,(zeroValue e).run P w= .ok z w:=λw=>by simp[zeroValue,typeInfo,hi,hz]
 have hlen:=h.1
 rcases h.2 with⟨rfl,rfl⟩|⟨b,c,rest,rfl,h2,h3,h4,h5⟩
 .
  have hl0:l=[]:=aKd.1 (by omega)
  subst hl0
  by_cases hm:m=0
  .subst hm
   have hn0:news=[]:=aKd.1 (by omega)
   subst hn0
   have:(eK .append #[t,t2] ty [.slice none 0 0,x]).run P w= .ok (.value (.slice none 0 0)) w:=by
    unfold eK builtin
    simp only[Builtin.append_,aKU,aJD,aJJ]
    simp only[underlying,Sem.run_bind,run_program,Result.andThen_ok,hu,hu2,Sem.run_pure,eB hi,hsz,aJM,if_false,hlx,aJO,aLX,if_true,aKC,hfx]
   unfold aA
   rw[this]
   exact hk _ _ ⟨by simp,.inl ⟨rfl,by omega⟩⟩ (aL.refl _ _) ⟨none,0,rfl,hlen,λh=>absurd h (by omega)⟩
  .have hfit:=growslice_fits (need:=0+m) (old:=0) (bytes:=i.bytes) (by omega) (by omega)
   have hfit':¬(Builtin.nextslicecap (0+m) 0*i.bytes>2^48):=by omega
   have hle:¬(0+m<=0):=by omega
   have hq:(Question.appendCap (0+m) 0 e).forced=false:=rfl
   obtain⟨r,hr⟩:∃r,(Question.appendCap (0+m) 0 e).cut (w.tape w.drawn (.appendCap (0+m) 0 e))=m+r:=
    ⟨(w.tape w.drawn (.appendCap (0+m) 0 e))%(2^63-(0+m)),by simp only[Question.cut];omega⟩
   have:(eK .append #[t,t2] ty [.slice none 0 0,x]).run P w= .ok (.value (.slice (some ⟨w.heap.size,0,none⟩) (0+m) (m+r))) ((dr w).alloc (.cells (news++(Builtin.zeroCells z.cells (m+r-(0+m))).toList).toArray e)):=by
    have hfx':=Fa (P:=P) (w:=dr w) hx
    unfold eK builtin
    simp only[Builtin.append_,aKU,aJD,aJJ]
    simp only[underlying,typeInfo,Sem.run_bind,run_program,Result.andThen_ok,hu,hu2,hi,Sem.run_pure,eB hi,hsz,aJM,if_false,hlx,hle,aKC,if_true,hnot,hfit',run_choose,hq,hr,run_askRoom]
    change((Sem.run P _ (dr w)).andThen _).andThen _=_
    simp only[Sem.run_bind,hfx',run_firstCells_none,Result.andThen_ok,hz',Sem.run_pure,newRow,run_newObj]
    have e1:(#[]++news.toArray++Builtin.zeroCells z.cells (m+r-(0+m)):Array aL1)=(news++(Builtin.zeroCells z.cells (m+r-(0+m))).toList).toArray:=by
     apply Array.ext';simp
    rw[e1]
    rfl
   unfold aA
   rw[this]
   refine hk _ _ ⟨by simp only[aJ1];rw[hnl,aJG],.inr ⟨w.heap.size,m+r,(Builtin.zeroCells z.cells (m+r-(0+m))).toList,by rw[aJG],hb _ (aJO _),bD.alloc (dr w) _ _, ?_,by omega⟩⟩ ((aL.dr w _).seq (aL.alloc _ _ _)) ⟨none,0,rfl,hlen,λh=>absurd h (by omega)⟩
   simp only[aJ1,aJF,aLG,M5,hzs,hnl]
   rw[show m+r-(0+m)=r from by omega,aLP]
 .by_cases hc:n+m<=c
  .
   have hroom:news.length<=rest.length:=by
    rw[aJF,hlen]at h4
    have:(n+m)*sz<=c*sz:=aLY _ hc
    rw[aLP]at this;omega
   obtain⟨w',s1,s2,s3,s4,_⟩:=Js (P:=P) (M:=S) h2 news w (n*sz) 0 (l++rest) h3 (by rw[aJF,hlen];omega) hone
   have:(eK .append #[t,t2] ty [.slice (some ⟨b,0,none⟩) n c,x]).run P w= .ok (.value (.slice (some ⟨b,0,none⟩) (n+m) c)) w':=by
    unfold eK builtin
    simp only[Builtin.append_,aKU,aJD,aJJ]
    simp only[underlying,Sem.run_bind,run_program,Result.andThen_ok,hu,hu2,Sem.run_pure,eB hi,hsz,aJM,if_false,hlx,hc,if_true,aKC,hfx,CP,aJG,s1]
   unfold aA
   rw[this]
   rw[aLX,<-hlen,jN _ _ _ hroom]at s2
   refine hk _ _ ⟨by rw[aJF,hlen,hnl,aLP],.inr ⟨b,c,rest.drop news.length,rfl,h2,s2, ?_,hc⟩⟩ s3 ⟨_,_,rfl,hlen,λ_=>⟨b,0,rfl,λi hi=>by
    rw[s2.cell,aJG,aJW,aJ0 hi]⟩⟩
   rw[<-h4];simp;omega
  .
   have hfit:=growslice_fits (need:=n+m) (old:=c) (bytes:=i.bytes) (by omega) hbytes
   have hfit':¬(Builtin.nextslicecap (n+m) c*i.bytes>2^48):=by omega
   have hq:(Question.appendCap (n+m) c e).forced=false:=rfl
   obtain⟨r,hr⟩:∃r,(Question.appendCap (n+m) c e).cut (w.tape w.drawn (.appendCap (n+m) c e))=n+m+r:=
    ⟨(w.tape w.drawn (.appendCap (n+m) c e))%(2^63-(n+m)),by simp only[Question.cut]⟩
   have hold:Cl (dr w) sz (.slice (some ⟨b,0,none⟩) n c) n l:=⟨_,_,rfl,hlen,λ_=>⟨b,0,rfl,λi hi=>by
    show w.cell? _=_
    rw[h3.cell,aJG,aJ0 hi]⟩⟩
   have:(eK .append #[t,t2] ty [.slice (some ⟨b,0,none⟩) n c,x]).run P w= .ok (.value (.slice (some ⟨w.heap.size,0,none⟩) (n+m) (n+m+r))) ((dr w).alloc (.cells (l++news++(Builtin.zeroCells z.cells (n+m+r-(n+m))).toList).toArray e)):=by
    have hfx':=Fa (P:=P) (w:=dr w) hx
    have hfo:=Fa (P:=P) hold
    unfold eK builtin
    simp only[Builtin.append_,aKU,aJD,aJJ]
    simp only[underlying,typeInfo,Sem.run_bind,run_program,Result.andThen_ok,hu,hu2,hi,Sem.run_pure,eB hi,hsz,aJM,if_false,hlx,hc,aKC,if_true,hnot,hfit',run_choose,hq,hr,run_askRoom]
    change((Sem.run P _ (dr w)).andThen _).andThen _=_
    simp only[Sem.run_bind,hfx',hfo,Result.andThen_ok,hz',Sem.run_pure,newRow,run_newObj]
    have e1:(l.toArray++news.toArray++Builtin.zeroCells z.cells (n+m+r-(n+m)):Array aL1)=(l++news++(Builtin.zeroCells z.cells (n+m+r-(n+m))).toList).toArray:=by
     apply Array.ext';simp
    rw[e1]
    rfl
   unfold aA
   rw[this]
   refine hk _ _ ⟨by rw[aJF,hlen,hnl,aLP],.inr ⟨w.heap.size,n+m+r,_,rfl,hb _ (aJO _),bD.alloc (dr w) _ _, ?_,by omega⟩⟩ ((aL.dr w _).seq (aL.alloc _ _ _)) ⟨_,_,rfl,hlen,λ_=>⟨b,0,rfl,λi hi=>by
    have o9:=h3.ext ((aL.dr w aT).seq (aL.alloc (dr w) (.cells (l++news++(Builtin.zeroCells z.cells (n+m+r-(n+m))).toList).toArray e) aT)) (λh=>h)
    rw[o9.cell,aJG,aJ0 hi]⟩⟩
   simp only[aJF,aLG,M5,hzs,hnl,hlen]
   rw[show n+m+r-(n+m)=r from by omega,aLP,aLP]
theorem zP{S:Nat->Prop}{sz n m:Nat}{i:TypeInfo}{z:aL1}{ty t2 e2:TypeId}(hu:P.underlying t=some (.slice e))(hu2:P.underlying t2=some (.slice e2))(hi:P.info? e=some i)(hsz:i.size=sz)(hz:i.zero=some z)(hzs:z.cells.size=sz)
 {v x:aL1} {l news:List aL1} (h:DJ w S sz v n l) (hx:Cl w sz x m news) (hone:∀y∈news,one y=true) (hb:∀b,w.heap.size<=b->S b)
 (hn:n+m<=9223372036854775807) (hbytes:(n+m)*i.bytes<=140737488355328) (_hpos:i.bytes≠0)
 {K:aL1->aL0->Prop} (hk:∀v' w',DJ w' S sz v' (n+m) (l++news)->aL w w' S->K v' w'):aA P (eK .append #[t,t2] ty [v,x]) w K:=
 awI hu hu2 hi hsz hz hzs h hx hone hb hn hbytes _hpos λv' w' a b _=>hk v' w' a b
theorem JH{base sz n m:Nat}{i:TypeInfo}{z:aL1}{ty t2 e2:TypeId}(hu:P.underlying t=some (.slice e))(hu2:P.underlying t2=some (.slice e2))(hi:P.info? e=some i)(hsz:i.size=sz)(hz:i.zero=some z)(hzs:z.cells.size=sz)
 {v x:aL1} {l news:List aL1} (h:mP w base sz v n l) (hx:Cl w sz x m news) (hone:∀y∈news,one y=true) (hb:base<=w.heap.size)
 (hn:n+m<=9223372036854775807) (hbytes:(n+m)*i.bytes<=140737488355328) (_hpos:i.bytes≠0)
 {K:aL1->aL0->Prop} (hk:∀v' w',mP w' base sz v' (n+m) (l++news)->aL w w' (λy=>base<=y)->K v' w'):aA P (eK .append #[t,t2] ty [v,x]) w K:=
 zP (S:=λy=>base<=y) hu hu2 hi hsz hz hzs h hx hone (λ_ h=>aK5 hb h) hn hbytes _hpos hk
end
section
variable{P:Program}{w:aL0}{t e:TypeId}
theorem rM{i:TypeInfo}{z:aL1}{n:Nat}{ps:List (Nat×aL1)}{cells:Array aL1}(hu:P.underlying t=some (.slice e))(hi:P.info? e=some i)(hz:i.zero=some z)
 (h1:¬n*i.size>2^24) (h0:¬n*i.size=0) (hf:Instr.fill (λj=>some (j*i.size,i.size)) ((Array.range (n*i.size)).map (z.cells[·%z.cells.size]!)) ps=some cells)
 {K:aL1->aL0->Prop} (hk:∀w',bD w' w.heap.size cells.toList->aL w w' aT->w'.heap.size=w.heap.size+1->K (.slice (some ⟨w.heap.size,0,none⟩) n n) w'):
 aA P (bB t n ps) w K:=by
 have hz':(zeroValue e).run P w= .ok z w:=by simp[zeroValue,typeInfo,hi,hz]
 have:(bB t n ps).run P w= .ok (.value (.slice (some ⟨w.heap.size,0,none⟩) n n)) (w.alloc (.cells cells.toList.toArray e)):=by
  unfold bB;rw[jJ]
  simp only[Instr.buildSlice,underlying,pure_bind,Sem.run_bind,run_program,Result.andThen_ok,hu,Sem.run_pure,eB hi,h1,h0,if_false,hz',hf,newRow,run_newObj]
  rfl
 unfold aA
 rw[this]
 exact hk _ (bD.alloc _ _ _) (aL.alloc _ _ _) (by simp)
theorem bD.mark {b:Nat}{cs:List aL1}(h:bD w b cs):bD (w.freeze ⟨b,cs.length,none⟩ 1) b cs:=by
 have hb:=h.lt
 obtain⟨T,lo,hi,h,k⟩:=h
 by_cases hlh:(lo==hi)=true
 .refine ⟨T,cs.length,cs.length+1, ?_,.inl (aJO _)⟩
  show(w.heap.modify b _)[b]?=_
  rw[aK6,if_pos rfl,h]
  have hlh:lo=hi:=by simpa using hlh
  simp[hlh]
 .refine ⟨T,min lo cs.length,max hi (cs.length+1), ?_,.inl ?_⟩
  .show (w.heap.modify b _)[b]?=_
   rw[aK6,if_pos rfl,h]
   have hlh:¬lo=hi:=by simpa using hlh
   simp[hlh]
  .rcases k with k|k
   .omega
   .exfalso;apply hlh;rw[k];simp
theorem aL.mark (w:aL0)(a:Addr):aL w (w.freeze a 1) (λy=>y=a.block):=
 ⟨rfl,rfl,rfl,by show _<=(w.heap.modify _ _).size;simp,λb hb hn=>by
  show(w.heap.modify a.block _)[b]?=_
  rw[aK6]
  rw[if_neg (λh=>hn h.symm)]⟩
theorem aF0 (hu:P.underlying t=some (.slice e))(he:P.underlying e=some (.int .u8)){b off n c:Nat}{cs:List aL1}(ho:bD w b cs)
 {K:aL1->aL0->Prop} (hk:∀w',bD w' b cs->aL w w' (λy=>y=b)->w'.heap.size=w.heap.size->K (.slice (some ⟨b,off,none⟩) n c) w'):
 aA P (cP t t (.slice (some ⟨b,off,none⟩) n c)) w K:=by
 obtain⟨T,hs⟩:∃T,w.shape? b=some (T,cs.length):=by
  obtain⟨T,lo,hi,h,_⟩:=ho
  exact⟨T,by unfold World.shape?;rw[h];simp⟩
 have:(cP t t (.slice (some ⟨b,off,none⟩) n c)).run P w= .ok (.value (.slice (some ⟨b,off,none⟩) n c)) (w.freeze ⟨b,cs.length,none⟩ 1):=by
  unfold cP;rw[jJ]
  simp[convert,underlying,hu,he,markStringish,shape,freeze,Sem.run,hs]
 unfold aA
 rw[this]
 exact hk _ ho.mark (aL.mark w _) (by show(w.heap.modify _ _).size=_;simp)
end
section
variable{P:Program}{w:aL0}{t e:TypeId}
theorem auO{d:TypeDesc}(he:P.underlying e=some d)(hd:apG d=false){cs:Array aL1}{k:Nat}{v:aL1}(h:cs[k]?=some v):(part e cs k).run P w= .ok v w:=by
 unfold part
 simp only[Sem.run_bind,HQ he,hd,Result.andThen_ok,aJM,if_false,h,Sem.run_pure]
theorem aEX{a b:UInt8}:(((a.toNat:Int))==(b.toNat:Int))=decide (a=b):=by
 rw[Bool.eq_iff_iff]
 simp only[<-UInt8.toNat_inj,beq_iff_eq,decide_eq_true_eq]
 omega
theorem axX{i:TypeInfo}(m n:Nat)(hu:P.underlying t=some (.array n e))(he:P.underlying e=some (.int .u8))(hi:P.info? e=some i)(h1:i.size=1)(l l':List UInt8)(hl:l.length=n)(hl':l'.length=n):
 (Op.equalIn (m+2) t (.agg (l.map gT).toArray) (.agg (l'.map gT).toArray)).run P w= .ok (decide (l=l')) w:=by
 unfold Op.equalIn
 simp only[underlying,Sem.run_bind,run_program,Result.andThen_ok,hu,Sem.run_pure,eB hi,Std.Legacy.Range.forIn_eq_forIn_range',Std.Legacy.Range.size,Nat.sub_zero,Nat.add_one_sub_one,Nat.div_one,h1,aLp]
 have key:∀(c k:Nat),k+c=n->l.take k=l'.take k→
     ∃r,(forIn (List.range' k c) (none,()) λ(i:Nat) (_:Option Bool×Unit)=>(do
         let a<-part e (List.map gT l).toArray i
         let b<-part e (List.map gT l').toArray i
         let c<-Op.equalIn (m+1) e a b
         if(!c)=true then pure (ForInStep.done (some false,()))else pure (ForInStep.yield (none,())):Sem (ForInStep (Option Bool×Unit)))).run P w= .ok (r,()) w/\r.getD true=decide (l=l'):=by
  intro c
  induction c with
  |zero=>
   intro k hk ht
   refine⟨none,by simp, ?_⟩
   have:l=l':=by
    rw[aJH (by omega),aJH (by omega)]at ht;exact ht
   simp[this]
  |succ c ih=>
   intro k hk ht
   have g:∀(q:List UInt8) (h:k<q.length),(q.map gT).toArray[k]?=some (gT q[k]):=λq h=>by simp[h]
   have hv:(Op.equalIn (m+1) e (gT (l[k]'(by omega))) (gT (l'[k]'(by omega)))).run P w= .ok (decide (l[k]'(by omega)=l'[k]'(by omega))) w:=by
    unfold Op.equalIn gT
    simp only[underlying,Sem.run_bind,run_program,Result.andThen_ok,he,Sem.run_pure,if_true,aEX]
   rw[List.range'_succ]
   simp only[List.forIn_cons,Sem.run_bind,auO he rfl (g l (by omega)),auO he rfl (g l' (by omega)),Result.andThen_ok,hv]
   by_cases hx:l[k]'(by omega)=l'[k]'(by omega)
   .simp only[hx,decide_true,aKS,aJM,if_false,Sem.run_pure,Result.andThen_ok]
    refine ih (k+1) (by omega) ?_
    rw[aLO,aLO,ht,aJE (by omega),aJE (by omega),hx]
   .simp only[hx,decide_false,aKC,if_true,Sem.run_pure,Result.andThen_ok]
    refine⟨some false,rfl, ?_⟩
    have:l≠l':=λh=>hx (by subst h;rfl)
    simp[this]
 obtain⟨r,h1,h2⟩:=key n 0 (by omega) (by simp)
 rw[h1,<-h2]
 cases r<;>simp
structure agC{κ:Type}[DecidableEq κ](P:Program)(t:TypeId)(enc:κ->aL1):Prop where
 eq:∀a b (w:aL0),(Op.equal t (enc a) (enc b)).run P w= .ok (decide (a=b)) w
 now:∃d,P.underlying t=some d/\∀a b,Instr.sameNow d (enc a) (enc b)=none∨Instr.sameNow d (enc a) (enc b)=some (decide (a=b))
 chk:∀(e:Bool) a (w:aL0),(Instr.checkKey e 10000 t (enc a)).run P w= .ok () w
 stay:∀a,Instr.sameBits 10000 (enc a) (enc a)=true
def OP{κ:Type}[DecidableEq κ](k:κ):List (κ×aL1)->Option aL1
 |[]=>none
 |p::r=>if k=p.1 then some p.2 else OP k r
def upd{κ:Type}[DecidableEq κ](k:κ)(v:aL1):List (κ×aL1)->List (κ×aL1)
 |[]=>[(k,v)]
 |p::r=>if k=p.1 then(k,v)::r else p::upd k v r
theorem aF2 {κ:Type}[DecidableEq κ]{k:κ}{v:aL1}{l:List (κ×aL1)}{p:κ×aL1}(h:p∈upd k v l):p=(k,v)∨p∈l:=by
 induction l with
 |nil=>simp[upd]at h;exact .inl h
 |cons q r ih=>
  simp only[upd]at h
  split at h
  .rcases aJK.1 h with h|h
   .exact .inl h
   .exact .inr (aJT _ h)
  .rcases aJK.1 h with h|h
   .exact .inr (h▸aJ7)
   .rcases ih h with h|h
    .exact .inl h
    .exact .inr (aJT _ h)
def Grown(es:Array MapEntry)(clock:Nat):Prop:=(es.toList.map (·.born)).Pairwise (·<·)/\∀e∈es.toList,e.born<clock
def Mp{κ:Type}(w:aL0)(m:Nat)(enc:κ->aL1)(l:List (κ×aL1)):Prop:=
 ∃es clock,w.heap[m]?=some (.map es clock)/\es.toList.map (λe=>(e.key,e.val))=l.map (λp=>(enc p.1,p.2))/\Grown es clock/\(l.map (·.1)).Nodup
theorem ayB{es:Array MapEntry}{c:Nat}(h:Grown es c)(k v:aL1):Grown (es.push ⟨k,v,c⟩) (c+1):=by
 obtain⟨h1,h2⟩:=h
 refine⟨?_, ?_⟩
 .rw [Array.toList_push,aKb,aK0]
  refine⟨h1,by simp,λa ha b hb=> ?_⟩
  simp at hb
  subst hb
  obtain⟨e,he,rfl⟩:=aKq.1 ha
  exact h2 e he
 .intro e he
  rw[Array.toList_push]at he
  rcases aKg.1 he with he|he
  .have:=h2 e he;omega
  .simp at he;subst he;exact Nat.lt_succ_self c
theorem ayC{es es':Array MapEntry}{c:Nat}(h:Grown es c)(he:es'.toList.map (·.born)=es.toList.map (·.born)):Grown es' c:=by
 refine⟨by rw[he];exact h.1,λe h'=> ?_⟩
 have:e.born∈es'.toList.map (·.born):=aKq.2 ⟨e,h',rfl⟩
 rw[he]at this
 obtain⟨x,hx,hxe⟩:=aKq.1 this
 rw[<-hxe];exact h.2 x hx
theorem awQ{κ:Type}[DecidableEq κ]{k:κ}{v:aL1}:∀{l:List (κ×aL1)},(l.map (·.1)).Nodup->((upd k v l).map (·.1)).Nodup
 |[],_=>by simp[upd]
 |p::r,h=>by
  simp only[upd]
  have h':=h
  rw[aJU,aK3]at h
  split
  .rename_i e
   rw[aJU,aK3]
   exact⟨λhm=>h.1 (e▸hm),h.2⟩
  .rename_i e
   rw[aJU,aK3]
   refine⟨λhm=> ?_,awQ h.2⟩
   obtain⟨q,hq,hqe⟩:=aKq.1 hm
   rcases aF2 hq with h1|h1
   .rw [h1]at hqe;exact e hqe
   .exact h.1 (aKq.2 ⟨q,h1,hqe⟩)
theorem Mp.lt {κ:Type}{m:Nat}{enc:κ->aL1}{l:List (κ×aL1)}(h:Mp w m enc l):m<w.heap.size:=by
 obtain⟨es,c,h,_⟩:=h
 rcases aKA m w.heap.size with h'|h'
 .exact h'
 .rw [aKn h']at h;cases h
theorem Mp.ext {κ:Type}{w w':aL0}{m:Nat}{enc:κ->aL1}{l:List (κ×aL1)}{M:Nat->Prop}(h:Mp w m enc l)(hx:aL w w' M)(hM:¬M m):Mp w' m enc l:=by
 have:=h.lt
 obtain⟨es,c,h,k⟩:=h
 exact⟨es,c,by rw[hx.keep m this hM];exact h,k⟩
theorem Mp.dr {κ:Type}{w:aL0}{m:Nat}{enc:κ->aL1}{l:List (κ×aL1)}(h:Mp w m enc l):Mp (dr w) m enc l:=h
def Mg{κ:Type}[DecidableEq κ](k:κ):List (κ×aL1)->Nat->Option (Nat×aL1)
 |[],_=>none
 |p::r,i=>if k=p.1 then some (i,p.2)else Mg k r (i+1)
theorem ahI{κ:Type}[DecidableEq κ](k:κ):∀(l:List (κ×aL1)) (i:Nat),(Mg k l i).map (·.2)=OP k l:=by
 intro l
 induction l with
 |nil=>intro i;rfl
 |cons p r ih=>intro i;simp only[Mg,OP];split<;>simp[ih]
variable{κ:Type}[DecidableEq κ]{enc:κ->aL1}
theorem BV{r:Nat}{es:Array MapEntry}{c:Nat}(hb:w.heap[r]?=some (.map es c)):(getObj r).run P w= .ok (.map es c) w:=by simp[getObj,Sem.run,hb]
theorem OF{r:Nat}{es:Array MapEntry}{c:Nat}(o:Obj)(hb:w.heap[r]?=some (.map es c)):(setObj r o).run P w= .ok () {w with heap:=w.heap.setIfInBounds r o}:=by simp[setObj,Sem.run,hb]
theorem ahD(K:agC P t enc)(k:κ):∀(es:List MapEntry) (l:List (κ×aL1)) (i:Nat),es.map (λe=>(e.key,e.val))=l.map (λp=>(enc p.1,p.2))→
 (Instr.findAsking t (enc k) es i).run P w= .ok (Mg k l i) w:=by
 intro es
 induction es with
 |nil=>intro l i h;cases l with
  |nil=>rfl
  |cons p r=>simp at h
 |cons x es ih=>
  intro l i h
  cases l with
  |nil=>simp at h
  |cons p r=>
   simp only[aJU,aLu,aLF]at h
   obtain⟨⟨h1,h2⟩,h3⟩:=h
   simp only[Instr.findAsking,Sem.run_bind,h1,K.eq,Result.andThen_ok,Mg]
   by_cases hx:k=p.1
   .simp [hx,h2]
   .simp only[hx,decide_false,aJM,if_false]
    exact ih r (i+1) h3
theorem aqA{d:TypeDesc}(hn:∀a b,Instr.sameNow d (enc a) (enc b)=none∨Instr.sameNow d (enc a) (enc b)=some (decide (a=b)))(k:κ):∀(es:List MapEntry) (l:List (κ×aL1)) (i:Nat) (r:Option (Nat×aL1)),es.map (λe=>(e.key,e.val))=l.map (λp=>(enc p.1,p.2))→
 Instr.findNow d (enc k) es i=some r->r=Mg k l i:=by
 intro es
 induction es with
 |nil=>intro l i r h hr;cases l with
  |nil=>simp[Instr.findNow]at hr;exact hr.symm
  |cons p r=>simp at h
 |cons x es ih=>
  intro l i r h hr
  cases l with
  |nil=>simp at h
  |cons p q=>
   simp only[aJU,aLu,aLF]at h
   obtain⟨⟨h1,h2⟩,h3⟩:=h
   simp only[Instr.findNow,h1]at hr
   rcases hn k p.1 with hh|hh
   .rw [hh]at hr;cases hr
   .rw [hh]at hr
    simp only[Mg]
    by_cases hx:k=p.1
    .simp only[hx,decide_true,aKc]at hr
     rw[if_pos hx,<-hr,h2]
    .simp only[hx,decide_false]at hr
     rw[if_neg hx]
     exact ih q (i+1) r h3 hr
theorem Kh(K:agC P t enc)(k:κ)(es:List MapEntry)(l:List (κ×aL1))(h:es.map (λe=>(e.key,e.val))=l.map (λp=>(enc p.1,p.2))):
 (Instr.findKey t (enc k) es).run P w= .ok (Mg k l 0) w:=by
 obtain⟨d,hd,hn⟩:=K.now
 unfold Instr.findKey
 simp only[underlying,Sem.run_bind,run_program,Result.andThen_ok,hd,Sem.run_pure]
 cases hr:Instr.findNow d (enc k) es 0 with
 |none=>exact ahD K k es l 0 h
 |some r=>rw[aqA hn k es l 0 r h hr]<;>rfl
theorem aG9 {kt et:TypeId}{i:TypeInfo}{z:aL1}(hu:P.underlying t=some (.map kt et))(hi:P.info? et=some i)(hz:i.zero=some z)(K:agC P kt enc){m:Nat}{l:List (κ×aL1)}(hm:Mp w m enc l)(k:κ):
 (Dp t (.map (some m)) (enc k) true).run P w= .ok (.value (.tuple #[(OP k l).getD z,.bool (OP k l).isSome])) w:=by
 obtain⟨es,c,hb,he,_⟩:=hm
 unfold Dp;rw[jJ]
 unfold Instr.lookup
 simp only[underlying,Sem.run_bind,run_program,Result.andThen_ok,hu,Sem.run_pure,BV hb,K.chk,Kh K k es.toList l he,<-ahI k l 0]
 cases Mg k l 0 with
 |none=>simp[zeroValue,typeInfo,hi,hz]
 |some p=>simp
omit [DecidableEq κ]in
theorem aCk{K:aL1->aL0->Prop}(enc:κ->aL1)(hk:∀w',Mp w' w.heap.size enc ([]:List (κ×aL1))->aL w w' aT->w'.heap.size=w.heap.size+1->K (.map (some w.heap.size)) w'):aA P (Z7 t none) w K:=by
 have:(Z7 t none).run P w= .ok (.value (.map (some w.heap.size))) (w.alloc (.map #[] 0)):=by
  unfold Z7;rw[jJ]
  simp[Instr.makeMap]
 unfold aA
 rw[this]
 exact hk _ ⟨#[],0,by show(w.heap.push _)[w.heap.size]?=_;simp,rfl,⟨by simp,by simp⟩,by simp⟩ (aL.alloc _ _ _) (by simp)
theorem aCj{kt et:TypeId}(hu:P.underlying t=some (.map kt et))(Ke:agC P kt enc){m:Nat}{l:List (κ×aL1)}(hm:Mp w m enc l)(k:κ)(v:aL1){K:aL1->aL0->Prop}
 (hk:∀w',Mp w' m enc (upd k v l)->aL w w' (λy=>y=m)->w'.heap.size=w.heap.size->K undef w'):aA P (VT t (.map (some m)) (enc k) v) w K:=by
 have hlt:=hm.lt
 obtain⟨es,c,hb,he,hgr,hnd⟩:=hm
 have hext:∀o,aL w {w with heap:=w.heap.setIfInBounds m o} (λy=>y=m):=λo=>
  ⟨rfl,rfl,rfl,by simp,λb hb hn=>by
   show(w.heap.setIfInBounds m o)[b]?=_
   rw[aKa (λe=>hn e.symm)]⟩
 have key:∃es' c',(VT t (.map (some m)) (enc k) v).run P w= .ok .skip {w with heap:=w.heap.setIfInBounds m (.map es' c')}/\es'.toList.map (λe=>(e.key,e.val))=((upd k v l).map λp=>(enc p.1,p.2))/\Grown es' c':=by
  have gen:∀(es:List MapEntry) (l:List (κ×aL1)) (i:Nat),es.map (λe=>(e.key,e.val))=l.map (λp=>(enc p.1,p.2))→
      (Mg k l i=none->∀b,(es++[(⟨enc k,v,b⟩:MapEntry)]).map (λe=>(e.key,e.val))=(upd k v l).map λp=>(enc p.1,p.2))/\
      (∀j x,Mg k l i=some (j,x)->i<=j/\∃old,es[j-i]?=some old/\old.key=enc k/\(es.set (j-i) ({old with key:=enc k,val:=v}:MapEntry)).map (λe=>(e.key,e.val))=(upd k v l).map λp=>(enc p.1,p.2)):=by
   intro es
   induction es with
   |nil=>
    intro l i h
    cases l with
    |nil=>exact⟨λ_ b=>rfl,λj x h=>by simp[Mg]at h⟩
    |cons p r=>simp at h
   |cons x es ih=>
    intro l i h
    cases l with
    |nil=>simp at h
    |cons p r=>
     simp only[aJU,aLu,aLF]at h
     obtain⟨⟨h1,h2⟩,h3⟩:=h
     simp only[Mg,upd]
     by_cases hx:k=p.1
     .rw [if_pos hx,if_pos hx]
      refine⟨λh=>by(cases h),λj y h=> ?_⟩
      cases h
      refine⟨aJO _,x,by simp,by rw[h1,hx], ?_⟩
      simp[h3]
     .rw [if_neg hx,if_neg hx]
      obtain⟨a,b⟩:=ih r (i+1) h3
      refine⟨λh q=> ?_,λj y h=> ?_⟩
      .simp only[aLe,aJU,a h q,h1,h2]
      .obtain ⟨hj,old,o1,o2,o3⟩:=b j y h
       refine⟨by omega,old, ?_,o2, ?_⟩
       .rw [show j-i=(j-(i+1))+1 from by omega,aJJ];exact o1
       .rw [show j-i=(j-(i+1))+1 from by omega,aKi]
        simp only[aJU,o3,h1,h2]
  obtain⟨g1,g2⟩:=gen es.toList l 0 he
  unfold VT
  rw[aH9]
  unfold Instr.mapUpdate
  simp only[underlying,Sem.run_bind,run_program,Result.andThen_ok,hu,Sem.run_pure,BV hb,Ke.chk,Kh Ke k es.toList l he]
  cases hi:Mg k l 0 with
  |none=>
   refine⟨es.push ⟨enc k,v,c⟩,c+1, ?_,by simpa using g1 hi c,ayB hgr _ _⟩
   simp only[OF _ hb,Result.andThen_ok]
  |some q=>
   obtain⟨j,x⟩:=q
   obtain⟨_,old,o1,o2,o3⟩:=g2 j x hi
   rw[Nat.sub_zero]at o1 o3
   have o1':es[j]?=some old:=by simpa using o1
   refine⟨es.modify j λe=>{e with key:=enc k,val:=v},c, ?_, ?_,ayC hgr ?_⟩
   .simp only[o1',aKs,aKF,o2,Instr.keyThatStays,Ke.stay,if_true,Sem.run_pure,Result.andThen_ok,OF _ hb,Sem.run_bind]
   .have hj:j<es.toList.length:=by
     rcases aKA j es.toList.length with h|h
     .exact h
     .rw [aKt h]at o1;cases o1
    rw[<-o3]
    congr 1
    apply aLl
    intro y
    rw[aLg,aK6,aLN]
    by_cases hy:j=y
    .subst hy
     have hj':j<es.size:=by simpa using hj
     have e1:es[j]=old:=by rw[aJ6 hj']at o1';exact aKO o1'
     simp[hj',e1]
    .simp [hy]
   .apply aLl
    intro y
    rw[aJ4,aJ4,aLg,aLg,aK6]
    split
    .rename_i h;subst h
     cases es[j]?<;>rfl
    .rfl
 obtain⟨es',c',h1,h2,h3⟩:=key
 unfold aA
 rw[h1]
 refine hk _ ⟨es',c',by show(w.heap.setIfInBounds m _)[m]?=_;rw[aJ8 hlt],h2,h3,awQ hnd⟩ (hext _) (by simp)
theorem Tl(hu:P.underlying t=some .string):agC P t (λs:ByteArray=>Value.string s):=by
 have hb:∀a b:ByteArray,(a==b)=decide (a=b):=λa b=>by
  have h1:(a==b)=(a.data==b.data):=rfl
  rw[h1,Bool.eq_iff_iff,beq_iff_eq,decide_eq_true_eq]
  exact⟨λh=>by cases a;cases b;simp only at h;rw[h],λh=>h▸rfl⟩
 refine⟨λa b w=> ?_,⟨_,hu,λa b=> .inr (by simp[Instr.sameNow,hb])⟩,λc a w=> ?_,λa=> ?_⟩
 .unfold Op.equal Op.maxDepth Op.equalIn
  simp only[underlying,Sem.run_bind,run_program,Result.andThen_ok,hu,Sem.run_pure,hb]
 .unfold Instr.checkKey
  simp only[underlying,Sem.run_bind,run_program,Result.andThen_ok,hu,Sem.run_pure]
 .simp [Instr.sameBits,hb]
theorem Xj{d:TypeDesc}{i:TypeInfo}(hu:P.underlying t=some d)(hd:apG d=true)(hi:P.info? t=some i){b off:Nat}{l:List aL1}(hl:i.size=l.length)(h:∀j,j<l.length->w.cell? ⟨b,off+j,none⟩=l[j]?):
 (aB t (.pointer (some ⟨b,off,none⟩))).run P w= .ok (.value (.agg l.toArray)) w:=by
 unfold aB
 rw[jJ]
 simp only[Instr.loadAt,Instr.sureAddr,loadVar,pure_bind,Sem.run_bind,HQ hu,hd,Result.andThen_ok,if_true,eB hi,hl,WV h,Sem.run_pure]
end
theorem dB{w:aL0}{b:Nat}{cs:List aL1}(h:bD w b cs):bD (dr w) b cs:=h.ext (aL.dr w aT) (λh=>h)
theorem Sl.dr {w:aL0}{v:aL1}{l:List aL1}(h:Sl w v l):Sl (dr w) v l:=h
theorem Sl.open {w:aL0}{v:aL1}{l:List UInt8}(h:Bs w v l)(h0:0<l.length):∃b off c,v= .slice (some ⟨b,off,none⟩) l.length c/\l.length<=c/\∀i,(h:i<l.length)->w.cell? ⟨b,off+i,none⟩=some (gT l[i]):=by
 obtain⟨a,n,c,rfl,hn,hc,h⟩:=h
 simp only[aJC]at hn
 subst hn
 obtain⟨b,off,rfl,hh⟩:=h h0
 exact⟨b,off,c,rfl,hc,λi hi=>by rw[hh i hi];simp[hi]⟩
theorem Sl.len {w:aL0}{v:aL1}{l:List aL1}(h:Sl w v l):∃a c,v= .slice a l.length c/\l.length<=c:=by
 obtain⟨a,n,c,rfl,rfl,hc,_⟩:=h
 exact⟨a,c,rfl,hc⟩
theorem bC(v:aL1):¬fK v aT:=by unfold fK aT;split<;>simp
theorem azJ{b o m l:Nat}(h:l≠m):dD (some ⟨b,o,none⟩) m l 1=some ⟨b,o+l,none⟩:=by
 unfold dD;rw[if_neg (λe=>h e.symm)];simp[CP]
theorem bO{v:aL1}{M N:Nat->Prop}(h:fK v M)(hm:∀b,M b->N b):fK v N:=by
 unfold fK at*
 split at h
 .exact hm _ h
 .exact h
theorem mP.len {w:aL0}{b sz n:Nat}{v:aL1}{l:List aL1}(h:mP w b sz v n l):∃a c,v= .slice a n c:=by
 rcases h.2 with⟨rfl,rfl⟩|⟨x,c,r,rfl,_⟩
 .exact ⟨_,_,rfl⟩
 .exact ⟨_,_,rfl⟩
theorem mP.lower {w:aL0}{a b sz n:Nat}{v:aL1}{l:List aL1}(h:mP w b sz v n l)(hab:a<=b):mP w a sz v n l:=by
 refine⟨h.1, ?_⟩
 rcases h.2 with h|⟨x,c,r,h1,h2,h3⟩
 .exact .inl h
 .exact .inr ⟨x,c,r,h1,by omega,h3⟩
theorem Sl.nil (w:aL0):Sl w (.slice none 0 0) []:=⟨none,0,0,rfl,rfl,aJO _,λh=>absurd h (by simp)⟩
theorem bD.whole {w:aL0}{b c:Nat}{l:List UInt8}(h:bD w b (l.map gT))(hc:l.length<=c):Bs w (.slice (some ⟨b,0,none⟩) l.length c) l:=
 h.bs hc λi hi=>by rw[aJG];simp[hi]
theorem Sl.drop' {w:aL0}{a:Option Addr}{n c:Nat}{l:List aL1}(h:Sl w (.slice a n c) l){k:Nat}(hk:k<=n):Sl w (.slice (dD a c k 1) (n-k) (c-k)) (l.drop k):=by
 have h':=h
 obtain⟨a',n',c',e,hn,hc,hh⟩:=h'
 cases e
 by_cases h0:n=0
 .exact ⟨_,_,_,rfl,by rw[aJS];omega,by omega,λh=>by omega⟩
 .obtain ⟨b,off,rfl,_⟩:=hh (by omega)
  exact h.drop hk
theorem Sl.mid {w:aL0}{a:Option Addr}{n c:Nat}{l:List aL1}(h:Sl w (.slice a n c) l){i j:Nat}(hij:i<=j)(hj:j<=n):Sl w (.slice (dD a c i 1) (j-i) (c-i)) ((l.drop i).take (j-i)):=by
 have h':=h
 obtain⟨a',n',c',e,hn,hc,hh⟩:=h'
 cases e
 by_cases h0:j-i=0
 .rw [h0]
  exact⟨_,_,_,rfl,by simp,by omega,λh=>by omega⟩
 .obtain ⟨b,off,rfl,_⟩:=hh (by omega)
  have hd:=h.drop (k:=i) (by omega)
  obtain⟨a',n',c',e,hn',hc',hh'⟩:=hd
  obtain⟨b',off',e',h2⟩:=hh' (by have:=(Value.slice.inj e).2.1;omega)
  injection e with e1 e2 e3
  subst e3
  refine⟨_,_,_,rfl,by rw[aJP,aJS];omega,by omega,λ_=>⟨b',off',by rw[e1];exact e',λx hx=> ?_⟩⟩
  rw[h2 x (by omega),aKE hx]
theorem Sl.openV {w:aL0}{v:aL1}{l:List aL1}(h:Sl w v l)(h0:0<l.length):∃b off c,v= .slice (some ⟨b,off,none⟩) l.length c/\l.length<=c/\∀i,(h:i<l.length)->w.cell? ⟨b,off+i,none⟩=some l[i]:=by
 obtain⟨a,n,c,rfl,hn,hc,h⟩:=h
 subst hn
 obtain⟨b,off,rfl,hh⟩:=h h0
 exact⟨b,off,c,rfl,hc,λi hi=>by rw[hh i hi];simp[hi]⟩
theorem ayR{P:Program}{w:aL0}{t e:TypeId}{k k':IntKind}{hi mx:Int}{i:TypeInfo}(hu:P.underlying t=some (.slice e))(hi':P.info? e=some i)(x:Option Addr)(n c:Nat)(h0:0<=hi)(h1:hi<=mx)(h2:mx<=c):
 (dH t (.slice x n c) none (some (.int k hi)) (some (.int k' mx))).run P w= .ok (.value (.slice (dD x mx.toNat 0 i.size) (hi.toNat-0) (mx.toNat-0))) w:=by
 have h3:(0:Int)<=mx:=by omega
 have h4:hi<=(mx.toNat:Int):=by omega
 simp only[dH,jJ,Instr.sliceAt,underlying,hu,Sem.run_bind,run_program,Result.andThen_ok,Sem.run_pure,Instr.slice,Instr.sliceBounds,pure_bind,lJ h3 h2,lJ h0 h4,eB hi',dD]
section
variable{P:Program}{w:aL0}{t e:TypeId}
variable{κ:Type}[DecidableEq κ]{enc:κ->aL1}
theorem aFL{kt et:TypeId}{i:TypeInfo}{z:aL1}(hu:P.underlying t=some (.map kt et))(hi:P.info? et=some i)(hz:i.zero=some z)(K:agC P kt enc){m:Nat}{l:List (κ×aL1)}(hm:Mp w m enc l)(k:κ):
 (Dp t (.map (some m)) (enc k) false).run P w= .ok (.value ((OP k l).getD z)) w:=by
 obtain⟨es,c,hb,he,_⟩:=hm
 unfold Dp;rw[jJ]
 unfold Instr.lookup
 simp only[underlying,Sem.run_bind,run_program,Result.andThen_ok,hu,Sem.run_pure,BV hb,K.chk,Kh K k es.toList l he,<-ahI k l 0]
 cases Mg k l 0 with
 |none=>simp[zeroValue,typeInfo,hi,hz]
 |some p=>simp
def del{κ:Type}[DecidableEq κ](k:κ):List (κ×aL1)->List (κ×aL1)
 |[]=>[]
 |p::r=>if k=p.1 then r else p::del k r
theorem aAo{k:κ}:∀l:List (κ×aL1),(del k l).Sublist l
 |[]=> .slnil
 |p::r=>by
  simp only[del]
  split
  .exact List.sublist_cons_self _ _
  .exact (aAo r).cons_cons p
theorem atK{k:κ}:∀{es:List MapEntry} {l:List (κ×aL1)} {i:Nat},es.map (λe=>(e.key,e.val))=l.map (λp=>(enc p.1,p.2))→
 (Mg k l i=none->del k l=l)/\(∀j x,Mg k l i=some (j,x)->i<=j/\(es.eraseIdx (j-i)).map (λe=>(e.key,e.val))=(del k l).map (λp=>(enc p.1,p.2)))
 |es,[],i,h=>⟨λ_=>rfl,λj x h=>by simp[Mg]at h⟩
 |[],p::r,i,h=>by simp at h
 |x::es,p::r,i,h=>by
  rw[aJU,aJU,aLu]at h
  obtain⟨h1,h2⟩:=h
  simp only[Mg,del]
  by_cases hk:k=p.1
  .rw [if_pos hk,if_pos hk]
   refine⟨λh=>by(cases h),λj y h=> ?_⟩
   cases h
   exact⟨aJO _,by simp[h2]⟩
  .rw [if_neg hk,if_neg hk]
   obtain⟨a,b⟩:=atK (k:=k) (i:=i+1) h2
   refine⟨λh=>by rw[a h],λj y h=> ?_⟩
   obtain⟨c,d⟩:=b j y h
   refine⟨by omega, ?_⟩
   rw[show j-i=(j-(i+1))+1 from by omega,aKQ,aJU,aJU,d,h1]
theorem azN{kt et kt2 ty:TypeId}(hu:P.underlying t=some (.map kt et))(Ke:agC P kt enc){m:Nat}{l:List (κ×aL1)}(hm:Mp w m enc l)(k:κ){K:aL1->aL0->Prop}
 (hk:∀w',Mp w' m enc (del k l)->aL w w' (λy=>y=m)->w'.heap.size=w.heap.size->K (.tuple #[]) w'):aA P (eK .delete #[t,kt2] ty [.map (some m),enc k]) w K:=by
 have hlt:=hm.lt
 obtain⟨es,c,hb,he,hgr,hnd⟩:=hm
 have hext:∀o,aL w {w with heap:=w.heap.setIfInBounds m o} (λy=>y=m):=λo=>
  ⟨rfl,rfl,rfl,by simp,λb hb hn=>by
   show(w.heap.setIfInBounds m o)[b]?=_
   rw[aKa (λe=>hn e.symm)]⟩
 have key:∃es',(eK .delete #[t,kt2] ty [.map (some m),enc k]).run P w= .ok (.value (.tuple #[])) {w with heap:=w.heap.setIfInBounds m (.map es' c)}/\es'.toList.map (λe=>(e.key,e.val))=((del k l).map λp=>(enc p.1,p.2))/\Grown es' c:=by
  obtain⟨g1,g2⟩:=atK (k:=k) (i:=0) he
  unfold eK builtin
  simp only[Builtin.delete_,aKU,aJD,aJJ]
  simp only[underlying,Sem.run_bind,run_program,Result.andThen_ok,hu,Sem.run_pure,BV hb,Ke.chk,Kh Ke k es.toList l he]
  cases hi:Mg k l 0 with
  |none=>
   refine⟨es, ?_,by rw[g1 hi];exact he,hgr⟩
   simp only[OF _ hb,Result.andThen_ok,Sem.run_pure,Sem.run_bind]
  |some q=>
   obtain⟨j,x⟩:=q
   obtain⟨_,g3⟩:=g2 j x hi
   rw[Nat.sub_zero]at g3
   have htl:(es.eraseIdxIfInBounds j).toList=es.toList.eraseIdx j:=by
    simp
   refine⟨es.eraseIdxIfInBounds j, ?_,by rw[htl];exact g3, ?_, ?_⟩
   .simp only[OF _ hb,Result.andThen_ok,Sem.run_pure,Sem.run_bind]
   .rw [htl];exact hgr.1.sublist ((List.eraseIdx_sublist _ _).map _)
   .intro e he'
    rw[htl]at he'
    exact hgr.2 e ((List.eraseIdx_sublist _ _).subset he')
 obtain⟨es',h1,h2,h3⟩:=key
 unfold aA
 rw[h1]
 exact hk _ ⟨es',c,by show(w.heap.setIfInBounds m _)[m]?=_;rw[aJ8 hlt],h2,h3,hnd.sublist ((aAo l).map _)⟩ (hext _) (by simp)
theorem OX:∀{l:List MapEntry} {i:Nat} (hi:i<l.length),(l.map (·.born)).Pairwise (·≠·)->(l.filter λe=>decide (e.born≠(l[i]).born))=l.eraseIdx i
 |[],i,hi,_=>by simp at hi
 |x::l,0,hi,h=>by
  rw[aJU,aKX]at h
  rw[List.getElem_cons_zero,List.filter_cons_of_neg (by simp),List.eraseIdx_cons_zero,List.filter_eq_self]
  intro a ha
  have:=h.1 a.born (aKq.2 ⟨a,ha,rfl⟩)
  simpa usingλe=>this e.symm
 |x::l,i+1,hi,h=>by
  rw[aJU,aKX]at h
  have hi':i<l.length:=by simpa using hi
  have:=h.1 (l[i]).born (aKq.2 ⟨l[i],aKp hi',rfl⟩)
  rw[List.getElem_cons_succ,List.filter_cons_of_pos (by simpa using this),aKQ,OX hi' h.2]
theorem Fm{α β:Type}(f:α->β):∀(l:List α) (i:Nat),(l.eraseIdx i).map f=(l.map f).eraseIdx i
 |[],i=>by simp
 |x::l,0=>by simp
 |x::l,i+1=>by rw[aKQ,aJU,aJU,aKQ,Fm f l i]
def Itr{κ:Type}(w:aL0)(it m:Nat)(enc:κ->aL1)(rest:List (κ×aL1)):Prop:=
 ∃es clock seen,w.heap[m]?=some (.map es clock)/\w.heap[it]?=some (.mapIter (some m) clock seen clock)/\Grown es clock/\
  (es.toList.filter λe=> !seen.contains e.born).map (λe=>(e.key,e.val))=rest.map λp=>(enc p.1,p.2)
theorem Itr.ext {κ:Type}{w w':aL0}{it m:Nat}{enc:κ->aL1}{rest:List (κ×aL1)}{M:Nat->Prop}(h:Itr w it m enc rest)(hx:aL w w' M)(hm:¬M m)(hi:¬M it):Itr w' it m enc rest:=by
 obtain⟨es,c,seen,h1,h2,h3⟩:=h
 have lt:∀{b:Nat} {o:Obj},w.heap[b]?=some o->b<w.heap.size:=λ{b o} h=>by
  rcases aKA b w.heap.size with h'|h'
  .exact h'
  .rw [aKn h']at h;cases h
 exact⟨es,c,seen,by rw[hx.keep m (lt h1) hm];exact h1,by rw[hx.keep it (lt h2) hi];exact h2,h3⟩
theorem find_born:∀{l:List MapEntry} {e:MapEntry},(l.map (·.born)).Pairwise (·<·)->e∈l->l.find? (λx=>x.born==e.born)=some e
 |[],e,_,h=>by simp at h
 |x::l,e,hp,h=>by
  rw[aJU,aKX]at hp
  rw[List.find?_cons]
  rcases aJK.1 h with rfl|h
  .simp
  .have:=hp.1 e.born (aKq.2 ⟨e,h,rfl⟩)
   have hb:(x.born==e.born)=false:=by simp;omega
   rw[hb]
   exact find_born hp.2 h
def Cur{κ:Type}(w:aL0)(it m:Nat)(enc:κ->aL1)(p:κ×aL1):Prop:=
 ∃es clock c0 seen e,w.heap[m]?=some (.map es clock)/\w.heap[it]?=some (.mapIter (some m) c0 seen clock)/\seen.back?=some e.born/\es.find? (λx=>x.born==e.born)=some e/\e.key=enc p.1/\e.val=p.2
omit [DecidableEq κ]in
theorem Cur.ext {w w':aL0}{it m:Nat}{p:κ×aL1}{M:Nat->Prop}(h:Cur w it m enc p)(hx:aL w w' M)(hm:¬M m)(hi:¬M it):Cur w' it m enc p:=by
 obtain⟨es,c,c0,seen,e,h1,h2,h3⟩:=h
 have lt:∀{b:Nat} {o:Obj},w.heap[b]?=some o->b<w.heap.size:=λ{b o} h=>by
  rcases aKA b w.heap.size with h'|h'
  .exact h'
  .rw [aKn h']at h;cases h
 exact⟨es,c,c0,seen,e,by rw[hx.keep m (lt h1) hm];exact h1,by rw[hx.keep it (lt h2) hi];exact h2,h3⟩
omit [DecidableEq κ]in
theorem aAJ{it m:Nat}{p:κ×aL1}(h:Cur w it m enc p):(arC (.pointer (some ⟨it,0,none⟩))).run P w= .ok (.value (.tuple #[enc p.1,p.2])) w:=by
 obtain⟨es,c,c0,seen,e,h1,h2,h3,h4,h5,h6⟩:=h
 have hgi:(getObj it).run P w= .ok (.mapIter (some m) c0 seen c) w:=by simp[getObj,Sem.run,h2]
 unfold arC;rw[jJ]
 simp only[Instr.entry,Sem.run_bind,hgi,Result.andThen_ok,h3,BV h1,bne_self_eq_false,aJM,if_false,h4,Sem.run_pure,h5,h6]
omit [DecidableEq κ]in
theorem aCl{kt et:TypeId}(hu:P.underlying t=some (.map kt et)){m:Nat}{l:List (κ×aL1)}(hm:Mp w m enc l){K:aL1->aL0->Prop}
 (hk:∀w',Itr w' w.heap.size m enc l->aL w w' aT->w'.heap.size=w.heap.size+1->K (.pointer (some ⟨w.heap.size,0,none⟩)) w'):aA P (Z8 t (.map (some m))) w K:=by
 have hlt:=hm.lt
 obtain⟨es,c,hb,he,hgr,hnd⟩:=hm
 have:(Z8 t (.map (some m))).run P w= .ok (.value (.pointer (some ⟨w.heap.size,0,none⟩))) (w.alloc (.mapIter (some m) c #[] c)):=by
  unfold Z8;rw[jJ]
  simp only[Instr.range,underlying,Sem.run_bind,run_program,Result.andThen_ok,hu,Sem.run_pure,BV hb,run_newObj]
  rfl
 unfold aA
 rw[this]
 refine hk _ ⟨es,c,#[], ?_, ?_,hgr, ?_⟩ (aL.alloc _ _ _) (by simp)
 .show (w.heap.push _)[m]?=_
  rw[Array.getElem?_push,if_neg (by omega)];exact hb
 .show (w.heap.push _)[w.heap.size]?=_
  simp
 .rw [<-he]
  congr 1
  rw[List.filter_eq_self]
  intro a _
  simp
omit [DecidableEq κ]in
theorem awL{it m:Nat}{ty:TypeId}{rest:List (κ×aL1)}(h:Itr w it m enc rest)(hne:it≠m){K:aL1->aL0->Prop}
 (h0:rest=[]->K (.tuple #[.bool false]) w)
 (hk:∀w' (j:Nat) (hj:j<rest.length),Itr w' it m enc (rest.eraseIdx j)->Cur w' it m enc rest[j]->aL w w' (λy=>y=it)->w'.heap.size=w.heap.size->K (.tuple #[.bool true,enc rest[j].1,rest[j].2]) w'):
 aA P (avT (.pointer (some ⟨it,0,none⟩)) false ty) w K:=by
 obtain⟨es,c,seen,hm,hi,hgr,hr⟩:=h
 have hlt:it<w.heap.size:=by
  rcases aKA it w.heap.size with h'|h'
  .exact h'
  .rw [aKn h']at hi;cases hi
 have hgi:(getObj it).run P w= .ok (.mapIter (some m) c seen c) w:=by simp[getObj,Sem.run,hi]
 have hnot:(!seen.isEmpty&& !es.isEmpty&&es.all λe=>decide (e.born≥c))=false:=by
  cases hes:es.toList with
  |nil=>
   have:es= #[]:=by rw[<-Array.toArray_toList (xs:=es),hes]
   subst this;simp
  |cons x r=>
   have hx:x∈es.toList:=by rw[hes];simp
   have:=hgr.2 x hx
   have:(es.all λe=>decide (e.born≥c))=false:=by
    rw[Array.all_eq_false']
    exact⟨x,by simpa using hx,by simp;omega⟩
   rw[this];simp
 have hold:((es.filter λe=> !seen.contains e.born).filter λe=>decide (e.born<c))=es.filter λe=> !seen.contains e.born:=by
  rw[Array.filter_eq_self]
  intro a ha
  have:=hgr.2 a (by simpa using(Array.mem_filter.1 ha).1)
  simpa using this
 have hnew:((es.filter λe=> !seen.contains e.born).filter λe=>decide (e.born≥c))= #[]:=by
  rw[Array.filter_eq_empty_iff]
  intro a ha
  have:=hgr.2 a (by simpa using(Array.mem_filter.1 ha).1)
  simp;omega
 have hll:(es.filter λe=> !seen.contains e.born).toList=es.toList.filter λe=> !seen.contains e.born:=by simp
 generalize hL:(es.filter λe=> !seen.contains e.born)=L at*
 have hlen:L.size=rest.length:=by
  have:=congrArg List.length hr
  rw[aJC,aJC,<-hll]at this
  simpa using this
 have hrun:(avT (.pointer (some ⟨it,0,none⟩)) false ty).run P w=((choose (.mapNext ((if L.isEmpty then#[none]else#[])++(L++ #[]).map some).size)).run P w).andThen λi w=>
     ((match((if L.isEmpty then#[none]else#[])++(L++ #[]).map some)[i]? with
       |some (some e)=>do
        setObj it (.mapIter (some m) c (seen.push e.born) c)
        pure (.tuple #[.bool true,e.key,e.val])
       |some none=>pure (.tuple #[.bool false])
       |none=>stuck "Next: no such candidate" :Sem aL1).run P w).andThen λv w=> .ok (.value v) w:=by
  unfold avT;rw[jJ]
  simp only[Instr.next,Sem.run_bind,hgi,Result.andThen_ok,BV hm,hnot,aJM,if_false,hL,hold,hnew]
  cases(choose (.mapNext ((if L.isEmpty then#[none]else#[])++(L++ #[]).map some).size)).run P w with
  |ok a w'=>rfl
  |_=>rfl
 unfold aA
 rw[hrun]
 by_cases hz:L.size=0
 .have hLe:L= #[]:=Array.eq_empty_of_size_eq_zero hz
  subst hLe
  have hre:rest=[]:=aKd.1 (by omega)
  have hf:(Question.mapNext 1).forced=true:=rfl
  simp only[Array.isEmpty_empty,if_true,Array.append_empty,Array.map_empty,aKL,aKV,run_choose,hf]
  exact h0 hre
 .have hLe:L.isEmpty=false:=by
   simp[Array.isEmpty];intro h;subst h;simp at hz
  have hsz:((if L.isEmpty then#[none]else#[])++(L++ #[]).map some).size=L.size:=by rw[hLe];simp
  have hat:∀i (h:i<L.size),((if L.isEmpty then#[none]else#[])++(L++ #[]).map some)[i]?=some (some L[i]):=by
   intro i h;rw[hLe];simp[h]
  obtain⟨i,w',hi',hw',hch⟩:∃i w',i<L.size/\(w'=w∨w'=dr w)/\(choose (.mapNext ((if L.isEmpty then#[none]else#[])++(L++ #[]).map some).size)).run P w= .ok i w':=by
   rw[hsz,run_choose]
   by_cases hf:(Question.mapNext L.size).forced=true
   .rw [if_pos hf]
    exact⟨0,w,by omega,.inl rfl,rfl⟩
   .rw [if_neg hf]
    exact⟨_,dr w,aLo _ (by omega),.inr rfl,rfl⟩
  rw[hch]
  have hi2:w'.heap[it]?=some (.mapIter (some m) c seen c):=by rcases hw' with rfl|rfl<;>exact hi
  have hm2:w'.heap[m]?=some (.map es c):=by rcases hw' with rfl|rfl<;>exact hm
  have hx0:aL w w' (λy=>y=it):=by
   rcases hw' with rfl|rfl
   .exact aL.refl _ _
   .exact aL.dr _ _
  have hset:(setObj it (.mapIter (some m) c (seen.push (L[i]).born) c)).run P w'= .ok () {w' with heap:=w'.heap.setIfInBounds it (.mapIter (some m) c (seen.push (L[i]).born) c)}:=by simp[setObj,Sem.run,hi2]
  simp only[Result.andThen_ok,hat i hi',Sem.run_bind,hset,Sem.run_pure]
  have hri:i<rest.length:=by omega
  have hkv:((L[i]).key,(L[i]).val)=(enc rest[i].1,rest[i].2):=by
   have:=congrArg (λ(x:List (aL1×aL1))=>x[i]?) hr
   simp only[<-hll,aJ4]at this
   rw[aLg,aJ6 hi',aJE hri]at this
   simpa using this
  obtain⟨hk1,hk2⟩:=Prod.mk.inj hkv
  have hkk:(Value.tuple #[.bool true,L[i].key,L[i].val])= .tuple #[.bool true,enc rest[i].1,rest[i].2]:=by rw[hk1,hk2]
  rw[hkk]
  have hsize:({w' with heap:=w'.heap.setIfInBounds it (.mapIter (some m) c (seen.push (L[i]).born) c)}:aL0).heap.size=w.heap.size:=by
   rcases hw' with rfl|rfl
   .simp
   .simp;rfl
  have hwlt:it<w'.heap.size:=by rcases hw' with rfl|rfl<;>exact hlt
  have hwm:({w' with heap:=w'.heap.setIfInBounds it (.mapIter (some m) c (seen.push (L[i]).born) c)}:aL0).heap[m]?=some (.map es c):=by
   show(w'.heap.setIfInBounds it _)[m]?=_
   rw[aKa hne];exact hm2
  have hwi:({w' with heap:=w'.heap.setIfInBounds it (.mapIter (some m) c (seen.push (L[i]).born) c)}:aL0).heap[it]?=some (.mapIter (some m) c (seen.push (L[i]).born) c):=by
   show(w'.heap.setIfInBounds it _)[it]?=_
   rw[aJ8 hwlt]
  have hmemL:L[i]∈es.toList:=by
   have hm0:L[i]∈es.filter λe=> !seen.contains e.born:=by rw[hL];exact Array.getElem_mem hi'
   simpa using(Array.mem_filter.1 hm0).1
  have hcur:Cur ({w' with heap:=w'.heap.setIfInBounds it (.mapIter (some m) c (seen.push (L[i]).born) c)}:aL0) it m enc rest[i]:=
   ⟨es,c,c,_,L[i],hwm,hwi,by simp,by rw[<-Array.find?_toList];exact find_born hgr.1 hmemL,hk1,hk2⟩
  refine hk _ i hri ⟨es,c,seen.push (L[i]).born, ?_, ?_,hgr, ?_⟩ hcur (hx0.seq ⟨rfl,rfl,rfl,by simp,λb hb hn=>by
   show(w'.heap.setIfInBounds it _)[b]?=_
   rw[aKa (λe=>hn e.symm)]⟩) hsize
  .show (w'.heap.setIfInBounds it _)[m]?=_
   rw[aKa hne];exact hm2
  .show (w'.heap.setIfInBounds it _)[it]?=_
   rw[aJ8 hwlt]
  .
   have hfil:(es.toList.filter λe=> !(seen.push (L[i]).born).contains e.born)=(es.toList.filter λe=> !seen.contains e.born).filter λe=>decide (e.born≠(L[i]).born):=by
    rw[List.filter_filter]
    congr 1
    funext e
    simp only[Array.contains_push]
    by_cases h:e.born=(L[i]).born
    .simp [h]
    .have h':¬(L[i]).born=e.born:=λx=>h x.symm
     simp[h,h']
   have hLi:L[i]=L.toList[i]'(by simpa using hi'):=by simp
   rw[hfil,<-hll,hLi,OX,Fm,hll,hr,<-Fm]
   rw[hll]
   exact(hgr.1.imp (λh=>aLy h)).sublist ((List.filter_sublist).map _)
end
end Go.En

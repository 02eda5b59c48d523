/- Parts of the proof of EncodeBound: merged and given short names by a program of ours. -/
import Derived.Laws.IdiomStrings
import Derived.Test.YtoecppploooloaaGreatDoorZbA
set_option linter.unusedVariables false
set_option linter.unusedSimpArgs false
open Array renaming getElem?_eq_getElem → aL0, getElem?_eq_none → aMC, getElem?_setIfInBounds_self_of_lt → aMe, getElem?_setIfInBounds_ne → aMr, getElem?_toList → aNO, getElem?_modify → aNl, length_toList → aNq
open Bool renaming false_eq_true → aLC, not_false → aMF, not_true → aMv, or_eq_false_iff → aNR
open List renaming mem_map → aL1, map_cons → aL3, drop_eq_getElem_cons → aL4, nil_append → aL5, mem_cons_self → aL6, length_eq_zero_iff → aL8, mem_cons → aL9, getElem?_eq_none → aLD, append_assoc → aLF, mem_cons_of_mem → aLJ, take_of_length_le → aLK, length_drop → aLL, getElem?_map → aLN, length_cons → aLO, getElem?_append_left → aLQ, getElem?_take_of_lt → aLT, getElem?_append_right → aLW, map_append → aLY, length_append → aLo, getElem?_eq_getElem → aLp, getElem?_cons_zero → aLq, length_map → aLr, getElem?_cons_succ → aLs, set_cons_zero → aLu, set_cons_succ → aLx, take_succ_cons → aLy, length_take → aLz, take_add_one → aMB, getElem?_toArray → aMJ, ext_getElem? → aML, all_eq_true → aMj, cons_append → aMk, mem_append → aMm, set_append_right → aMp, replicate_succ → aMs, mem_of_mem_take → aMt, getElem?_drop → aMw, getElem?_set → aN4, range'_succ → aN9, drop_succ_cons → aNA, flatten_cons → aNL, nodup_cons → aNX, take_length → aNr, length_nil → aOc
open Nat renaming zero_add → aLE, lt_or_ge → aLH, mod_eq_of_lt → aLR, mul_le_mul_right → aLX, add_zero → aLZ, le_refl → aLw, mul_one → aM2, add_assoc → aMI, sub_zero → aMU, add_mul → aMh, le_trans → aMq, eq_zero_or_pos → aMy, succ_mul → aN1, mod_lt → aNI, sub_self → aNh, lt_of_lt_of_le → aNn
open Option renaming map_some → aL2, getD_some → aNs
open Option.some renaming inj → aLS, injEq → aNN
open Prod.mk renaming injEq → aN8
namespace Go.Proofs.YtoecppploooloaaGreatDoor
open Go Go.En
set_option maxRecDepth 20000
attribute [local irreducible] Go.En.cP
variable (Q : Exit -> Env -> aOi -> Prop) (g : Env) (w : aOi)
def Qi:FA:=⟨fB,λi=>match Nat.beq i 1 with|true=> .leaf ([],[]) (fz 11 [])|false=>match Nat.beq i 7 with|true=> .leaf ([6],[]) (fz 6 (ft [] []))|false=> .leaf ([],[]) []⟩
def SY:List ResultVar:=[]
noncomputable def Ok:Code:=aY Tryz.f59
def iR(kn:K0) BC mC k_4 aKH w:=
 bQ aKH
  ((dr w)=(dr w)/\
  aA pg (dQ BC) (dr w) λf9 w_=>w_=(dr w)/\
  aA pg (aJ 119 f9 2) (dr w) λi0 w_=>w_=(dr w)/\
  aA pg (aH 116 i0) (dr w) λi1 w_=>w_=(dr w)/\
  aA pg (aH 146 k_4) (dr w) λi2 w_=>w_=(dr w)/\
  (dr w)=(dr w)/\
  aA pg (ajA 116 i1 i2 mC) (dr w) λ_u6 aKO=>
  kn aKO)
  (kn w)
def pZ(kn:K4) BC mC w:=
 aK pg kU #[BC,mC] w λc1 w=>
 aA pg (aV c1 0) w λc2 w=>
 aA pg (aV c1 1) w λc3 w=>
 aA pg (bG 146) w λk_4 w=>
 aA pg (aM 146 k_4 c2) w λ_u w=>
 (dr w)=(dr w)/\
 aA pg (dQ BC) (dr w) λc6 w_=>w_=(dr w)/\
 aA pg (aJ 119 c6 2) (dr w) λc7 w_=>w_=(dr w)/\
 aA pg (aH 116 c7) (dr w) λc8 w_=>w_=(dr w)/\
 aA pg (aH 146 k_4) (dr w) λc9 w_=>w_=(dr w)/\
 aA pg (avD 116 c8 c9 true) (dr w) λd0 w_=>w_=(dr w)/\
 (dr w)=(dr w)/\
 aA pg (aV d0 0) (dr w) λd1 w_=>w_=(dr w)/\
 aA pg (aV d0 1) (dr w) λd2 w_=>w_=(dr w)/\
 (dr w)=(dr w)/\
 (dr w)=(dr w)/\
 aA pg (sUn .not c3) (dr w) λd5 w=>
 Gd (bK d5 false) (λK=>K d2 w) w λd7 w=>
 Gd (bK d5 false) (λK=>aA pg (sUn .not d7) w K) w λd8 w=>
 aA pg (cD d5 (.bool true) d8) w λd9 w=>
 bQ d9
  (aA pg (dQ BC) w λe1 w=>
  aA pg (aJ 119 e1 3) w λe2 w=>
  aA pg (aH 117 e2) w λe3 w=>
  aA pg (aO 117 e3 mC) w λe5 w=>
  aA pg (aM 3 e5 (aOk (-1))) w λ_u w=>
  kn BC mC k_4 c3 w)
  (aA pg (aD .lss 3 aG aG d1 mC) w λe9 w=>
  bQ e9
   (aA pg (dQ BC) w λf1 w=>
   aA pg (aJ 119 f1 3) w λf2 w=>
   aA pg (aH 117 f2) w λf3 w=>
   aA pg (aO 117 f3 mC) w λf6 w=>
   aA pg (aM 3 f6 d1) w λ_u w=>
   kn BC mC k_4 c3 w)
   (kn BC mC k_4 c3 w))
def qA(kn:K0) BC mC w:=
 pZ (iR kn) BC mC w
def xH a0 a1 w(R:K1):=
 qA (λw=>R (.tuple #[]) w) a0 a1 w
theorem OL{a0 a1 w R}(h:xH a0 a1 w R):aK pg fB #[a0,a1] w R:=
 lB (ann:=Qi) Tryz.f59 Ok [a0,a1] SY 54 TryzM.mixed Tryz.func59 (bZ 3 (eL (AK (iR (λw=>R (.tuple #[]) w)) 0 1 4 5) h (λg w h=>aE (eL (Mq0 (λw=>R (.tuple #[]) w)) h cO))))
def nU:FA:=⟨lV,λi=>match Nat.beq i 4 with|true=> .leaf ([],[]) (fz 11 [])|false=> .leaf ([],[]) []⟩
def SV:List ResultVar:=[.tmp 4,.tmp 5]
noncomputable def mF:Code:=aY Tryz.f60
def Gi(R:K1) dL fH w:=
 R (.tuple #[dL,fH]) w
def iM(kn:K7) BC mC kP dL fH e5 e6 w:=
 aA pg (aD .add 3 aG aG e6 (aOk 1)) w λi8 w=>
 kn BC mC kP dL fH e5 i8 w
def dV(kn:K7)(k0:K2) BC mC kP dL fH e5 e6 w:=
 aA pg (dQ BC) w λi0 w=>
 aA pg (aJ 119 i0 3) w λi1 w=>
 aA pg (aH 117 i1) w λi2 w=>
 aA pg (aO 117 i2 kP) w λi4 w=>
 aA pg (aH 3 i4) w λi5 w=>
 aA pg (aD .lss 3 aG aG i5 (aOk 0)) w λi7 w=>
 bQ i7
  (k0 dL fH w)
  (kn BC mC i5 dL fH e5 e6 w)
def lE(kn:K7) BC mC kP dL fH e5 e6 w:=
 aK pg rD #[BC,kP,mC] w λf1 w=>
 aA pg (aD .gtr 3 aG aG f1 dL) w λf4 w=>
 bQ f4
  (aA pg (aD .sub 3 aG aG mC kP) w λf8 w=>
  kn BC mC kP f1 f8 e5 e6 w)
  (kn BC mC kP dL fH e5 e6 w)
def iN(kn:K7)(k0:K2) BC mC kP dL fH e5 e6 w:=
 lE (dV kn k0) BC mC kP dL fH e5 e6 w
def iO(kn:K7)(k0:K2) BC mC kP dL fH e5 e6 w:=
 iN (iM kn) k0 BC mC kP dL fH e5 e6 w
theorem MZ(kn:K7)(k0:K2)(hn:N7 Q kn 0 1 8 10 11 35 36)(h0:E2 Q k0 0 10 11)(h:iN kn k0 (g 0) (g 1) (g 8) (g 10) (g 11) (g 35) (g 36) w):cP pg nU (aQ 1 (aI 2 (bI (bI (aI 1 (aQ 1 (aI 6 (bI (aI 1 mF))))))))) Q g w:=
 qM 1 (bZ 1 (eL (JW (dV kn k0) 0 1 8 10 11 35 36) h (λg w h=>aE (zK [(0,(Kf k0 10 11))] (kr:=no) _ h hn DN ⟨h0,trivial⟩))))
def lF(kn:K7)(k0:K2) BC mC kP dL fH e5 e6 w:=
 aA pg (aD .lss 3 aG aG e6 e5) w λe7 w=>
 bQ e7
  (kn BC mC kP dL fH e5 e6 w)
  (k0 dL fH w)
def iP(kn:K7)(k0:K2) BC mC kP dL fH e5 e6 w:=
 lF (iO kn k0) k0 BC mC kP dL fH e5 e6 w
def kE(k0:K2) BC mC kP dL fH e5 e6 w:=
 aX (λ(X:(aOj×aOj×aOj×aOj)->K0) (t:aOj×aOj×aOj×aOj) (w:aOi)=>iP (λ_ _ kP dL fH _ e6 w=>X (kP,dL,fH,e6) w) k0 BC mC t.1 t.2.1 t.2.2.1 e5 t.2.2.2 w) (kP,dL,fH,e6) w
theorem LF(k0:K2)(h0:E2 Q k0 0 10 11)(h:kE k0 (g 0) (g 1) (g 8) (g 10) (g 11) (g 35) (g 36) w):cP pg nU (bI (aI 1 (aQ 1 (aI 6 (bI (aI 1 mF)))))) Q g w:=by
 refine AL (λg:Env=>(g 8,g 10,g 11,g 36)) (λX t w=>iP (λ_ _ kP dL fH _ e6 w=>X (kP,dL,fH,e6) w) k0 (g 0) (g 1) t.1 t.2.1 t.2.2.1 (g 35) t.2.2.2 w) h (λX g1 w1 ha hL=> ?_)
 rw[<-cI 0 ha,<-cI 1 ha,<-cI 35 ha]at hL
 exact(bZ 2 (zK [(0,(Kf k0 10 11))] (kr:=no) (JW (iO (λ_ _ kP dL fH _ e6 w=>X (kP,dL,fH,e6) w) k0) 0 1 8 10 11 35 36) hL (λg w h=>aE (bZ 1 (MZ _ g w (iM (λ_ _ kP dL fH _ e6 w=>X (kP,dL,fH,e6) w)) k0 (λg w h=>aE (eL (JW (λ_ _ kP dL fH _ e6 w=>X (kP,dL,fH,e6) w) 0 1 8 10 11 35 36) h cO)) h0 h))) DN ⟨h0,trivial⟩))
def D4 (kn:K7) BC mC kP dL fH w:=
 aA pg (dQ BC) w λe3 w=>
 aA pg (aJ 119 e3 4) w λe4 w=>
 aA pg (aH 3 e4) w λe5 w=>
 kn BC mC kP dL fH e5 (aOk 0) w
def wD(kn:K2) BC mC kP dL fH w:=
 D4 (kE kn) BC mC kP dL fH w
def wE(R:K1) BC mC kP dL fH w:=
 wD (Gi R) BC mC kP dL fH w
theorem LG(kn:K2)(hn:N2 Q kn 10 11)(h:wD kn (g 0) (g 1) (g 8) (g 10) (g 11) w):cP pg nU (aQ 1 (aI 6 (bI (aI 1 mF)))) Q g w:=
 bZ 1 (eL (JW (kE kn) 0 1 8 10 11 35 36) h (λg w h=>aE (qM 0 (LF _ g w kn hn h))))
def D5 (kn:K5)(R:K1) BC mC w:=
 aK pg kU #[BC,mC] w λc6 w=>
 aA pg (aV c6 0) w λc7 w=>
 aA pg (aV c6 1) w λc8 w=>
 aA pg (bG 146) w λk_6 w=>
 aA pg (aM 146 k_6 c7) w λ_u w=>
 aA pg (sUn .not c8) w λd0 w=>
 bQ d0
  (R (.tuple #[(aOk 0),(aOk 0)]) w)
  ((dr w)=(dr w)/\
  aA pg (dQ BC) (dr w) λd3 w_=>w_=(dr w)/\
  aA pg (aJ 119 d3 2) (dr w) λd4 w_=>w_=(dr w)/\
  aA pg (aH 116 d4) (dr w) λd5 w_=>w_=(dr w)/\
  aA pg (aH 146 k_6) (dr w) λd6 w_=>w_=(dr w)/\
  aA pg (avD 116 d5 d6 true) (dr w) λd7 w_=>w_=(dr w)/\
  (dr w)=(dr w)/\
  aA pg (aV d7 0) (dr w) λd8 w_=>w_=(dr w)/\
  aA pg (aV d7 1) (dr w) λd9 w_=>w_=(dr w)/\
  (dr w)=(dr w)/\
  (dr w)=(dr w)/\
  aA pg (sUn .not d9) (dr w) λe1 w=>
  bQ e1
   (R (.tuple #[(aOk 0),(aOk 0)]) w)
   (kn BC mC d8 (aOk 0) (aOk 0) w))
def wF(R:K1) BC mC w:=
 D5 (wE R) R BC mC w
def D6 (kn:K2) BC mC w:=
 kn BC mC w
def D8 (R:K1) BC mC w:=
 D6 (wF R) BC mC w
def KC a0 a1 w(R:K1):=
 D8 R a0 a1 w
theorem OJ{a0 a1 w R}(h:KC a0 a1 w R):aK pg lV #[a0,a1] w R:=
 lB (ann:=nU) Tryz.f60 mF [a0,a1] SV 61 TryzM.mixed Tryz.func60 (bZ 1 (eL (Kf (wF R) 0 1) h (λg w h=>aE (scD (bZ 6 (Lk (NQ (wE R) 0 1 8 10 11) h (λg w h=>aE (bZ 1 (LG _ g w (Gi R) (λg w h=>aE (lT h cO)) h))) cO))))))
def VS:FA:=⟨yZ,λi=>match Nat.beq i 5 with|true=> .leaf ([8,10],[(0,8),(1,8),(2,8)]) (fz 8 (ft [5,6,7] (fz 1 (ft [] (fz 1 [])))))|false=> .leaf ([],[]) []⟩
def YR:List ResultVar:=[.tmp 4,.cell 5 45,.tmp 6]
noncomputable def T7:Code:=aY Tryz.f61
def pW(R:K1) r_2 b5 Wl k_8 aiK w:=
 aA pg (aD .eql 38 (.tmp 44) (.const (.int .u32 0)) aiK (.int .u32 0)) w λf5 w=>
 bQ f5
  (aA pg (bH 45 []) w λf6 w=>
  aA pg (aM 45 b5 f6) w λ_u w=>
  vU pg 45 b5 w λr1=>R (.tuple #[(.int .u32 0),r1,(aOk 16)]) w)
  (aA pg (aH 45 r_2) w λf8 w=>
  aA pg (dD .min #[3,3] 3 [k_8,Wl]) w λi2 w=>
  aK pg iD #[f8,aiK,i2] w λi3 w=>
  aA pg (aM 45 b5 i3) w λ_u w=>
  vU pg 45 b5 w λr1=>R (.tuple #[aiK,r1,(aOk 0)]) w)
def Ks(kn:K5) r_2 b5 Wl k_8 w:=
 aA pg (aO 45 r_2 (aOk 0)) w λe5 w=>
 aA pg (aH 38 e5) w λe6 w=>
 aA pg (aD .sub 38 aG aG e6 (.int .u32 1)) w λe7 w=>
 aA pg (aD .leq 3 aG aG k_8 Wl) w λf0 w=>
 bQ f0
  (aA pg (aO 45 r_2 k_8) w λf2 w=>
  aA pg (aH 38 f2) w λf3 w=>
  kn r_2 b5 Wl k_8 f3 w)
  (kn r_2 b5 Wl k_8 e7 w)
def xD(R:K1) r_2 b5 Wl k_8 w:=
 Ks (pW R) r_2 b5 Wl k_8 w
def Kt(kn:K4)(R:K1) QH s_1 w:=
 aA pg (A0 45 QH) w λr_2 w=>
 aA pg (A0 84 s_1) w λs_3 w=>
 aA pg (bG 45) w λb5 w=>
 aA pg (aJ 84 s_3 2) w λc0 w=>
 aA pg (aH 38 c0) w λc1 w=>
 aA pg (aD .eql 38 (.tmp 11) (.const (.int .u32 0)) c1 (.int .u32 0)) w λc2 w=>
 bQ c2
  (aA pg (bH 45 []) w λc3 w=>
  aA pg (aM 45 b5 c3) w λ_u w=>
  vU pg 45 b5 w λr1=>R (.tuple #[(.int .u32 0),r1,(aOk 11)]) w)
  (aA pg (aJ 84 s_3 2) w λc4 w=>
  aA pg (aH 38 c4) w λc5 w=>
  aA pg (aD .gtr 38 aG aG c5 (.int .u32 3)) w λc6 w=>
  bQ c6
   (aA pg (aJ 84 s_3 2) (dr w) λc7 w_=>w_=(dr w)/\
   aA pg (aH 38 c7) (dr w) λc8 w_=>w_=(dr w)/\
   aA pg (aD .sub 38 aG aG c8 (.int .u32 3)) (dr w) λc9 w_=>w_=(dr w)/\
   aA pg (aH 45 r_2) (dr w) λd0 w_=>w_=(dr w)/\
   aA pg (aJ 84 s_3 2) (dr w) λd1 w_=>w_=(dr w)/\
   aA pg (aH 38 d1) (dr w) λd2 w_=>w_=(dr w)/\
   aA pg (aD .sub 38 aG aG d2 (.int .u32 3)) (dr w) λd3 w_=>w_=(dr w)/\
   (dr w)=(dr w)/\
   aK pg iD #[d0,d3,(aOk 2)] (dr w) λd5 Y4=>
   (dR pg (aD .sub 38 aG aG c8 (.int .u32 3)) c9 Y4/\dR pg (aH 38 c7) c8 Y4/\dR pg (aJ 84 s_3 2) c7 Y4/\True)/\
   Y4=Y4/\
   aA pg (aM 45 b5 d5) Y4 λ_u10 aBa=>
   aBa=aBa/\
   vU pg 45 b5 aBa λr1=>R (.tuple #[c9,r1,(aOk 0)]) aBa)
   (aA pg (aJ 84 s_3 2) w λd6 w=>
   aA pg (aH 38 d6) w λd7 w=>
   aA pg (cH 38 3 d7) w λd8 w=>
   aA pg (aD .sub 3 aG aG d8 (aOk 1)) w λd9 w=>
   aA pg (aJ 84 s_3 0) w λe0 w=>
   aA pg (aH 38 e0) w λe1 w=>
   aA pg (aD .eql 38 (.tmp 31) (.const (.int .u32 0)) e1 (.int .u32 0)) w λe2 w=>
   bQ e2
    (aA pg (aD .add 3 aG aG d9 (aOk 1)) w λe4 w=>
    kn r_2 b5 (aOk 2) e4 w)
    (kn r_2 b5 (aOk 2) d9 w)))
def Ku(R:K1) QH s_1 w:=
 Kt (xD R) R QH s_1 w
def RJ a0 a1 w(R:K1):=
 Ku R a0 a1 w
theorem Ug{a0 a1 w R}(h:RJ a0 a1 w R):aK pg yZ #[a0,a1] w R:=
 lB (ann:=VS) Tryz.f61 T7 [a0,a1] YR 54 TryzM.mixed Tryz.func61 (bZ 6 (Lk (AK (xD R) 2 5 7 8) h (λg w h=>aE (bZ 2 (eL (NQ (pW R) 2 5 7 8 9) h (λg w h=>aE (lT h cO))))) cO))
def NZ:FA:=⟨iD,λi=>match Nat.beq i 2 with|true=> .leaf ([5],[]) (fz 5 (ft [] []))|false=> .leaf ([],[]) []⟩
def QN:List ResultVar:=[.cell 6 45]
noncomputable def Mw:Code:=aY Tryz.f62
def D3 (R:K1) QH aEn k_2 w:=
 aA pg (A0 45 QH) w λr_3 w=>
 aA pg (bG 45) w λb6 w=>
 aA pg (aH 45 r_3) w λb8 w=>
 aA pg (bG 45) w λaAU w=>
 aA pg (aM 45 aAU b8) w λ_u w=>
 (dr w)=(dr w)/\
 aA pg (aD .add 3 aG aG k_2 (aOk 1)) (dr w) λc0 w_=>w_=(dr w)/\
 aA pg (bP 45 aAU (some (aOk 1)) (some c0) none) (dr w) λc1 w_=>w_=(dr w)/\
 (dr w)=(dr w)/\
 aA pg (bP 45 r_3 none (some k_2) none) (dr w) λc3 w_=>w_=(dr w)/\
 aA pg (dD .copy #[128,128] 3 [c1,c3]) (dr w) λc4 aKN=>
 aA pg (aO 45 aAU (aOk 0)) aKN λc6 w=>
 aA pg (aM 38 c6 aEn) w λ_u w=>
 aA pg (aH 45 aAU) w λc7 w=>
 aA pg (aM 45 b6 c7) w λ_u w=>
 vU pg 45 b6 w λr0=>R r0 w
def ID a0 a1 a2 w(R:K1):=
 D3 R a0 a1 a2 w
theorem MS{a0 a1 a2 w R}(h:ID a0 a1 a2 w R):aK pg iD #[a0,a1,a2] w R:=
 lB (ann:=NZ) Tryz.f62 Mw [a0,a1,a2] QN 18 TryzM.mixed Tryz.func62 (lT h cO)
def Zq:FA:=⟨Cr,λi=> .leaf ([],[]) []⟩
def afB:List ResultVar:=[.tmp 2,.tmp 3]
noncomputable def Xv:Code:=aY Tryz.f63
def PM(R:K1) dB w:=
 aA pg (dD .len #[22] 3 [dB]) w λb5 w=>
 aA pg (aD .gtr 3 aG aG b5 (aOk 131072)) w λb6 w=>
 bQ b6
  (R (.tuple #[(.slice none 0 0),(aOk 1)]) w)
  (aA pg (dD .len #[22] 3 [dB]) w λb8 w=>
  aK pg rS #[(aOk 0),b8] w λb9 w=>
  aA pg (dD .append #[22,22] 22 [b9,dB]) w λc1 w=>
  R (.tuple #[c1,(aOk 0)]) w)
def Yg a0 w(R:K1):=
 PM R a0 w
theorem Yh{a0 w R}(h:Yg a0 w R):aK pg Cr #[a0] w R:=
 lB (ann:=Zq) Tryz.f63 Xv [a0] afB 12 TryzM.mixed Tryz.func63 (lT h cO)
def Rb:FA:=⟨gY,λi=> .leaf ([],[]) []⟩
def UA:List ResultVar:=[]
noncomputable def Qq:Code:=aY Tryz.f64
def Ah(kn:K0) jC e_1 b2 w:=
 aA pg (aD .eql 24 (.tmp 5) (.const (aOk 0)) e_1 (aOk 0)) w λb6 w=>
 bQ b6
  (aA pg (aH 22 b2) w λb7 w=>
  aA pg (bT 137 2 [(0,b7),(1,jC)]) w λb9 w=>
  aK pg wQ #[b9] w λc0 w=>
  aA pg (aM 22 b2 c0) w λ_u w=>
  kn w)
  (kn w)
def Et a0 a1 a2 w(R:K1):=
 Ah (λw=>R (.tuple #[]) w) a0 a1 a2 w
theorem D2 {a0 a1 a2 w R}(h:Et a0 a1 a2 w R):aK pg gY #[a0,a1,a2] w R:=
 lB (ann:=Rb) Tryz.f64 Qq [a0,a1,a2] UA 11 TryzM.mixed Tryz.func64 (eL (Mq0 (λw=>R (.tuple #[]) w)) h cO)
def TX:FA:=⟨wQ,λi=> .leaf ([],[]) []⟩
def WC:List ResultVar:=[.tmp 2]
noncomputable def Rl:Code:=aY Tryz.f65
def IB(R:K1) dB w:=
 aK pg vT #[dB,(.func (.func 83) #[] #[])] w λb4 w=>
 R b4 w
def Pw a0 w(R:K1):=
 IB R a0 w
theorem RI{a0 w R}(h:Pw a0 w R):aK pg wQ #[a0] w R:=
 lB (ann:=TX) Tryz.f65 Rl [a0] WC 5 TryzM.mixed Tryz.func65 (lT h cO)
def Xg:FA:=⟨Bb,λi=> .leaf ([],[]) []⟩
def aaW:List ResultVar:=[.tmp 4,.tmp 5]
noncomputable def V3:Code:=aY Tryz.f66
def MY(R:K1) c_0 KE w:=
 aA pg (aD .lss 3 aG aG KE (aOk 0)) w λb7 w=>
 Gd (bK b7 false) (λK=>K KE w) w λb9 w=>
 Gd (bK b7 false) (λK=>aA pg (aD .gtr 3 aG aG b9 (aOk 131072)) w K) w λc0 w=>
 aA pg (cD b7 (.bool true) c0) w λc1 w=>
 bQ c1
  (R (.tuple #[(.slice none 0 0),(aOk 1)]) w)
  (aK pg rS #[(aOk 1),KE] w λc3 w=>
  aA pg (bT 22 1 [(0,c_0)]) w λc5 w=>
  aA pg (dD .append #[22,22] 22 [c3,c5]) w λc6 w=>
  R (.tuple #[c6,(aOk 0)]) w)
def Vk a0 a1 w(R:K1):=
 MY R a0 a1 w
theorem Wo{a0 a1 w R}(h:Vk a0 a1 w R):aK pg Bb #[a0,a1] w R:=
 lB (ann:=Xg) Tryz.f66 V3 [a0,a1] aaW 17 TryzM.mixed Tryz.func66 (lT h cO)
def rY:FA:=⟨HL,λi=> .leaf ([],[]) []⟩
def alN:List ResultVar:=[.tmp 2,.tmp 3]
noncomputable def pB:Code:=aY Tryz.f67
def L4 (R:K1) fO w:=
 R (.tuple #[fO,(aOk 0)]) w
def FW(kn:K5) Iu fO i1 i2 i3 w:=
 aA pg (aD .add 3 aG aG i3 (aOk 1)) w λj8 w=>
 kn Iu fO i1 i2 j8 w
def FX(kn:K5) Iu fO aKQ i1 i2 i3 w:=
 aA pg (cH 3 5 aKQ) w λj5 w=>
 aA pg (bT 22 1 [(0,j5)]) w λj6 w=>
 aA pg (dD .append #[22,22] 22 [fO,j6]) w λj7 w=>
 kn Iu j7 i1 i2 i3 w
def VF(kn:K6) Iu fO i1 i2 i3 w:=
 aA pg (aO 117 i1 i3) w λi5 w=>
 aA pg (aH 3 i5) w λi6 w=>
 aA pg (aD .gtr 3 aG aG i6 (aOk 0)) w λi8 w=>
 bQ i8
  (aA pg (aD .add 3 aG aG Iu (aOk 1)) w λj0 w=>
  aA pg (aD .sub 3 aG aG j0 i6) w λj2 w=>
  kn Iu fO j2 i1 i2 i3 w)
  (kn Iu fO (aOk 0) i1 i2 i3 w)
def L5 (kn:K5) Iu fO i1 i2 i3 w:=
 VF (FX kn) Iu fO i1 i2 i3 w
def L6 (kn:K5) Iu fO i1 i2 i3 w:=
 L5 (FW kn) Iu fO i1 i2 i3 w
theorem abM(kn:K5)(hn:N5 Q kn 10 11 51 52 53)(h:L5 kn (g 10) (g 11) (g 51) (g 52) (g 53) w):cP pg rY (aQ 1 (aI 2 (bI (bI (aI 1 (aQ 1 (aI 4 (aI 1 (aI 3 pB))))))))) Q g w:=
 qM 3 (bZ 3 (eL (TS (FX kn) 10 11 14 51 52 53) h (λg w h=>aE (eL _ h hn))))
def VG(kn:K5)(k2:K1) Iu fO i1 i2 i3 w:=
 aA pg (aD .lss 3 aG aG i3 i2) w λi4 w=>
 bQ i4
  (kn Iu fO i1 i2 i3 w)
  (k2 fO w)
def L8 (kn:K5)(k2:K1) Iu fO i1 i2 i3 w:=
 VG (L6 kn) k2 Iu fO i1 i2 i3 w
def DC(k2:K1) Iu fO i1 i2 i3 w:=
 aX (λ(X:(aOj×aOj)->K0) (t:aOj×aOj) (w:aOi)=>L8 (λ_ fO _ _ i3 w=>X (fO,i3) w) k2 Iu t.1 i1 i2 t.2 w) (fO,i3) w
theorem Y5 (k2:K1)(h2:E1 Q k2 2 11)(h:DC k2 (g 10) (g 11) (g 51) (g 52) (g 53) w):cP pg rY (bI (aI 1 (aQ 1 (aI 4 (aI 1 (aI 3 pB)))))) Q g w:=by
 refine AL (λg:Env=>(g 11,g 53)) (λX t w=>L8 (λ_ fO _ _ i3 w=>X (fO,i3) w) k2 (g 10) t.1 (g 51) (g 52) t.2 w) h (λX g1 w1 ha hL=> ?_)
 rw[<-cI 10 ha,<-cI 51 ha,<-cI 52 ha]at hL
 exact(bZ 2 (zK [(2,(TR k2 11))] (kr:=no) (NQ (L6 (λ_ fO _ _ i3 w=>X (fO,i3) w)) 10 11 51 52 53) hL (λg w h=>aE (bZ 1 (abM _ g w (FW (λ_ fO _ _ i3 w=>X (fO,i3) w)) (λg w h=>aE (eL (NQ (λ_ fO _ _ i3 w=>X (fO,i3) w) 10 11 51 52 53) h cO)) h))) DN ⟨h2,trivial⟩))
def Tn(kn:K5) l_9 Iu fO w:=
 aA pg (dD .len #[117] 3 [l_9]) w λi2 w=>
 kn Iu fO l_9 i2 (aOk 0) w
def JL(kn:K1) l_9 Iu fO w:=
 Tn (DC kn) l_9 Iu fO w
def JM(R:K1) l_9 Iu fO w:=
 JL (L4 R) l_9 Iu fO w
theorem Y6 (kn:K1)(hn:N1 Q kn 11)(h:JL kn (g 9) (g 10) (g 11) w):cP pg rY (aQ 1 (aI 4 (aI 1 (aI 3 pB)))) Q g w:=
 bZ 1 (eL (NQ (DC kn) 10 11 51 52 53) h (λg w h=>aE (qM 2 (Y5 _ g w kn hn h))))
def To(kn:K3)(R:K1) aL eX b5 lD w:=
 aA pg (dD .len #[128] 3 [aL]) w λe3 w=>
 aA pg (aD .gtr 3 aG aG e3 (aOk 256)) w λe4 w=>
 Gd (bK e4 false) (λK=>K b5 w) w λe6 w=>
 Gd (bK e4 false) (λK=>aA pg (aD .lss 3 aG aG e6 (aOk 2)) w K) w λe7 w=>
 aA pg (cD e4 (.bool true) e7) w λe8 w=>
 Gd (bK e8 false) (λK=>K eX w) w λf0 w=>
 Gd (bK e8 false) (λK=>aA pg (aD .gtr 32 aG aG f0 (.int .u64 2147483647)) w K) w λf1 w=>
 aA pg (cD e8 (.bool true) f1) w λf2 w=>
 bQ f2
  (R (.tuple #[(.slice none 0 0),(aOk 1)]) w)
  (aA pg (aD .add 3 aG aG lD (aOk 1)) w λf5 w=>
  aA pg (bP 128 aL none (some f5) none) w λf6 w=>
  aK pg wX #[f6,eX] w λf8 w=>
  aK pg wW #[f8] w λi0 w=>
  kn f8 i0 (.slice none 0 0) w)
def DD(R:K1) aL eX b5 lD w:=
 To (JM R) R aL eX b5 lD w
def DE(kn:K7) aL eX b5 lD c5 c6 c7 w:=
 aA pg (aD .add 3 aG aG c7 (aOk 1)) w λe1 w=>
 kn aL eX b5 lD c5 c6 e1 w
def Tp(kn:K7)(k0:K4) aL eX b5 lD c5 c6 c7 w:=
 aA pg (aD .lss 3 aG aG c7 c6) w λc8 w=>
 bQ c8
  (aA pg (aO 128 c5 c7) w λd0 w=>
  aA pg (aH 38 d0) w λd1 w=>
  aA pg (cH 38 32 d1) w λd4 w=>
  aA pg (aD .add 32 aG aG eX d4) w λd5 w=>
  aA pg (aD .gtr 38 aG aG d1 (.int .u32 0)) w λd7 w=>
  bQ d7
   (aA pg (aD .add 3 aG aG b5 (aOk 1)) w λd9 w=>
   kn aL d5 d9 c7 c5 c6 c7 w)
   (kn aL d5 b5 lD c5 c6 c7 w))
  (k0 aL eX b5 lD w)
def JN(kn:K7)(k0:K4) aL eX b5 lD c5 c6 c7 w:=
 Tp (DE kn) k0 aL eX b5 lD c5 c6 c7 w
def DF(k0:K4) aL eX b5 lD c5 c6 c7 w:=
 aX (λ(X:(aOj×aOj×aOj×aOj)->K0) (t:aOj×aOj×aOj×aOj) (w:aOi)=>JN (λ_ eX b5 lD _ _ c7 w=>X (eX,b5,lD,c7) w) k0 aL t.1 t.2.1 t.2.2.1 c5 c6 t.2.2.2 w) (eX,b5,lD,c7) w
theorem Y7 (k0:K4)(h0:E4 Q k0 0 0 4 5 6)(h:DF k0 (g 0) (g 4) (g 5) (g 6) (g 15) (g 16) (g 17) w):cP pg rY (bI (aI 1 (aQ 1 (aI 3 pB)))) Q g w:=by
 refine AL (λg:Env=>(g 4,g 5,g 6,g 17)) (λX t w=>JN (λ_ eX b5 lD _ _ c7 w=>X (eX,b5,lD,c7) w) k0 (g 0) t.1 t.2.1 t.2.2.1 (g 15) (g 16) t.2.2.2 w) h (λX g1 w1 ha hL=> ?_)
 rw[<-cI 0 ha,<-cI 15 ha,<-cI 16 ha]at hL
 exact(bZ 3 (zK [(0,(AK k0 0 4 5 6))] (kr:=no) (JW (DE (λ_ eX b5 lD _ _ c7 w=>X (eX,b5,lD,c7) w)) 0 4 5 6 15 16 17) hL (λg w h=>aE (eL (JW (λ_ eX b5 lD _ _ c7 w=>X (eX,b5,lD,c7) w) 0 4 5 6 15 16 17) h cO)) DN ⟨h0,trivial⟩))
def Tq(kn:K7) aL eX b5 lD w:=
 aA pg (dD .len #[128] 3 [aL]) w λc6 w=>
 kn aL eX b5 lD aL c6 (aOk 0) w
def JO(kn:K4) aL eX b5 lD w:=
 Tq (DF kn) aL eX b5 lD w
def DG(R:K1) aL eX b5 lD w:=
 JO (DD R) aL eX b5 lD w
theorem Y8 (kn:K4)(hn:N4 Q kn 0 4 5 6)(h:JO kn (g 0) (g 4) (g 5) (g 6) w):cP pg rY (aQ 1 (aI 3 pB)) Q g w:=
 bZ 1 (eL (JW (DF kn) 0 4 5 6 15 16 17) h (λg w h=>aE (qM 0 (Y7 _ g w kn hn h))))
def Tr(kn:K4) aL w:=
 kn aL (.int .u64 0) (aOk 0) (aOk 0) w
def Ts(R:K1) aL w:=
 Tr (DG R) aL w
def ajO a0 w(R:K1):=
 Ts R a0 w
theorem afJ{a0 w R}(h:ajO a0 w R):aK pg HL #[a0] w R:=
 lB (ann:=rY) Tryz.f67 pB [a0] alN 70 TryzM.mixed Tryz.func67 (bZ 3 (eL (AK (DG R) 0 4 5 6) h (λg w h=>aE (bZ 1 (Y8 _ g w (DD R) (λg w h=>aE (bZ 4 (Lk (TE (JM R) 9 10 11) h (λg w h=>aE (bZ 1 (Y6 _ g w (L4 R) (λg w h=>aE (lT h cO)) h))) cO))) h)))))
def TZ:FA:=⟨wS,λi=> .leaf ([],[]) []⟩
def WE:List ResultVar:=[.tmp 6,.tmp 7]
noncomputable def Ro:Code:=aY Tryz.f68
def nJ(R:K1) gA Se b_9 aGa aFL aGP w:=
 aK pg eY #[] w λl5 w=>
 aA pg (aD .shl 3 aG aG aGa (.int .u64 2)) w λl9 w=>
 aA pg (aD .or 3 aG aG Se l9) w λm0 w=>
 aA pg (dD .len #[22] 3 [gA]) w λm2 w=>
 aA pg (aD .shl 3 aG aG m2 (.int .u64 4)) w λm3 w=>
 aA pg (aD .or 3 aG aG m0 m3) w λm4 w=>
 aA pg (cH 3 32 m4) w λm5 w=>
 aA pg (dD .len #[22] 3 [b_9]) w λm7 w=>
 aA pg (cH 3 32 m7) w λm8 w=>
 aA pg (aD .add 3 aG aG (aOk 4) aFL) w λn0 w=>
 aA pg (aD .shl 32 aG aG m8 n0) w λn1 w=>
 aA pg (aD .or 32 aG aG m5 n1) w λn2 w=>
 aK pg bA #[l5,n2,aGP] w λn4 w=>
 aK pg fD #[l5,b_9] w λn7 w=>
 aK pg eH #[l5] w λn9 w=>
 R (.tuple #[n9,(aOk 0)]) w
def I1 (kn:K6)(R:K1) gA tN Se b_9 w:=
 aK pg rC #[tN,gA] w λf0 w=>
 aA pg (aV f0 0) w λf1 w=>
 aA pg (aV f0 1) w λf2 w=>
 aA pg (aD .neq 24 (.tmp 43) (.const (aOk 0)) f2 (aOk 0)) w λf4 w=>
 bQ f4
  (R (.tuple #[(.slice none 0 0),f2]) w)
  (aA pg (dD .append #[22,22] 22 [b_9,f1]) w λf8 w=>
  aA pg (dD .len #[22] 3 [f8]) w λi0 w=>
  aA pg (aD .geq 3 aG aG i0 (aOk 262144)) w λi1 w=>
  bQ i1
   (R (.tuple #[(.slice none 0 0),(aOk 1)]) w)
   (aA pg (dD .len #[22] 3 [gA]) w λi3 w=>
   aA pg (dD .len #[22] 3 [f8]) w λi5 w=>
   aA pg (dD .max #[3,3] 3 [i3,i5]) w λi6 w=>
   aA pg (dD .len #[22] 3 [gA]) w λi9 w=>
   aA pg (aD .lss 3 aG aG i9 (aOk 256)) w λj0 w=>
   Gd (bK j0 true) (λK=>K i6 w) w λj2 w=>
   Gd (bK j0 true) (λK=>aA pg (aD .lss 3 aG aG j2 (aOk 1024)) w K) w λj3 w=>
   aA pg (cD j0 j3 (.bool false)) w λj4 w=>
   bQ j4
    (kn gA Se f8 (aOk 0) (aOk 10) (aOk 3) w)
    (aA pg (dD .len #[22] 3 [gA]) w λj7 w=>
    aA pg (aD .lss 3 aG aG j7 (aOk 256)) w λj8 w=>
    bQ j8
     (R (.tuple #[(.slice none 0 0),(aOk 1)]) w)
     (aA pg (aD .lss 3 aG aG i6 (aOk 1024)) w λl1 w=>
     bQ l1
      (kn gA Se f8 (aOk 1) (aOk 10) (aOk 3) w)
      (aA pg (aD .lss 3 aG aG i6 (aOk 16384)) w λl4 w=>
      bQ l4
       (kn gA Se f8 (aOk 2) (aOk 14) (aOk 4) w)
       (kn gA Se f8 (aOk 3) (aOk 18) (aOk 5) w))))))
def tR(R:K1) gA tN Se b_9 w:=
 I1 (nJ R) R gA tN Se b_9 w
def I2 (kn:K4)(R:K1) gA tN aoT w:=
 aA pg (dD .len #[22] 3 [gA]) w λd0 w=>
 aA pg (aD .eql 3 (.tmp 20) (.const (aOk 0)) d0 (aOk 0)) w λd1 w=>
 Gd (bK d1 false) (λK=>K gA w) w λd3 w=>
 Gd (bK d1 false) (λK=>aA pg (dD .len #[22] 3 [d3]) w K) w λd4 w=>
 Gd (bK d1 false) (λK=>aA pg (aD .gtr 3 aG aG d4 (aOk 131072)) w K) w λd5 w=>
 aA pg (cD d1 (.bool true) d5) w λd6 w=>
 bQ d6
  (R (.tuple #[(.slice none 0 0),(aOk 1)]) w)
  (bQ aoT
   (aK pg uV #[tN] w λe0 w=>
   aA pg (aV e0 0) w λe1 w=>
   aA pg (aV e0 1) w λe2 w=>
   aA pg (aD .neq 24 (.tmp 33) (.const (aOk 0)) e2 (aOk 0)) w λe4 w=>
   bQ e4
    (R (.tuple #[(.slice none 0 0),e2]) w)
    (kn gA tN (aOk 2) e1 w))
   (kn gA tN (aOk 3) (.slice none 0 0) w))
def I3 (R:K1) gA tN aoT w:=
 I2 (tR R) R gA tN aoT w
def PL a0 a1 a2 w(R:K1):=
 I3 R a0 a1 a2 w
theorem Sj{a0 a1 a2 w R}(h:PL a0 a1 a2 w R):aK pg wS #[a0,a1,a2] w R:=
 lB (ann:=TZ) Tryz.f68 Ro [a0,a1,a2] WE 100 TryzM.mixed Tryz.func68 (bZ 5 (Lk (AK (tR R) 0 1 8 9) h (λg w h=>aE (bZ 6 (Lk (TS (nJ R) 0 8 9 14 15 16) h (λg w h=>aE (lT h cO)) cO))) cO))
def lW:FA:=⟨wV,λi=> .leaf ([],[]) []⟩
def nN:List ResultVar:=[.cell 2 131,.tmp 3]
noncomputable def kY:Code:=aY Tryz.f69
def BK(R:K1) b2 bD w:=
 aA pg (aH 131 bD) w λf4 w=>
 aA pg (aM 131 b2 f4) w λ_u w=>
 vU pg 131 b2 w λr0=>R (.tuple #[r0,(aOk 0)]) w
def BL(kn:K5) b2 bD c2 c3 c4 w:=
 aA pg (aD .add 3 aG aG c4 (aOk 1)) w λf3 w=>
 kn b2 bD c2 c3 f3 w
def BM(kn:K7)(k2:K5)(R:K1) b2 bD c2 c3 c4 c9 d0 w:=
 aA pg (aD .lss 3 aG aG d0 (aOk 3)) w λd1 w=>
 bQ d1
  (aA pg (HX 44 c9 d0) w λd3 w=>
  aK pg NO #[d0,d3] w λd7 w=>
  aA pg (aV d7 0) w λd8 w=>
  aA pg (aV d7 1) w λd9 w=>
  aA pg (aV d7 2) w λe0 w=>
  aA pg (aD .neq 24 (.tmp 31) (.const (aOk 0)) e0 (aOk 0)) w λe2 w=>
  bQ e2
   (aA pg (aH 131 bD) w λe3 w=>
   aA pg (aM 131 b2 e3) w λ_u w=>
   vU pg 131 b2 w λr0=>R (.tuple #[r0,(aOk 1)]) w)
   (aA pg (aO 131 bD d0) w λe6 w=>
   aA pg (aH 117 e6) w λe7 w=>
   aA pg (bT 117 1 [(0,d8)]) w λe9 w=>
   aA pg (dD .append #[117,117] 117 [e7,e9]) w λf0 w=>
   aA pg (aO 131 bD d0) w λf1 w=>
   aA pg (aM 117 f1 f0) w λ_u w=>
   aA pg (aD .add 3 aG aG d0 (aOk 1)) w λf2 w=>
   kn b2 bD c2 c3 c4 c9 f2 w))
  (k2 b2 bD c2 c3 c4 w)
def uA(k2:K5)(R:K1) b2 bD c2 c3 c4 c9 d0 w:=
 aX (λ(X:aOj->K0) (t:aOj) (w:aOi)=>BM (λ_ _ _ _ _ _ d0 w=>X d0 w) k2 R b2 bD c2 c3 c4 c9 t w) d0 w
theorem QT(k2:K5)(R:K1)(h2:E5 Q k2 2 2 4 12 13 14)(hr:HR nN R Q)(h:uA k2 R (g 2) (g 4) (g 12) (g 13) (g 14) (g 19) (g 20) w):cP pg lW (bI (aI 2 (bI (aQ 1 (aI 2 (bI (bI (aI 1 (aQ 1 (aI 2 kY)))))))))) Q g w:=by
 refine AL (λg:Env=>g 20) (λX t w=>BM (λ_ _ _ _ _ _ d0 w=>X d0 w) k2 R (g 2) (g 4) (g 12) (g 13) (g 14) (g 19) t w) h (λX g1 w1 ha hL=> ?_)
 rw[<-cI 2 ha,<-cI 4 ha,<-cI 12 ha,<-cI 13 ha,<-cI 14 ha,<-cI 19 ha]at hL
 exact(zK [(2,(NQ k2 2 4 12 13 14))] (JW (λ_ _ _ _ _ _ d0 w=>X d0 w) 2 4 12 13 14 19 20) hL cO hr ⟨h2,trivial⟩)
def Ju(kn:K7) b2 bD c2 c3 c4 w:=
 aA pg (aO 80 c2 c4) w λc6 w=>
 aA pg (aH 84 c6) w λc7 w=>
 aA pg (bG 84) w λs_6 w=>
 aA pg (aM 84 s_6 c7) w λ_u w=>
 aA pg (aH 84 s_6) w λc8 w=>
 aK pg mY #[c8] w λc9 w=>
 kn b2 bD c2 c3 c4 c9 (aOk 0) w
def BN(kn:K5)(R:K1) b2 bD c2 c3 c4 w:=
 Ju (uA kn R) b2 bD c2 c3 c4 w
def BO(kn:K5)(R:K1) b2 bD c2 c3 c4 w:=
 BN (BL kn) R b2 bD c2 c3 c4 w
theorem QU(kn:K5)(R:K1)(hn:N5 Q kn 2 4 12 13 14)(hr:HR nN R Q)(h:BN kn R (g 2) (g 4) (g 12) (g 13) (g 14) w):cP pg lW (aQ 1 (aI 2 (bI (bI (aI 1 (aQ 1 (aI 2 kY))))))) Q g w:=
 qM 1 (bZ 2 (eL (JW (uA kn R) 2 4 12 13 14 19 20) h (λg w h=>aE (qM 2 (QT _ g w kn R hn hr h)))))
def Hj(kn:K5)(k0:K2) b2 bD c2 c3 c4 w:=
 aA pg (aD .lss 3 aG aG c4 c3) w λc5 w=>
 bQ c5
  (kn b2 bD c2 c3 c4 w)
  (k0 b2 bD w)
def Ak(kn:K5)(k0:K2)(R:K1) b2 bD c2 c3 c4 w:=
 Hj (BO kn R) k0 b2 bD c2 c3 c4 w
def rI(k0:K2)(R:K1) b2 bD c2 c3 c4 w:=
 aX (λ(X:aOj->K0) (t:aOj) (w:aOi)=>Ak (λ_ _ _ _ c4 w=>X c4 w) k0 R b2 bD c2 c3 t w) c4 w
theorem O2 (k0:K2)(R:K1)(h0:E2 Q k0 0 2 4)(hr:HR nN R Q)(h:rI k0 R (g 2) (g 4) (g 12) (g 13) (g 14) w):cP pg lW (bI (aI 1 (aQ 1 (aI 2 kY)))) Q g w:=by
 refine AL (λg:Env=>g 14) (λX t w=>Ak (λ_ _ _ _ c4 w=>X c4 w) k0 R (g 2) (g 4) (g 12) (g 13) t w) h (λX g1 w1 ha hL=> ?_)
 rw[<-cI 2 ha,<-cI 4 ha,<-cI 12 ha,<-cI 13 ha]at hL
 exact(bZ 2 (zK [(0,(Kf k0 2 4))] (kr:=no) (NQ (BO (λ_ _ _ _ c4 w=>X c4 w) R) 2 4 12 13 14) hL (λg w h=>aE (bZ 1 (QU _ g w (BL (λ_ _ _ _ c4 w=>X c4 w)) R (λg w h=>aE (eL (NQ (λ_ _ _ _ c4 w=>X c4 w) 2 4 12 13 14) h cO)) hr h))) DN ⟨h0,trivial⟩))
def Hk(kn:K5) dB b2 bD w:=
 aA pg (dD .len #[80] 3 [dB]) w λc3 w=>
 kn b2 bD dB c3 (aOk 0) w
def Al(kn:K2)(R:K1) dB b2 bD w:=
 Hk (rI kn R) dB b2 bD w
def Am(R:K1) dB b2 bD w:=
 Al (BK R) R dB b2 bD w
theorem O3 (kn:K2)(R:K1)(hn:N2 Q kn 2 4)(hr:HR nN R Q)(h:Al kn R (g 0) (g 2) (g 4) w):cP pg lW (aQ 1 (aI 2 kY)) Q g w:=
 bZ 1 (eL (NQ (rI kn R) 2 4 12 13 14) h (λg w h=>aE (qM 0 (O2 _ g w kn R hn hr h))))
def Hl(kn:K3) dB w:=
 aA pg (bG 131) w λb2 w=>
 aA pg (bG 131) w λbD w=>
 kn dB b2 bD w
def Hm(R:K1) dB w:=
 Hl (Am R) dB w
def PV a0 w(R:K1):=
 Hm R a0 w
theorem S3 {a0 w R}(h:PV a0 w R):aK pg wV #[a0] w R:=
 lB (ann:=lW) Tryz.f69 kY [a0] nN 45 TryzM.mixed Tryz.func69 (bZ 2 (eL (TE (Am R) 0 2 4) h (λg w h=>aE (bZ 1 (O3 _ g w (BK R) R (λg w h=>aE (lT h cO)) cO h)))))
def rX:FA:=⟨kV,λi=>match Nat.beq i 18 with|true=> .split 4 9 (.split 9 10 (.perm [0,1,2,3,4,5,6,7,8,9,10,11,12,13] [(9,10),(4,9)] ([4,9,10],[(4,6),(4,7),(4,8)]) (fz 4 (ft [] (fz 1 (fu [1] (fu [2] (fu [3] (ft [] (ft [] (fz 3 [])))))))))) (.perm [0,1,2,3,4,5,6,7,8,10,9,11,12,13] [(10,9),(4,9)] ([4,9,10],[(4,6),(4,7),(4,8),(6,9),(7,9),(8,9)]) (fz 4 (ft [] (fz 1 (fu [1] (fu [2] (fu [3] (ft [0,1,2] (ft [] (fz 3 []))))))))))) (.perm [0,1,2,3,5,6,7,8,9,4,10,11,12,13] [(9,4)] ([8,9,10],[(1,8),(2,8),(3,8)]) (fz 8 (ft [4,5,6] (ft [] (ft [] (fz 3 []))))))|false=>match Nat.beq i 22 with|true=> .split 4 9 (.split 5 9 (.perm [0,1,2,3,4,5,6,7,8,9,10,11] [(5,9),(4,9)] ([4,5,9,10],[(1,4),(2,4),(7,9),(8,9),(8,10)]) (fz 4 (ft [1,2] (ft [] (fz 3 (ft [0,1] (ft [1] (fz 1 [])))))))) (.perm [0,1,2,3,4,9,5,6,7,8,10,11] [(9,5),(4,9)] ([4,5,6,10],[(1,4),(1,5),(2,4),(2,5),(9,10)]) (fz 4 (ft [1,2] (ft [2,3] (ft [] (fz 3 (ft [0] (fz 1 []))))))))) (.perm [0,1,2,3,9,4,5,6,7,8,10,11] [(9,4)] ([4,5,6,10],[(1,4),(1,5),(2,4),(2,5),(9,10)]) (fz 4 (ft [1,2] (ft [2,3] (ft [] (fz 3 (ft [0] (fz 1 []))))))))|false=> .leaf ([],[]) []⟩
def vC:List ResultVar:=[.cell 4 106,.tmp 5,.tmp 6,.tmp 7]
noncomputable def fI:Code:=aY Tryz.f70
def Br(R:K1) b4 agO aJz w:=
 aA pg (aD .neq 24 (.tmp 107) (.const (aOk 0)) aJz (aOk 0)) w λo8 w=>
 bQ o8
  (aA pg (bH 106 []) w λo9 w=>
  aA pg (aM 106 b4 o9) w λ_u w=>
  vU pg 106 b4 w λr0=>R (.tuple #[r0,(aOk 0),(.slice none 0 0),aJz]) w)
  (aA pg (aH 162 agO) w λp2 w=>
  aK pg Cu #[p2] w λp3 w=>
  aA pg (aV p3 0) w λp4 w=>
  aA pg (aV p3 1) w λp5 w=>
  aA pg (aD .neq 24 (.tmp 116) (.const (aOk 0)) p5 (aOk 0)) w λp7 w=>
  bQ p7
   (aA pg (bH 106 []) w λp8 w=>
   aA pg (aM 106 b4 p8) w λ_u w=>
   vU pg 106 b4 w λr0=>R (.tuple #[r0,(aOk 0),(.slice none 0 0),p5]) w)
   (aA pg (aH 162 agO) w λq1 w=>
   aK pg BZ #[q1] w λq2 w=>
   aA pg (aV q2 0) w λq3 w=>
   aA pg (aV q2 1) w λq4 w=>
   aA pg (bG 106) w λd0 w=>
   aA pg (aM 106 d0 q3) w λ_u w=>
   aA pg (aH 106 d0) w λq5 w=>
   aA pg (aM 106 b4 q5) w λ_u w=>
   vU pg 106 b4 w λr0=>R (.tuple #[r0,(aOk 2),p4,q4]) w))
def P3 (kn:K3) bF b4 bY aP w:=
 Ord (apU kV 22 (Jl 22 fI) 4 9 w)
  (Ord (apU kV 22 (Jl 22 fI) 5 9 w)
   ((dr w)=(dr w)/\
   aA pg (aD .add 3 aG aG aP (aOk 1)) (dr w) λo0 w_=>w_=(dr w)/\
   aA pg (bP 160 bY none (some o0) none) (dr w) λo1 w_=>w_=(dr w)/\
   (dr w)=(dr w)/\
   aK pg vF #[bF] (dr w) λo3 Ti=>
   (dR pg (bP 160 bY none (some o0) none) o1 Ti/\dR pg (aD .add 3 aG aG aP (aOk 1)) o0 Ti/\True)/\
   aK pg B1 #[o1,o3] Ti λo4 JI=>
   JI=JI/\
   aA pg (aV o4 0) JI λo5 w_=>w_=JI/\
   aA pg (aV o4 1) JI λo6 w_=>w_=JI/\
   aA pg (bG 162) JI λagO aE8=>
   (dR pg (aV o4 1) o6 aE8/\dR pg (aV o4 0) o5 aE8/\True)/\
   aA pg (aM 162 agO o5) aE8 λ_u10 Du=>
   (dR pg (aV o4 1) o6 Du/\True)/\
   Du=Du/\
   kn b4 agO o6 Du)
   ((dr w)=(dr w)/\
   aA pg (aD .add 3 aG aG aP (aOk 1)) (dr w) λo0 w_=>w_=(dr w)/\
   aA pg (bP 160 bY none (some o0) none) (dr w) λo1 w_=>w_=(dr w)/\
   (dr w)=(dr w)/\
   aK pg vF #[bF] (dr w) λo3 Ti=>
   (dR pg (bP 160 bY none (some o0) none) o1 Ti/\dR pg (aD .add 3 aG aG aP (aOk 1)) o0 Ti/\True)/\
   aA pg (bG 162) Ti λagO JI=>
   (dR pg (bP 160 bY none (some o0) none) o1 JI/\dR pg (aD .add 3 aG aG aP (aOk 1)) o0 JI/\True)/\
   aK pg B1 #[o1,o3] JI λo4 JJ=>
   JJ=JJ/\
   aA pg (aV o4 0) JJ λo5 w_=>w_=JJ/\
   aA pg (aV o4 1) JJ λo6 w_=>w_=JJ/\
   aA pg (aM 162 agO o5) JJ λ_u10 Du=>
   (dR pg (aV o4 1) o6 Du/\True)/\
   Du=Du/\
   kn b4 agO o6 Du))
  ((dr w)=(dr w)/\
  aA pg (aD .add 3 aG aG aP (aOk 1)) (dr w) λo0 w_=>w_=(dr w)/\
  aA pg (bP 160 bY none (some o0) none) (dr w) λo1 w_=>w_=(dr w)/\
  (dr w)=(dr w)/\
  aA pg (bG 162) (dr w) λagO Ti=>
  (dR pg (bP 160 bY none (some o0) none) o1 Ti/\dR pg (aD .add 3 aG aG aP (aOk 1)) o0 Ti/\True)/\
  aK pg vF #[bF] Ti λo3 JI=>
  (dR pg (bP 160 bY none (some o0) none) o1 JI/\dR pg (aD .add 3 aG aG aP (aOk 1)) o0 JI/\True)/\
  aK pg B1 #[o1,o3] JI λo4 JJ=>
  JJ=JJ/\
  aA pg (aV o4 0) JJ λo5 w_=>w_=JJ/\
  aA pg (aV o4 1) JJ λo6 w_=>w_=JJ/\
  aA pg (aM 162 agO o5) JJ λ_u10 Du=>
  (dR pg (aV o4 1) o6 Du/\True)/\
  Du=Du/\
  kn b4 agO o6 Du)
def vE(R:K1) bF b4 bY aP w:=
 P3 (Br R) bF b4 bY aP w
def Bt(R:K1) b4 b5 b6 b7 w:=
 vU pg 106 b4 w λr0=>R (.tuple #[r0,b5,b6,b7]) w
def P4 (kn:K4) tN b4 w:=
 Ord (apU kV 18 (Jl 18 fI) 4 9 w)
  (Ord (apU kV 18 (Jl 18 fI) 9 10 w)
   ((dr w)=(dr w)/\
   aA pg (aO 117 tN (aOk 0)) (dr w) λl1 w_=>w_=(dr w)/\
   aA pg (aH 3 l1) (dr w) λl2 w_=>w_=(dr w)/\
   aA pg (cH 3 5 l2) (dr w) λl3 w_=>w_=(dr w)/\
   aK pg H2 #[l3] (dr w) λl4 Ds=>
   Ds=Ds/\
   aA pg (aO 117 tN (aOk 0)) Ds λl6 w_=>w_=Ds/\
   (dR pg (aO 117 tN (aOk 0)) l6 (dr w)/\True)/\
   aA pg (aH 3 l6) Ds λl7 w_=>w_=Ds/\
   (dR pg (aH 3 l6) l7 (dr w)/\True)/\
   aA pg (cH 3 5 l7) Ds λl8 w_=>w_=Ds/\
   (dR pg (cH 3 5 l7) l8 (dr w)/\True)/\
   aA pg (bT 22 1 [(0,l8)]) Ds λl9 adC=>
   aA pg (aM 106 b4 l4) adC λ_u10 nQ=>
   nQ=nQ/\
   nQ=nQ/\
   nQ=nQ/\
   kn b4 (aOk 1) l9 (aOk 0) nQ)
   ((dr w)=(dr w)/\
   aA pg (aO 117 tN (aOk 0)) (dr w) λl1 w_=>w_=(dr w)/\
   aA pg (aH 3 l1) (dr w) λl2 w_=>w_=(dr w)/\
   aA pg (cH 3 5 l2) (dr w) λl3 w_=>w_=(dr w)/\
   aK pg H2 #[l3] (dr w) λl4 Ds=>
   Ds=Ds/\
   aA pg (aO 117 tN (aOk 0)) Ds λl6 w_=>w_=Ds/\
   (dR pg (aO 117 tN (aOk 0)) l6 (dr w)/\True)/\
   aA pg (aH 3 l6) Ds λl7 w_=>w_=Ds/\
   (dR pg (aH 3 l6) l7 (dr w)/\True)/\
   aA pg (cH 3 5 l7) Ds λl8 w_=>w_=Ds/\
   (dR pg (cH 3 5 l7) l8 (dr w)/\True)/\
   aA pg (aM 106 b4 l4) Ds λ_u9 adC=>
   (dR pg (cH 3 5 l7) l8 adC/\dR pg (aH 3 l6) l7 adC/\dR pg (aO 117 tN (aOk 0)) l6 adC/\True)/\
   aA pg (bT 22 1 [(0,l8)]) adC λl9 nQ=>
   nQ=nQ/\
   nQ=nQ/\
   nQ=nQ/\
   kn b4 (aOk 1) l9 (aOk 0) nQ))
  ((dr w)=(dr w)/\
  aA pg (aO 117 tN (aOk 0)) (dr w) λl1 w_=>w_=(dr w)/\
  aA pg (aH 3 l1) (dr w) λl2 w_=>w_=(dr w)/\
  aA pg (cH 3 5 l2) (dr w) λl3 w_=>w_=(dr w)/\
  (dr w)=(dr w)/\
  aA pg (aO 117 tN (aOk 0)) (dr w) λl6 w_=>w_=(dr w)/\
  aA pg (aH 3 l6) (dr w) λl7 w_=>w_=(dr w)/\
  aA pg (cH 3 5 l7) (dr w) λl8 w_=>w_=(dr w)/\
  aA pg (bT 22 1 [(0,l8)]) (dr w) λl9 aA7=>
  (dR pg (cH 3 5 l2) l3 aA7/\dR pg (aH 3 l1) l2 aA7/\dR pg (aO 117 tN (aOk 0)) l1 aA7/\True)/\
  aK pg H2 #[l3] aA7 λl4 adC=>
  aA pg (aM 106 b4 l4) adC λ_u10 nQ=>
  nQ=nQ/\
  nQ=nQ/\
  nQ=nQ/\
  kn b4 (aOk 1) l9 (aOk 0) nQ)
def G4 (R:K1) tN b4 w:=
 P4 (Bt R) tN b4 w
def P5 (kn:K4)(R:K1) bF tN b4 bY aP Z1 w:=
 aA pg (dD .len #[117] 3 [tN]) w λm2 w=>
 aA pg (aD .lss 3 aG aG m2 (aOk 64)) w λm3 w=>
 Gd (bK m3 true) (λK=>K aP w) w λm5 w=>
 Gd (bK m3 true) (λK=>aA pg (aJ 162 Z1 1) w K) w λm6 w=>
 Gd (bK m3 true) (λK=>aA pg (aH 117 m6) w K) w λm7 w=>
 Gd (bK m3 true) (λK=>aA pg (dD .len #[117] 3 [m7]) w K) w λm8 w=>
 Gd (bK m3 true) (λK=>aA pg (aD .lss 3 aG aG m5 m8) w K) w λm9 w=>
 aA pg (cD m3 m9 (.bool false)) w λn0 w=>
 bQ n0
  (aA pg (aH 162 Z1) w λn2 w=>
  aK pg BZ #[n2] w λn3 w=>
  aA pg (aV n3 0) w λn4 w=>
  aA pg (aV n3 1) w λn5 w=>
  aA pg (bG 106) w λc5 w=>
  aA pg (aM 106 c5 n4) w λ_u w=>
  aA pg (aH 106 c5) w λn6 w=>
  aA pg (aM 106 b4 n6) w λ_u w=>
  vU pg 106 b4 w λr0=>R (.tuple #[r0,(aOk 0),(.slice none 0 0),n5]) w)
  (kn bF b4 bY aP w)
def G5 (kn:K4)(R:K1) bF tN b4 bY aP Z1 j7 w:=
 bQ j7 (G4 R tN b4 w) (P5 kn R bF tN b4 bY aP Z1 w)
def P6 (kn:K7) bF tN b4 bY c0 aP Z1 w:=
 aA pg (aD .eql 3 (.tmp 68) (.const (aOk 1)) c0 (aOk 1)) w λj9 w=>
 kn bF tN b4 bY aP Z1 j9 w
def ER(kn:K4)(R:K1) bF tN b4 bY c0 aP Z1 w:=
 P6 (G5 kn R) bF tN b4 bY c0 aP Z1 w
def ES(R:K1) bF tN b4 bY c0 aP Z1 w:=
 ER (vE R) R bF tN b4 bY c0 aP Z1 w
theorem UE(kn:K4)(R:K1)(hn:N4 Q kn 0 4 9 11)(hr:HR vC R Q)(h:ER kn R (g 0) (g 1) (g 4) (g 9) (g 10) (g 11) (g 14) w):cP pg rX (aQ 1 (aI 1 (aI 1 (aI 5 fI)))) Q g w:=
 qM 2 (bZ 1 (eL (JW (G5 kn R) 0 1 4 9 11 14 67) h (λg w h=>aE (cdD (.tmp 67) (λh=>(bZ 1 (eL (AK (Bt R) 4 5 6 7) h (λg w h=>aE (lT h hr))))) (λh=>(Lk _ h hn hr)) h))))
def Nx(kn:K7) bF tN b4 bY c0 aP w:=
 aK pg Cx #[bF] w λj6 w=>
 aA pg (bG 162) w λZ1 w=>
 aA pg (aM 162 Z1 j6) w λ_u w=>
 kn bF tN b4 bY c0 aP Z1 w
def ET(R:K1) bF tN b4 bY c0 aP w:=
 Nx (ES R) bF tN b4 bY c0 aP w
def EU(kn:Zg) bF tN b4 cK bY c0 aP e6 e7 e8 w:=
 aA pg (aD .add 3 aG aG e8 (aOk 1)) w λj4 w=>
 kn bF tN b4 cK bY c0 aP e6 e7 j4 w
def EV(kn:Zg) bF tN b4 cK bY c0 aP aKy e6 e7 e8 w:=
 aA pg (dD .max #[3,3] 3 [aP,aKy]) w λj3 w=>
 kn bF tN b4 cK bY c0 j3 e6 e7 e8 w
def Ny(kn:K11)(R:K1) bF tN b4 cK bY c0 aP e6 e7 e8 w:=
 aA pg (aO 117 e6 e8) w λf0 w=>
 aA pg (aH 3 f0) w λf1 w=>
 aA pg (aD .lss 3 aG aG f1 (aOk 0)) w λf3 w=>
 Gd (bK f3 false) (λK=>K f1 w) w λf5 w=>
 Gd (bK f3 false) (λK=>K cK w) w λf6 w=>
 Gd (bK f3 false) (λK=>aA pg (aD .gtr 3 aG aG f5 f6) w K) w λf7 w=>
 aA pg (cD f3 (.bool true) f7) w λf8 w=>
 bQ f8
  (aA pg (bH 106 []) w λf9 w=>
  aA pg (aM 106 b4 f9) w λ_u w=>
  vU pg 106 b4 w λr0=>R (.tuple #[r0,(aOk 0),(.slice none 0 0),(aOk 1)]) w)
  (aA pg (aO 160 bY f1) w λi1 w=>
  aA pg (aH 38 i1) w λi2 w=>
  aA pg (aD .add 38 aG aG i2 (.int .u32 1)) w λi3 w=>
  aA pg (aO 160 bY f1) w λi4 w=>
  aA pg (aM 38 i4 i3) w λ_u w=>
  aA pg (aO 160 bY f1) w λi6 w=>
  aA pg (aH 38 i6) w λi7 w=>
  aA pg (aD .eql 38 (.tmp 57) (.const (.int .u32 1)) i7 (.int .u32 1)) w λi8 w=>
  bQ i8
   (aA pg (aD .add 3 aG aG c0 (aOk 1)) w λj0 w=>
   kn bF tN b4 cK bY j0 aP f1 e6 e7 e8 w)
   (kn bF tN b4 cK bY c0 aP f1 e6 e7 e8 w))
def EW(kn:Zg)(R:K1) bF tN b4 cK bY c0 aP e6 e7 e8 w:=
 Ny (EV kn) R bF tN b4 cK bY c0 aP e6 e7 e8 w
def EX(kn:Zg)(R:K1) bF tN b4 cK bY c0 aP e6 e7 e8 w:=
 EW (EU kn) R bF tN b4 cK bY c0 aP e6 e7 e8 w
theorem UF(kn:Zg)(R:K1)(hn:N10 Q kn 0 1 4 8 9 10 11 36 37 38)(hr:HR vC R Q)(h:EW kn R (g 0) (g 1) (g 4) (g 8) (g 9) (g 10) (g 11) (g 36) (g 37) (g 38) w):cP pg rX (aQ 1 (aI 2 (bI (bI (aI 1 (aQ 1 (aI 5 fI))))))) Q g w:=
 qM 1 (bZ 3 (Lk (aKo (EV kn) 0 1 4 8 9 10 11 13 36 37 38) h (λg w h=>aE (eL _ h hn)) hr))
def Nz(kn:Zg)(k0:K6) bF tN b4 cK bY c0 aP e6 e7 e8 w:=
 aA pg (aD .lss 3 aG aG e8 e7) w λe9 w=>
 bQ e9
  (kn bF tN b4 cK bY c0 aP e6 e7 e8 w)
  (k0 bF tN b4 bY c0 aP w)
def EY(kn:Zg)(k0:K6)(R:K1) bF tN b4 cK bY c0 aP e6 e7 e8 w:=
 Nz (EX kn R) k0 bF tN b4 cK bY c0 aP e6 e7 e8 w
def zQ(k0:K6)(R:K1) bF tN b4 cK bY c0 aP e6 e7 e8 w:=
 aX (λ(X:(aOj×aOj×aOj)->K0) (t:aOj×aOj×aOj) (w:aOi)=>EY (λ_ _ _ _ _ c0 aP _ _ e8 w=>X (c0,aP,e8) w) k0 R bF tN b4 cK bY t.1 t.2.1 e6 e7 t.2.2 w) (c0,aP,e8) w
theorem UG(k0:K6)(R:K1)(h0:E6 Q k0 0 0 1 4 9 10 11)(hr:HR vC R Q)(h:zQ k0 R (g 0) (g 1) (g 4) (g 8) (g 9) (g 10) (g 11) (g 36) (g 37) (g 38) w):cP pg rX (bI (aI 1 (aQ 1 (aI 5 fI)))) Q g w:=by
 refine AL (λg:Env=>(g 10,g 11,g 38)) (λX t w=>EY (λ_ _ _ _ _ c0 aP _ _ e8 w=>X (c0,aP,e8) w) k0 R (g 0) (g 1) (g 4) (g 8) (g 9) t.1 t.2.1 (g 36) (g 37) t.2.2 w) h (λX g1 w1 ha hL=> ?_)
 rw[<-cI 0 ha,<-cI 1 ha,<-cI 4 ha,<-cI 8 ha,<-cI 9 ha,<-cI 36 ha,<-cI 37 ha]at hL
 exact(bZ 2 (zK [(0,(TS k0 0 1 4 9 10 11))] (kr:=no) (Xc (EX (λ_ _ _ _ _ c0 aP _ _ e8 w=>X (c0,aP,e8) w) R) 0 1 4 8 9 10 11 36 37 38) hL (λg w h=>aE (bZ 1 (UF _ g w (EU (λ_ _ _ _ _ c0 aP _ _ e8 w=>X (c0,aP,e8) w)) R (λg w h=>aE (eL (Xc (λ_ _ _ _ _ c0 aP _ _ e8 w=>X (c0,aP,e8) w) 0 1 4 8 9 10 11 36 37 38) h cO)) hr h))) DN ⟨h0,trivial⟩))
def NA(kn:Zg) bF tN b4 cK bY c0 aP w:=
 aA pg (dD .len #[117] 3 [tN]) w λe7 w=>
 kn bF tN b4 cK bY c0 aP tN e7 (aOk 0) w
def zR(kn:K6)(R:K1) bF tN b4 cK bY c0 aP w:=
 NA (zQ kn R) bF tN b4 cK bY c0 aP w
def EZ(R:K1) bF tN b4 cK bY c0 aP w:=
 zR (ET R) R bF tN b4 cK bY c0 aP w
theorem UH(kn:K6)(R:K1)(hn:N6 Q kn 0 1 4 9 10 11)(hr:HR vC R Q)(h:zR kn R (g 0) (g 1) (g 4) (g 8) (g 9) (g 10) (g 11) w):cP pg rX (aQ 1 (aI 5 fI)) Q g w:=
 bZ 1 (eL (Xc (zQ kn R) 0 1 4 8 9 10 11 36 37 38) h (λg w h=>aE (qM 0 (UG _ g w kn R hn hr h))))
def NB(kn:K7)(R:K1) bF tN w:=
 aA pg (bG 106) w λb4 w=>
 aK pg yX #[bF] w λd2 w=>
 aA pg (aD .lss 3 aG aG d2 (aOk 0)) w λd4 w=>
 Gd (bK d4 false) (λK=>K tN w) w λd6 w=>
 Gd (bK d4 false) (λK=>aA pg (dD .len #[117] 3 [d6]) w K) w λd7 w=>
 Gd (bK d4 false) (λK=>aA pg (aD .eql 3 (.tmp 27) (.const (aOk 0)) d7 (aOk 0)) w K) w λd8 w=>
 aA pg (cD d4 (.bool true) d8) w λd9 w=>
 Gd (bK d9 false) (λK=>K tN w) w λe1 w=>
 Gd (bK d9 false) (λK=>aA pg (dD .len #[117] 3 [e1]) w K) w λe2 w=>
 Gd (bK d9 false) (λK=>aA pg (aD .gtr 3 aG aG e2 (aOk 131072)) w K) w λe3 w=>
 aA pg (cD d9 (.bool true) e3) w λe4 w=>
 bQ e4
  (aA pg (bH 106 []) w λe5 w=>
  aA pg (aM 106 b4 e5) w λ_u w=>
  vU pg 106 b4 w λr0=>R (.tuple #[r0,(aOk 0),(.slice none 0 0),(aOk 1)]) w)
  (aA pg (bG 160) w λbY w=>
  kn bF tN b4 d2 bY (aOk 0) (aOk 0) w)
def NC(R:K1) bF tN w:=
 NB (EZ R) R bF tN w
def YZ a0 a1 w(R:K1):=
 NC R a0 a1 w
theorem Y0 {a0 a1 w R}(h:YZ a0 a1 w R):aK pg kV #[a0,a1] w R:=
 lB (ann:=rX) Tryz.f70 fI [a0,a1] vC 128 TryzM.mixed Tryz.func70 (bZ 5 (Lk (JW (EZ R) 0 1 4 8 9 10 11) h (λg w h=>aE (bZ 1 (UH _ g w (ET R) R (λg w h=>aE (bZ 1 (eL (JW (ES R) 0 1 4 9 10 11 14) h (λg w h=>aE (bZ 1 (UE _ g w (vE R) R (λg w h=>aE (bZ 1 (eL (TE (Br R) 4 17 18) h (λg w h=>aE (lT h cO))))) cO h)))))) cO h))) cO))
def dT:FA:=⟨tA,λi=>match Nat.beq i 15 with|true=> .leaf ([7],[]) (fz 7 (ft [] (fz 9 [])))|false=>match Nat.beq i 31 with|true=> .leaf ([9],[]) (fz 9 (ft [] []))|false=> .leaf ([],[]) []⟩
def jL:List ResultVar:=[.tmp 6,.tmp 7]
noncomputable def dN:Code:=aY Tryz.f71
def An(R:K1) DQ w:=
 aK pg kS #[DQ] w λs7 w=>
 R (.tuple #[s7,(aOk 0)]) w
def Ao(kn:K5)(k6:K1) b5 DQ bL q1 q2 w:=
 aA pg (aD .lss 3 aG aG q2 (aOk 3)) w λq3 w=>
 bQ q3
  (aA pg (HX 172 q1 q2) w λq4 w=>
  (dr w)=(dr w)/\
  (dr w)=(dr w)/\
  aA pg (aO 172 bL q4) (dr w) λq7 w_=>w_=(dr w)/\
  aA pg (aH 3 q7) (dr w) λq8 w_=>w_=(dr w)/\
  aA pg (cH 3 32 q8) (dr w) λq9 w_=>w_=(dr w)/\
  (dr w)=(dr w)/\
  aA pg (aO 108 b5 q4) (dr w) λs1 w_=>w_=(dr w)/\
  aA pg (aJ 106 s1 0) (dr w) λs2 w_=>w_=(dr w)/\
  aA pg (aH 3 s2) (dr w) λs3 w_=>w_=(dr w)/\
  aK pg bX #[DQ,q9,s3] (dr w) λs4 aJ4=>
  aA pg (aD .add 3 aG aG q2 (aOk 1)) aJ4 λs5 w=>
  kn b5 DQ bL q1 s5 w)
  (k6 DQ w)
def jM(k6:K1) b5 DQ bL q1 q2 w:=
 aX (λ(X:aOj->K0) (t:aOj) (w:aOi)=>Ao (λ_ _ _ _ q2 w=>X q2 w) k6 b5 DQ bL q1 t w) q2 w
theorem O4 (k6:K1)(h6:E1 Q k6 6 8)(h:jM k6 (g 5) (g 8) (g 9) (g 121) (g 122) w):cP pg dT (bI (aI 1 (aQ 1 (aI 1 (aI 3 dN))))) Q g w:=by
 refine AL (λg:Env=>g 122) (λX t w=>Ao (λ_ _ _ _ q2 w=>X q2 w) k6 (g 5) (g 8) (g 9) (g 121) t w) h (λX g1 w1 ha hL=> ?_)
 rw[<-cI 5 ha,<-cI 8 ha,<-cI 9 ha,<-cI 121 ha]at hL
 exact(zK [(6,(TR k6 8))] (kr:=no) (NQ (λ_ _ _ _ q2 w=>X q2 w) 5 8 9 121 122) hL cO DN ⟨h6,trivial⟩)
def Hn(kn:K5) b5 DQ bL w:=
 aA pg (bH 172 [(0,(aOk 2)),(1,(aOk 1)),(2,(aOk 0))]) w λq1 w=>
 kn b5 DQ bL q1 (aOk 0) w
def Ap(kn:K1) b5 DQ bL w:=
 Hn (jM kn) b5 DQ bL w
def Aq(R:K1) b5 DQ bL w:=
 Ap (An R) b5 DQ bL w
theorem O5 (kn:K1)(hn:N1 Q kn 8)(h:Ap kn (g 5) (g 8) (g 9) w):cP pg dT (aQ 1 (aI 1 (aI 3 dN))) Q g w:=
 bZ 1 (eL (NQ (jM kn) 5 8 9 121 122) h (λg w h=>aE (qM 6 (O4 _ g w kn hn h))))
def Ar(kn:K6) dB dU b5 DQ bL mH w:=
 aA pg (aD .sub 3 aG aG mH (aOk 1)) w λe5 w=>
 kn dB dU b5 DQ bL e5 w
def As(kn:K9)(k4:K6) dB dU b5 DQ bL mH azQ n5 n6 w:=
 aA pg (aD .lss 3 aG aG n6 (aOk 3)) w λn7 w=>
 bQ n7
  (aA pg (HX 172 n5 n6) w λn8 w=>
  aA pg (aO 131 dU n8) w λo2 w=>
  aA pg (aH 117 o2) w λo3 w=>
  aA pg (aO 117 o3 mH) w λo5 w=>
  aA pg (aH 3 o5) w λo6 w=>
  aK pg HG #[n8,o6] w λo7 w=>
  aA pg (aV o7 0) w λo8 w=>
  aA pg (aV o7 1) w λo9 w=>
  aA pg (aV o7 2) w λp0 w=>
  aA pg (aO 44 azQ n8) w λp3 w=>
  aA pg (aH 38 p3) w λp4 w=>
  aA pg (aD .sub 38 aG aG p4 o8) w λp6 w=>
  aA pg (cH 38 32 p6) w λp7 w=>
  aK pg bX #[DQ,p7,o9] w λp9 w=>
  aA pg (aD .add 3 aG aG n6 (aOk 1)) w λq0 w=>
  kn dB dU b5 DQ bL mH azQ n5 q0 w)
  (k4 dB dU b5 DQ bL mH w)
def iT(k4:K6) dB dU b5 DQ bL mH azQ n5 n6 w:=
 aX (λ(X:aOj->K0) (t:aOj) (w:aOi)=>As (λ_ _ _ _ _ _ _ _ n6 w=>X n6 w) k4 dB dU b5 DQ bL mH azQ n5 t w) n6 w
theorem Nn(k4:K6)(h4:E6 Q k4 4 0 4 5 8 9 10)(h:iT k4 (g 0) (g 4) (g 5) (g 8) (g 9) (g 10) (g 20) (g 95) (g 96) w):cP pg dT (bI (aI 2 (aI 1 (bI (aQ 1 (aI 1 (bI (bI (aI 1 (aQ 1 (aI 3 dN))))))))))) Q g w:=by
 refine AL (λg:Env=>g 96) (λX t w=>As (λ_ _ _ _ _ _ _ _ n6 w=>X n6 w) k4 (g 0) (g 4) (g 5) (g 8) (g 9) (g 10) (g 20) (g 95) t w) h (λX g1 w1 ha hL=> ?_)
 rw[<-cI 0 ha,<-cI 4 ha,<-cI 5 ha,<-cI 8 ha,<-cI 9 ha,<-cI 10 ha,<-cI 20 ha,<-cI 95 ha]at hL
 exact(zK [(4,(TS k4 0 4 5 8 9 10))] (kr:=no) (Mq9 (λ_ _ _ _ _ _ _ _ n6 w=>X n6 w) 0 4 5 8 9 10 20 95 96) hL cO DN ⟨h4,trivial⟩)
def Gp(kn:K9) dB dU b5 DQ bL mH w:=
 aA pg (aO 80 dB mH) w λn2 w=>
 aA pg (aH 84 n2) w λn3 w=>
 aK pg mY #[n3] w λn4 w=>
 aA pg (bG 44) w λazQ w=>
 aA pg (aM 44 azQ n4) w λ_u w=>
 aA pg (bH 172 [(0,(aOk 0)),(1,(aOk 2)),(2,(aOk 1))]) w λn5 w=>
 kn dB dU b5 DQ bL mH azQ n5 (aOk 0) w
def yO(kn:K6) dB dU b5 DQ bL mH w:=
 Gp (iT kn) dB dU b5 DQ bL mH w
def qD(kn:K8) dB dU b5 DQ bL mH e6 e7 w:=
 aA pg (aD .add 3 aG aG e7 (aOk 1)) w λm9 w=>
 kn dB dU b5 DQ bL mH e6 m9 w
def Gq(kn:K8)(k2:K6)(R:K1) dB dU b5 DQ bL mH e6 e7 w:=
 aA pg (aD .lss 3 aG aG e7 (aOk 3)) w λe8 w=>
 bQ e8
  (aA pg (HX 172 e6 e7) w λe9 w=>
  aA pg (aO 131 dU e9) w λf1 w=>
  aA pg (aH 117 f1) w λf2 w=>
  aA pg (aO 117 f2 mH) w λf4 w=>
  aA pg (aH 3 f4) w λf5 w=>
  aA pg (cH 3 5 f5) w λf6 w=>
  aA pg (dD .len #[80] 3 [dB]) w λf9 w=>
  aA pg (aD .sub 3 aG aG f9 (aOk 1)) w λi0 w=>
  aA pg (aD .eql 3 (.tmp 47) (.tmp 50) mH i0) w λi1 w=>
  bQ i1
   (aA pg (aO 108 b5 e9) w λi4 w=>
   aA pg (aH 106 i4) w λi5 w=>
   aK pg Kc #[i5,f6] w λi7 w=>
   aA pg (aV i7 0) w λi8 w=>
   aA pg (aV i7 1) w λi9 w=>
   aA pg (aD .neq 24 (.tmp 60) (.const (aOk 0)) i9 (aOk 0)) w λj1 w=>
   bQ j1
    (R (.tuple #[(.slice none 0 0),i9]) w)
    (aA pg (aO 172 bL e9) w λj5 w=>
    aA pg (aM 3 j5 i8) w λ_u w=>
    kn dB dU b5 DQ bL mH e6 e7 w))
   ((dr w)=(dr w)/\
   aA pg (aO 108 b5 e9) (dr w) λj8 w_=>w_=(dr w)/\
   aA pg (aH 106 j8) (dr w) λj9 w_=>w_=(dr w)/\
   (dr w)=(dr w)/\
   aA pg (aO 172 bL e9) (dr w) λl1 w_=>w_=(dr w)/\
   aA pg (aH 3 l1) (dr w) λl2 w_=>w_=(dr w)/\
   (dr w)=(dr w)/\
   aK pg HJ #[j9,l2,f6] (dr w) λl4 Dr=>
   Dr=Dr/\
   aA pg (aV l4 0) Dr λl5 w_=>w_=Dr/\
   aA pg (aV l4 1) Dr λl6 w_=>w_=Dr/\
   aA pg (aV l4 2) Dr λl7 w_=>w_=Dr/\
   aA pg (aV l4 3) Dr λl8 w_=>w_=Dr/\
   Dr=Dr/\
   Dr=Dr/\
   Dr=Dr/\
   Dr=Dr/\
   aA pg (aD .neq 24 (.tmp 79) (.const (aOk 0)) l8 (aOk 0)) Dr λm0 w=>
   bQ m0
    (R (.tuple #[(.slice none 0 0),l8]) w)
    (aK pg bX #[DQ,l6,l7] w λm5 w=>
    aA pg (aO 172 bL e9) w λm8 w=>
    aA pg (aM 3 m8 l5) w λ_u w=>
    kn dB dU b5 DQ bL mH e6 e7 w)))
  (k2 dB dU b5 DQ bL mH w)
def yP(kn:K8)(k2:K6)(R:K1) dB dU b5 DQ bL mH e6 e7 w:=
 Gq (qD kn) k2 R dB dU b5 DQ bL mH e6 e7 w
def iU(k2:K6)(R:K1) dB dU b5 DQ bL mH e6 e7 w:=
 aX (λ(X:aOj->K0) (t:aOj) (w:aOi)=>yP (λ_ _ _ _ _ _ _ e7 w=>X e7 w) k2 R dB dU b5 DQ bL mH e6 t w) e7 w
theorem No(k2:K6)(R:K1)(h2:E6 Q k2 2 0 4 5 8 9 10)(hr:HR jL R Q)(h:iU k2 R (g 0) (g 4) (g 5) (g 8) (g 9) (g 10) (g 36) (g 37) w):cP pg dT (bI (aI 1 (aQ 1 (bI (aQ 1 (aI 1 (bI (bI (aI 1 (aQ 1 (aI 3 dN))))))))))) Q g w:=by
 refine AL (λg:Env=>g 37) (λX t w=>yP (λ_ _ _ _ _ _ _ e7 w=>X e7 w) k2 R (g 0) (g 4) (g 5) (g 8) (g 9) (g 10) (g 36) t w) h (λX g1 w1 ha hL=> ?_)
 rw[<-cI 0 ha,<-cI 4 ha,<-cI 5 ha,<-cI 8 ha,<-cI 9 ha,<-cI 10 ha,<-cI 36 ha]at hL
 exact(bZ 3 (zK [(2,(TS k2 0 4 5 8 9 10))] (Mq8 (qD (λ_ _ _ _ _ _ _ e7 w=>X e7 w)) 0 4 5 8 9 10 36 37) hL (λg w h=>aE (eL (Mq8 (λ_ _ _ _ _ _ _ e7 w=>X e7 w) 0 4 5 8 9 10 36 37) h cO)) hr ⟨h2,trivial⟩))
def Gr(kn:K8) dB dU b5 DQ bL mH w:=
 aA pg (bH 172 [(0,(aOk 1)),(1,(aOk 2)),(2,(aOk 0))]) w λe6 w=>
 kn dB dU b5 DQ bL mH e6 (aOk 0) w
def yQ(kn:K6)(R:K1) dB dU b5 DQ bL mH w:=
 Gr (iU kn R) dB dU b5 DQ bL mH w
def yR(kn:K6)(R:K1) dB dU b5 DQ bL mH w:=
 yQ (yO kn) R dB dU b5 DQ bL mH w
theorem Np(kn:K6)(R:K1)(hn:N6 Q kn 0 4 5 8 9 10)(hr:HR jL R Q)(h:yQ kn R (g 0) (g 4) (g 5) (g 8) (g 9) (g 10) w):cP pg dT (aQ 1 (bI (aQ 1 (aI 1 (bI (bI (aI 1 (aQ 1 (aI 3 dN))))))))) Q g w:=
 bZ 1 (eL (Mq8 (iU kn R) 0 4 5 8 9 10 36 37) h (λg w h=>aE (qM 2 (No _ g w kn R hn hr h))))
def yS(kn:K6)(R:K1) dB dU b5 DQ bL mH w:=
 yR (Ar kn) R dB dU b5 DQ bL mH w
theorem Nq(kn:K6)(R:K1)(hn:N6 Q kn 0 4 5 8 9 10)(hr:HR jL R Q)(h:yR kn R (g 0) (g 4) (g 5) (g 8) (g 9) (g 10) w):cP pg dT (aQ 1 (aI 1 (bI (bI (aI 1 (aQ 1 (aI 3 dN))))))) Q g w:=
 qM 1 (bZ 1 (Np _ g w (yO kn) R (λg w h=>aE (bZ 2 (eL (Mq9 (iT kn) 0 4 5 8 9 10 20 95 96) h (λg w h=>aE (qM 4 (Nn _ g w kn hn h)))))) hr h))
def Gt(kn:K6)(k0:K3) dB dU b5 DQ bL mH w:=
 aA pg (aD .geq 3 aG aG mH (aOk 0)) w λe3 w=>
 bQ e3
  (kn dB dU b5 DQ bL mH w)
  (k0 b5 DQ bL w)
def yT(kn:K6)(k0:K3)(R:K1) dB dU b5 DQ bL mH w:=
 Gt (yS kn R) k0 dB dU b5 DQ bL mH w
def qE(k0:K3)(R:K1) dB dU b5 DQ bL mH w:=
 aX (λ(X:aOj->K0) (t:aOj) (w:aOi)=>yT (λ_ _ _ _ _ mH w=>X mH w) k0 R dB dU b5 DQ bL t w) mH w
theorem Nr(k0:K3)(R:K1)(h0:E3 Q k0 0 5 8 9)(hr:HR jL R Q)(h:qE k0 R (g 0) (g 4) (g 5) (g 8) (g 9) (g 10) w):cP pg dT (bI (aI 1 (aQ 1 (aI 3 dN)))) Q g w:=by
 refine AL (λg:Env=>g 10) (λX t w=>yT (λ_ _ _ _ _ mH w=>X mH w) k0 R (g 0) (g 4) (g 5) (g 8) (g 9) t w) h (λX g1 w1 ha hL=> ?_)
 rw[<-cI 0 ha,<-cI 4 ha,<-cI 5 ha,<-cI 8 ha,<-cI 9 ha]at hL
 exact(bZ 1 (zK [(0,(TE k0 5 8 9))] (kr:=no) (TS (yS (λ_ _ _ _ _ mH w=>X mH w) R) 0 4 5 8 9 10) hL (λg w h=>aE (bZ 1 (Nq _ g w (Ar (λ_ _ _ _ _ mH w=>X mH w)) R (λg w h=>aE (eL (TS (λ_ _ _ _ _ mH w=>X mH w) 0 4 5 8 9 10) h cO)) hr h))) DN ⟨h0,trivial⟩))
def Gu(kn:K6) dB dU b5 DQ bL w:=
 aA pg (dD .len #[80] 3 [dB]) w λe0 w=>
 aA pg (aD .sub 3 aG aG e0 (aOk 1)) w λe1 w=>
 kn dB dU b5 DQ bL e1 w
def yU(kn:K3)(R:K1) dB dU b5 DQ bL w:=
 Gu (qE kn R) dB dU b5 DQ bL w
def yV(R:K1) dB dU b5 DQ bL w:=
 yU (Aq R) R dB dU b5 DQ bL w
theorem Ns(kn:K3)(R:K1)(hn:N3 Q kn 5 8 9)(hr:HR jL R Q)(h:yU kn R (g 0) (g 4) (g 5) (g 8) (g 9) w):cP pg dT (aQ 1 (aI 3 dN)) Q g w:=
 bZ 1 (eL (TS (qE kn R) 0 4 5 8 9 10) h (λg w h=>aE (qM 0 (Nr _ g w kn R hn hr h))))
def Gv(kn:K5) dB axI b2 w:=
 aA pg (A0 131 axI) w λdU w=>
 aA pg (A0 108 b2) w λb5 w=>
 aK pg kI #[] w λd8 w=>
 aA pg (bG 172) w λbL w=>
 kn dB dU b5 d8 bL w
def Gw(R:K1) dB axI b2 w:=
 Gv (yV R) dB axI b2 w
def Nm a0 a1 a2 w(R:K1):=
 Gw R a0 a1 a2 w
theorem QV{a0 a1 a2 w R}(h:Nm a0 a1 a2 w R):aK pg tA #[a0,a1,a2] w R:=
 lB (ann:=dT) Tryz.f71 dN [a0,a1,a2] jL 138 TryzM.mixed Tryz.func71 (bZ 3 (eL (NQ (yV R) 0 4 5 8 9) h (λg w h=>aE (bZ 1 (Ns _ g w (Aq R) R (λg w h=>aE (bZ 1 (O5 _ g w (An R) (λg w h=>aE (lT h cO)) h))) cO h)))))
def Mg:FA:=⟨fD,λi=> .leaf ([],[]) []⟩
def OX:List ResultVar:=[]
noncomputable def KU:Code:=aY Tryz.f72
def CK(kn:K0) DP DR w:=
 aA pg (aD .neq 60 (.tmp 4) (.const (.pointer none)) DP (.pointer none)) w λb5 w=>
 bQ b5
  (aA pg (dQ DP) w λb8 w=>
  aA pg (aJ 77 b8 0) w λb9 w=>
  aA pg (aH 22 b9) w λc0 w=>
  aA pg (dD .append #[22,22] 22 [c0,DR]) w λc2 w=>
  aA pg (dQ DP) w λc3 w=>
  aA pg (aJ 77 c3 0) w λc4 w=>
  aA pg (aM 22 c4 c2) w λ_u w=>
  kn w)
  (kn w)
def Hb a0 a1 w(R:K1):=
 CK (λw=>R (.tuple #[]) w) a0 a1 w
theorem Lb{a0 a1 w R}(h:Hb a0 a1 w R):aK pg fD #[a0,a1] w R:=
 lB (ann:=Mg) Tryz.f72 KU [a0,a1] OX 15 TryzM.mixed Tryz.func72 (eL (Mq0 (λw=>R (.tuple #[]) w)) h cO)
def Re:FA:=⟨tC,λi=> .leaf ([],[]) []⟩
def UD:List ResultVar:=[.tmp 4]
noncomputable def Qt:Code:=aY Tryz.f73
def Av(R:K1) lU w:=
 R lU w
def Hp(kn:K1) lU KE w:=
 aA pg (dD .cap #[22] 3 [lU]) w λc0 w=>
 aA pg (dD .len #[22] 3 [lU]) w λc2 w=>
 aA pg (aD .sub 3 aG aG c0 c2) w λc3 w=>
 aA pg (aD .sub 3 aG aG KE c3) w λc4 w=>
 aA pg (aD .gtr 3 aG aG c4 (aOk 0)) w λc6 w=>
 bQ c6
  (aA pg (dD .cap #[22] 3 [lU]) w λc9 w=>
  aA pg (bP 22 lU none (some c9) none) w λd0 w=>
  aA pg (dD .append #[22,3] 22 [d0,c4]) w λd2 w=>
  aA pg (dD .len #[22] 3 [lU]) w λd4 w=>
  aA pg (bP 22 d2 none (some d4) none) w λd5 w=>
  kn d5 w)
  (kn lU w)
def Aw(R:K1) lU KE w:=
 Hp (Av R) lU KE w
def Hq(kn:K2) lU KE w:=
 aA pg (aD .lss 3 aG aG KE (aOk 0)) w λb6 w=>
 bQ b6
  (aA pg (WM 9 (.string ⟨#[99,97,110,110,111,116,32,98,101,32,110,101,103,97,116,105,118,101]⟩)) w λb7 w=>
  aA pg (V (Instr.panic b7)) w λ_u w=>
  kn lU KE w)
  (kn lU KE w)
def Hr(R:K1) lU KE w:=
 Hq (Aw R) lU KE w
def Nv a0 a1 w(R:K1):=
 Hr R a0 a1 w
theorem QX{a0 a1 w R}(h:Nv a0 a1 w R):aK pg tC #[a0,a1] w R:=
 lB (ann:=Re) Tryz.f73 Qt [a0,a1] UD 27 TryzM.mixed Tryz.func73 (bZ 2 (eL (Kf (Aw R) 0 1) h (λg w h=>aE (bZ 1 (eL (TR (Av R) 0) h (λg w h=>aE (lT h cO)))))))
def Zp:FA:=⟨Co,λi=> .leaf ([],[]) []⟩
def afA:List ResultVar:=[.tmp 2]
noncomputable def Xu:Code:=aY Tryz.f74
def PD(R:K1) DP w:=
 aA pg (aD .shr 32 aG aG DP (.int .u64 3)) w λb5 w=>
 aA pg (aD .add 32 aG aG (.int .u64 10) b5) w λb6 w=>
 aA pg (aD .shl 32 aG aG (.int .u64 1) b6) w λb7 w=>
 aA pg (aD .quo 32 aG aG b7 (.int .u64 8)) w λc0 w=>
 aA pg (aD .and 32 aG aG DP (.int .u64 7)) w λc2 w=>
 aA pg (aD .mul 32 aG aG c0 c2) w λc3 w=>
 aA pg (aD .add 32 aG aG b7 c3) w λc4 w=>
 R c4 w
def XR a0 w(R:K1):=
 PD R a0 w
theorem XS{a0 w R}(h:XR a0 w R):aK pg Co #[a0] w R:=
 lB (ann:=Zp) Tryz.f74 Xu [a0] afA 15 TryzM.mixed Tryz.func74 (lT h cO)
def NY:FA:=⟨iC,λi=> .leaf ([],[]) []⟩
def QM:List ResultVar:=[.tmp 4,.tmp 5]
noncomputable def Mv:Code:=aY Tryz.f75
def DZ(R:K1) lU KE w:=
 aA pg (dQ lU) w λb8 w=>
 aA pg (aJ 56 b8 0) w λb9 w=>
 aA pg (aH 54 b9) w λc0 w=>
 aK pg eT #[c0] w λc1 w=>
 aA pg (aD .gtr 3 aG aG KE c1) w λc2 w=>
 bQ c2
  (R (.tuple #[(.slice none 0 0),(aOk 10)]) w)
  (aA pg (dQ lU) w λc4 w=>
  aA pg (aJ 56 c4 0) w λc5 w=>
  aA pg (aH 54 c5) w λc6 w=>
  aK pg gI #[c6,KE] w λc8 w=>
  R (.tuple #[c8,(aOk 0)]) w)
def Iw a0 a1 w(R:K1):=
 DZ R a0 a1 w
theorem MH{a0 a1 w R}(h:Iw a0 a1 w R):aK pg iC #[a0,a1] w R:=
 lB (ann:=NY) Tryz.f75 Mv [a0,a1] QM 19 TryzM.mixed Tryz.func75 (lT h cO)
def TY:FA:=⟨wR,λi=> .leaf ([],[]) []⟩
def WD:List ResultVar:=[.cell 2 65,.tmp 3]
noncomputable def Rn:Code:=aY Tryz.f76
def IE(R:K1) jC w:=
 aA pg (bG 65) w λb2 w=>
 aK pg fL #[jC] w λb7 w=>
 aK pg cC #[b7,(aOk 3)] w λb9 w=>
 aA pg (cH 32 3 b9) w λc0 w=>
 aK pg cU #[b7] w λc3 w=>
 aA pg (aD .neq 24 (.tmp 13) (.const (aOk 0)) c3 (aOk 0)) w λc4 w=>
 bQ c4
  (aA pg (bH 65 []) w λc5 w=>
  aK pg cU #[b7] w λc7 w=>
  aA pg (aM 65 b2 c5) w λ_u w=>
  vU pg 65 b2 w λr0=>R (.tuple #[r0,c7]) w)
  (aA pg (aD .shr 3 aG aG c0 (.int .u64 1)) w λd0 w=>
  aA pg (aD .and 3 aG aG d0 (aOk 3)) w λd1 w=>
  aA pg (aD .gtr 3 aG aG d1 (aOk 2)) w λd2 w=>
  bQ d2
   (aA pg (bH 65 []) w λd3 w=>
   aA pg (aM 65 b2 d3) w λ_u w=>
   vU pg 65 b2 w λr0=>R (.tuple #[r0,(aOk 11)]) w)
   (aA pg (aD .and 3 aG aG c0 (aOk 1)) w λd5 w=>
   aA pg (aD .eql 3 (.tmp 25) (.const (aOk 1)) d5 (aOk 1)) w λd6 w=>
   aA pg (aD .shr 3 aG aG c0 (.int .u64 1)) w λd8 w=>
   aA pg (aD .and 3 aG aG d8 (aOk 3)) w λd9 w=>
   aA pg (aD .shr 3 aG aG c0 (.int .u64 3)) w λe1 w=>
   aA pg (bH 65 [(0,d6),(1,d9),(2,e1)]) w λe2 w=>
   aA pg (aM 65 b2 e2) w λ_u w=>
   vU pg 65 b2 w λr0=>R (.tuple #[r0,(aOk 0)]) w))
def PC a0 w(R:K1):=
 IE R a0 w
theorem RQ{a0 w R}(h:PC a0 w R):aK pg wR #[a0] w R:=
 lB (ann:=TY) Tryz.f76 Rn [a0] WD 33 TryzM.mixed Tryz.func76 (lT h cO)
def tE:FA:=⟨pI,λi=>match Nat.beq i 9 with|true=> .leaf ([7],[]) (fz 7 (ft [] (fz 2 [])))|false=> .leaf ([],[]) []⟩
def QQ:List ResultVar:=[.tmp 4]
noncomputable def sC:Code:=aY Tryz.f77
def wL(R:K1) nK w:=
 R nK w
def wM(kn:K2)(k0:K1) nK n_8 w:=
 aA pg (dD .len #[22] 3 [nK]) w λe6 w=>
 aA pg (aD .lss 3 aG aG n_8 e6) w λe7 w=>
 bQ e7
  ((dr w)=(dr w)/\
  (dr w)=(dr w)/\
  (dr w)=(dr w)/\
  aA pg (bP 22 nK (some n_8) none none) (dr w) λf1 w_=>w_=(dr w)/\
  (dr w)=(dr w)/\
  (dr w)=(dr w)/\
  aA pg (bP 22 nK none (some n_8) none) (dr w) λf4 w_=>w_=(dr w)/\
  aA pg (dD .copy #[22,22] 3 [f1,f4]) (dr w) λf5 aFb=>
  aA pg (aD .add 3 aG aG n_8 f5) aFb λf6 w_=>w_=aFb/\
  aFb=aFb/\
  kn nK f6 aFb)
  (k0 nK w)
def oA(k0:K1) nK n_8 w:=
 aX (λ(X:aOj->K0) (t:aOj) (w:aOi)=>wM (λ_ n_8 w=>X n_8 w) k0 nK t w) n_8 w
theorem LY(k0:K1)(h0:E1 Q k0 0 7)(h:oA k0 (g 7) (g 8) w):cP pg tE (bI (aQ 1 (aI 2 (aI 2 (aI 2 sC))))) Q g w:=by
 refine AL (λg:Env=>g 8) (λX t w=>wM (λ_ n_8 w=>X n_8 w) k0 (g 7) t w) h (λX g1 w1 ha hL=> ?_)
 rw[<-cI 7 ha]at hL
 exact(zK [(0,(TR k0 7))] (kr:=no) (Kf (λ_ n_8 w=>X n_8 w) 7 8) hL cO DN ⟨h0,trivial⟩)
def oC(R:K1) nK n_8 w:=
 oA (wL R) nK n_8 w
theorem LZ(kn:K1)(hn:N1 Q kn 7)(h:oA kn (g 7) (g 8) w):cP pg tE (aQ 1 (aI 2 (aI 2 (aI 2 sC)))) Q g w:=
 qM 0 (LY _ g w kn hn h)
def Eg(kn:K2) fU aIb w:=
 aA pg (cH 50 3 aIb) w λd9 w=>
 aA pg (iS 22 d9 d9) w λe0 w=>
 aA pg (dD .copy #[22,22] 3 [e0,fU]) w λe3 w=>
 kn e0 e3 w
def wN(R:K1) fU aIb w:=
 Eg (oC R) fU aIb w
def Eh(kn:K2) fU HN w:=
 aA pg (dD .len #[22] 3 [fU]) w λc4 w=>
 aA pg (cH 3 50 c4) w λc5 w=>
 aA pg (cH 3 50 HN) w λc7 w=>
 aK pg Bc #[c5,c7] w λc8 w=>
 aA pg (aV c8 0) w λc9 w=>
 aA pg (aV c8 1) w λd0 w=>
 aA pg (aD .gtr 50 aG aG c9 (.int .u64 0)) w λd2 w=>
 Gd (bK d2 false) (λK=>K d0 w) w λd4 w=>
 Gd (bK d2 false) (λK=>aA pg (aD .gtr 50 aG aG d4 (.int .u64 9223372036854775807)) w K) w λd5 w=>
 aA pg (cD d2 (.bool true) d5) w λd6 w=>
 bQ d6
  (aA pg (WM 9 (.string ⟨#[116,104,101,32,114,101,115,117,108,116,32,111,102,32,40,108,101,110,40,120,41,32,42,32,99,111,117,110,116,41,32,111,118,101,114,102,108,111,119,115]⟩)) w λd7 w=>
  aA pg (V (Instr.panic d7)) w λ_u w=>
  kn fU d0 w)
  (kn fU d0 w)
def wO(R:K1) fU HN w:=
 Eh (wN R) fU HN w
def Dm(kn:K2) fU HN w:=
 aA pg (aD .lss 3 aG aG HN (aOk 0)) w λc0 w=>
 bQ c0
  (aA pg (WM 9 (.string ⟨#[99,97,110,110,111,116,32,98,101,32,110,101,103,97,116,105,118,101]⟩)) w λc1 w=>
  aA pg (V (Instr.panic c1)) w λ_u w=>
  kn fU HN w)
  (kn fU HN w)
def Dn(R:K1) fU HN w:=
 Dm (wO R) fU HN w
def JB a0 a1 w(R:K1):=
 Dn R a0 a1 w
theorem Nw{a0 a1 w R}(h:JB a0 a1 w R):aK pg pI #[a0,a1] w R:=
 lB (ann:=tE) Tryz.f77 sC [a0,a1] QQ 48 TryzM.mixed Tryz.func77 (bZ 2 (eL (Kf (wO R) 0 1) h (λg w h=>aE (bZ 2 (eL (Kf (wN R) 0 6) h (λg w h=>aE (bZ 2 (eL (Kf (oC R) 7 8) h (λg w h=>aE (bZ 1 (LZ _ g w (wL R) (λg w h=>aE (lT h cO)) h)))))))))))
def Oa:FA:=⟨kU,λi=> .leaf ([],[]) []⟩
def QO:List ResultVar:=[.cell 4 146,.tmp 5]
noncomputable def Mx:Code:=aY Tryz.f79
def D9 (R:K1) BC mC w:=
 aA pg (bG 146) w λb4 w=>
 aA pg (aD .add 3 aG aG mC (aOk 4)) w λb7 w=>
 aA pg (dQ BC) w λb9 w=>
 aA pg (aJ 119 b9 0) w λc0 w=>
 aA pg (aH 22 c0) w λc1 w=>
 aA pg (dD .len #[22] 3 [c1]) w λc2 w=>
 aA pg (aD .gtr 3 aG aG b7 c2) w λc3 w=>
 bQ c3
  (aA pg (bH 146 []) w λc4 w=>
  aA pg (aM 146 b4 c4) w λ_u w=>
  vU pg 146 b4 w λr0=>R (.tuple #[r0,(.bool false)]) w)
  (aA pg (dQ BC) w λc6 w=>
  aA pg (aJ 119 c6 0) w λc7 w=>
  aA pg (aH 22 c7) w λc8 w=>
  aA pg (aD .add 3 aG aG mC (aOk 4)) w λd1 w=>
  aA pg (bP 22 c8 (some mC) (some d1) none) w λd2 w=>
  aA pg (aGJ 146 d2) w λd3 w=>
  aA pg (aH 146 d3) w λd4 w=>
  aA pg (aM 146 b4 d4) w λ_u w=>
  vU pg 146 b4 w λr0=>R (.tuple #[r0,(.bool true)]) w)
def Ja a0 a1 w(R:K1):=
 D9 R a0 a1 w
theorem M0 {a0 a1 w R}(h:Ja a0 a1 w R):aK pg kU #[a0,a1] w R:=
 lB (ann:=Oa) Tryz.f79 Mx [a0,a1] QO 25 TryzM.mixed Tryz.func79 (lT h cO)
def vW:FA:=⟨rD,λi=>match Nat.beq i 2 with|true=> .leaf ([],[]) (fz 33 [])|false=> .leaf ([],[]) []⟩
def SX:List ResultVar:=[.tmp 6]
noncomputable def tI:Code:=aY Tryz.f80
def yK(R:K1) n_7 w:=
 R n_7 w
def iQ(kn:K4)(k0:K1) BC Vy agH n_7 w:=
 (dr w)=(dr w)/\
 (dr w)=(dr w)/\
 aA pg (aD .add 3 aG aG agH n_7) (dr w) λc0 w_=>w_=(dr w)/\
 (dr w)=(dr w)/\
 aA pg (dQ BC) (dr w) λc2 w_=>w_=(dr w)/\
 aA pg (aJ 119 c2 1) (dr w) λc3 w_=>w_=(dr w)/\
 aA pg (aH 3 c3) (dr w) λc4 w_=>w_=(dr w)/\
 aA pg (aD .lss 3 aG aG c0 c4) (dr w) λc5 w_=>w_=(dr w)/\
 (dr w)=(dr w)/\
 Gd (bK c5 true) (λK=>K n_7 (dr w)) (dr w) λc7 w_=>w_=(dr w)/\
 Gd (bK c5 true) (λK=>aA pg (aD .lss 3 aG aG c7 (aOk 131074)) (dr w) K) (dr w) λc8 w_=>w_=(dr w)/\
 aA pg (cD c5 c8 (.bool false)) (dr w) λc9 w_=>w_=(dr w)/\
 (dr w)=(dr w)/\
 Gd (bK c9 true) (λK=>K BC (dr w)) (dr w) λd1 w_=>w_=(dr w)/\
 Gd (bK c9 true) (λK=>aA pg (dQ d1) (dr w) K) (dr w) λd2 w_=>w_=(dr w)/\
 Gd (bK c9 true) (λK=>aA pg (aJ 119 d2 0) (dr w) K) (dr w) λd3 w_=>w_=(dr w)/\
 Gd (bK c9 true) (λK=>aA pg (aH 22 d3) (dr w) K) (dr w) λd4 w_=>w_=(dr w)/\
 Gd (bK c9 true) (λK=>K Vy (dr w)) (dr w) λd5 w_=>w_=(dr w)/\
 Gd (bK c9 true) (λK=>K n_7 (dr w)) (dr w) λd6 w_=>w_=(dr w)/\
 Gd (bK c9 true) (λK=>aA pg (aD .add 3 aG aG d5 d6) (dr w) K) (dr w) λd7 w_=>w_=(dr w)/\
 Gd (bK c9 true) (λK=>aA pg (aO 22 d4 d7) (dr w) K) (dr w) λd8 w_=>w_=(dr w)/\
 Gd (bK c9 true) (λK=>aA pg (aH 5 d8) (dr w) K) (dr w) λd9 w_=>w_=(dr w)/\
 Gd (bK c9 true) (λK=>K BC (dr w)) (dr w) λe0 w_=>w_=(dr w)/\
 Gd (bK c9 true) (λK=>aA pg (dQ e0) (dr w) K) (dr w) λe1 w_=>w_=(dr w)/\
 Gd (bK c9 true) (λK=>aA pg (aJ 119 e1 0) (dr w) K) (dr w) λe2 w_=>w_=(dr w)/\
 Gd (bK c9 true) (λK=>aA pg (aH 22 e2) (dr w) K) (dr w) λe3 w_=>w_=(dr w)/\
 Gd (bK c9 true) (λK=>K agH (dr w)) (dr w) λe4 w_=>w_=(dr w)/\
 Gd (bK c9 true) (λK=>K n_7 (dr w)) (dr w) λe5 w_=>w_=(dr w)/\
 Gd (bK c9 true) (λK=>aA pg (aD .add 3 aG aG e4 e5) (dr w) K) (dr w) λe6 w_=>w_=(dr w)/\
 Gd (bK c9 true) (λK=>aA pg (aO 22 e3 e6) (dr w) K) (dr w) λe7 w_=>w_=(dr w)/\
 Gd (bK c9 true) (λK=>aA pg (aH 5 e7) (dr w) K) (dr w) λe8 w_=>w_=(dr w)/\
 Gd (bK c9 true) (λK=>aA pg (aD .eql 5 (.tmp 29) (.tmp 38) d9 e8) (dr w) K) (dr w) λe9 w_=>w_=(dr w)/\
 aA pg (cD c9 e9 (.bool false)) (dr w) λf0 w_=>w_=(dr w)/\
 bQ f0
  (aA pg (aD .add 3 aG aG n_7 (aOk 1)) (dr w) λf2 w=>
  kn BC Vy agH f2 w)
  (k0 n_7 (dr w))
def pY(k0:K1) BC Vy agH n_7 w:=
 aX (λ(X:aOj->K0) (t:aOj) (w:aOi)=>iQ (λ_ _ _ n_7 w=>X n_7 w) k0 BC Vy agH t w) n_7 w
theorem M1 (k0:K1)(h0:E1 Q k0 0 7)(h:pY k0 (g 0) (g 1) (g 2) (g 7) w):cP pg vW (bI (aQ 1 (aI 2 tI))) Q g w:=by
 refine AL (λg:Env=>g 7) (λX t w=>iQ (λ_ _ _ n_7 w=>X n_7 w) k0 (g 0) (g 1) (g 2) t w) h (λX g1 w1 ha hL=> ?_)
 rw[<-cI 0 ha,<-cI 1 ha,<-cI 2 ha]at hL
 exact(zK [(0,(TR k0 7))] (kr:=no) (AK (λ_ _ _ n_7 w=>X n_7 w) 0 1 2 7) hL cO DN ⟨h0,trivial⟩)
def yL(R:K1) BC Vy agH n_7 w:=
 pY (yK R) BC Vy agH n_7 w
theorem M3 (kn:K1)(hn:N1 Q kn 7)(h:pY kn (g 0) (g 1) (g 2) (g 7) w):cP pg vW (aQ 1 (aI 2 tI)) Q g w:=
 qM 0 (M1 _ g w kn hn h)
def Gj(kn:K4) BC Vy agH w:=
 kn BC Vy agH (aOk 0) w
def Gk(R:K1) BC Vy agH w:=
 Gj (yL R) BC Vy agH w
def KD a0 a1 a2 w(R:K1):=
 Gk R a0 a1 a2 w
theorem OK{a0 a1 a2 w R}(h:KD a0 a1 a2 w R):aK pg rD #[a0,a1,a2] w R:=
 lB (ann:=vW) Tryz.f80 tI [a0,a1,a2] SX 44 TryzM.mixed Tryz.func80 (bZ 2 (eL (AK (yL R) 0 1 2 7) h (λg w h=>aE (bZ 1 (M3 _ g w (yK R) (λg w h=>aE (lT h cO)) h)))))
def VT:FA:=⟨rS,λi=> .leaf ([],[]) []⟩
def YS:List ResultVar:=[.tmp 4]
noncomputable def T8:Code:=aY Tryz.f81
def xG(R:K1) w_5 w:=
 aK pg eH #[w_5] w λe7 w=>
 R e7 w
def Ky(kn:K1) bF KE w:=
 aK pg eY #[] w λb6 w=>
 aA pg (aD .lss 3 aG aG KE (aOk 32)) w λc7 w=>
 bQ c7
  (aA pg (aD .shl 3 aG aG KE (.int .u64 3)) w λd0 w=>
  aA pg (aD .or 3 aG aG d0 bF) w λd2 w=>
  aA pg (cH 3 32 d2) w λd3 w=>
  aK pg bA #[b6,d3,(aOk 1)] w λd4 w=>
  kn b6 w)
  (aA pg (aD .lss 3 aG aG KE (aOk 4096)) w λd7 w=>
  bQ d7
   (aA pg (aD .shl 3 aG aG KE (.int .u64 4)) w λe0 w=>
   aA pg (aD .or 3 aG aG e0 (aOk 4)) w λe1 w=>
   aA pg (aD .or 3 aG aG e1 bF) w λe3 w=>
   aA pg (cH 3 32 e3) w λe4 w=>
   aK pg bA #[b6,e4,(aOk 2)] w λe5 w=>
   kn b6 w)
   (aA pg (aD .shl 3 aG aG KE (.int .u64 4)) w λb9 w=>
   aA pg (aD .or 3 aG aG b9 (aOk 12)) w λc0 w=>
   aA pg (aD .or 3 aG aG c0 bF) w λc2 w=>
   aA pg (cH 3 32 c2) w λc3 w=>
   aK pg bA #[b6,c3,(aOk 3)] w λc4 w=>
   kn b6 w))
def Kz(R:K1) bF KE w:=
 Ky (xG R) bF KE w
def Sk a0 a1 w(R:K1):=
 Kz R a0 a1 w
theorem Ur{a0 a1 w R}(h:Sk a0 a1 w R):aK pg rS #[a0,a1] w R:=
 lB (ann:=VT) Tryz.f81 T8 [a0,a1] YS 38 TryzM.mixed Tryz.func81 (bZ 3 (eL (TR (xG R) 5) h (λg w h=>aE (lT h cO))))
def rW:FA:=⟨vT,λi=> .leaf ([],[]) []⟩
def O1:List ResultVar:=[.tmp 4]
noncomputable def qO:Code:=aY Tryz.f82
def uJ(R:K1) m_5 w:=
 R m_5 w
def uK(kn:K4) fU xA m_5 kR w:=
 aA pg (aD .add 3 aG aG kR (aOk 1)) w λc9 w=>
 kn fU xA m_5 c9 w
def uL(kn:K4)(k0:K1) fU xA m_5 kR w:=
 aA pg (dD .len #[137] 3 [fU]) w λc6 w=>
 aA pg (aD .lss 3 aG aG kR c6) w λc7 w=>
 bQ c7
  (aA pg (aO 137 fU kR) w λd3 w=>
  aA pg (aH 22 d3) w λd4 w=>
  aA pg (BF xA [d4,m_5]) w λd6 w=>
  aA pg (aD .lss 3 aG aG d6 (aOk 0)) w λd7 w=>
  bQ d7
   (aA pg (aO 137 fU kR) w λe0 w=>
   aA pg (aH 22 e0) w λe1 w=>
   kn fU xA e1 kR w)
   (kn fU xA m_5 kR w))
  (k0 m_5 w)
def mN(kn:K4)(k0:K1) fU xA m_5 kR w:=
 uL (uK kn) k0 fU xA m_5 kR w
def mO(k0:K1) fU xA m_5 kR w:=
 aX (λ(X:(aOj×aOj)->K0) (t:aOj×aOj) (w:aOi)=>mN (λ_ _ m_5 kR w=>X (m_5,kR) w) k0 fU xA t.1 t.2 w) (m_5,kR) w
theorem J9 (k0:K1)(h0:E1 Q k0 0 5)(h:mO k0 (g 0) (g 1) (g 5) (g 6) w):cP pg rW (bI (aI 1 (aQ 1 (aI 1 (aI 2 qO))))) Q g w:=by
 refine AL (λg:Env=>(g 5,g 6)) (λX t w=>mN (λ_ _ m_5 kR w=>X (m_5,kR) w) k0 (g 0) (g 1) t.1 t.2 w) h (λX g1 w1 ha hL=> ?_)
 rw[<-cI 0 ha,<-cI 1 ha]at hL
 exact(bZ 2 (zK [(0,(TR k0 5))] (kr:=no) (AK (uK (λ_ _ m_5 kR w=>X (m_5,kR) w)) 0 1 5 6) hL (λg w h=>aE (eL (AK (λ_ _ m_5 kR w=>X (m_5,kR) w) 0 1 5 6) h cO)) DN ⟨h0,trivial⟩))
def Dl(kn:K4) fU xA m_5 w:=
 kn fU xA m_5 (aOk 1) w
def uM(kn:K1) fU xA m_5 w:=
 Dl (mO kn) fU xA m_5 w
def uN(R:K1) fU xA m_5 w:=
 uM (uJ R) fU xA m_5 w
theorem Ka(kn:K1)(hn:N1 Q kn 5)(h:uM kn (g 0) (g 1) (g 5) w):cP pg rW (aQ 1 (aI 1 (aI 2 qO))) Q g w:=
 bZ 1 (eL (AK (mO kn) 0 1 5 6) h (λg w h=>aE (qM 0 (J9 _ g w kn hn h))))
def Ce(kn:K3) fU xA w:=
 aA pg (aO 137 fU (aOk 0)) w λc2 w=>
 aA pg (aH 22 c2) w λc3 w=>
 kn fU xA c3 w
def sR(R:K1) fU xA w:=
 Ce (uN R) fU xA w
def Cf(kn:K2) fU xA w:=
 aA pg (dD .len #[137] 3 [fU]) w λb8 w=>
 aA pg (aD .lss 3 aG aG b8 (aOk 1)) w λb9 w=>
 bQ b9
  (aA pg (WM 9 (.string ⟨#[115,108,105,99,101,115,46,77,105,110,70,117,110,99,58,32,101,109,112,116,121,32,108,105,115,116]⟩)) w λc0 w=>
  aA pg (V (Instr.panic c0)) w λ_u w=>
  kn fU xA w)
  (kn fU xA w)
def Cg(R:K1) fU xA w:=
 Cf (sR R) fU xA w
def Hv a0 a1 w(R:K1):=
 Cg R a0 a1 w
theorem LX{a0 a1 w R}(h:Hv a0 a1 w R):aK pg vT #[a0,a1] w R:=
 lB (ann:=rW) Tryz.f82 qO [a0,a1] O1 33 TryzM.mixed Tryz.func82 (bZ 2 (eL (Kf (sR R) 0 1) h (λg w h=>aE (bZ 1 (eL (TE (uN R) 0 1 5) h (λg w h=>aE (bZ 1 (Ka _ g w (uJ R) (λg w h=>aE (lT h cO)) h))))))))
def Qf:FA:=⟨rB,λi=> .leaf ([],[]) []⟩
def SR:List ResultVar:=[.tmp 4]
noncomputable def Oh:Code:=aY Tryz.f83
def Gc(R:K1) a_0 DR w:=
 aA pg (dD .len #[22] 3 [a_0]) w λb6 w=>
 aA pg (dD .len #[22] 3 [DR]) w λb8 w=>
 aA pg (aD .sub 3 aG aG b6 b8) w λb9 w=>
 R b9 w
def Kr a0 a1 w(R:K1):=
 Gc R a0 a1 w
theorem Ot{a0 a1 w R}(h:Kr a0 a1 w R):aK pg rB #[a0,a1] w R:=
 lB (ann:=Qf) Tryz.f83 Oh [a0,a1] SR 10 TryzM.mixed Tryz.func83 (lT h cO)
def dC:FA:=⟨wX,λi=>match Nat.beq i 15 with|true=> .leaf ([],[]) (fz 43 [])|false=>match Nat.beq i 25 with|true=> .leaf ([],[]) (fz 46 [])|false=> .leaf ([],[]) []⟩
def WK:List ResultVar:=[.tmp 4]
noncomputable def cZ:Code:=aY Tryz.f84
def BU(R:K1) aR w:=
 R aR w
def BV(kn:K3) aL aR aW oH w:=
 aA pg (aO 117 aR oH) w λy6 w=>
 aA pg (aH 3 y6) w λy7 w=>
 aA pg (aD .sub 3 aG aG (aOk 11) y7) w λy8 w=>
 aA pg (aD .shl 3 aG aG (aOk 1) y8) w λy9 w=>
 aA pg (aD .sub 3 aG aG aW y9) w λz0 w=>
 aA pg (aO 117 aR oH) w λz3 w=>
 aA pg (aH 3 z3) w λz4 w=>
 aA pg (aD .sub 3 aG aG z4 (aOk 1)) w λz5 w=>
 aA pg (aO 117 aR oH) w λz6 w=>
 aA pg (aM 3 z6 z5) w λ_u w=>
 kn aL aR z0 w
def BW(kn:K7) aL aR aW oH p8 p9 q0 w:=
 aA pg (aD .add 3 aG aG q0 (aOk 1)) w λy2 w=>
 kn aL aR aW oH p8 p9 y2 w
def JQ(kn:K7)(k8:K4) aL aR aW oH p8 p9 q0 w:=
 aA pg (aD .lss 3 aG aG q0 p9) w λq1 w=>
 bQ q1
  (aA pg (aO 128 p8 q0) w λq3 w=>
  aA pg (aH 38 q3) w λq4 w=>
  (dr w)=(dr w)/\
  aA pg (aD .gtr 38 aG aG q4 (.int .u32 0)) (dr w) λq6 w_=>w_=(dr w)/\
  (dr w)=(dr w)/\
  Gd (bK q6 true) (λK=>K aR (dr w)) (dr w) λq8 w_=>w_=(dr w)/\
  Gd (bK q6 true) (λK=>K q0 (dr w)) (dr w) λq9 w_=>w_=(dr w)/\
  Gd (bK q6 true) (λK=>aA pg (aO 117 q8 q9) (dr w) K) (dr w) λs0 w_=>w_=(dr w)/\
  Gd (bK q6 true) (λK=>aA pg (aH 3 s0) (dr w) K) (dr w) λs1 w_=>w_=(dr w)/\
  Gd (bK q6 true) (λK=>aA pg (aD .sub 3 aG aG (aOk 11) s1) (dr w) K) (dr w) λs2 w_=>w_=(dr w)/\
  Gd (bK q6 true) (λK=>aA pg (aD .shl 3 aG aG (aOk 1) s2) (dr w) K) (dr w) λs3 w_=>w_=(dr w)/\
  Gd (bK q6 true) (λK=>K aW (dr w)) (dr w) λs4 w_=>w_=(dr w)/\
  Gd (bK q6 true) (λK=>aA pg (aD .leq 3 aG aG s3 s4) (dr w) K) (dr w) λs5 w_=>w_=(dr w)/\
  aA pg (cD q6 s5 (.bool false)) (dr w) λs6 w_=>w_=(dr w)/\
  (dr w)=(dr w)/\
  Gd (bK s6 true) (λK=>K oH (dr w)) (dr w) λs8 w_=>w_=(dr w)/\
  Gd (bK s6 true) (λK=>aA pg (aD .lss 3 aG aG s8 (aOk 0)) (dr w) K) (dr w) λs9 w_=>w_=(dr w)/\
  Gd (bK s6 true) (λK=>K s9 (dr w)) (dr w) λu0 w_=>w_=(dr w)/\
  Gd (bK u0 false) (λK=>K aR (dr w)) (dr w) λu1 w_=>w_=(dr w)/\
  Gd (bK u0 false) (λK=>K q0 (dr w)) (dr w) λu2 w_=>w_=(dr w)/\
  Gd (bK u0 false) (λK=>aA pg (aO 117 u1 u2) (dr w) K) (dr w) λu3 w_=>w_=(dr w)/\
  Gd (bK u0 false) (λK=>aA pg (aH 3 u3) (dr w) K) (dr w) λu4 w_=>w_=(dr w)/\
  Gd (bK u0 false) (λK=>K aR (dr w)) (dr w) λu5 w_=>w_=(dr w)/\
  Gd (bK u0 false) (λK=>K oH (dr w)) (dr w) λu6 w_=>w_=(dr w)/\
  Gd (bK u0 false) (λK=>aA pg (aO 117 u5 u6) (dr w) K) (dr w) λu7 w_=>w_=(dr w)/\
  Gd (bK u0 false) (λK=>aA pg (aH 3 u7) (dr w) K) (dr w) λu8 w_=>w_=(dr w)/\
  Gd (bK u0 false) (λK=>aA pg (aD .gtr 3 aG aG u4 u8) (dr w) K) (dr w) λu9 w_=>w_=(dr w)/\
  Gd (bK s6 true) (λK=>aA pg (cD u0 (.bool true) u9) (dr w) K) (dr w) λv0 w_=>w_=(dr w)/\
  Gd (bK s6 true) (λK=>K v0 (dr w)) (dr w) λv1 w_=>w_=(dr w)/\
  Gd (bK v1 false) (λK=>K aR (dr w)) (dr w) λv2 w_=>w_=(dr w)/\
  Gd (bK v1 false) (λK=>K q0 (dr w)) (dr w) λv3 w_=>w_=(dr w)/\
  Gd (bK v1 false) (λK=>aA pg (aO 117 v2 v3) (dr w) K) (dr w) λv4 w_=>w_=(dr w)/\
  Gd (bK v1 false) (λK=>aA pg (aH 3 v4) (dr w) K) (dr w) λv5 w_=>w_=(dr w)/\
  Gd (bK v1 false) (λK=>K aR (dr w)) (dr w) λv6 w_=>w_=(dr w)/\
  Gd (bK v1 false) (λK=>K oH (dr w)) (dr w) λv7 w_=>w_=(dr w)/\
  Gd (bK v1 false) (λK=>aA pg (aO 117 v6 v7) (dr w) K) (dr w) λv8 w_=>w_=(dr w)/\
  Gd (bK v1 false) (λK=>aA pg (aH 3 v8) (dr w) K) (dr w) λv9 w_=>w_=(dr w)/\
  Gd (bK v1 false) (λK=>aA pg (aD .eql 3 (.tmp 155) (.tmp 159) v5 v9) (dr w) K) (dr w) λx0 w_=>w_=(dr w)/\
  Gd (bK v1 false) (λK=>K x0 (dr w)) (dr w) λx1 w_=>w_=(dr w)/\
  Gd (bK x1 true) (λK=>K q4 (dr w)) (dr w) λx2 w_=>w_=(dr w)/\
  Gd (bK x1 true) (λK=>K aL (dr w)) (dr w) λx3 w_=>w_=(dr w)/\
  Gd (bK x1 true) (λK=>K oH (dr w)) (dr w) λx4 w_=>w_=(dr w)/\
  Gd (bK x1 true) (λK=>aA pg (aO 128 x3 x4) (dr w) K) (dr w) λx5 w_=>w_=(dr w)/\
  Gd (bK x1 true) (λK=>aA pg (aH 38 x5) (dr w) K) (dr w) λx6 w_=>w_=(dr w)/\
  Gd (bK x1 true) (λK=>aA pg (aD .gtr 38 aG aG x2 x6) (dr w) K) (dr w) λx7 w_=>w_=(dr w)/\
  Gd (bK v1 false) (λK=>aA pg (cD x1 x7 (.bool false)) (dr w) K) (dr w) λx8 w_=>w_=(dr w)/\
  Gd (bK s6 true) (λK=>aA pg (cD v1 (.bool true) x8) (dr w) K) (dr w) λx9 w_=>w_=(dr w)/\
  aA pg (cD s6 x9 (.bool false)) (dr w) λy0 w_=>w_=(dr w)/\
  bQ y0
   (kn aL aR aW q0 p8 p9 q0 (dr w))
   (kn aL aR aW oH p8 p9 q0 (dr w)))
  (k8 aL aR aW oH w)
def BX(kn:K7)(k8:K4) aL aR aW oH p8 p9 q0 w:=
 JQ (BW kn) k8 aL aR aW oH p8 p9 q0 w
def uO(k8:K4) aL aR aW oH p8 p9 q0 w:=
 aX (λ(X:(aOj×aOj)->K0) (t:aOj×aOj) (w:aOi)=>BX (λ_ _ _ oH _ _ q0 w=>X (oH,q0) w) k8 aL aR aW t.1 p8 p9 t.2 w) (oH,q0) w
theorem Q1 (k8:K4)(h8:E4 Q k8 8 0 5 6 12)(h:uO k8 (g 0) (g 5) (g 6) (g 12) (g 118) (g 119) (g 120) w):cP pg dC (bI (aI 1 (aQ 1 (aI 1 (bI (aI 1 (bI (bI (aQ 1 (aI 1 (aI 1 (aI 3 cZ)))))))))))) Q g w:=by
 refine AL (λg:Env=>(g 12,g 120)) (λX t w=>BX (λ_ _ _ oH _ _ q0 w=>X (oH,q0) w) k8 (g 0) (g 5) (g 6) t.1 (g 118) (g 119) t.2 w) h (λX g1 w1 ha hL=> ?_)
 rw[<-cI 0 ha,<-cI 5 ha,<-cI 6 ha,<-cI 118 ha,<-cI 119 ha]at hL
 exact(bZ 3 (zK [(8,(AK k8 0 5 6 12))] (kr:=no) (JW (BW (λ_ _ _ oH _ _ q0 w=>X (oH,q0) w)) 0 5 6 12 118 119 120) hL (λg w h=>aE (eL (JW (λ_ _ _ oH _ _ q0 w=>X (oH,q0) w) 0 5 6 12 118 119 120) h cO)) DN ⟨h8,trivial⟩))
def JR(kn:K7) aL aR aW oH w:=
 aA pg (dD .len #[128] 3 [aL]) w λp9 w=>
 kn aL aR aW oH aL p9 (aOk 0) w
def uP(kn:K4) aL aR aW oH w:=
 JR (uO kn) aL aR aW oH w
def Ax(kn:K3) aL aR aW oH w:=
 uP (BV kn) aL aR aW oH w
theorem Q2 (kn:K4)(hn:N4 Q kn 0 5 6 12)(h:uP kn (g 0) (g 5) (g 6) (g 12) w):cP pg dC (aQ 1 (aI 1 (bI (aI 1 (bI (bI (aQ 1 (aI 1 (aI 1 (aI 3 cZ)))))))))) Q g w:=
 bZ 1 (eL (JW (uO kn) 0 5 6 12 118 119 120) h (λg w h=>aE (qM 8 (Q1 _ g w kn hn h))))
def Hw(kn:K4) aL aR aW w:=
 kn aL aR aW (aOk (-1)) w
def Ay(kn:K3) aL aR aW w:=
 Hw (Ax kn) aL aR aW w
def Hx(kn:K3)(k6:K1) aL aR aW w:=
 aA pg (aD .gtr 3 aG aG aW (aOk 0)) w λp7 w=>
 bQ p7
  (kn aL aR aW w)
  (k6 aR w)
def Az(kn:K3)(k6:K1) aL aR aW w:=
 Hx (Ay kn) k6 aL aR aW w
def rK(k6:K1) aL aR aW w:=
 aX (λ(X:aOj->K0) (t:aOj) (w:aOi)=>Az (λ_ _ aW w=>X aW w) k6 aL aR t w) aW w
theorem O9 (k6:K1)(h6:E1 Q k6 6 5)(h:rK k6 (g 0) (g 5) (g 6) w):cP pg dC (bI (aQ 1 (aI 1 (aI 1 (aI 3 cZ))))) Q g w:=by
 refine AL (λg:Env=>g 6) (λX t w=>Az (λ_ _ aW w=>X aW w) k6 (g 0) (g 5) t w) h (λX g1 w1 ha hL=> ?_)
 rw[<-cI 0 ha,<-cI 5 ha]at hL
 exact(bZ 1 (zK [(6,(TR k6 5))] (kr:=no) (TE (Ay (λ_ _ aW w=>X aW w)) 0 5 6) hL (λg w h=>aE (qM 7 (bZ 1 (eL (AK (Ax (λ_ _ aW w=>X aW w)) 0 5 6 12) h (λg w h=>aE (bZ 1 (Q2 _ g w (BV (λ_ _ aW w=>X aW w)) (λg w h=>aE (eL (TE (λ_ _ aW w=>X aW w) 0 5 6) h cO)) h))))))) DN ⟨h6,trivial⟩))
def mA(R:K1) aL aR aW w:=
 rK (BU R) aL aR aW w
theorem Pa(kn:K1)(hn:N1 Q kn 5)(h:rK kn (g 0) (g 5) (g 6) w):cP pg dC (aQ 1 (aI 1 (aI 1 (aI 3 cZ)))) Q g w:=
 qM 6 (O9 _ g w kn hn h)
def AA(kn:K3) aL aR aW mD w:=
 aA pg (aO 117 aR mD) w λo4 w=>
 aA pg (aH 3 o4) w λo5 w=>
 aA pg (aD .sub 3 aG aG (aOk 11) o5) w λo6 w=>
 aA pg (aD .sub 3 aG aG o6 (aOk 1)) w λo7 w=>
 aA pg (aD .shl 3 aG aG (aOk 1) o7) w λo8 w=>
 aA pg (aD .add 3 aG aG aW o8) w λo9 w=>
 aA pg (aO 117 aR mD) w λp2 w=>
 aA pg (aH 3 p2) w λp3 w=>
 aA pg (aD .add 3 aG aG p3 (aOk 1)) w λp4 w=>
 aA pg (aO 117 aR mD) w λp5 w=>
 aA pg (aM 3 p5 p4) w λ_u w=>
 kn aL aR o9 w
def AB(kn:K7) aL aR aW mD f9 i0 i1 w:=
 aA pg (aD .add 3 aG aG i1 (aOk 1)) w λo0 w=>
 kn aL aR aW mD f9 i0 o0 w
def Hy(kn:K7)(k4:K4) aL aR aW mD f9 i0 i1 w:=
 aA pg (aD .lss 3 aG aG i1 i0) w λi2 w=>
 bQ i2
  (aA pg (aO 128 f9 i1) w λi4 w=>
  aA pg (aH 38 i4) w λi5 w=>
  (dr w)=(dr w)/\
  aA pg (aD .gtr 38 aG aG i5 (.int .u32 0)) (dr w) λi7 w_=>w_=(dr w)/\
  (dr w)=(dr w)/\
  Gd (bK i7 true) (λK=>K aR (dr w)) (dr w) λi9 w_=>w_=(dr w)/\
  Gd (bK i7 true) (λK=>K i1 (dr w)) (dr w) λj0 w_=>w_=(dr w)/\
  Gd (bK i7 true) (λK=>aA pg (aO 117 i9 j0) (dr w) K) (dr w) λj1 w_=>w_=(dr w)/\
  Gd (bK i7 true) (λK=>aA pg (aH 3 j1) (dr w) K) (dr w) λj2 w_=>w_=(dr w)/\
  Gd (bK i7 true) (λK=>aA pg (aD .lss 3 aG aG j2 (aOk 11)) (dr w) K) (dr w) λj3 w_=>w_=(dr w)/\
  aA pg (cD i7 j3 (.bool false)) (dr w) λj4 w_=>w_=(dr w)/\
  (dr w)=(dr w)/\
  Gd (bK j4 true) (λK=>K mD (dr w)) (dr w) λj6 w_=>w_=(dr w)/\
  Gd (bK j4 true) (λK=>aA pg (aD .lss 3 aG aG j6 (aOk 0)) (dr w) K) (dr w) λj7 w_=>w_=(dr w)/\
  Gd (bK j4 true) (λK=>K j7 (dr w)) (dr w) λj8 w_=>w_=(dr w)/\
  Gd (bK j8 false) (λK=>K aR (dr w)) (dr w) λj9 w_=>w_=(dr w)/\
  Gd (bK j8 false) (λK=>K i1 (dr w)) (dr w) λl0 w_=>w_=(dr w)/\
  Gd (bK j8 false) (λK=>aA pg (aO 117 j9 l0) (dr w) K) (dr w) λl1 w_=>w_=(dr w)/\
  Gd (bK j8 false) (λK=>aA pg (aH 3 l1) (dr w) K) (dr w) λl2 w_=>w_=(dr w)/\
  Gd (bK j8 false) (λK=>K aR (dr w)) (dr w) λl3 w_=>w_=(dr w)/\
  Gd (bK j8 false) (λK=>K mD (dr w)) (dr w) λl4 w_=>w_=(dr w)/\
  Gd (bK j8 false) (λK=>aA pg (aO 117 l3 l4) (dr w) K) (dr w) λl5 w_=>w_=(dr w)/\
  Gd (bK j8 false) (λK=>aA pg (aH 3 l5) (dr w) K) (dr w) λl6 w_=>w_=(dr w)/\
  Gd (bK j8 false) (λK=>aA pg (aD .gtr 3 aG aG l2 l6) (dr w) K) (dr w) λl7 w_=>w_=(dr w)/\
  Gd (bK j4 true) (λK=>aA pg (cD j8 (.bool true) l7) (dr w) K) (dr w) λl8 w_=>w_=(dr w)/\
  Gd (bK j4 true) (λK=>K l8 (dr w)) (dr w) λl9 w_=>w_=(dr w)/\
  Gd (bK l9 false) (λK=>K aR (dr w)) (dr w) λm0 w_=>w_=(dr w)/\
  Gd (bK l9 false) (λK=>K i1 (dr w)) (dr w) λm1 w_=>w_=(dr w)/\
  Gd (bK l9 false) (λK=>aA pg (aO 117 m0 m1) (dr w) K) (dr w) λm2 w_=>w_=(dr w)/\
  Gd (bK l9 false) (λK=>aA pg (aH 3 m2) (dr w) K) (dr w) λm3 w_=>w_=(dr w)/\
  Gd (bK l9 false) (λK=>K aR (dr w)) (dr w) λm4 w_=>w_=(dr w)/\
  Gd (bK l9 false) (λK=>K mD (dr w)) (dr w) λm5 w_=>w_=(dr w)/\
  Gd (bK l9 false) (λK=>aA pg (aO 117 m4 m5) (dr w) K) (dr w) λm6 w_=>w_=(dr w)/\
  Gd (bK l9 false) (λK=>aA pg (aH 3 m6) (dr w) K) (dr w) λm7 w_=>w_=(dr w)/\
  Gd (bK l9 false) (λK=>aA pg (aD .eql 3 (.tmp 83) (.tmp 87) m3 m7) (dr w) K) (dr w) λm8 w_=>w_=(dr w)/\
  Gd (bK l9 false) (λK=>K m8 (dr w)) (dr w) λm9 w_=>w_=(dr w)/\
  Gd (bK m9 true) (λK=>K i5 (dr w)) (dr w) λn0 w_=>w_=(dr w)/\
  Gd (bK m9 true) (λK=>K aL (dr w)) (dr w) λn1 w_=>w_=(dr w)/\
  Gd (bK m9 true) (λK=>K mD (dr w)) (dr w) λn2 w_=>w_=(dr w)/\
  Gd (bK m9 true) (λK=>aA pg (aO 128 n1 n2) (dr w) K) (dr w) λn3 w_=>w_=(dr w)/\
  Gd (bK m9 true) (λK=>aA pg (aH 38 n3) (dr w) K) (dr w) λn4 w_=>w_=(dr w)/\
  Gd (bK m9 true) (λK=>aA pg (aD .lss 38 aG aG n0 n4) (dr w) K) (dr w) λn5 w_=>w_=(dr w)/\
  Gd (bK l9 false) (λK=>aA pg (cD m9 n5 (.bool false)) (dr w) K) (dr w) λn6 w_=>w_=(dr w)/\
  Gd (bK j4 true) (λK=>aA pg (cD l9 (.bool true) n6) (dr w) K) (dr w) λn7 w_=>w_=(dr w)/\
  aA pg (cD j4 n7 (.bool false)) (dr w) λn8 w_=>w_=(dr w)/\
  bQ n8
   (kn aL aR aW i1 f9 i0 i1 (dr w))
   (kn aL aR aW mD f9 i0 i1 (dr w)))
  (k4 aL aR aW mD w)
def AD(kn:K7)(k4:K4) aL aR aW mD f9 i0 i1 w:=
 Hy (AB kn) k4 aL aR aW mD f9 i0 i1 w
def rL(k4:K4) aL aR aW mD f9 i0 i1 w:=
 aX (λ(X:(aOj×aOj)->K0) (t:aOj×aOj) (w:aOi)=>AD (λ_ _ _ mD _ _ i1 w=>X (mD,i1) w) k4 aL aR aW t.1 f9 i0 t.2 w) (mD,i1) w
theorem Pb(k4:K4)(h4:E4 Q k4 4 0 5 6 9)(h:rL k4 (g 0) (g 5) (g 6) (g 9) (g 49) (g 50) (g 51) w):cP pg dC (bI (aI 1 (aQ 1 (aI 1 (bI (aI 1 (bI (bI (aQ 1 (aI 1 (aI 3 cZ))))))))))) Q g w:=by
 refine AL (λg:Env=>(g 9,g 51)) (λX t w=>AD (λ_ _ _ mD _ _ i1 w=>X (mD,i1) w) k4 (g 0) (g 5) (g 6) t.1 (g 49) (g 50) t.2 w) h (λX g1 w1 ha hL=> ?_)
 rw[<-cI 0 ha,<-cI 5 ha,<-cI 6 ha,<-cI 49 ha,<-cI 50 ha]at hL
 exact(bZ 3 (zK [(4,(AK k4 0 5 6 9))] (kr:=no) (JW (AB (λ_ _ _ mD _ _ i1 w=>X (mD,i1) w)) 0 5 6 9 49 50 51) hL (λg w h=>aE (eL (JW (λ_ _ _ mD _ _ i1 w=>X (mD,i1) w) 0 5 6 9 49 50 51) h cO)) DN ⟨h4,trivial⟩))
def Hz(kn:K7) aL aR aW mD w:=
 aA pg (dD .len #[128] 3 [aL]) w λi0 w=>
 kn aL aR aW mD aL i0 (aOk 0) w
def rM(kn:K4) aL aR aW mD w:=
 Hz (rL kn) aL aR aW mD w
def AE(kn:K3) aL aR aW mD w:=
 rM (AA kn) aL aR aW mD w
theorem Pc(kn:K4)(hn:N4 Q kn 0 5 6 9)(h:rM kn (g 0) (g 5) (g 6) (g 9) w):cP pg dC (aQ 1 (aI 1 (bI (aI 1 (bI (bI (aQ 1 (aI 1 (aI 3 cZ))))))))) Q g w:=
 bZ 1 (eL (JW (rL kn) 0 5 6 9 49 50 51) h (λg w h=>aE (qM 4 (Pb _ g w kn hn h))))
def HA(kn:K4) aL aR aW w:=
 kn aL aR aW (aOk (-1)) w
def AF(kn:K3) aL aR aW w:=
 HA (AE kn) aL aR aW w
def HB(kn:K3)(k2:K3) aL aR aW w:=
 aA pg (aD .lss 3 aG aG aW (aOk 0)) w λf8 w=>
 bQ f8
  (kn aL aR aW w)
  (k2 aL aR aW w)
def AG(kn:K3)(k2:K3) aL aR aW w:=
 HB (AF kn) k2 aL aR aW w
def rN(k2:K3) aL aR aW w:=
 aX (λ(X:aOj->K0) (t:aOj) (w:aOi)=>AG (λ_ _ aW w=>X aW w) k2 aL aR t w) aW w
theorem Pd(k2:K3)(h2:E3 Q k2 2 0 5 6)(h:rN k2 (g 0) (g 5) (g 6) w):cP pg dC (bI (aQ 1 (aI 1 (aI 3 cZ)))) Q g w:=by
 refine AL (λg:Env=>g 6) (λX t w=>AG (λ_ _ aW w=>X aW w) k2 (g 0) (g 5) t w) h (λX g1 w1 ha hL=> ?_)
 rw[<-cI 0 ha,<-cI 5 ha]at hL
 exact(bZ 1 (zK [(2,(TE k2 0 5 6))] (kr:=no) (TE (AF (λ_ _ aW w=>X aW w)) 0 5 6) hL (λg w h=>aE (qM 3 (bZ 1 (eL (AK (AE (λ_ _ aW w=>X aW w)) 0 5 6 9) h (λg w h=>aE (bZ 1 (Pc _ g w (AA (λ_ _ aW w=>X aW w)) (λg w h=>aE (eL (TE (λ_ _ aW w=>X aW w) 0 5 6) h cO)) h))))))) DN ⟨h2,trivial⟩))
def mB(R:K1) aL aR aW w:=
 rN (mA R) aL aR aW w
theorem Pe(kn:K3)(hn:N3 Q kn 0 5 6)(h:rN kn (g 0) (g 5) (g 6) w):cP pg dC (aQ 1 (aI 1 (aI 3 cZ))) Q g w:=
 qM 2 (Pd _ g w kn hn h)
def AH(kn:K7) aL oJ aR aW c8 c9 d0 w:=
 aA pg (aD .add 3 aG aG d0 (aOk 1)) w λf6 w=>
 kn aL oJ aR aW c8 c9 f6 w
def HC(kn:K7)(k0:K3) aL oJ aR aW c8 c9 d0 w:=
 aA pg (aD .lss 3 aG aG d0 c9) w λd1 w=>
 bQ d1
  (aA pg (aO 128 c8 d0) w λd3 w=>
  aA pg (aH 38 d3) w λd4 w=>
  aA pg (aD .gtr 38 aG aG d4 (.int .u32 0)) w λd6 w=>
  bQ d6
   (aA pg (aD .sub 32 aG aG oJ (.int .u64 1)) w λe0 w=>
   aA pg (cH 38 32 d4) w λe2 w=>
   aA pg (aD .quo 32 aG aG e0 e2) w λe3 w=>
   aK pg pG #[e3] w λe4 w=>
   aA pg (dD .max #[3,3] 3 [e4,(aOk 1)]) w λe5 w=>
   aA pg (dD .min #[3,3] 3 [e5,(aOk 11)]) w λe6 w=>
   aA pg (aO 117 aR d0) w λe7 w=>
   aA pg (aM 3 e7 e6) w λ_u w=>
   aA pg (aO 117 aR d0) w λf1 w=>
   aA pg (aH 3 f1) w λf2 w=>
   aA pg (aD .sub 3 aG aG (aOk 11) f2) w λf3 w=>
   aA pg (aD .shl 3 aG aG (aOk 1) f3) w λf4 w=>
   aA pg (aD .sub 3 aG aG aW f4) w λf5 w=>
   kn aL oJ aR f5 c8 c9 d0 w)
   (kn aL oJ aR aW c8 c9 d0 w))
  (k0 aL aR aW w)
def AI(kn:K7)(k0:K3) aL oJ aR aW c8 c9 d0 w:=
 HC (AH kn) k0 aL oJ aR aW c8 c9 d0 w
def rO(k0:K3) aL oJ aR aW c8 c9 d0 w:=
 aX (λ(X:(aOj×aOj)->K0) (t:aOj×aOj) (w:aOi)=>AI (λ_ _ _ aW _ _ d0 w=>X (aW,d0) w) k0 aL oJ aR t.1 c8 c9 t.2 w) (aW,d0) w
theorem Pf(k0:K3)(h0:E3 Q k0 0 0 5 6)(h:rO k0 (g 0) (g 1) (g 5) (g 6) (g 18) (g 19) (g 20) w):cP pg dC (bI (aI 1 (aQ 1 (aI 3 cZ)))) Q g w:=by
 refine AL (λg:Env=>(g 6,g 20)) (λX t w=>AI (λ_ _ _ aW _ _ d0 w=>X (aW,d0) w) k0 (g 0) (g 1) (g 5) t.1 (g 18) (g 19) t.2 w) h (λX g1 w1 ha hL=> ?_)
 rw[<-cI 0 ha,<-cI 1 ha,<-cI 5 ha,<-cI 18 ha,<-cI 19 ha]at hL
 exact(bZ 3 (zK [(0,(TE k0 0 5 6))] (kr:=no) (JW (AH (λ_ _ _ aW _ _ d0 w=>X (aW,d0) w)) 0 1 5 6 18 19 20) hL (λg w h=>aE (eL (JW (λ_ _ _ aW _ _ d0 w=>X (aW,d0) w) 0 1 5 6 18 19 20) h cO)) DN ⟨h0,trivial⟩))
def HD(kn:K7) aL oJ aR aW w:=
 aA pg (dD .len #[128] 3 [aL]) w λc9 w=>
 kn aL oJ aR aW aL c9 (aOk 0) w
def AJ(kn:K3) aL oJ aR aW w:=
 HD (rO kn) aL oJ aR aW w
def rP(R:K1) aL oJ aR aW w:=
 AJ (mB R) aL oJ aR aW w
theorem Pg(kn:K3)(hn:N3 Q kn 0 5 6)(h:AJ kn (g 0) (g 1) (g 5) (g 6) w):cP pg dC (aQ 1 (aI 3 cZ)) Q g w:=
 bZ 1 (eL (JW (rO kn) 0 1 5 6 18 19 20) h (λg w h=>aE (qM 0 (Pf _ g w kn hn h))))
def HE(kn:K4) aL oJ w:=
 aA pg (dD .len #[128] 3 [aL]) w λc6 w=>
 aA pg (iS 117 c6 c6) w λc7 w=>
 kn aL oJ c7 (aOk 2048) w
def HF(R:K1) aL oJ w:=
 HE (rP R) aL oJ w
def P9 a0 a1 w(R:K1):=
 HF R a0 a1 w
theorem Tv{a0 a1 w R}(h:P9 a0 a1 w R):aK pg wX #[a0,a1] w R:=
 lB (ann:=dC) Tryz.f84 cZ [a0,a1] WK 188 TryzM.mixed Tryz.func84 (bZ 3 (eL (AK (rP R) 0 1 5 6) h (λg w h=>aE (bZ 1 (Pg _ g w (mB R) (λg w h=>aE (bZ 1 (Pe _ g w (mA R) (λg w h=>aE (bZ 1 (Pa _ g w (BU R) (λg w h=>aE (lT h cO)) h))) h))) h)))))
def Ad:FA:=⟨wW,λi=> .leaf ([],[]) []⟩
def WJ:List ResultVar:=[.tmp 2]
noncomputable def yE:Code:=aY Tryz.f85
def BP(R:K1) QF w:=
 R QF w
def BQ(kn:K3)(k0:K1) fU QF TG w:=
 aA pg (dD .len #[117] 3 [fU]) w λc4 w=>
 aA pg (aD .lss 3 aG aG TG c4) w λc5 w=>
 bQ c5
  (aA pg (aO 117 fU TG) w λd1 w=>
  aA pg (aH 3 d1) w λd2 w=>
  aA pg (dD .max #[3,3] 3 [QF,d2]) w λd3 w=>
  aA pg (aD .add 3 aG aG TG (aOk 1)) w λc7 w=>
  kn fU d3 c7 w)
  (k0 QF w)
def uI(k0:K1) fU QF TG w:=
 aX (λ(X:(aOj×aOj)->K0) (t:aOj×aOj) (w:aOi)=>BQ (λ_ QF TG w=>X (QF,TG) w) k0 fU t.1 t.2 w) (QF,TG) w
theorem QY(k0:K1)(h0:E1 Q k0 0 3)(h:uI k0 (g 0) (g 3) (g 4) w):cP pg Ad (bI (aI 1 (aQ 1 (aI 1 (aI 2 yE))))) Q g w:=by
 refine AL (λg:Env=>(g 3,g 4)) (λX t w=>BQ (λ_ QF TG w=>X (QF,TG) w) k0 (g 0) t.1 t.2 w) h (λX g1 w1 ha hL=> ?_)
 rw[<-cI 0 ha]at hL
 exact(zK [(0,(TR k0 3))] (kr:=no) (TE (λ_ QF TG w=>X (QF,TG) w) 0 3 4) hL cO DN ⟨h0,trivial⟩)
def Jz(kn:K3) fU QF w:=
 kn fU QF (aOk 1) w
def BR(kn:K1) fU QF w:=
 Jz (uI kn) fU QF w
def BS(R:K1) fU QF w:=
 BR (BP R) fU QF w
theorem QZ(kn:K1)(hn:N1 Q kn 3)(h:BR kn (g 0) (g 3) w):cP pg Ad (aQ 1 (aI 1 (aI 2 yE))) Q g w:=
 bZ 1 (eL (TE (uI kn) 0 3 4) h (λg w h=>aE (qM 0 (QY _ g w kn hn h))))
def JA(kn:K2) fU w:=
 aA pg (aO 117 fU (aOk 0)) w λc0 w=>
 aA pg (aH 3 c0) w λc1 w=>
 kn fU c1 w
def BT(R:K1) fU w:=
 JA (BS R) fU w
def Ht(kn:K1) fU w:=
 aA pg (dD .len #[117] 3 [fU]) w λb6 w=>
 aA pg (aD .lss 3 aG aG b6 (aOk 1)) w λb7 w=>
 bQ b7
  (aA pg (WM 9 (.string ⟨#[115,108,105,99,101,115,46,77,97,120,58,32,101,109,112,116,121,32,108,105,115,116]⟩)) w λb8 w=>
  aA pg (V (Instr.panic b8)) w λ_u w=>
  kn fU w)
  (kn fU w)
def Hu(R:K1) fU w:=
 Ht (BT R) fU w
def P1 a0 w(R:K1):=
 Hu R a0 w
theorem S9 {a0 w R}(h:P1 a0 w R):aK pg wW #[a0] w R:=
 lB (ann:=Ad) Tryz.f85 yE [a0] WJ 25 TryzM.mixed Tryz.func85 (bZ 2 (eL (TR (BT R) 0) h (λg w h=>aE (bZ 1 (eL (Kf (BS R) 0 3) h (λg w h=>aE (bZ 1 (QZ _ g w (BP R) (λg w h=>aE (lT h cO)) h))))))))
def wZ:FA:=⟨uV,λi=> .leaf ([],[]) []⟩
def abA:List ResultVar:=[.tmp 2,.tmp 3]
noncomputable def tJ:Code:=aY Tryz.f86
def Fg(R:K1) aR w:=
 R (.tuple #[aR,(aOk 0)]) w
def zT(kn:K4) dB n_4 aR kR w:=
 aA pg (aD .add 3 aG aG kR (aOk 2)) w λd7 w=>
 kn dB n_4 aR d7 w
def zU(kn:K4) dB n_4 aR kR c_7 w:=
 aA pg (bT 22 1 [(0,c_7)]) w λf6 w=>
 aA pg (dD .append #[22,22] 22 [aR,f6]) w λf7 w=>
 kn dB n_4 f7 kR w
def NH(kn:K5) dB n_4 aR kR w:=
 aA pg (aO 22 dB kR) w λe0 w=>
 aA pg (aH 5 e0) w λe1 w=>
 aA pg (aD .shl 5 aG aG e1 (.int .u64 4)) w λe2 w=>
 aA pg (aD .add 3 aG aG kR (aOk 1)) w λe4 w=>
 aA pg (aD .lss 3 aG aG e4 n_4) w λe6 w=>
 bQ e6
  (aA pg (aD .add 3 aG aG kR (aOk 1)) w λf0 w=>
  aA pg (aO 22 dB f0) w λf1 w=>
  aA pg (aH 5 f1) w λf2 w=>
  aA pg (aD .or 5 aG aG e2 f2) w λf3 w=>
  kn dB n_4 aR kR f3 w)
  (kn dB n_4 aR kR e2 w)
def Fh(kn:K4) dB n_4 aR kR w:=
 NH (zU kn) dB n_4 aR kR w
def Fi(kn:K4) dB n_4 aR kR w:=
 Fh (zT kn) dB n_4 aR kR w
theorem UK(kn:K4)(hn:N4 Q kn 0 4 5 6)(h:Fh kn (g 0) (g 4) (g 5) (g 6) w):cP pg wZ (aQ 1 (aI 1 (bI (bI (aI 1 (aQ 1 (aI 4 tJ))))))) Q g w:=
 qM 2 (bZ 2 (eL (NQ (zU kn) 0 4 5 6 7) h (λg w h=>aE (eL _ h hn))))
def NI(kn:K4)(k1:K1) dB n_4 aR kR w:=
 aA pg (aD .lss 3 aG aG kR n_4) w λd5 w=>
 bQ d5
  (kn dB n_4 aR kR w)
  (k1 aR w)
def Fj(kn:K4)(k1:K1) dB n_4 aR kR w:=
 NI (Fi kn) k1 dB n_4 aR kR w
def xO(k1:K1) dB n_4 aR kR w:=
 aX (λ(X:(aOj×aOj)->K0) (t:aOj×aOj) (w:aOi)=>Fj (λ_ _ aR kR w=>X (aR,kR) w) k1 dB n_4 t.1 t.2 w) (aR,kR) w
theorem Tt(k1:K1)(h1:E1 Q k1 1 5)(h:xO k1 (g 0) (g 4) (g 5) (g 6) w):cP pg wZ (bI (aI 1 (aQ 1 (aI 4 tJ)))) Q g w:=by
 refine AL (λg:Env=>(g 5,g 6)) (λX t w=>Fj (λ_ _ aR kR w=>X (aR,kR) w) k1 (g 0) (g 4) t.1 t.2 w) h (λX g1 w1 ha hL=> ?_)
 rw[<-cI 0 ha,<-cI 4 ha]at hL
 exact(bZ 1 (zK [(1,(TR k1 5))] (kr:=no) (AK (Fi (λ_ _ aR kR w=>X (aR,kR) w)) 0 4 5 6) hL (λg w h=>aE (bZ 1 (UK _ g w (zT (λ_ _ aR kR w=>X (aR,kR) w)) (λg w h=>aE (eL (AK (λ_ _ aR kR w=>X (aR,kR) w) 0 4 5 6) h cO)) h))) DN ⟨h1,trivial⟩))
def KL(kn:K4) dB n_4 aR w:=
 kn dB n_4 aR (aOk 0) w
def DH(kn:K1) dB n_4 aR w:=
 KL (xO kn) dB n_4 aR w
def DI(R:K1) dB n_4 aR w:=
 DH (Fg R) dB n_4 aR w
theorem Tu(kn:K1)(hn:N1 Q kn 5)(h:DH kn (g 0) (g 4) (g 5) w):cP pg wZ (aQ 1 (aI 4 tJ)) Q g w:=
 bZ 1 (eL (AK (xO kn) 0 4 5 6) h (λg w h=>aE (qM 1 (Tt _ g w kn hn h))))
def DJ(kn:K3)(R:K1) dB w:=
 aK pg uW #[dB] w λc0 w=>
 aA pg (aD .eql 3 (.tmp 10) (.const (aOk 0)) c0 (aOk 0)) w λc1 w=>
 bQ c1
  (R (.tuple #[(.slice none 0 0),(aOk 1)]) w)
  (aA pg (dD .len #[22] 3 [dB]) w λc4 w=>
  aA pg (aD .gtr 3 aG aG c4 (aOk 129)) w λc5 w=>
  bQ c5
   (R (.tuple #[(.slice none 0 0),(aOk 12)]) w)
   (aA pg (dD .len #[22] 3 [dB]) w λc7 w=>
   aA pg (aD .sub 3 aG aG c7 (aOk 1)) w λc8 w=>
   aA pg (aD .add 3 aG aG (aOk 127) c8) w λd0 w=>
   aA pg (cH 3 5 d0) w λd1 w=>
   aA pg (bT 22 1 [(0,d1)]) w λd2 w=>
   kn dB c8 d2 w))
def DK(R:K1) dB w:=
 DJ (DI R) R dB w
def L9 a0 w(R:K1):=
 DK R a0 w
theorem JP{a0 w R}(h:L9 a0 w R):aK pg uV #[a0] w R:=
 lB (ann:=wZ) Tryz.f86 tJ [a0] abA 49 TryzM.mixed Tryz.func86 (bZ 4 (Lk (TE (DI R) 0 4 5) h (λg w h=>aE (bZ 1 (Tu _ g w (Fg R) (λg w h=>aE (lT h cO)) h))) cO))
def Qh:FA:=⟨rC,λi=> .leaf ([],[]) []⟩
def SU:List ResultVar:=[.tmp 4,.tmp 5]
noncomputable def Oj:Code:=aY Tryz.f87
def Gg(R:K1) dB bN w:=
 aA pg (dD .len #[22] 3 [bN]) w λb7 w=>
 aA pg (aD .lss 3 aG aG b7 (aOk 256)) w λb8 w=>
 bQ b8
  (aK pg Ft #[dB,bN] w λc1 w=>
  aA pg (aV c1 0) w λc2 w=>
  aA pg (aV c1 1) w λc3 w=>
  R (.tuple #[c2,c3]) w)
  (aK pg Cq #[dB,bN] w λc6 w=>
  aA pg (aV c6 0) w λc7 w=>
  aA pg (aV c6 1) w λc8 w=>
  R (.tuple #[c7,c8]) w)
def KA a0 a1 w(R:K1):=
 Gg R a0 a1 w
theorem OI{a0 a1 w R}(h:KA a0 a1 w R):aK pg rC #[a0,a1] w R:=
 lB (ann:=Qh) Tryz.f87 Oj [a0,a1] SU 19 TryzM.mixed Tryz.func87 (lT h cO)
def Rd:FA:=⟨mY,λi=> .leaf ([],[]) []⟩
def UC:List ResultVar:=[.cell 2 44]
noncomputable def Qs:Code:=aY Tryz.f88
def Ho(R:K1) lU w:=
 aA pg (A0 84 lU) w λs_1 w=>
 aA pg (bG 44) w λb2 w=>
 aA pg (aJ 84 s_1 0) w λb3 w=>
 aA pg (aH 38 b3) w λb4 w=>
 aA pg (aJ 84 s_1 2) w λb5 w=>
 aA pg (aH 38 b5) w λb6 w=>
 aA pg (aJ 84 s_1 1) w λb7 w=>
 aA pg (aH 38 b7) w λb8 w=>
 aA pg (bH 44 [(0,b4),(1,b6),(2,b8)]) w λb9 w=>
 aA pg (aM 44 b2 b9) w λ_u w=>
 vU pg 44 b2 w λr0=>R r0 w
def Nt a0 w(R:K1):=
 Ho R a0 w
theorem QW{a0 w R}(h:Nt a0 w R):aK pg mY #[a0] w R:=
 lB (ann:=Rd) Tryz.f88 Qs [a0] UC 10 TryzM.mixed Tryz.func88 (lT h cO)
def NU:FA:=⟨NO,λi=>match Nat.beq i 8 with|true=> .leaf ([],[]) (fz 8 [])|false=> .leaf ([],[]) []⟩
def SN:List ResultVar:=[.tmp 4,.tmp 5,.tmp 6]
noncomputable def KS:Code:=aY Tryz.f89
def Rt(R:K1) w:=
 R (.tuple #[(aOk 0),(.int .u32 0),(aOk 17)]) w
def Ru(kn:K5)(k1:K0)(R:K1) gW FU i8 i9 j0 w:=
 aA pg (aD .lss 3 aG aG j0 i9) w λj1 w=>
 bQ j1
  (aA pg (aO 117 i8 j0) w λj3 w=>
  aA pg (aH 3 j3) w λj4 w=>
  aA pg (aD .shl 38 aG aG (.int .u32 1) j4) w λj7 w=>
  aA pg (aD .lss 38 aG aG gW j7) w λj8 w=>
  bQ j8
   (aA pg (aD .add 3 aG aG FU j0) w λl1 w=>
   R (.tuple #[l1,gW,(aOk 0)]) w)
   (aA pg (aD .shl 38 aG aG (.int .u32 1) j4) w λl5 w=>
   aA pg (aD .sub 38 aG aG gW l5) w λl6 w=>
   aA pg (aD .add 3 aG aG j0 (aOk 1)) w λl7 w=>
   kn l6 FU i8 i9 l7 w))
  (k1 w)
def Ki(k1:K0)(R:K1) gW FU i8 i9 j0 w:=
 aX (λ(X:(aOj×aOj)->K0) (t:aOj×aOj) (w:aOi)=>Ru (λgW _ _ _ j0 w=>X (gW,j0) w) k1 R t.1 FU i8 i9 t.2 w) (gW,j0) w
theorem agT(k1:K0)(R:K1)(h1:E0 Q k1 1)(hr:HR SN R Q)(h:Ki k1 R (g 1) (g 7) (g 58) (g 59) (g 60) w):cP pg NU (bI (aI 1 (aQ 1 (aI 6 KS)))) Q g w:=by
 refine AL (λg:Env=>(g 1,g 60)) (λX t w=>Ru (λgW _ _ _ j0 w=>X (gW,j0) w) k1 R t.1 (g 7) (g 58) (g 59) t.2 w) h (λX g1 w1 ha hL=> ?_)
 rw[<-cI 7 ha,<-cI 58 ha,<-cI 59 ha]at hL
 exact(zK [(1,(Mq0 k1))] (NQ (λgW _ _ _ j0 w=>X (gW,j0) w) 1 7 58 59 60) hL cO hr ⟨h1,trivial⟩)
def abX(kn:K5) gW FU aaF w:=
 aA pg (dD .len #[117] 3 [aaF]) w λi9 w=>
 kn gW FU aaF i9 (aOk 0) w
def Rv(kn:K0)(R:K1) gW FU aaF w:=
 abX (Ki kn R) gW FU aaF w
def Rw(R:K1) gW FU aaF w:=
 Rv (Rt R) R gW FU aaF w
theorem agU(kn:K0)(R:K1)(hn:N0 Q kn)(hr:HR SN R Q)(h:Rv kn R (g 1) (g 7) (g 9) w):cP pg NU (aQ 1 (aI 6 KS)) Q g w:=
 bZ 1 (eL (NQ (Ki kn R) 1 7 58 59 60) h (λg w h=>aE (qM 1 (agT _ g w kn R hn hr h))))
def abY(kn:K3)(R:K1) bF gW w:=
 aK pg BY #[bF] w λc5 w=>
 aA pg (aV c5 0) w λc6 w=>
 aA pg (aV c5 1) w λc7 w=>
 aA pg (aV c5 2) w λc8 w=>
 aK pg yX #[bF] w λd1 w=>
 aA pg (aD .lss 3 aG aG d1 (aOk 0)) w λd2 w=>
 bQ d2
  (R (.tuple #[(aOk 0),(.int .u32 0),(aOk 1)]) w)
  (aA pg (aD .eql 3 (.tmp 24) (.const (aOk 1)) bF (aOk 1)) w λd5 w=>
  Gd (bK d5 true) (λK=>K gW w) w λd7 w=>
  Gd (bK d5 true) (λK=>aA pg (aD .eql 38 (.tmp 27) (.const (.int .u32 0)) d7 (.int .u32 0)) w K) w λd8 w=>
  aA pg (cD d5 d8 (.bool false)) w λd9 w=>
  bQ d9
   (R (.tuple #[(aOk 0),(.int .u32 0),(aOk 17)]) w)
   (aA pg (aD .eql 3 (.tmp 31) (.const (aOk 1)) bF (aOk 1)) w λe2 w=>
   bQ e2
    (aK pg pF #[gW] w λe4 w=>
    aA pg (aD .sub 3 aG aG e4 (aOk 1)) w λe5 w=>
    (dr w)=(dr w)/\
    (dr w)=(dr w)/\
    (dr w)=(dr w)/\
    aA pg (aD .shl 38 aG aG (.int .u32 1) e5) (dr w) λe9 w_=>w_=(dr w)/\
    aA pg (aD .sub 38 aG aG gW e9) (dr w) λf0 w_=>w_=(dr w)/\
    (dr w)=(dr w)/\
    (dr w)=(dr w)/\
    (dr w)=(dr w)/\
    R (.tuple #[e5,f0,(aOk 0)]) (dr w))
    (aA pg (aD .lss 38 aG aG gW c7) w λf4 w=>
    bQ f4
     (R (.tuple #[(aOk 0),(.int .u32 0),(aOk 17)]) w)
     (aA pg (aD .sub 38 aG aG gW c7) w λf7 w=>
     aA pg (cH 3 38 c6) w λi0 w=>
     aA pg (aD .lss 38 aG aG f7 i0) w λi1 w=>
     bQ i1
      (aA pg (cH 38 3 f7) w λi3 w=>
      R (.tuple #[i3,(.int .u32 0),(aOk 0)]) w)
      (aA pg (cH 3 38 c6) w λi6 w=>
      aA pg (aD .sub 38 aG aG f7 i6) w λi7 w=>
      kn i7 c6 c8 w)))))
def abZ(R:K1) bF gW w:=
 abY (Rw R) R bF gW w
def asH a0 a1 w(R:K1):=
 abZ R a0 a1 w
theorem akM{a0 a1 w R}(h:asH a0 a1 w R):aK pg NO #[a0,a1] w R:=
 lB (ann:=NU) Tryz.f89 KS [a0,a1] SN 78 TryzM.mixed Tryz.func89 (bZ 6 (Lk (TE (Rw R) 1 7 9) h (λg w h=>aE (bZ 1 (agU _ g w (Rt R) R (λg w h=>aE (lT h cO)) cO h))) cO))
def agC:FA:=⟨yX,λi=> .leaf ([],[]) []⟩
def alI:List ResultVar:=[.tmp 2]
noncomputable def adQ:Code:=aY Tryz.f90
def UU(R:K1) bF w:=
 aA pg (aD .eql 3 (.tmp 6) (.const (aOk 1)) bF (aOk 1)) w λb7 w=>
 bQ b7
  (R (aOk 31) w)
  (aK pg BY #[bF] w λc0 w=>
  aA pg (aV c0 0) w λc1 w=>
  aA pg (aV c0 1) w λc2 w=>
  aA pg (aV c0 2) w λc3 w=>
  aA pg (dD .len #[117] 3 [c3]) w λc6 w=>
  aA pg (aD .add 3 aG aG c1 c6) w λc7 w=>
  aA pg (aD .sub 3 aG aG c7 (aOk 1)) w λc8 w=>
  R c8 w)
def agS a0 w(R:K1):=
 UU R a0 w
theorem adU{a0 w R}(h:agS a0 w R):aK pg yX #[a0] w R:=
 lB (ann:=agC) Tryz.f90 adQ [a0] alI 19 TryzM.mixed Tryz.func90 (lT h cO)
def Zt:FA:=⟨Cx,λi=> .leaf ([],[]) []⟩
def afF:List ResultVar:=[.cell 2 162]
noncomputable def Xy:Code:=aY Tryz.f91
def P7 (R:K1) bF w:=
 aA pg (bG 162) w λb2 w=>
 aA pg (aD .eql 3 (.tmp 6) (.const (aOk 0)) bF (aOk 0)) w λb8 w=>
 bQ b8
  (aA pg (aH 190 (.pointer (some ⟨0,0,none⟩))) w λb9 w=>
  aA pg (bG 190) w λl_3 w=>
  aA pg (aM 190 l_3 b9) w λ_u w=>
  aA pg (bP 190 l_3 none none none) w λc0 w=>
  aA pg (bH 162 [(0,(aOk 6)),(1,c0)]) w λc1 w=>
  aA pg (aM 162 b2 c1) w λ_u w=>
  vU pg 162 b2 w λr0=>R r0 w)
  (aA pg (aD .eql 3 (.tmp 6) (.const (aOk 1)) bF (aOk 1)) w λc3 w=>
  bQ c3
   (aA pg (aH 191 (.pointer (some ⟨1,0,none⟩))) w λc4 w=>
   aA pg (bG 191) w λl_4 w=>
   aA pg (aM 191 l_4 c4) w λ_u w=>
   aA pg (bP 191 l_4 none none none) w λc5 w=>
   aA pg (bH 162 [(0,(aOk 5)),(1,c5)]) w λc6 w=>
   aA pg (aM 162 b2 c6) w λ_u w=>
   vU pg 162 b2 w λr0=>R r0 w)
   (aA pg (aD .eql 3 (.tmp 6) (.const (aOk 2)) bF (aOk 2)) w λc8 w=>
   bQ c8
    (aA pg (aH 192 (.pointer (some ⟨2,0,none⟩))) w λc9 w=>
    aA pg (bG 192) w λl_5 w=>
    aA pg (aM 192 l_5 c9) w λ_u w=>
    aA pg (bP 192 l_5 none none none) w λd0 w=>
    aA pg (bH 162 [(0,(aOk 6)),(1,d0)]) w λd1 w=>
    aA pg (aM 162 b2 d1) w λ_u w=>
    vU pg 162 b2 w λr0=>R r0 w)
    (aA pg (bH 162 []) w λd2 w=>
    aA pg (aM 162 b2 d2) w λ_u w=>
    vU pg 162 b2 w λr0=>R r0 w)))
def Y1 a0 w(R:K1):=
 P7 R a0 w
theorem Y2 {a0 w R}(h:Y1 a0 w R):aK pg Cx #[a0] w R:=
 lB (ann:=Zt) Tryz.f91 Xy [a0] afF 23 TryzM.mixed Tryz.func91 (lT h cO)
def arW:FA:=⟨H2,λi=> .leaf ([],[]) []⟩
def azE:List ResultVar:=[.cell 2 106]
noncomputable def aoD:Code:=aY Tryz.f92
def ahJ(R:K1) aEY w:=
 aA pg (bG 106) w λb2 w=>
 aA pg (bH 194 [(0,aEY)]) w λb4 w=>
 aA pg (bT 104 1 [(0,b4)]) w λb5 w=>
 aA pg (bH 106 [(1,b5)]) w λb6 w=>
 aA pg (aM 106 b2 b6) w λ_u w=>
 vU pg 106 b2 w λr0=>R r0 w
def aAE a0 w(R:K1):=
 ahJ R a0 w
theorem aoU{a0 w R}(h:aAE a0 w R):aK pg H2 #[a0] w R:=
 lB (ann:=arW) Tryz.f92 aoD [a0] azE 7 TryzM.mixed Tryz.func92 (lT h cO)
def vG:FA:=⟨BZ,λi=>match Nat.beq i 3 with|true=> .split 3 5 (.perm [0,1,2,3,4,5,6] [(3,5)] ([3,5,6],[(0,3),(0,5),(1,3),(1,5),(4,5)]) (fz 3 (ft [1,2] (fz 1 (ft [0,3,4] (ft [] [])))))) (.perm [0,1,2,5,3,4,6] [(5,3)] ([3,4,6],[(0,3),(0,4),(1,3),(1,4),(2,3)]) (fz 3 (ft [0,1,2] (ft [2,3] (fz 1 (ft [] []))))))|false=>match Nat.beq i 16 with|true=> .leaf ([5,10],[(1,5),(2,5)]) (fz 5 (ft [2,3] (fz 4 (ft [] []))))|false=>match Nat.beq i 17 with|true=> .leaf ([13],[]) (fz 13 (ft [] []))|false=> .leaf ([],[]) []⟩
def aqE:List ResultVar:=[.cell 2 106,.tmp 3]
noncomputable def nE:Code:=aY Tryz.f93
def Ox(R:K1) b2 b4 w:=
 aA pg (aH 106 b4) w λn0 w=>
 aA pg (aM 106 b2 n0) w λ_u w=>
 vU pg 106 b2 w λr0=>R (.tuple #[r0,(aOk 0)]) w
def Oy(kn:K6) eZ b2 b4 eQ f2 f3 w:=
 aA pg (aD .add 3 aG aG f3 (aOk 1)) w λm9 w=>
 kn eZ b2 b4 eQ f2 m9 w
def Oz(kn:K6) eZ b2 b4 eQ x_9 aBS f2 f3 w:=
 (dr w)=(dr w)/\
 (dr w)=(dr w)/\
 (dr w)=(dr w)/\
 aA pg (dQ x_9) (dr w) λl9 w_=>w_=(dr w)/\
 aA pg (aJ 194 l9 1) (dr w) λm0 w_=>w_=(dr w)/\
 aA pg (aH 3 m0) (dr w) λm1 w_=>w_=(dr w)/\
 aA pg (aD .shl 3 aG aG aBS m1) (dr w) λm2 w_=>w_=(dr w)/\
 aA pg (aJ 106 b4 1) (dr w) λm3 w_=>w_=(dr w)/\
 aA pg (aH 104 m3) (dr w) λm4 w_=>w_=(dr w)/\
 aA pg (dD .len #[104] 3 [m4]) (dr w) λm5 w_=>w_=(dr w)/\
 aA pg (aD .sub 3 aG aG m2 m5) (dr w) λm6 w_=>w_=(dr w)/\
 aA pg (dQ x_9) (dr w) λm7 w_=>w_=(dr w)/\
 aA pg (aJ 194 m7 2) (dr w) λm8 w_=>w_=(dr w)/\
 aA pg (aM 3 m8 m6) (dr w) λ_u13 aIP=>
 kn eZ b2 b4 eQ f2 f3 aIP
def XT(kn:K8) eZ b2 b4 eQ x_9 aBS f2 f3 w:=
 (dr w)=(dr w)/\
 aA pg (aJ 162 eZ 0) (dr w) λj7 w_=>w_=(dr w)/\
 aA pg (aH 3 j7) (dr w) λj8 w_=>w_=(dr w)/\
 (dr w)=(dr w)/\
 aA pg (cH 3 50 aBS) (dr w) λl0 w_=>w_=(dr w)/\
 aK pg oZ #[l0] (dr w) λl1 Th=>
 (dR pg (aH 3 j7) j8 Th/\dR pg (aJ 162 eZ 0) j7 Th/\True)/\
 aA pg (aD .sub 3 aG aG j8 l1) Th λl2 w_=>w_=Th/\
 aA pg (aD .add 3 aG aG l2 (aOk 1)) Th λl3 w_=>w_=Th/\
 aA pg (dQ x_9) Th λl4 w_=>w_=Th/\
 aA pg (aJ 194 l4 1) Th λl5 w_=>w_=Th/\
 aA pg (aM 3 l5 l3) Th λ_u10 aIO=>
 kn eZ b2 b4 eQ x_9 aBS f2 f3 aIO
def OA(kn:K6) eZ b2 b4 eQ x_9 aBS f2 f3 w:=
 XT (Oz kn) eZ b2 b4 eQ x_9 aBS f2 f3 w
def XU(kn:K8) eZ b2 b4 eQ f2 f3 w:=
 aA pg (aJ 106 b4 1) w λf6 w=>
 aA pg (aH 104 f6) w λf7 w=>
 aA pg (aO 104 f7 f3) w λf9 w=>
 aA pg (dQ f9) w λi2 w=>
 aA pg (aJ 194 i2 0) w λi3 w=>
 aA pg (aH 5 i3) w λi4 w=>
 aA pg (aO 117 eQ i4) w λi5 w=>
 aA pg (aH 3 i5) w λi6 w=>
 aA pg (dQ f9) w λi9 w=>
 aA pg (aJ 194 i9 0) w λj0 w=>
 aA pg (aH 5 j0) w λj1 w=>
 aA pg (aO 117 eQ j1) w λj2 w=>
 aA pg (aH 3 j2) w λj3 w=>
 aA pg (aD .add 3 aG aG j3 (aOk 1)) w λj4 w=>
 aA pg (aO 117 eQ j1) w λj5 w=>
 aA pg (aM 3 j5 j4) w λ_u w=>
 kn eZ b2 b4 eQ f9 i6 f2 f3 w
def OB(kn:K6) eZ b2 b4 eQ f2 f3 w:=
 XU (OA kn) eZ b2 b4 eQ f2 f3 w
def HO(kn:K6) eZ b2 b4 eQ f2 f3 w:=
 OB (Oy kn) eZ b2 b4 eQ f2 f3 w
theorem aeB(kn:K6)(hn:N6 Q kn 1 2 4 5 42 43)(h:OB kn (g 1) (g 2) (g 4) (g 5) (g 42) (g 43) w):cP pg vG (aQ 1 (aI 2 (bI (bI (aI 1 (aQ 1 (aI 1 (aI 1 (aI 3 nE))))))))) Q g w:=
 qM 3 (bZ 4 (eL (Mq8 (OA kn) 1 2 4 5 9 10 42 43) h (λg w h=>aE (bZ 1 (eL (Mq8 (Oz kn) 1 2 4 5 9 10 42 43) h (λg w h=>aE (eL _ h hn)))))))
def U9 (kn:K6)(k2:K2) eZ b2 b4 eQ f2 f3 w:=
 aA pg (aD .lss 3 aG aG f3 f2) w λf4 w=>
 bQ f4
  (kn eZ b2 b4 eQ f2 f3 w)
  (k2 b2 b4 w)
def Lq(kn:K6)(k2:K2) eZ b2 b4 eQ f2 f3 w:=
 U9 (HO kn) k2 eZ b2 b4 eQ f2 f3 w
def FF(k2:K2) eZ b2 b4 eQ f2 f3 w:=
 aX (λ(X:aOj->K0) (t:aOj) (w:aOi)=>Lq (λ_ _ _ _ _ f3 w=>X f3 w) k2 eZ b2 b4 eQ f2 t w) f3 w
theorem ZV(k2:K2)(h2:E2 Q k2 2 2 4)(h:FF k2 (g 1) (g 2) (g 4) (g 5) (g 42) (g 43) w):cP pg vG (bI (aI 1 (aQ 1 (aI 1 (aI 1 (aI 3 nE)))))) Q g w:=by
 refine AL (λg:Env=>g 43) (λX t w=>Lq (λ_ _ _ _ _ f3 w=>X f3 w) k2 (g 1) (g 2) (g 4) (g 5) (g 42) t w) h (λX g1 w1 ha hL=> ?_)
 rw[<-cI 1 ha,<-cI 2 ha,<-cI 4 ha,<-cI 5 ha,<-cI 42 ha]at hL
 exact(bZ 2 (zK [(2,(Kf k2 2 4))] (kr:=no) (TS (HO (λ_ _ _ _ _ f3 w=>X f3 w)) 1 2 4 5 42 43) hL (λg w h=>aE (bZ 1 (aeB _ g w (Oy (λ_ _ _ _ _ f3 w=>X f3 w)) (λg w h=>aE (eL (TS (λ_ _ _ _ _ f3 w=>X f3 w) 1 2 4 5 42 43) h cO)) h))) DN ⟨h2,trivial⟩))
def Va(kn:K6) eZ b2 b4 eQ w:=
 aA pg (aJ 106 b4 1) w λf0 w=>
 aA pg (aH 104 f0) w λf1 w=>
 aA pg (dD .len #[104] 3 [f1]) w λf2 w=>
 kn eZ b2 b4 eQ f2 (aOk 0) w
def Lr(kn:K2) eZ b2 b4 eQ w:=
 Va (FF kn) eZ b2 b4 eQ w
def FG(R:K1) eZ b2 b4 eQ w:=
 Lr (Ox R) eZ b2 b4 eQ w
theorem ZW(kn:K2)(hn:N2 Q kn 2 4)(h:Lr kn (g 1) (g 2) (g 4) (g 5) w):cP pg vG (aQ 1 (aI 1 (aI 1 (aI 3 nE)))) Q g w:=
 bZ 1 (eL (TS (FF kn) 1 2 4 5 42 43) h (λg w h=>aE (qM 2 (ZV _ g w kn hn h))))
def FI(kn:K7)(k0:K4) eZ b2 b4 eQ d5 d6 d7 w:=
 aA pg (aD .lss 3 aG aG d7 d6) w λd8 w=>
 bQ d8
  (aA pg (aO 117 d5 d7) w λe0 w=>
  aA pg (aH 3 e0) w λe1 w=>
  aA pg (sUn .neg e1) w λe6 w=>
  aA pg (dD .max #[3,3] 3 [e1,e6]) w λe7 w=>
  aA pg (aO 117 eQ d7) w λe8 w=>
  aA pg (aM 3 e8 e7) w λ_u w=>
  aA pg (aD .add 3 aG aG d7 (aOk 1)) w λe9 w=>
  kn eZ b2 b4 eQ d5 d6 e9 w)
  (k0 eZ b2 b4 eQ w)
def FJ(k0:K4) eZ b2 b4 eQ d5 d6 d7 w:=
 aX (λ(X:aOj->K0) (t:aOj) (w:aOi)=>FI (λ_ _ _ _ _ _ d7 w=>X d7 w) k0 eZ b2 b4 eQ d5 d6 t w) d7 w
theorem ZX(k0:K4)(h0:E4 Q k0 0 1 2 4 5)(h:FJ k0 (g 1) (g 2) (g 4) (g 5) (g 25) (g 26) (g 27) w):cP pg vG (bI (aI 1 (aQ 1 (aI 1 (aI 3 nE))))) Q g w:=by
 refine AL (λg:Env=>g 27) (λX t w=>FI (λ_ _ _ _ _ _ d7 w=>X d7 w) k0 (g 1) (g 2) (g 4) (g 5) (g 25) (g 26) t w) h (λX g1 w1 ha hL=> ?_)
 rw[<-cI 1 ha,<-cI 2 ha,<-cI 4 ha,<-cI 5 ha,<-cI 25 ha,<-cI 26 ha]at hL
 exact(zK [(0,(AK k0 1 2 4 5))] (kr:=no) (JW (λ_ _ _ _ _ _ d7 w=>X d7 w) 1 2 4 5 25 26 27) hL cO DN ⟨h0,trivial⟩)
def Vb(kn:K7) eZ b2 b4 eQ w:=
 aA pg (aJ 162 eZ 1) w λd4 w=>
 aA pg (aH 117 d4) w λd5 w=>
 aA pg (dD .len #[117] 3 [d5]) w λd6 w=>
 kn eZ b2 b4 eQ d5 d6 (aOk 0) w
def Ls(kn:K4) eZ b2 b4 eQ w:=
 Vb (FJ kn) eZ b2 b4 eQ w
def Lt(R:K1) eZ b2 b4 eQ w:=
 Ls (FG R) eZ b2 b4 eQ w
theorem ZY(kn:K4)(hn:N4 Q kn 1 2 4 5)(h:Ls kn (g 1) (g 2) (g 4) (g 5) w):cP pg vG (aQ 1 (aI 1 (aI 3 nE))) Q g w:=
 bZ 1 (eL (JW (FJ kn) 1 2 4 5 25 26 27) h (λg w h=>aE (qM 0 (ZX _ g w kn hn h))))
def Vc(kn:K4) eZ b2 b4 w:=
 aA pg (aJ 162 eZ 1) w λd0 w=>
 aA pg (aH 117 d0) w λd1 w=>
 aA pg (dD .len #[117] 3 [d1]) w λd2 w=>
 aA pg (iS 117 d2 d2) w λd3 w=>
 kn eZ b2 b4 d3 w
def AV(R:K1) eZ b2 b4 w:=
 Vc (Lt R) eZ b2 b4 w
def Vd(kn:K3)(R:K1) c_0 w:=
 aA pg (A0 162 c_0) w λeZ w=>
 aA pg (bG 106) w λb2 w=>
 aA pg (aH 162 eZ) w λc1 w=>
 aK pg Ct #[c1,(aOk 15)] w λc2 w=>
 aA pg (aD .neq 24 (.tmp 12) (.const (aOk 0)) c2 (aOk 0)) w λc3 w=>
 bQ c3
  (aA pg (bH 106 []) w λc4 w=>
  aA pg (aM 106 b2 c4) w λ_u w=>
  vU pg 106 b2 w λr0=>R (.tuple #[r0,(aOk 1)]) w)
  (Ord (apU BZ 3 (Jl 3 nE) 3 5 w)
   (aA pg (aJ 162 eZ 0) (dr w) λc5 w_=>w_=(dr w)/\
   aA pg (aH 3 c5) (dr w) λc6 w_=>w_=(dr w)/\
   aA pg (aH 162 eZ) (dr w) λc7 w_=>w_=(dr w)/\
   aK pg Cp #[c7] (dr w) λc8 WV=>
   (dR pg (aH 3 c5) c6 WV/\dR pg (aJ 162 eZ 0) c5 WV/\True)/\
   aA pg (bH 106 [(0,c6),(1,c8)]) WV λc9 w_=>w_=WV/\
   aA pg (bG 106) WV λb4 aGU=>
   (dR pg (bH 106 [(0,c6),(1,c8)]) c9 aGU/\dR pg (aH 3 c5) c6 aGU/\dR pg (aJ 162 eZ 0) c5 aGU/\True)/\
   aA pg (aM 106 b4 c9) aGU λ_u6 azT=>
   kn eZ b2 b4 azT)
   (aA pg (aJ 162 eZ 0) (dr w) λc5 w_=>w_=(dr w)/\
   aA pg (aH 3 c5) (dr w) λc6 w_=>w_=(dr w)/\
   aA pg (aH 162 eZ) (dr w) λc7 w_=>w_=(dr w)/\
   aA pg (bG 106) (dr w) λb4 WV=>
   (dR pg (aH 162 eZ) c7 WV/\dR pg (aH 3 c5) c6 WV/\dR pg (aJ 162 eZ 0) c5 WV/\True)/\
   aK pg Cp #[c7] WV λc8 Tj=>
   (dR pg (aH 3 c5) c6 Tj/\dR pg (aJ 162 eZ 0) c5 Tj/\True)/\
   aA pg (bH 106 [(0,c6),(1,c8)]) Tj λc9 w_=>w_=Tj/\
   aA pg (aM 106 b4 c9) Tj λ_u6 azT=>
   kn eZ b2 b4 azT))
def Ve(R:K1) c_0 w:=
 Vd (AV R) R c_0 w
def amN a0 w(R:K1):=
 Ve R a0 w
theorem ahH{a0 w R}(h:amN a0 w R):aK pg BZ #[a0] w R:=
 lB (ann:=vG) Tryz.f93 nE [a0] aqE 91 TryzM.mixed Tryz.func93 (bZ 3 (Lk (TE (AV R) 1 2 4) h (λg w h=>aE (bZ 1 (eL (AK (Lt R) 1 2 4 5) h (λg w h=>aE (bZ 1 (ZY _ g w (FG R) (λg w h=>aE (bZ 1 (ZW _ g w (Ox R) (λg w h=>aE (lT h cO)) h))) h)))))) cO))
def AO:FA:=⟨B1,λi=>match Nat.beq i 22 with|true=> .leaf ([],[]) (fz 11 [])|false=> .leaf ([],[]) []⟩
def aqF:List ResultVar:=[.cell 4 162,.tmp 5]
noncomputable def yC:Code:=aY Tryz.f94
def HS(R:K1) b4 GI gV cF w:=
 aA pg (aJ 162 GI 1) w λq0 w=>
 aA pg (aH 117 q0) w λq1 w=>
 aA pg (aO 117 q1 cF) w λq3 w=>
 aA pg (aH 3 q3) w λq4 w=>
 aA pg (aD .add 3 aG aG q4 gV) w λq6 w=>
 aA pg (aO 117 q1 cF) w λq7 w=>
 aA pg (aM 3 q7 q6) w λ_u w=>
 aA pg (aH 162 GI) w λq8 w=>
 aA pg (aM 162 b4 q8) w λ_u w=>
 vU pg 162 b4 w λr0=>R (.tuple #[r0,(aOk 0)]) w
def OM(kn:Zg) eN b4 gH b7 GI gV cF l8 l9 m0 w:=
 aA pg (aD .add 3 aG aG m0 (aOk 1)) w λp9 w=>
 kn eN b4 gH b7 GI gV cF l8 l9 p9 w
def Yv(kn:Zg)(k2:K4) eN b4 gH b7 GI gV cF l8 l9 m0 w:=
 aA pg (aD .lss 3 aG aG m0 l9) w λm1 w=>
 bQ m1
  (aA pg (aO 128 l8 m0) w λm3 w=>
  aA pg (aH 38 m3) w λm4 w=>
  aA pg (aD .eql 38 (.tmp 85) (.const (.int .u32 0)) m4 (.int .u32 0)) w λm6 w=>
  bQ m6
   (kn eN b4 gH b7 GI gV cF l8 l9 m0 w)
   (aA pg (cH 38 32 m4) w λm8 w=>
   aA pg (aD .shl 3 aG aG (aOk 1) eN) w λn0 w=>
   aA pg (aD .sub 3 aG aG n0 b7) w λn2 w=>
   aA pg (cH 3 32 n2) w λn3 w=>
   aA pg (aD .mul 32 aG aG m8 n3) w λn4 w=>
   aA pg (aD .quo 32 aG aG n4 gH) w λn6 w=>
   aA pg (cH 32 3 n6) w λn7 w=>
   aA pg (aJ 162 GI 1) w λn8 w=>
   aA pg (aH 117 n8) w λn9 w=>
   aA pg (aD .add 3 aG aG (aOk 1) n7) w λo2 w=>
   aA pg (aO 117 n9 m0) w λo3 w=>
   aA pg (aM 3 o3 o2) w λ_u w=>
   aA pg (aD .sub 3 aG aG gV n7) w λo6 w=>
   aA pg (aJ 162 GI 1) (dr w) λo7 w_=>w_=(dr w)/\
   aA pg (aH 117 o7) (dr w) λo8 w_=>w_=(dr w)/\
   (dr w)=(dr w)/\
   aA pg (aO 117 o8 m0) (dr w) λp0 w_=>w_=(dr w)/\
   aA pg (aH 3 p0) (dr w) λp1 w_=>w_=(dr w)/\
   aA pg (aJ 162 GI 1) (dr w) λp2 w_=>w_=(dr w)/\
   aA pg (aH 117 p2) (dr w) λp3 w_=>w_=(dr w)/\
   (dr w)=(dr w)/\
   aA pg (aO 117 p3 cF) (dr w) λp5 w_=>w_=(dr w)/\
   aA pg (aH 3 p5) (dr w) λp6 w_=>w_=(dr w)/\
   aA pg (aD .gtr 3 aG aG p1 p6) (dr w) λp7 w_=>w_=(dr w)/\
   bQ p7
    (kn eN b4 gH b7 GI o6 m0 l8 l9 m0 (dr w))
    (kn eN b4 gH b7 GI o6 cF l8 l9 m0 (dr w))))
  (k2 b4 GI gV cF w)
def ON(kn:Zg)(k2:K4) eN b4 gH b7 GI gV cF l8 l9 m0 w:=
 Yv (OM kn) k2 eN b4 gH b7 GI gV cF l8 l9 m0 w
def HU(k2:K4) eN b4 gH b7 GI gV cF l8 l9 m0 w:=
 aX (λ(X:(aOj×aOj×aOj)->K0) (t:aOj×aOj×aOj) (w:aOi)=>ON (λ_ _ _ _ _ gV cF _ _ m0 w=>X (gV,cF,m0) w) k2 eN b4 gH b7 GI t.1 t.2.1 l8 l9 t.2.2 w) (gV,cF,m0) w
theorem aeR(k2:K4)(h2:E4 Q k2 2 4 11 12 13)(h:HU k2 (g 1) (g 4) (g 6) (g 7) (g 11) (g 12) (g 13) (g 78) (g 79) (g 80) w):cP pg AO (bI (aI 1 (aQ 1 (aI 4 (aI 1 (aI 3 yC)))))) Q g w:=by
 refine AL (λg:Env=>(g 12,g 13,g 80)) (λX t w=>ON (λ_ _ _ _ _ gV cF _ _ m0 w=>X (gV,cF,m0) w) k2 (g 1) (g 4) (g 6) (g 7) (g 11) t.1 t.2.1 (g 78) (g 79) t.2.2 w) h (λX g1 w1 ha hL=> ?_)
 rw[<-cI 1 ha,<-cI 4 ha,<-cI 6 ha,<-cI 7 ha,<-cI 11 ha,<-cI 78 ha,<-cI 79 ha]at hL
 exact(bZ 3 (zK [(2,(AK k2 4 11 12 13))] (kr:=no) (Xc (OM (λ_ _ _ _ _ gV cF _ _ m0 w=>X (gV,cF,m0) w)) 1 4 6 7 11 12 13 78 79 80) hL (λg w h=>aE (eL (Xc (λ_ _ _ _ _ gV cF _ _ m0 w=>X (gV,cF,m0) w) 1 4 6 7 11 12 13 78 79 80) h cO)) DN ⟨h2,trivial⟩))
def Yw(kn:Zg) aL eN b4 gH b7 cK GI gV cF w:=
 aA pg (aD .add 3 aG aG cK (aOk 1)) w λl7 w=>
 aA pg (bP 128 aL none (some l7) none) w λl8 w=>
 aA pg (dD .len #[128] 3 [l8]) w λl9 w=>
 kn eN b4 gH b7 GI gV cF l8 l9 (aOk 0) w
def OO(kn:K4) aL eN b4 gH b7 cK GI gV cF w:=
 Yw (HU kn) aL eN b4 gH b7 cK GI gV cF w
def HV(R:K1) aL eN b4 gH b7 cK GI gV cF w:=
 OO (HS R) aL eN b4 gH b7 cK GI gV cF w
theorem aeS(kn:K4)(hn:N4 Q kn 4 11 12 13)(h:OO kn (g 0) (g 1) (g 4) (g 6) (g 7) (g 8) (g 11) (g 12) (g 13) w):cP pg AO (aQ 1 (aI 4 (aI 1 (aI 3 yC)))) Q g w:=
 bZ 1 (eL (Xc (HU kn) 1 4 6 7 11 12 13 78 79 80) h (λg w h=>aE (qM 2 (aeR _ g w kn hn h))))
def Vq(kn:K9)(R:K1) aL eN b4 gH b7 cK w:=
 aA pg (aD .lss 3 aG aG eN (aOk 5)) w λe5 w=>
 Gd (bK e5 false) (λK=>K eN w) w λe7 w=>
 Gd (bK e5 false) (λK=>aA pg (aD .gtr 3 aG aG e7 (aOk 15)) w K) w λe8 w=>
 aA pg (cD e5 (.bool true) e8) w λe9 w=>
 Gd (bK e9 false) (λK=>K aL w) w λf1 w=>
 Gd (bK e9 false) (λK=>aA pg (dD .len #[128] 3 [f1]) w K) w λf2 w=>
 Gd (bK e9 false) (λK=>aA pg (aD .lss 3 aG aG f2 (aOk 1)) w K) w λf3 w=>
 aA pg (cD e9 (.bool true) f3) w λf4 w=>
 Gd (bK f4 false) (λK=>K aL w) w λf6 w=>
 Gd (bK f4 false) (λK=>aA pg (dD .len #[128] 3 [f6]) w K) w λf7 w=>
 Gd (bK f4 false) (λK=>aA pg (aD .gtr 3 aG aG f7 (aOk 256)) w K) w λf8 w=>
 aA pg (cD f4 (.bool true) f8) w λf9 w=>
 Gd (bK f9 false) (λK=>K b7 w) w λi1 w=>
 Gd (bK f9 false) (λK=>aA pg (aD .lss 3 aG aG i1 (aOk 2)) w K) w λi2 w=>
 aA pg (cD f9 (.bool true) i2) w λi3 w=>
 Gd (bK i3 false) (λK=>K b7 w) w λi5 w=>
 Gd (bK i3 false) (λK=>K eN w) w λi6 w=>
 Gd (bK i3 false) (λK=>aA pg (aD .shl 3 aG aG (aOk 1) i6) w K) w λi7 w=>
 Gd (bK i3 false) (λK=>aA pg (aD .gtr 3 aG aG i5 i7) w K) w λi8 w=>
 aA pg (cD i3 (.bool true) i8) w λi9 w=>
 Gd (bK i9 false) (λK=>K gH w) w λj1 w=>
 Gd (bK i9 false) (λK=>aA pg (aD .gtr 32 aG aG j1 (.int .u64 2147483647)) w K) w λj2 w=>
 aA pg (cD i9 (.bool true) j2) w λj3 w=>
 bQ j3
  (aA pg (bH 162 []) w λj4 w=>
  aA pg (aM 162 b4 j4) w λ_u w=>
  vU pg 162 b4 w λr0=>R (.tuple #[r0,(aOk 1)]) w)
  (aA pg (aD .add 3 aG aG cK (aOk 1)) w λj7 w=>
  aA pg (iS 117 j7 j7) w λj8 w=>
  aA pg (bH 162 [(0,eN),(1,j8)]) w λj9 w=>
  aA pg (bG 162) w λGI w=>
  aA pg (aM 162 GI j9) w λ_u w=>
  aA pg (aD .shl 3 aG aG (aOk 1) eN) w λl1 w=>
  aA pg (aD .sub 3 aG aG l1 b7) w λl3 w=>
  kn aL eN b4 gH b7 cK GI l3 cK w)
def FO(R:K1) aL eN b4 gH b7 cK w:=
 Vq (HV R) R aL eN b4 gH b7 cK w
def FP(kn:K9) aL eN b4 gH b7 cK c7 c8 c9 w:=
 aA pg (aD .add 3 aG aG c9 (aOk 1)) w λe3 w=>
 kn aL eN b4 gH b7 cK c7 c8 e3 w
def Vr(kn:K9)(k0:K6) aL eN b4 gH b7 cK c7 c8 c9 w:=
 aA pg (aD .lss 3 aG aG c9 c8) w λd0 w=>
 bQ d0
  (aA pg (aO 128 c7 c9) w λd2 w=>
  aA pg (aH 38 d2) w λd3 w=>
  aA pg (cH 38 32 d3) w λd6 w=>
  aA pg (aD .add 32 aG aG gH d6) w λd7 w=>
  aA pg (aD .gtr 38 aG aG d3 (.int .u32 0)) w λd9 w=>
  bQ d9
   (aA pg (aD .add 3 aG aG b7 (aOk 1)) w λe1 w=>
   kn aL eN b4 d7 e1 c9 c7 c8 c9 w)
   (kn aL eN b4 d7 b7 cK c7 c8 c9 w))
  (k0 aL eN b4 gH b7 cK w)
def LI(kn:K9)(k0:K6) aL eN b4 gH b7 cK c7 c8 c9 w:=
 Vr (FP kn) k0 aL eN b4 gH b7 cK c7 c8 c9 w
def FQ(k0:K6) aL eN b4 gH b7 cK c7 c8 c9 w:=
 aX (λ(X:(aOj×aOj×aOj×aOj)->K0) (t:aOj×aOj×aOj×aOj) (w:aOi)=>LI (λ_ _ _ gH b7 cK _ _ c9 w=>X (gH,b7,cK,c9) w) k0 aL eN b4 t.1 t.2.1 t.2.2.1 c7 c8 t.2.2.2 w) (gH,b7,cK,c9) w
theorem aaH(k0:K6)(h0:E6 Q k0 0 0 1 4 6 7 8)(h:FQ k0 (g 0) (g 1) (g 4) (g 6) (g 7) (g 8) (g 17) (g 18) (g 19) w):cP pg AO (bI (aI 1 (aQ 1 (aI 3 yC)))) Q g w:=by
 refine AL (λg:Env=>(g 6,g 7,g 8,g 19)) (λX t w=>LI (λ_ _ _ gH b7 cK _ _ c9 w=>X (gH,b7,cK,c9) w) k0 (g 0) (g 1) (g 4) t.1 t.2.1 t.2.2.1 (g 17) (g 18) t.2.2.2 w) h (λX g1 w1 ha hL=> ?_)
 rw[<-cI 0 ha,<-cI 1 ha,<-cI 4 ha,<-cI 17 ha,<-cI 18 ha]at hL
 exact(bZ 3 (zK [(0,(TS k0 0 1 4 6 7 8))] (kr:=no) (Mq9 (FP (λ_ _ _ gH b7 cK _ _ c9 w=>X (gH,b7,cK,c9) w)) 0 1 4 6 7 8 17 18 19) hL (λg w h=>aE (eL (Mq9 (λ_ _ _ gH b7 cK _ _ c9 w=>X (gH,b7,cK,c9) w) 0 1 4 6 7 8 17 18 19) h cO)) DN ⟨h0,trivial⟩))
def Vs(kn:K9) aL eN b4 gH b7 cK w:=
 aA pg (dD .len #[128] 3 [aL]) w λc8 w=>
 kn aL eN b4 gH b7 cK aL c8 (aOk 0) w
def LJ(kn:K6) aL eN b4 gH b7 cK w:=
 Vs (FQ kn) aL eN b4 gH b7 cK w
def FR(R:K1) aL eN b4 gH b7 cK w:=
 LJ (FO R) aL eN b4 gH b7 cK w
theorem aaI(kn:K6)(hn:N6 Q kn 0 1 4 6 7 8)(h:LJ kn (g 0) (g 1) (g 4) (g 6) (g 7) (g 8) w):cP pg AO (aQ 1 (aI 3 yC)) Q g w:=
 bZ 1 (eL (Mq9 (FQ kn) 0 1 4 6 7 8 17 18 19) h (λg w h=>aE (qM 0 (aaH _ g w kn hn h))))
def Vt(kn:K6) aL eN w:=
 aA pg (bG 162) w λb4 w=>
 kn aL eN b4 (.int .u64 0) (aOk 0) (aOk 0) w
def Vu(R:K1) aL eN w:=
 Vt (FR R) aL eN w
def amV a0 a1 w(R:K1):=
 Vu R a0 a1 w
theorem aiF{a0 a1 w R}(h:amV a0 a1 w R):aK pg B1 #[a0,a1] w R:=
 lB (ann:=AO) Tryz.f94 yC [a0,a1] aqF 129 TryzM.mixed Tryz.func94 (bZ 3 (eL (TS (FR R) 0 1 4 6 7 8) h (λg w h=>aE (bZ 1 (aaI _ g w (FO R) (λg w h=>aE (bZ 4 (Lk (Mq9 (HV R) 0 1 4 6 7 8 11 12 13) h (λg w h=>aE (bZ 1 (aeS _ g w (HS R) (λg w h=>aE (lT h cO)) h))) cO))) h)))))
def Pm:FA:=⟨vF,λi=> .leaf ([],[]) []⟩
def S0:List ResultVar:=[.tmp 2]
noncomputable def My:Code:=aY Tryz.f95
def JE(R:K1) w:=
 R (aOk 0) w
def sS(kn:K0)(R:K1) b3 b4 w:=
 bQ b4
  (R (aOk 9) w)
  (aA pg (aD .eql 3 (.tmp 3) (.const (aOk 1)) b3 (aOk 1)) w λb8 w=>
  bQ b8
   (R (aOk 8) w)
   (kn w))
def Tb(kn:K2) b3 w:=
 aA pg (aD .eql 3 (.tmp 3) (.const (aOk 0)) b3 (aOk 0)) w λb5 w=>
 bQ b5
  (kn b3 b5 w)
  (aA pg (aD .eql 3 (.tmp 3) (.const (aOk 2)) b3 (aOk 2)) w λb6 w=>
  kn b3 b6 w)
def JF(kn:K0)(R:K1) b3 w:=
 Tb (sS kn R) b3 w
def Tc(kn:K1) bF w:=
 kn bF w
def JG(kn:K0)(R:K1) bF w:=
 Tc (JF kn R) bF w
def JH(R:K1) bF w:=
 JG (JE R) R bF w
theorem YY(kn:K0)(R:K1)(hn:N0 Q kn)(hr:HR S0 R Q)(h:JG kn R (g 0) w):cP pg Pm (aQ 1 (aI 1 My)) Q g w:=
 bZ 1 (eL (TR (JF kn R) 3) h (λg w h=>aE (qM 0 (bZ 1 (eL (Kf (sS kn R) 3 4) h (λg w h=>aE (Lk _ h hn hr)))))))
def Td(kn:K1) bF w:=
 kn bF w
def P2 (R:K1) bF w:=
 Td (JH R) bF w
def adB a0 w(R:K1):=
 P2 R a0 w
theorem abJ{a0 w R}(h:adB a0 w R):aK pg vF #[a0] w R:=
 lB (ann:=Pm) Tryz.f95 My [a0] S0 9 TryzM.mixed Tryz.func95 (bZ 1 (eL (TR (JH R) 0) h (λg w h=>aE (bZ 1 (YY _ g w (JE R) R (λg w h=>aE (lT h cO)) cO h)))))
def iE:FA:=⟨Cu,λi=> .leaf ([],[]) []⟩
def afD:List ResultVar:=[.tmp 2,.tmp 3]
noncomputable def gG:Code:=aY Tryz.f96
def Bk(R:K1) vQ w:=
 aK pg wP #[vQ] w λo7 w=>
 R (.tuple #[o7,(aOk 0)]) w
def Bm(kn:K4) eZ vQ cJ kR w:=
 aA pg (aD .add 3 aG aG kR (aOk 1)) w λe1 w=>
 kn eZ vQ cJ e1 w
def GX(kn:K4) eZ vQ cJ kR fX w:=
 aA pg (cH 3 32 fX) w λo4 w=>
 aK pg bX #[vQ,o4,(aOk 2)] w λo5 w=>
 kn eZ vQ cJ kR w
def GY(kn:K5)(k5:K5) eZ vQ cJ kR fX w:=
 aA pg (aD .geq 3 aG aG fX (aOk 3)) w λn7 w=>
 bQ n7
  (aK pg bX #[vQ,(.int .u64 3),(aOk 2)] w λo1 w=>
  aA pg (aD .sub 3 aG aG fX (aOk 3)) w λn9 w=>
  kn eZ vQ cJ kR n9 w)
  (k5 eZ vQ cJ kR fX w)
def Bn(k5:K5) eZ vQ cJ kR fX w:=
 aX (λ(X:aOj->K0) (t:aOj) (w:aOi)=>GY (λ_ _ _ _ fX w=>X fX w) k5 eZ vQ cJ kR t w) fX w
theorem Wu(k5:K5)(h5:E5 Q k5 5 1 4 5 6 11)(h:Bn k5 (g 1) (g 4) (g 5) (g 6) (g 11) w):cP pg iE (bI (aQ 1 (aI 1 (aI 1 (aI 3 (aI 5 (bI (aQ 1 (aI 1 (bI (bI (aI 1 (aQ 1 (aI 5 gG)))))))))))))) Q g w:=by
 refine AL (λg:Env=>g 11) (λX t w=>GY (λ_ _ _ _ fX w=>X fX w) k5 (g 1) (g 4) (g 5) (g 6) t w) h (λX g1 w1 ha hL=> ?_)
 rw[<-cI 1 ha,<-cI 4 ha,<-cI 5 ha,<-cI 6 ha]at hL
 exact(zK [(5,(NQ k5 1 4 5 6 11))] (kr:=no) (NQ (λ_ _ _ _ fX w=>X fX w) 1 4 5 6 11) hL cO DN ⟨h5,trivial⟩)
def Bo(kn:K4) eZ vQ cJ kR fX w:=
 Bn (GX kn) eZ vQ cJ kR fX w
theorem Wv(kn:K5)(hn:N5 Q kn 1 4 5 6 11)(h:Bn kn (g 1) (g 4) (g 5) (g 6) (g 11) w):cP pg iE (aQ 1 (aI 1 (aI 1 (aI 3 (aI 5 (bI (aQ 1 (aI 1 (bI (bI (aI 1 (aQ 1 (aI 5 gG))))))))))))) Q g w:=
 qM 5 (Wu _ g w kn hn h)
def PS(kn:K5) eZ vQ cJ kR fX w:=
 aA pg (aD .add 3 aG aG kR fX) w λn5 w=>
 kn eZ vQ cJ n5 fX w
def GZ(kn:K4) eZ vQ cJ kR fX w:=
 PS (Bo kn) eZ vQ cJ kR fX w
def EC(kn:K5)(k3:K5) eZ vQ cJ kR fX w:=
 aA pg (aJ 162 eZ 1) w λm2 w=>
 aA pg (aH 117 m2) w λm3 w=>
 aA pg (aD .add 3 aG aG kR (aOk 1)) w λm5 w=>
 aA pg (aD .add 3 aG aG m5 fX) w λm7 w=>
 aA pg (aO 117 m3 m7) w λm8 w=>
 aA pg (aH 3 m8) w λm9 w=>
 aA pg (aD .eql 3 (.tmp 89) (.const (aOk 0)) m9 (aOk 0)) w λn0 w=>
 bQ n0
  (aA pg (aD .add 3 aG aG fX (aOk 1)) w λn2 w=>
  kn eZ vQ cJ kR n2 w)
  (k3 eZ vQ cJ kR fX w)
def mV(k3:K5) eZ vQ cJ kR fX w:=
 aX (λ(X:aOj->K0) (t:aOj) (w:aOi)=>EC (λ_ _ _ _ fX w=>X fX w) k3 eZ vQ cJ kR t w) fX w
theorem Ut(k3:K5)(h3:E5 Q k3 3 1 4 5 6 11)(h:mV k3 (g 1) (g 4) (g 5) (g 6) (g 11) w):cP pg iE (bI (aQ 1 (aI 3 (aI 5 (bI (aQ 1 (aI 1 (bI (bI (aI 1 (aQ 1 (aI 5 gG)))))))))))) Q g w:=by
 refine AL (λg:Env=>g 11) (λX t w=>EC (λ_ _ _ _ fX w=>X fX w) k3 (g 1) (g 4) (g 5) (g 6) t w) h (λX g1 w1 ha hL=> ?_)
 rw[<-cI 1 ha,<-cI 4 ha,<-cI 5 ha,<-cI 6 ha]at hL
 exact(zK [(3,(NQ k3 1 4 5 6 11))] (kr:=no) (NQ (λ_ _ _ _ fX w=>X fX w) 1 4 5 6 11) hL cO DN ⟨h3,trivial⟩)
def ED(kn:K4) eZ vQ cJ kR fX w:=
 mV (GZ kn) eZ vQ cJ kR fX w
theorem Uu(kn:K5)(hn:N5 Q kn 1 4 5 6 11)(h:mV kn (g 1) (g 4) (g 5) (g 6) (g 11) w):cP pg iE (aQ 1 (aI 3 (aI 5 (bI (aQ 1 (aI 1 (bI (bI (aI 1 (aQ 1 (aI 5 gG))))))))))) Q g w:=
 qM 3 (Ut _ g w kn hn h)
def M8 (kn:K5)(k1:K4) eZ vQ cJ kR p_7 w:=
 aK pg rT #[p_7] w λl8 w=>
 aA pg (aD .sub 3 aG aG cJ l8) w λl9 w=>
 aA pg (aD .neq 3 (.tmp 80) (.const (aOk 0)) p_7 (aOk 0)) w λm1 w=>
 bQ m1
  (k1 eZ vQ l9 kR w)
  (kn eZ vQ l9 kR (aOk 0) w)
def EE(kn:K4)(k1:K4) eZ vQ cJ kR p_7 w:=
 M8 (ED kn) k1 eZ vQ cJ kR p_7 w
def EF(kn:K5) eZ vQ cJ kR w:=
 aA pg (aJ 162 eZ 1) w λe2 w=>
 aA pg (aH 117 e2) w λe3 w=>
 aA pg (aO 117 e3 kR) w λe5 w=>
 aA pg (aH 3 e5) w λe6 w=>
 aA pg (aD .add 3 aG aG cJ (aOk 1)) w λe8 w=>
 aA pg (cH 3 50 e8) w λe9 w=>
 aK pg oZ #[e9] w λf0 w=>
 aA pg (aD .shl 3 aG aG (aOk 1) f0) w λf2 w=>
 aA pg (aD .sub 3 aG aG f2 (aOk 2)) w λf3 w=>
 aA pg (aD .sub 3 aG aG f3 cJ) w λf5 w=>
 aA pg (aD .add 3 aG aG e6 (aOk 1)) w λf7 w=>
 aA pg (aD .lss 3 aG aG f7 f5) w λi8 w=>
 bQ i8
  (aA pg (cH 3 32 f7) w λj1 w=>
  aA pg (aD .sub 3 aG aG f0 (aOk 1)) w λj3 w=>
  aK pg bX #[vQ,j1,j3] w λj4 w=>
  kn eZ vQ cJ kR e6 w)
  (aA pg (aD .sub 3 aG aG f0 (aOk 1)) w λj8 w=>
  aA pg (aD .shl 3 aG aG (aOk 1) j8) w λj9 w=>
  aA pg (aD .lss 3 aG aG f7 j9) w λl0 w=>
  bQ l0
   (aA pg (cH 3 32 f7) w λl3 w=>
   aK pg bX #[vQ,l3,f0] w λl5 w=>
   kn eZ vQ cJ kR e6 w)
   (aA pg (aD .add 3 aG aG f7 f5) w λi1 w=>
   aA pg (cH 3 32 i1) w λi2 w=>
   aK pg bX #[vQ,i2,f0] w λi4 w=>
   kn eZ vQ cJ kR e6 w))
def M9 (kn:K4)(k1:K4) eZ vQ cJ kR w:=
 EF (EE kn k1) eZ vQ cJ kR w
def EG(kn:K4) eZ vQ cJ kR w:=
 M9 kn kn eZ vQ cJ kR w
def EH(kn:K4) eZ vQ cJ kR w:=
 EG (Bm kn) eZ vQ cJ kR w
theorem Uv(kn:K4)(hn:N4 Q kn 1 4 5 6)(h:EG kn (g 1) (g 4) (g 5) (g 6) w):cP pg iE (aQ 1 (aI 1 (bI (bI (aI 1 (aQ 1 (aI 5 gG))))))) Q g w:=
 qM 1 (bZ 5 (eL (NQ (EE kn kn) 1 4 5 6 7) h (λg w h=>aE (bZ 3 (zK [(1,(AK kn 1 4 5 6))] (kr:=no) (NQ (ED kn) 1 4 5 6 11) h (λg w h=>aE (bZ 1 (Uu _ g w (GZ kn) (λg w h=>aE (bZ 1 (eL (NQ (Bo kn) 1 4 5 6 11) h (λg w h=>aE (bZ 1 (Wv _ g w (GX kn) (λg w h=>aE (eL _ h hn)) h)))))) h))) DN ⟨hn,trivial⟩)))))
def Na(kn:K4)(k0:K1) eZ vQ cJ kR w:=
 aA pg (aJ 162 eZ 1) w λd6 w=>
 aA pg (aH 117 d6) w λd7 w=>
 aA pg (dD .len #[117] 3 [d7]) w λd8 w=>
 aA pg (aD .lss 3 aG aG kR d8) w λd9 w=>
 bQ d9
  (kn eZ vQ cJ kR w)
  (k0 vQ w)
def EI(kn:K4)(k0:K1) eZ vQ cJ kR w:=
 Na (EH kn) k0 eZ vQ cJ kR w
def zM(k0:K1) eZ vQ cJ kR w:=
 aX (λ(X:(aOj×aOj)->K0) (t:aOj×aOj) (w:aOi)=>EI (λ_ _ cJ kR w=>X (cJ,kR) w) k0 eZ vQ t.1 t.2 w) (cJ,kR) w
theorem Uw(k0:K1)(h0:E1 Q k0 0 4)(h:zM k0 (g 1) (g 4) (g 5) (g 6) w):cP pg iE (bI (aI 1 (aQ 1 (aI 5 gG)))) Q g w:=by
 refine AL (λg:Env=>(g 5,g 6)) (λX t w=>EI (λ_ _ cJ kR w=>X (cJ,kR) w) k0 (g 1) (g 4) t.1 t.2 w) h (λX g1 w1 ha hL=> ?_)
 rw[<-cI 1 ha,<-cI 4 ha]at hL
 exact(bZ 1 (zK [(0,(TR k0 4))] (kr:=no) (AK (EH (λ_ _ cJ kR w=>X (cJ,kR) w)) 1 4 5 6) hL (λg w h=>aE (bZ 1 (Uv _ g w (Bm (λ_ _ cJ kR w=>X (cJ,kR) w)) (λg w h=>aE (eL (AK (λ_ _ cJ kR w=>X (cJ,kR) w) 1 4 5 6) h cO)) h))) DN ⟨h0,trivial⟩))
def Nb(kn:K4) eZ vQ cJ w:=
 kn eZ vQ cJ (aOk 0) w
def EJ(kn:K1) eZ vQ cJ w:=
 Nb (zM kn) eZ vQ cJ w
def zN(R:K1) eZ vQ cJ w:=
 EJ (Bk R) eZ vQ cJ w
theorem Ux(kn:K1)(hn:N1 Q kn 4)(h:EJ kn (g 1) (g 4) (g 5) w):cP pg iE (aQ 1 (aI 5 gG)) Q g w:=
 bZ 1 (eL (AK (zM kn) 1 4 5 6) h (λg w h=>aE (qM 0 (Uw _ g w kn hn h))))
def Nc(kn:K3)(R:K1) c_0 w:=
 aA pg (A0 162 c_0) w λeZ w=>
 aA pg (aH 162 eZ) w λc2 w=>
 aK pg Cv #[c2] w λc3 w=>
 aA pg (sUn .not c3) w λc4 w=>
 bQ c4
  (R (.tuple #[(.slice none 0 0),(aOk 1)]) w)
  (aK pg kI #[] w λc5 w=>
  aA pg (aJ 162 eZ 0) w λc7 w=>
  aA pg (aH 3 c7) w λc8 w=>
  aA pg (aD .sub 3 aG aG c8 (aOk 5)) w λc9 w=>
  aA pg (cH 3 32 c9) w λd0 w=>
  aK pg bX #[c5,d0,(aOk 4)] w λd1 w=>
  aA pg (aJ 162 eZ 0) w λd2 w=>
  aA pg (aH 3 d2) w λd3 w=>
  aA pg (aD .shl 3 aG aG (aOk 1) d3) w λd4 w=>
  kn eZ c5 d4 w)
def Nd(R:K1) c_0 w:=
 Nc (zN R) R c_0 w
def Yx a0 w(R:K1):=
 Nd R a0 w
theorem Yy{a0 w R}(h:Yx a0 w R):aK pg Cu #[a0] w R:=
 lB (ann:=iE) Tryz.f96 gG [a0] afD 108 TryzM.mixed Tryz.func96 (bZ 5 (Lk (TE (zN R) 1 4 5) h (λg w h=>aE (bZ 1 (Ux _ g w (Bk R) (λg w h=>aE (lT h cO)) h))) cO))
def VQ:FA:=⟨kI,λi=> .leaf ([],[]) []⟩
def YO:List ResultVar:=[.tmp 0]
noncomputable def T5:Code:=aY Tryz.f97
def CE(R:K1) w:=
 aA pg (bH 201 []) w λb1 w=>
 aA pg (A0 201 b1) w λb2 w=>
 R b2 w
def Ij w(R:K1):=
 CE R w
theorem G7 {w R}(h:Ij w R):aK pg kI #[] w R:=
 lB (ann:=VQ) Tryz.f97 T5 [] YO 3 TryzM.mixed Tryz.func97 (lT h cO)
def KQ:FA:=⟨Kc,λi=> .leaf ([],[]) []⟩
def OZ:List ResultVar:=[.tmp 4,.tmp 5]
noncomputable def Im:Code:=aY Tryz.f98
def OC(R:K1) w:=
 R (.tuple #[(aOk 0),(aOk 21)]) w
def OD(kn:K4)(k0:K0)(R:K1) qG b9 c0 c1 w:=
 aA pg (aD .lss 3 aG aG c1 c0) w λc2 w=>
 bQ c2
  (aA pg (aO 104 b9 c1) w λc4 w=>
  aA pg (aH 194 c4) w λc5 w=>
  aA pg (bG 194) w λx_7 w=>
  aA pg (aM 194 x_7 c5) w λ_u w=>
  aA pg (aJ 194 x_7 0) w λc6 w=>
  aA pg (aH 5 c6) w λc7 w=>
  aA pg (aD .eql 5 (.tmp 17) (.tmp 18) c7 qG) w λc9 w=>
  bQ c9
   (R (.tuple #[c1,(aOk 0)]) w)
   (aA pg (aD .add 3 aG aG c1 (aOk 1)) w λd1 w=>
   kn qG b9 c0 d1 w))
  (k0 w)
def HP(k0:K0)(R:K1) qG b9 c0 c1 w:=
 aX (λ(X:aOj->K0) (t:aOj) (w:aOi)=>OD (λ_ _ _ c1 w=>X c1 w) k0 R qG b9 c0 t w) c1 w
theorem aeC(k0:K0)(R:K1)(h0:E0 Q k0 0)(hr:HR OZ R Q)(h:HP k0 R (g 1) (g 9) (g 10) (g 11) w):cP pg KQ (bI (aI 1 (aQ 1 (aI 1 Im)))) Q g w:=by
 refine AL (λg:Env=>g 11) (λX t w=>OD (λ_ _ _ c1 w=>X c1 w) k0 R (g 1) (g 9) (g 10) t w) h (λX g1 w1 ha hL=> ?_)
 rw[<-cI 1 ha,<-cI 9 ha,<-cI 10 ha]at hL
 exact(zK [(0,(Mq0 k0))] (AK (λ_ _ _ c1 w=>X c1 w) 1 9 10 11) hL cO hr ⟨h0,trivial⟩)
def XV(kn:K4) qG b2 w:=
 aA pg (aJ 106 b2 1) w λb8 w=>
 aA pg (aH 104 b8) w λb9 w=>
 aA pg (dD .len #[104] 3 [b9]) w λc0 w=>
 kn qG b9 c0 (aOk 0) w
def OE(kn:K0)(R:K1) qG b2 w:=
 XV (HP kn R) qG b2 w
def OF(R:K1) qG b2 w:=
 OE (OC R) R qG b2 w
theorem aeD(kn:K0)(R:K1)(hn:N0 Q kn)(hr:HR OZ R Q)(h:OE kn R (g 1) (g 2) w):cP pg KQ (aQ 1 (aI 1 Im)) Q g w:=
 bZ 1 (eL (AK (HP kn R) 1 9 10 11) h (λg w h=>aE (qM 0 (aeC _ g w kn R hn hr h))))
def XW(kn:K2) b0 qG w:=
 aA pg (A0 106 b0) w λb2 w=>
 kn qG b2 w
def XX(R:K1) b0 qG w:=
 XW (OF R) b0 qG w
def amO a0 a1 w(R:K1):=
 XX R a0 a1 w
theorem ahI{a0 a1 w R}(h:amO a0 a1 w R):aK pg Kc #[a0,a1] w R:=
 lB (ann:=KQ) Tryz.f98 Im [a0,a1] OZ 22 TryzM.mixed Tryz.func98 (bZ 1 (eL (Kf (OF R) 1 2) h (λg w h=>aE (bZ 1 (aeD _ g w (OC R) R (λg w h=>aE (lT h cO)) cO h)))))
def Ic:FA:=⟨HJ,λi=>match Nat.beq i 8 with|true=> .leaf ([],[]) (fz 9 [])|false=> .leaf ([],[]) []⟩
def LQ:List ResultVar:=[.tmp 6,.tmp 7,.tmp 8,.tmp 9]
noncomputable def GL:Code:=aY Tryz.f99
def Lm(R:K1) w:=
 R (.tuple #[(aOk 0),(.int .u64 0),(aOk 0),(aOk 21)]) w
def Ln(kn:K5)(k0:K0)(R:K1) rJ qH d3 d4 d5 w:=
 aA pg (aD .lss 3 aG aG d5 d4) w λd6 w=>
 bQ d6
  (aA pg (aO 104 d3 d5) w λd8 w=>
  aA pg (aH 194 d8) w λd9 w=>
  aA pg (bG 194) w λaFt w=>
  aA pg (aM 194 aFt d9) w λ_u w=>
  aA pg (aJ 194 aFt 2) w λe1 w=>
  aA pg (aH 3 e1) w λe2 w=>
  aA pg (aD .sub 3 aG aG rJ e2) w λe3 w=>
  aA pg (aJ 194 aFt 0) w λe4 w=>
  aA pg (aH 5 e4) w λe5 w=>
  aA pg (aD .eql 5 (.tmp 35) (.tmp 36) e5 qH) w λe7 w=>
  Gd (bK e7 true) (λK=>K e3 w) w λe9 w=>
  Gd (bK e7 true) (λK=>aA pg (aD .geq 3 aG aG e9 (aOk 0)) w K) w λf0 w=>
  aA pg (cD e7 f0 (.bool false)) w λf1 w=>
  Gd (bK f1 true) (λK=>K e3 w) w λf3 w=>
  Gd (bK f1 true) (λK=>aA pg (aJ 194 aFt 1) w K) w λf4 w=>
  Gd (bK f1 true) (λK=>aA pg (aH 3 f4) w K) w λf5 w=>
  Gd (bK f1 true) (λK=>aA pg (aD .shl 3 aG aG (aOk 1) f5) w K) w λf6 w=>
  Gd (bK f1 true) (λK=>aA pg (aD .lss 3 aG aG f3 f6) w K) w λf7 w=>
  aA pg (cD f1 f7 (.bool false)) w λf8 w=>
  bQ f8
   ((dr w)=(dr w)/\
   (dr w)=(dr w)/\
   aA pg (cH 3 32 e3) (dr w) λi1 w_=>w_=(dr w)/\
   aA pg (aJ 194 aFt 1) (dr w) λi2 w_=>w_=(dr w)/\
   aA pg (aH 3 i2) (dr w) λi3 w_=>w_=(dr w)/\
   (dr w)=(dr w)/\
   (dr w)=(dr w)/\
   (dr w)=(dr w)/\
   (dr w)=(dr w)/\
   R (.tuple #[d5,i1,i3,(aOk 0)]) (dr w))
   (aA pg (aD .add 3 aG aG d5 (aOk 1)) w λi4 w=>
   kn rJ qH d3 d4 i4 w))
  (k0 w)
def FE(k0:K0)(R:K1) rJ qH d3 d4 d5 w:=
 aX (λ(X:aOj->K0) (t:aOj) (w:aOi)=>Ln (λ_ _ _ _ d5 w=>X d5 w) k0 R rJ qH d3 d4 t w) d5 w
theorem ZT(k0:K0)(R:K1)(h0:E0 Q k0 0)(hr:HR LQ R Q)(h:FE k0 R (g 1) (g 2) (g 23) (g 24) (g 25) w):cP pg Ic (bI (aI 1 (aQ 1 (aI 2 GL)))) Q g w:=by
 refine AL (λg:Env=>g 25) (λX t w=>Ln (λ_ _ _ _ d5 w=>X d5 w) k0 R (g 1) (g 2) (g 23) (g 24) t w) h (λX g1 w1 ha hL=> ?_)
 rw[<-cI 1 ha,<-cI 2 ha,<-cI 23 ha,<-cI 24 ha]at hL
 exact(zK [(0,(Mq0 k0))] (NQ (λ_ _ _ _ d5 w=>X d5 w) 1 2 23 24 25) hL cO hr ⟨h0,trivial⟩)
def U6 (kn:K5) rJ qH b3 w:=
 aA pg (aJ 106 b3 1) w λd2 w=>
 aA pg (aH 104 d2) w λd3 w=>
 aA pg (dD .len #[104] 3 [d3]) w λd4 w=>
 kn rJ qH d3 d4 (aOk 0) w
def Lo(kn:K0)(R:K1) rJ qH b3 w:=
 U6 (FE kn R) rJ qH b3 w
def Lp(R:K1) rJ qH b3 w:=
 Lo (Lm R) R rJ qH b3 w
theorem ZU(kn:K0)(R:K1)(hn:N0 Q kn)(hr:HR LQ R Q)(h:Lo kn R (g 1) (g 2) (g 3) w):cP pg Ic (aQ 1 (aI 2 GL)) Q g w:=
 bZ 1 (eL (NQ (FE kn R) 1 2 23 24 25) h (λg w h=>aE (qM 0 (ZT _ g w kn R hn hr h))))
def U7 (kn:K3)(R:K1) b0 rJ qH w:=
 aA pg (A0 106 b0) w λb3 w=>
 aA pg (aD .lss 3 aG aG rJ (aOk 0)) w λc4 w=>
 Gd (bK c4 false) (λK=>K rJ w) w λc6 w=>
 Gd (bK c4 false) (λK=>aA pg (aJ 106 b3 1) w K) w λc7 w=>
 Gd (bK c4 false) (λK=>aA pg (aH 104 c7) w K) w λc8 w=>
 Gd (bK c4 false) (λK=>aA pg (dD .len #[104] 3 [c8]) w K) w λc9 w=>
 Gd (bK c4 false) (λK=>aA pg (aD .geq 3 aG aG c6 c9) w K) w λd0 w=>
 aA pg (cD c4 (.bool true) d0) w λd1 w=>
 bQ d1
  (R (.tuple #[(aOk 0),(.int .u64 0),(aOk 0),(aOk 1)]) w)
  (kn rJ qH b3 w)
def U8 (R:K1) b0 rJ qH w:=
 U7 (Lp R) R b0 rJ qH w
def ahG a0 a1 a2 w(R:K1):=
 U8 R a0 a1 a2 w
theorem aeA{a0 a1 a2 w R}(h:ahG a0 a1 a2 w R):aK pg HJ #[a0,a1,a2] w R:=
 lB (ann:=Ic) Tryz.f99 GL [a0,a1,a2] LQ 55 TryzM.mixed Tryz.func99 (bZ 2 (Lk (TE (Lp R) 1 2 3) h (λg w h=>aE (bZ 1 (ZU _ g w (Lm R) R (λg w h=>aE (lT h cO)) cO h))) cO))
def vV:FA:=⟨bX,λi=>match Nat.beq i 6 with|true=> .leaf ([25],[]) (fz 25 (ft [] []))|false=> .leaf ([],[]) []⟩
def SM:List ResultVar:=[]
noncomputable def tH:Code:=aY Tryz.f100
def pO(kn:K4) DP NM c7 c8 w:=
 aA pg (aD .add 3 aG aG c8 (aOk 1)) w λj8 w=>
 kn DP NM c7 j8 w
def iF(kn:K4) DP NM kR c7 c8 w:=
 (dr w)=(dr w)/\
 aA pg (dQ DP) (dr w) λe7 w_=>w_=(dr w)/\
 aA pg (aJ 201 e7 0) (dr w) λe8 w_=>w_=(dr w)/\
 aA pg (aH 22 e8) (dr w) λe9 w_=>w_=(dr w)/\
 (dr w)=(dr w)/\
 aA pg (dQ DP) (dr w) λf1 w_=>w_=(dr w)/\
 aA pg (aJ 201 f1 1) (dr w) λf2 w_=>w_=(dr w)/\
 aA pg (aH 3 f2) (dr w) λf3 w_=>w_=(dr w)/\
 aA pg (aD .quo 3 aG aG f3 (aOk 8)) (dr w) λf4 w_=>w_=(dr w)/\
 aA pg (aO 22 e9 f4) (dr w) λf5 w_=>w_=(dr w)/\
 aA pg (aH 5 f5) (dr w) λf6 w_=>w_=(dr w)/\
 (dr w)=(dr w)/\
 (dr w)=(dr w)/\
 aA pg (cH 3 50 kR) (dr w) λf9 w_=>w_=(dr w)/\
 aA pg (aD .shr 32 aG aG NM f9) (dr w) λi0 w_=>w_=(dr w)/\
 aA pg (aD .and 32 aG aG i0 (.int .u64 1)) (dr w) λi1 w_=>w_=(dr w)/\
 aA pg (cH 32 5 i1) (dr w) λi2 w_=>w_=(dr w)/\
 (dr w)=(dr w)/\
 aA pg (dQ DP) (dr w) λi4 w_=>w_=(dr w)/\
 aA pg (aJ 201 i4 1) (dr w) λi5 w_=>w_=(dr w)/\
 aA pg (aH 3 i5) (dr w) λi6 w_=>w_=(dr w)/\
 aA pg (aD .rem 3 aG aG i6 (aOk 8)) (dr w) λi7 w_=>w_=(dr w)/\
 aA pg (aD .shl 5 aG aG i2 i7) (dr w) λi8 w_=>w_=(dr w)/\
 aA pg (aD .or 5 aG aG f6 i8) (dr w) λi9 w_=>w_=(dr w)/\
 aA pg (aO 22 e9 f4) (dr w) λj0 w_=>w_=(dr w)/\
 aA pg (aM 5 j0 i9) (dr w) λ_u25 aJ6=>
 aA pg (dQ DP) aJ6 λj2 w=>
 aA pg (aJ 201 j2 1) w λj3 w=>
 aA pg (aH 3 j3) w λj4 w=>
 aA pg (aD .add 3 aG aG j4 (aOk 1)) w λj5 w=>
 aA pg (dQ DP) w λj6 w=>
 aA pg (aJ 201 j6 1) w λj7 w=>
 aA pg (aM 3 j7 j5) w λ_u w=>
 kn DP NM c7 c8 w
def yA(kn:K5) DP NM c7 c8 w:=
 aA pg (dQ DP) w λd2 w=>
 aA pg (aJ 201 d2 1) w λd3 w=>
 aA pg (aH 3 d3) w λd4 w=>
 aA pg (aD .rem 3 aG aG d4 (aOk 8)) w λd5 w=>
 aA pg (aD .eql 3 (.tmp 25) (.const (aOk 0)) d5 (aOk 0)) w λd6 w=>
 bQ d6
  (aA pg (dQ DP) w λd9 w=>
  aA pg (aJ 201 d9 0) w λe0 w=>
  aA pg (aH 22 e0) w λe1 w=>
  aA pg (bT 22 1 [(0,(.int .u8 0))]) w λe2 w=>
  aA pg (dD .append #[22,22] 22 [e1,e2]) w λe3 w=>
  aA pg (dQ DP) w λe4 w=>
  aA pg (aJ 201 e4 0) w λe5 w=>
  aA pg (aM 22 e5 e3) w λ_u w=>
  kn DP NM c8 c7 c8 w)
  (kn DP NM c8 c7 c8 w)
def eU(kn:K4) DP NM c7 c8 w:=
 yA (iF kn) DP NM c7 c8 w
def pP(kn:K4) DP NM c7 c8 w:=
 eU (pO kn) DP NM c7 c8 w
theorem Mm(kn:K4)(hn:N4 Q kn 0 1 17 18)(h:eU kn (g 0) (g 1) (g 17) (g 18) w):cP pg vV (aQ 1 (aI 2 (bI (bI (aI 2 tH))))) Q g w:=
 qM 1 (bZ 2 (eL (NQ (iF kn) 0 1 6 17 18) h (λg w h=>aE (eL _ h hn))))
def yB(kn:K4)(k0:K0) DP NM c7 c8 w:=
 aA pg (aD .lss 3 aG aG c8 c7) w λc9 w=>
 bQ c9
  (kn DP NM c7 c8 w)
  (k0 w)
def pQ(kn:K4)(k0:K0) DP NM c7 c8 w:=
 yB (pP kn) k0 DP NM c7 c8 w
def kX(k0:K0) DP NM c7 c8 w:=
 aX (λ(X:aOj->K0) (t:aOj) (w:aOi)=>pQ (λ_ _ _ c8 w=>X c8 w) k0 DP NM c7 t w) c8 w
theorem Mn(k0:K0)(h0:E0 Q k0 0)(h:kX k0 (g 0) (g 1) (g 17) (g 18) w):cP pg vV (bI (aI 2 tH)) Q g w:=by
 refine AL (λg:Env=>g 18) (λX t w=>pQ (λ_ _ _ c8 w=>X c8 w) k0 (g 0) (g 1) (g 17) t w) h (λX g1 w1 ha hL=> ?_)
 rw[<-cI 0 ha,<-cI 1 ha,<-cI 17 ha]at hL
 exact(bZ 2 (zK [(0,(Mq0 k0))] (kr:=no) (AK (pP (λ_ _ _ c8 w=>X c8 w)) 0 1 17 18) hL (λg w h=>aE (bZ 1 (Mm _ g w (pO (λ_ _ _ c8 w=>X c8 w)) (λg w h=>aE (eL (AK (λ_ _ _ c8 w=>X c8 w) 0 1 17 18) h cO)) h))) DN ⟨h0,trivial⟩))
def vX(kn:K4)(R:K1) DP NM TJ w:=
 aA pg (aD .eql 170 (.tmp 7) (.const (.pointer none)) DP (.pointer none)) w λb8 w=>
 Gd (bK b8 false) (λK=>K TJ w) w λc0 w=>
 Gd (bK b8 false) (λK=>aA pg (aD .lss 3 aG aG c0 (aOk 1)) w K) w λc1 w=>
 aA pg (cD b8 (.bool true) c1) w λc2 w=>
 Gd (bK c2 false) (λK=>K TJ w) w λc4 w=>
 Gd (bK c2 false) (λK=>aA pg (aD .gtr 3 aG aG c4 (aOk 56)) w K) w λc5 w=>
 aA pg (cD c2 (.bool true) c5) w λc6 w=>
 bQ c6
  (R (.tuple #[]) w)
  (kn DP NM TJ (aOk 0) w)
def vY(kn:K0)(R:K1) DP NM TJ w:=
 vX (kX kn) R DP NM TJ w
def CF a0 a1 a2 w(R:K1):=
 vY (λw=>R (.tuple #[]) w) R a0 a1 a2 w
theorem CG{a0 a1 a2 w R}(h:CF a0 a1 a2 w R):aK pg bX #[a0,a1,a2] w R:=
 lB (ann:=vV) Tryz.f100 tH [a0,a1,a2] SM 69 TryzM.mixed Tryz.func100 (bZ 2 (Lk (AK (kX (λw=>R (.tuple #[]) w)) 0 1 17 18) h (λg w h=>aE (qM 0 (Mn _ g w (λw=>R (.tuple #[]) w) cO h))) cO))
def Ia:FA:=⟨HG,λi=>match Nat.beq i 17 with|true=> .leaf ([],[]) (fz 10 [])|false=> .leaf ([],[]) []⟩
def alH:List ResultVar:=[.tmp 4,.tmp 5,.tmp 6]
noncomputable def GJ:Code:=aY Tryz.f101
def KW(R:K1) nD zO mD zL w:=
 (dr w)=(dr w)/\
 (dr w)=(dr w)/\
 (dr w)=(dr w)/\
 (dr w)=(dr w)/\
 aA pg (aD .sub 3 aG aG nD zO) (dr w) λj8 w_=>w_=(dr w)/\
 aA pg (aO 117 zL j8) (dr w) λj9 w_=>w_=(dr w)/\
 aA pg (aH 3 j9) (dr w) λl0 w_=>w_=(dr w)/\
 (dr w)=(dr w)/\
 (dr w)=(dr w)/\
 (dr w)=(dr w)/\
 R (.tuple #[mD,l0,(aOk 0)]) (dr w)
def KX(kn:K7)(k1:K4) nD zO mD zL i3 i4 i5 w:=
 aA pg (aD .lss 3 aG aG i5 i4) w λi6 w=>
 bQ i6
  (aA pg (aO 117 i3 i5) w λi7 w=>
  aA pg (aH 3 i7) w λi8 w=>
  aA pg (aD .shl 38 aG aG (.int .u32 1) i8) w λj1 w=>
  aA pg (aD .add 38 aG aG mD j1) w λj2 w=>
  aA pg (aD .add 3 aG aG i5 (aOk 1)) w λj3 w=>
  kn nD zO j2 zL i3 i4 j3 w)
  (k1 nD zO mD zL w)
def Fx(k1:K4) nD zO mD zL i3 i4 i5 w:=
 aX (λ(X:(aOj×aOj)->K0) (t:aOj×aOj) (w:aOi)=>KX (λ_ _ mD _ _ _ i5 w=>X (mD,i5) w) k1 nD zO t.1 zL i3 i4 t.2 w) (mD,i5) w
theorem ZE(k1:K4)(h1:E4 Q k1 1 1 8 9 10)(h:Fx k1 (g 1) (g 8) (g 9) (g 10) (g 53) (g 54) (g 55) w):cP pg Ia (bI (aI 1 (aQ 1 (aI 5 GJ)))) Q g w:=by
 refine AL (λg:Env=>(g 9,g 55)) (λX t w=>KX (λ_ _ mD _ _ _ i5 w=>X (mD,i5) w) k1 (g 1) (g 8) t.1 (g 10) (g 53) (g 54) t.2 w) h (λX g1 w1 ha hL=> ?_)
 rw[<-cI 1 ha,<-cI 8 ha,<-cI 10 ha,<-cI 53 ha,<-cI 54 ha]at hL
 exact(zK [(1,(AK k1 1 8 9 10))] (kr:=no) (JW (λ_ _ mD _ _ _ i5 w=>X (mD,i5) w) 1 8 9 10 53 54 55) hL cO DN ⟨h1,trivial⟩)
def UR(kn:K7) nD zO mD zL w:=
 aA pg (aD .sub 3 aG aG nD zO) w λi2 w=>
 aA pg (bP 117 zL none (some i2) none) w λi3 w=>
 aA pg (dD .len #[117] 3 [i3]) w λi4 w=>
 kn nD zO mD zL i3 i4 (aOk 0) w
def KY(kn:K4) nD zO mD zL w:=
 UR (Fx kn) nD zO mD zL w
def KZ(R:K1) nD zO mD zL w:=
 KY (KW R) nD zO mD zL w
theorem ZF(kn:K4)(hn:N4 Q kn 1 8 9 10)(h:KY kn (g 1) (g 8) (g 9) (g 10) w):cP pg Ia (aQ 1 (aI 5 GJ)) Q g w:=
 bZ 1 (eL (JW (Fx kn) 1 8 9 10 53 54 55) h (λg w h=>aE (qM 1 (ZE _ g w kn hn h))))
def US(kn:K4)(R:K1) bF nD w:=
 aK pg yX #[bF] w λc4 w=>
 aA pg (aD .lss 3 aG aG c4 (aOk 0)) w λc7 w=>
 bQ c7
  (R (.tuple #[(.int .u32 0),(aOk 0),(aOk 1)]) w)
  (aA pg (aD .lss 3 aG aG nD (aOk 0)) w λd0 w=>
  Gd (bK d0 false) (λK=>K nD w) w λd2 w=>
  Gd (bK d0 false) (λK=>K c4 w) w λd3 w=>
  Gd (bK d0 false) (λK=>aA pg (aD .gtr 3 aG aG d2 d3) w K) w λd4 w=>
  aA pg (cD d0 (.bool true) d4) w λd5 w=>
  bQ d5
   (R (.tuple #[(.int .u32 0),(aOk 0),(aOk 17)]) w)
   (aA pg (aD .eql 3 (.tmp 27) (.const (aOk 1)) bF (aOk 1)) w λd8 w=>
   bQ d8
    (aA pg (aD .shl 38 aG aG (.int .u32 1) nD) w λe0 w=>
    R (.tuple #[e0,nD,(aOk 0)]) w)
    (aK pg BY #[bF] w λe4 w=>
    aA pg (aV e4 0) w λe5 w=>
    aA pg (aV e4 1) w λe6 w=>
    aA pg (aV e4 2) w λe7 w=>
    aA pg (aD .lss 3 aG aG nD e5) w λf0 w=>
    bQ f0
     (aA pg (cH 3 38 nD) w λf3 w=>
     aA pg (aD .add 38 aG aG e6 f3) w λf4 w=>
     R (.tuple #[f4,(aOk 0),(aOk 0)]) w)
     (aA pg (cH 3 38 e5) w λf7 w=>
     aA pg (aD .add 38 aG aG e6 f7) w λf8 w=>
     kn nD e5 f8 e7 w))))
def UT(R:K1) bF nD w:=
 US (KZ R) R bF nD w
def agR a0 a1 w(R:K1):=
 UT R a0 a1 w
theorem adT{a0 a1 w R}(h:agR a0 a1 w R):aK pg HG #[a0,a1] w R:=
 lB (ann:=Ia) Tryz.f101 GJ [a0,a1] alH 71 TryzM.mixed Tryz.func101 (bZ 5 (Lk (AK (KZ R) 1 8 9 10) h (λg w h=>aE (bZ 1 (ZF _ g w (KW R) (λg w h=>aE (lT h cO)) h))) cO))
def NT:FA:=⟨kS,λi=>match Nat.beq i 3 with|true=> .leaf ([4,10],[(4,6),(4,7),(4,8)]) (fz 4 (ft [] (fz 1 (fu [1] (fu [2] (fu [3] (fz 1 (ft [] (fz 1 [])))))))))|false=> .leaf ([],[]) []⟩
def QI:List ResultVar:=[.tmp 2]
noncomputable def Mr:Code:=aY Tryz.f102
def DT(R:K1) DP w:=
 aA pg (aD .eql 170 (.tmp 4) (.const (.pointer none)) DP (.pointer none)) w λb5 w=>
 bQ b5
  (R (.slice none 0 0) w)
  ((dr w)=(dr w)/\
  aA pg (dQ DP) (dr w) λb7 w_=>w_=(dr w)/\
  aA pg (aJ 201 b7 0) (dr w) λb8 w_=>w_=(dr w)/\
  aA pg (aH 22 b8) (dr w) λb9 w_=>w_=(dr w)/\
  aK pg gB #[b9] (dr w) λc0 Tj=>
  Tj=Tj/\
  aA pg (dQ DP) Tj λc2 w_=>w_=Tj/\
  (dR pg (dQ DP) c2 (dr w)/\True)/\
  aA pg (aJ 201 c2 1) Tj λc3 w_=>w_=Tj/\
  (dR pg (aJ 201 c2 1) c3 (dr w)/\True)/\
  aA pg (aH 3 c3) Tj λc4 w_=>w_=Tj/\
  (dR pg (aH 3 c3) c4 (dr w)/\True)/\
  aA pg (bH 201 [(0,c0),(1,c4)]) Tj λc5 w_=>w_=Tj/\
  aA pg (A0 201 c5) Tj λc6 aE9=>
  aE9=aE9/\
  aK pg bX #[c6,(.int .u64 1),(aOk 1)] aE9 λc8 w=>
  aA pg (dQ c6) w λd0 w=>
  aA pg (aJ 201 d0 0) w λd1 w=>
  aA pg (aH 22 d1) w λd2 w=>
  R d2 w)
def Ik a0 w(R:K1):=
 DT R a0 w
theorem Ml{a0 w R}(h:Ik a0 w R):aK pg kS #[a0] w R:=
 lB (ann:=NT) Tryz.f102 Mr [a0] QI 23 TryzM.mixed Tryz.func102 (lT h cO)
def Xi:FA:=⟨Bc,λi=> .leaf ([],[]) []⟩
def aaY:List ResultVar:=[.tmp 4,.tmp 5]
noncomputable def V5:Code:=aY Tryz.f103
def M5 (R:K1) fU y_1 w:=
 bQ (.bool false)
  (aA pg (cH 50 38 fU) w λc2 w=>
  aA pg (cH 50 38 y_1) w λc4 w=>
  aK pg Xa #[c2,c4] w λc5 w=>
  aA pg (aV c5 0) w λc6 w=>
  aA pg (aV c5 1) w λc7 w=>
  aA pg (cH 38 50 c6) w λc9 w=>
  aA pg (cH 38 50 c7) w λd1 w=>
  R (.tuple #[c9,d1]) w)
  (aK pg wT #[fU,y_1] w λd5 w=>
  aA pg (aV d5 0) w λd6 w=>
  aA pg (aV d5 1) w λd7 w=>
  R (.tuple #[d6,d7]) w)
def Vp a0 a1 w(R:K1):=
 M5 R a0 a1 w
theorem Wt{a0 a1 w R}(h:Vp a0 a1 w R):aK pg Bc #[a0,a1] w R:=
 lB (ann:=Xi) Tryz.f103 V5 [a0,a1] aaY 30 TryzM.mixed Tryz.func103 (lT h cO)
def T1:FA:=⟨pG,λi=> .leaf ([],[]) []⟩
def WH:List ResultVar:=[.tmp 2]
noncomputable def Rq:Code:=aY Tryz.f107
def tW(R:K1) fU TJ w:=
 aA pg (cH 32 5 fU) w λd1 w=>
 aA pg (HX 9 (.string ⟨#[0,1,2,2,3,3,3,3,4,4,4,4,4,4,4,4,5,5,5,5,5,5,5,5,5,5,5,5,5,5,5,5,6,6,6,6,6,6,6,6,6,6,6,6,6,6,6,6,6,6,6,6,6,6,6,6,6,6,6,6,6,6,6,6,7,7,7,7,7,7,7,7,7,7,7,7,7,7,7,7,7,7,7,7,7,7,7,7,7,7,7,7,7,7,7,7,7,7,7,7,7,7,7,7,7,7,7,7,7,7,7,7,7,7,7,7,7,7,7,7,7,7,7,7,7,7,7,7,8,8,8,8,8,8,8,8,8,8,8,8,8,8,8,8,8,8,8,8,8,8,8,8,8,8,8,8,8,8,8,8,8,8,8,8,8,8,8,8,8,8,8,8,8,8,8,8,8,8,8,8,8,8,8,8,8,8,8,8,8,8,8,8,8,8,8,8,8,8,8,8,8,8,8,8,8,8,8,8,8,8,8,8,8,8,8,8,8,8,8,8,8,8,8,8,8,8,8,8,8,8,8,8,8,8,8,8,8,8,8,8,8,8,8,8,8,8,8,8,8,8,8,8,8,8,8,8]⟩) d1) w λd2 w=>
 aA pg (cH 5 3 d2) w λd3 w=>
 aA pg (aD .add 3 aG aG TJ d3) w λd4 w=>
 R d4 w
def Je(kn:K2) fU TJ w:=
 aA pg (aD .geq 32 aG aG fU (.int .u64 256)) w λc4 w=>
 bQ c4
  (aA pg (aD .shr 32 aG aG fU (.int .u64 8)) w λc6 w=>
  aA pg (aD .add 3 aG aG TJ (aOk 8)) w λc8 w=>
  kn c6 c8 w)
  (kn fU TJ w)
def tX(R:K1) fU TJ w:=
 Je (tW R) fU TJ w
def Jf(kn:K2) fU TJ w:=
 aA pg (aD .geq 32 aG aG fU (.int .u64 65536)) w λb8 w=>
 bQ b8
  (aA pg (aD .shr 32 aG aG fU (.int .u64 16)) w λc0 w=>
  aA pg (aD .add 3 aG aG TJ (aOk 16)) w λc2 w=>
  kn c0 c2 w)
  (kn fU TJ w)
def tY(R:K1) fU TJ w:=
 Jf (tX R) fU TJ w
def Jg(kn:K2) fU w:=
 aA pg (aD .geq 32 aG aG fU (.int .u64 4294967296)) w λb4 w=>
 bQ b4
  (aA pg (aD .shr 32 aG aG fU (.int .u64 32)) w λb6 w=>
  kn b6 (aOk 32) w)
  (kn fU (aOk 0) w)
def Jh(R:K1) fU w:=
 Jg (tY R) fU w
def PO a0 w(R:K1):=
 Jh R a0 w
theorem Sx{a0 w R}(h:PO a0 w R):aK pg pG #[a0] w R:=
 lB (ann:=T1) Tryz.f107 Rq [a0] WH 25 TryzM.mixed Tryz.func107 (bZ 2 (eL (Kf (tY R) 0 2) h (λg w h=>aE (bZ 1 (eL (Kf (tX R) 0 2) h (λg w h=>aE (bZ 1 (eL (Kf (tW R) 0 2) h (λg w h=>aE (lT h cO))))))))))
def Xj:FA:=⟨uW,λi=> .leaf ([],[]) []⟩
def abB:List ResultVar:=[.tmp 2]
noncomputable def V6:Code:=aY Tryz.f108
def NJ(R:K1) dB w:=
 aK pg Bd #[dB] w λb8 w=>
 aA pg (aV b8 0) w λb9 w=>
 aA pg (aV b8 1) w λc0 w=>
 aA pg (sUn .not c0) w λc2 w=>
 Gd (bK c2 false) (λK=>K dB w) w λc4 w=>
 Gd (bK c2 false) (λK=>aA pg (dD .len #[22] 3 [c4]) w K) w λc5 w=>
 Gd (bK c2 false) (λK=>aA pg (aD .lss 3 aG aG c5 (aOk 2)) w K) w λc6 w=>
 aA pg (cD c2 (.bool true) c6) w λc7 w=>
 Gd (bK c7 false) (λK=>K dB w) w λc9 w=>
 Gd (bK c7 false) (λK=>aA pg (dD .len #[22] 3 [c9]) w K) w λd0 w=>
 Gd (bK c7 false) (λK=>aA pg (aD .gtr 3 aG aG d0 (aOk 256)) w K) w λd1 w=>
 aA pg (cD c7 (.bool true) d1) w λd2 w=>
 Gd (bK d2 false) (λK=>K dB w) w λd4 w=>
 Gd (bK d2 false) (λK=>K dB w) w λd5 w=>
 Gd (bK d2 false) (λK=>aA pg (dD .len #[22] 3 [d5]) w K) w λd6 w=>
 Gd (bK d2 false) (λK=>aA pg (aD .sub 3 aG aG d6 (aOk 1)) w K) w λd7 w=>
 Gd (bK d2 false) (λK=>aA pg (aO 22 d4 d7) w K) w λd8 w=>
 Gd (bK d2 false) (λK=>aA pg (aH 5 d8) w K) w λd9 w=>
 Gd (bK d2 false) (λK=>aA pg (aD .eql 5 (.tmp 29) (.const (.int .u8 0)) d9 (.int .u8 0)) w K) w λe0 w=>
 aA pg (cD d2 (.bool true) e0) w λe1 w=>
 Gd (bK e1 false) (λK=>K b9 w) w λe3 w=>
 Gd (bK e1 false) (λK=>K b9 w) w λe4 w=>
 Gd (bK e1 false) (λK=>aA pg (aD .sub 3 aG aG e4 (aOk 1)) w K) w λe5 w=>
 Gd (bK e1 false) (λK=>aA pg (aD .and 3 aG aG e3 e5) w K) w λe6 w=>
 Gd (bK e1 false) (λK=>aA pg (aD .neq 3 (.tmp 36) (.const (aOk 0)) e6 (aOk 0)) w K) w λe7 w=>
 aA pg (cD e1 (.bool true) e7) w λe8 w=>
 bQ e8
  (R (aOk 0) w)
  (aA pg (cH 3 50 b9) w λf0 w=>
  aK pg oZ #[f0] w λf1 w=>
  aA pg (aD .sub 3 aG aG f1 (aOk 1)) w λf2 w=>
  aA pg (aD .gtr 3 aG aG f2 (aOk 11)) w λf4 w=>
  Gd (bK f4 false) (λK=>K dB w) w λf6 w=>
  Gd (bK f4 false) (λK=>aK pg nT #[f6] w K) w λf7 w=>
  Gd (bK f4 false) (λK=>aA pg (cH 5 3 f7) w K) w λf8 w=>
  Gd (bK f4 false) (λK=>K f2 w) w λf9 w=>
  Gd (bK f4 false) (λK=>aA pg (aD .gtr 3 aG aG f8 f9) w K) w λi0 w=>
  aA pg (cD f4 (.bool true) i0) w λi1 w=>
  bQ i1
   (R (aOk 0) w)
   (R f2 w))
def VH a0 w(R:K1):=
 NJ R a0 w
theorem WX{a0 w R}(h:VH a0 w R):aK pg uW #[a0] w R:=
 lB (ann:=Xj) Tryz.f108 V6 [a0] abB 53 TryzM.mixed Tryz.func108 (lT h cO)
def adM:FA:=⟨Ft,λi=> .leaf ([],[]) []⟩
def aiX:List ResultVar:=[.tmp 4,.tmp 5]
noncomputable def ZC:Code:=aY Tryz.f109
def R7 (R:K1) dB bN w:=
 aK pg pA #[dB] w λc0 w=>
 aA pg (aV c0 0) w λc1 w=>
 aA pg (aV c0 1) w λc2 w=>
 aA pg (aD .neq 24 (.tmp 14) (.const (aOk 0)) c2 (aOk 0)) w λc5 w=>
 bQ c5
  (R (.tuple #[(.slice none 0 0),c2]) w)
  (aA pg (dD .len #[22] 3 [bN]) w λc9 w=>
  aA pg (aD .gtr 3 aG aG c9 (aOk 131072)) w λd0 w=>
  bQ d0
   (R (.tuple #[(.slice none 0 0),(aOk 1)]) w)
   (aK pg eM #[c1,bN] w λd3 w=>
   aA pg (aV d3 0) w λd4 w=>
   aA pg (aV d3 1) w λd5 w=>
   R (.tuple #[d4,d5]) w))
def acH a0 a1 w(R:K1):=
 R7 R a0 a1 w
theorem Z2 {a0 a1 w R}(h:acH a0 a1 w R):aK pg Ft #[a0,a1] w R:=
 lB (ann:=adM) Tryz.f109 ZC [a0,a1] aiX 26 TryzM.mixed Tryz.func109 (lT h cO)
def zD:FA:=⟨Cq,λi=> .leaf ([],[]) []⟩
def Bq:List ResultVar:=[.tmp 4,.tmp 5]
noncomputable def xB:Code:=aY Tryz.f110
def Bh(R:K1) Dv fE w:=
 aK pg fD #[Dv,fE] w λl3 w=>
 aK pg eH #[Dv] w λl5 w=>
 R (.tuple #[l5,(aOk 0)]) w
def Bi(kn:K6) bN jH Dv fE e8 e9 w:=
 aA pg (aD .add 3 aG aG e9 (aOk 1)) w λl0 w=>
 kn bN jH Dv fE e8 l0 w
def Bj(kn:K6) bN jH Dv fE aKJ e8 e9 w:=
 aA pg (dD .append #[22,22] 22 [fE,aKJ]) w λj9 w=>
 kn bN jH Dv j9 e8 e9 w
def PH(kn:K7)(R:K1) bN jH Dv fE e8 e9 w:=
 aA pg (HX 139 e8 e9) w λf2 w=>
 aA pg (bP 22 bN none (some f2) none) w λf7 w=>
 aK pg eM #[jH,f7] w λf8 w=>
 aA pg (aV f8 0) w λf9 w=>
 aA pg (aV f8 1) w λi0 w=>
 aA pg (aD .neq 24 (.tmp 51) (.const (aOk 0)) i0 (aOk 0)) w λi2 w=>
 bQ i2
  (R (.tuple #[(.slice none 0 0),i0]) w)
  (aA pg (bP 22 bN (some f2) none none) w λi6 w=>
  aA pg (aD .lss 3 aG aG e9 (aOk 3)) w λi8 w=>
  bQ i8
   (aA pg (dD .len #[22] 3 [f9]) w λj0 w=>
   aA pg (aD .geq 3 aG aG j0 (aOk 65536)) w λj1 w=>
   bQ j1
    (R (.tuple #[(.slice none 0 0),(aOk 1)]) w)
    (aA pg (dD .len #[22] 3 [f9]) w λj4 w=>
    aA pg (cH 3 32 j4) w λj5 w=>
    aK pg bA #[Dv,j5,(aOk 2)] w λj6 w=>
    kn i6 jH Dv fE f9 e8 e9 w))
   (kn i6 jH Dv fE f9 e8 e9 w))
def GS(kn:K6)(R:K1) bN jH Dv fE e8 e9 w:=
 PH (Bj kn) R bN jH Dv fE e8 e9 w
def GU(kn:K6)(R:K1) bN jH Dv fE e8 e9 w:=
 GS (Bi kn) R bN jH Dv fE e8 e9 w
theorem Wi(kn:K6)(R:K1)(hn:N6 Q kn 1 6 10 11 38 39)(hr:HR Bq R Q)(h:GS kn R (g 1) (g 6) (g 10) (g 11) (g 38) (g 39) w):cP pg zD (aQ 1 (aI 2 (bI (bI (aI 1 (aQ 1 (aI 7 xB))))))) Q g w:=
 qM 1 (bZ 5 (Lk (JW (Bj kn) 1 6 10 11 14 38 39) h (λg w h=>aE (eL _ h hn)) hr))
def PI(kn:K6)(k0:K2) bN jH Dv fE e8 e9 w:=
 aA pg (aD .lss 3 aG aG e9 (aOk 4)) w λf0 w=>
 bQ f0
  (kn bN jH Dv fE e8 e9 w)
  (k0 Dv fE w)
def GV(kn:K6)(k0:K2)(R:K1) bN jH Dv fE e8 e9 w:=
 PI (GU kn R) k0 bN jH Dv fE e8 e9 w
def sK(k0:K2)(R:K1) bN jH Dv fE e8 e9 w:=
 aX (λ(X:(aOj×aOj×aOj)->K0) (t:aOj×aOj×aOj) (w:aOi)=>GV (λbN _ _ fE _ e9 w=>X (bN,fE,e9) w) k0 R t.1 jH Dv t.2.1 e8 t.2.2 w) (bN,fE,e9) w
theorem Uo(k0:K2)(R:K1)(h0:E2 Q k0 0 10 11)(hr:HR Bq R Q)(h:sK k0 R (g 1) (g 6) (g 10) (g 11) (g 38) (g 39) w):cP pg zD (bI (aI 1 (aQ 1 (aI 7 xB)))) Q g w:=by
 refine AL (λg:Env=>(g 1,g 11,g 39)) (λX t w=>GV (λbN _ _ fE _ e9 w=>X (bN,fE,e9) w) k0 R t.1 (g 6) (g 10) t.2.1 (g 38) t.2.2 w) h (λX g1 w1 ha hL=> ?_)
 rw[<-cI 6 ha,<-cI 10 ha,<-cI 38 ha]at hL
 exact(bZ 2 (zK [(0,(Kf k0 10 11))] (kr:=no) (TS (GU (λbN _ _ fE _ e9 w=>X (bN,fE,e9) w) R) 1 6 10 11 38 39) hL (λg w h=>aE (bZ 1 (Wi _ g w (Bi (λbN _ _ fE _ e9 w=>X (bN,fE,e9) w)) R (λg w h=>aE (eL (TS (λbN _ _ fE _ e9 w=>X (bN,fE,e9) w) 1 6 10 11 38 39) h cO)) hr h))) DN ⟨h0,trivial⟩))
def MV(kn:K6) bN jH RC Dv fE w:=
 aA pg (aH 139 RC) w λe8 w=>
 kn bN jH Dv fE e8 (aOk 0) w
def Ev(kn:K2)(R:K1) bN jH RC Dv fE w:=
 MV (sK kn R) bN jH RC Dv fE w
def Ew(R:K1) bN jH RC Dv fE w:=
 Ev (Bh R) R bN jH RC Dv fE w
theorem Up(kn:K2)(R:K1)(hn:N2 Q kn 10 11)(hr:HR Bq R Q)(h:Ev kn R (g 1) (g 6) (g 8) (g 10) (g 11) w):cP pg zD (aQ 1 (aI 7 xB)) Q g w:=
 bZ 1 (eL (TS (sK kn R) 1 6 10 11 38 39) h (λg w h=>aE (qM 0 (Uo _ g w kn R hn hr h))))
def MW(kn:K5)(R:K1) dB bN w:=
 aK pg pA #[dB] w λc8 w=>
 aA pg (aV c8 0) w λc9 w=>
 aA pg (aV c8 1) w λd0 w=>
 aA pg (aD .neq 24 (.tmp 21) (.const (aOk 0)) d0 (aOk 0)) w λd2 w=>
 bQ d2
  (R (.tuple #[(.slice none 0 0),d0]) w)
  (aA pg (dD .len #[22] 3 [bN]) w λd6 w=>
  aK pg HK #[d6] w λd7 w=>
  aA pg (aV d7 0) w λd8 w=>
  aA pg (aV d7 1) w λd9 w=>
  aA pg (bG 139) w λRC w=>
  aA pg (aM 139 RC d8) w λ_u w=>
  aA pg (sUn .not d9) w λe1 w=>
  Gd (bK e1 false) (λK=>K bN w) w λe3 w=>
  Gd (bK e1 false) (λK=>aA pg (dD .len #[22] 3 [e3]) w K) w λe4 w=>
  Gd (bK e1 false) (λK=>aA pg (aD .gtr 3 aG aG e4 (aOk 131072)) w K) w λe5 w=>
  aA pg (cD e1 (.bool true) e5) w λe6 w=>
  bQ e6
   (R (.tuple #[(.slice none 0 0),(aOk 1)]) w)
   (aK pg eY #[] w λe7 w=>
   kn bN c9 RC e7 (.slice none 0 0) w))
def MX(R:K1) dB bN w:=
 MW (Ew R) R dB bN w
def X6 a0 a1 w(R:K1):=
 MX R a0 a1 w
theorem X7 {a0 a1 w R}(h:X6 a0 a1 w R):aK pg Cq #[a0,a1] w R:=
 lB (ann:=zD) Tryz.f110 xB [a0,a1] Bq 76 TryzM.mixed Tryz.func110 (bZ 7 (Lk (NQ (Ew R) 1 6 8 10 11) h (λg w h=>aE (bZ 1 (Up _ g w (Bh R) R (λg w h=>aE (lT h cO)) cO h))) cO))
def akE:FA:=⟨BY,λi=>match Nat.beq i 4 with|true=> .leaf ([],[]) (fz 4 [])|false=>match Nat.beq i 7 with|true=> .leaf ([],[]) (fz 4 [])|false=> .leaf ([],[]) []⟩
def aqD:List ResultVar:=[.tmp 2,.tmp 3,.tmp 4]
noncomputable def agP:Code:=aY Tryz.f111
def XA(R:K1) bF w:=
 aA pg (aD .eql 3 (.tmp 7) (.const (aOk 0)) bF (aOk 0)) w λb9 w=>
 bQ b9
  (aA pg (aH 231 (.pointer (some ⟨3,0,none⟩))) w λc0 w=>
  aA pg (bG 231) w λl_5 w=>
  aA pg (aM 231 l_5 c0) w λ_u w=>
  aA pg (bP 231 l_5 none none none) (dr w) λc1 w_=>w_=(dr w)/\
  (dr w)=(dr w)/\
  (dr w)=(dr w)/\
  (dr w)=(dr w)/\
  R (.tuple #[(aOk 16),(.int .u32 0),c1]) (dr w))
  (aA pg (aD .eql 3 (.tmp 7) (.const (aOk 2)) bF (aOk 2)) w λc3 w=>
  bQ c3
   (aA pg (aH 232 (.pointer (some ⟨4,0,none⟩))) w λc4 w=>
   aA pg (bG 232) w λl_6 w=>
   aA pg (aM 232 l_6 c4) w λ_u w=>
   aA pg (bP 232 l_6 none none none) (dr w) λc5 w_=>w_=(dr w)/\
   (dr w)=(dr w)/\
   (dr w)=(dr w)/\
   (dr w)=(dr w)/\
   R (.tuple #[(aOk 32),(.int .u32 3),c5]) (dr w))
   (R (.tuple #[(aOk 0),(.int .u32 0),(.slice none 0 0)]) w))
def amF a0 w(R:K1):=
 XA R a0 w
theorem agV{a0 w R}(h:amF a0 w R):aK pg BY #[a0] w R:=
 lB (ann:=akE) Tryz.f111 agP [a0] aqD 16 TryzM.mixed Tryz.func111 (lT h cO)
def T0:FA:=⟨pF,λi=> .leaf ([],[]) []⟩
def WG:List ResultVar:=[.tmp 2]
noncomputable def Rp:Code:=aY Tryz.f112
def tU(R:K1) fU TJ w:=
 aA pg (cH 38 5 fU) w λc5 w=>
 aA pg (HX 9 (.string ⟨#[0,1,2,2,3,3,3,3,4,4,4,4,4,4,4,4,5,5,5,5,5,5,5,5,5,5,5,5,5,5,5,5,6,6,6,6,6,6,6,6,6,6,6,6,6,6,6,6,6,6,6,6,6,6,6,6,6,6,6,6,6,6,6,6,7,7,7,7,7,7,7,7,7,7,7,7,7,7,7,7,7,7,7,7,7,7,7,7,7,7,7,7,7,7,7,7,7,7,7,7,7,7,7,7,7,7,7,7,7,7,7,7,7,7,7,7,7,7,7,7,7,7,7,7,7,7,7,7,8,8,8,8,8,8,8,8,8,8,8,8,8,8,8,8,8,8,8,8,8,8,8,8,8,8,8,8,8,8,8,8,8,8,8,8,8,8,8,8,8,8,8,8,8,8,8,8,8,8,8,8,8,8,8,8,8,8,8,8,8,8,8,8,8,8,8,8,8,8,8,8,8,8,8,8,8,8,8,8,8,8,8,8,8,8,8,8,8,8,8,8,8,8,8,8,8,8,8,8,8,8,8,8,8,8,8,8,8,8,8,8,8,8,8,8,8,8,8,8,8,8,8,8,8,8,8,8]⟩) c5) w λc6 w=>
 aA pg (cH 5 3 c6) w λc7 w=>
 aA pg (aD .add 3 aG aG TJ c7) w λc8 w=>
 R c8 w
def Jb(kn:K2) fU TJ w:=
 aA pg (aD .geq 38 aG aG fU (.int .u32 256)) w λb8 w=>
 bQ b8
  (aA pg (aD .shr 38 aG aG fU (.int .u64 8)) w λc0 w=>
  aA pg (aD .add 3 aG aG TJ (aOk 8)) w λc2 w=>
  kn c0 c2 w)
  (kn fU TJ w)
def tV(R:K1) fU TJ w:=
 Jb (tU R) fU TJ w
def Jc(kn:K2) fU w:=
 aA pg (aD .geq 38 aG aG fU (.int .u32 65536)) w λb4 w=>
 bQ b4
  (aA pg (aD .shr 38 aG aG fU (.int .u64 16)) w λb6 w=>
  kn b6 (aOk 16) w)
  (kn fU (aOk 0) w)
def Jd(R:K1) fU w:=
 Jc (tV R) fU w
def PN a0 w(R:K1):=
 Jd R a0 w
theorem Sw{a0 w R}(h:PN a0 w R):aK pg pF #[a0] w R:=
 lB (ann:=T0) Tryz.f112 Rp [a0] WG 19 TryzM.mixed Tryz.func112 (bZ 2 (eL (Kf (tV R) 0 2) h (λg w h=>aE (bZ 1 (eL (Kf (tU R) 0 2) h (λg w h=>aE (lT h cO)))))))
def Zr:FA:=⟨Ct,λi=> .leaf ([],[]) []⟩
def afC:List ResultVar:=[.tmp 4]
noncomputable def Xw:Code:=aY Tryz.f113
def PR(R:K1) c_0 aIj w:=
 aA pg (A0 162 c_0) w λc_2 w=>
 aA pg (aH 162 c_2) w λb6 w=>
 aK pg Cv #[b6] w λb7 w=>
 aA pg (sUn .not b7) w λb8 w=>
 bQ b8
  (R (aOk 1) w)
  (aA pg (aJ 162 c_2 0) w λc0 w=>
  aA pg (aH 3 c0) w λc1 w=>
  aA pg (aD .gtr 3 aG aG c1 aIj) w λc3 w=>
  bQ c3
   (R (aOk 12) w)
   (R (aOk 0) w))
def Yt a0 a1 w(R:K1):=
 PR R a0 a1 w
theorem Yu{a0 a1 w R}(h:Yt a0 a1 w R):aK pg Ct #[a0,a1] w R:=
 lB (ann:=Zr) Tryz.f113 Xw [a0,a1] afC 14 TryzM.mixed Tryz.func113 (lT h cO)
def jF:FA:=⟨Cp,λi=> .leaf ([],[]) []⟩
def alK:List ResultVar:=[.tmp 2]
noncomputable def gS:Code:=aY Tryz.f114
def Lu(R:K1) bD w:=
 R bD w
def Lv(kn:K7) AM bD bR fV e7 e8 e9 w:=
 aA pg (aD .add 3 aG aG e9 (aOk 1)) w λj8 w=>
 kn AM bD bR fV e7 e8 j8 w
def Lw(kn:Zg) AM bD bR fV s_9 e7 e8 e9 f5 f6 w:=
 aA pg (aD .add 3 aG aG f6 (aOk 1)) w λj7 w=>
 kn AM bD bR fV s_9 e7 e8 e9 f5 j7 w
def Lx(kn:Zg)(k5:Zg) AM bD bR fV s_9 e7 e8 e9 f5 f6 w:=
 aA pg (aD .shr 3 aG aG AM (.int .u64 1)) w λi6 w=>
 aA pg (aD .add 3 aG aG fV i6) w λi7 w=>
 aA pg (aD .shr 3 aG aG AM (.int .u64 3)) w λi9 w=>
 aA pg (aD .add 3 aG aG i7 i9) w λj0 w=>
 aA pg (aD .add 3 aG aG j0 (aOk 3)) w λj1 w=>
 aA pg (aD .rem 3 aG aG j1 AM) w λj3 w=>
 aA pg (aD .lss 3 aG aG j3 bR) w λj6 w=>
 bQ j6
  (k5 AM bD bR j3 s_9 e7 e8 e9 f5 f6 w)
  (kn AM bD bR j3 s_9 e7 e8 e9 f5 f6 w)
def vJ(k5:Zg) AM bD bR fV s_9 e7 e8 e9 f5 f6 w:=
 aX (λ(X:aOj->K0) (t:aOj) (w:aOi)=>Lx (λ_ _ _ fV _ _ _ _ _ _ w=>X fV w) k5 AM bD bR t s_9 e7 e8 e9 f5 f6 w) fV w
theorem ZZ(k5:Zg)(h5:E10 Q k5 5 3 4 5 8 9 37 38 39 45 46)(h:vJ k5 (g 3) (g 4) (g 5) (g 8) (g 9) (g 37) (g 38) (g 39) (g 45) (g 46) w):cP pg jF (bI (aI 1 (bI (aQ 1 (aI 2 (bI (bI (aI 2 (bI (aI 1 (bI (aQ 1 (aI 2 (bI (bI (aI 1 (aQ 1 (aI 1 (aI 1 (aI 4 gS)))))))))))))))))))) Q g w:=by
 refine AL (λg:Env=>g 8) (λX t w=>Lx (λ_ _ _ fV _ _ _ _ _ _ w=>X fV w) k5 (g 3) (g 4) (g 5) t (g 9) (g 37) (g 38) (g 39) (g 45) (g 46) w) h (λX g1 w1 ha hL=> ?_)
 rw[<-cI 3 ha,<-cI 4 ha,<-cI 5 ha,<-cI 9 ha,<-cI 37 ha,<-cI 38 ha,<-cI 39 ha,<-cI 45 ha,<-cI 46 ha]at hL
 exact(zK [(5,(Xc k5 3 4 5 8 9 37 38 39 45 46))] (kr:=no) (Xc (λ_ _ _ fV _ _ _ _ _ _ w=>X fV w) 3 4 5 8 9 37 38 39 45 46) hL cO DN ⟨h5,trivial⟩)
def Vf(kn:Zg) AM bD bR fV s_9 e7 e8 e9 f5 f6 w:=
 aA pg (cH 3 5 s_9) w λi1 w=>
 aA pg (aO 104 bD fV) w λi2 w=>
 aA pg (aJ 194 i2 0) w λi3 w=>
 aA pg (aM 5 i3 i1) w λ_u w=>
 kn AM bD bR fV s_9 e7 e8 e9 f5 f6 w
def Ly(k5:Zg) AM bD bR fV s_9 e7 e8 e9 f5 f6 w:=
 Vf (vJ k5) AM bD bR fV s_9 e7 e8 e9 f5 f6 w
def IG(kn:Zg) AM bD bR fV s_9 e7 e8 e9 f5 f6 w:=
 Ly (Lw kn) AM bD bR fV s_9 e7 e8 e9 f5 f6 w
theorem Z0 (kn:Zg)(hn:N10 Q kn 3 4 5 8 9 37 38 39 45 46)(h:Ly kn (g 3) (g 4) (g 5) (g 8) (g 9) (g 37) (g 38) (g 39) (g 45) (g 46) w):cP pg jF (aQ 1 (aI 2 (bI (bI (aI 2 (bI (aI 1 (bI (aQ 1 (aI 2 (bI (bI (aI 1 (aQ 1 (aI 1 (aI 1 (aI 4 gS))))))))))))))))) Q g w:=
 qM 5 (bZ 1 (eL (Xc (vJ kn) 3 4 5 8 9 37 38 39 45 46) h (λg w h=>aE (qM 6 (ZZ _ g w kn hn h)))))
def IH(kn:Zg)(k4:K7) AM bD bR fV s_9 e7 e8 e9 f5 f6 w:=
 aA pg (aD .lss 3 aG aG f6 f5) w λf7 w=>
 bQ f7
  (kn AM bD bR fV s_9 e7 e8 e9 f5 f6 w)
  (k4 AM bD bR fV e7 e8 e9 w)
def CX(kn:Zg)(k4:K7) AM bD bR fV s_9 e7 e8 e9 f5 f6 w:=
 IH (IG kn) k4 AM bD bR fV s_9 e7 e8 e9 f5 f6 w
def CY(k4:K7) AM bD bR fV s_9 e7 e8 e9 f5 f6 w:=
 aX (λ(X:(aOj×aOj)->K0) (t:aOj×aOj) (w:aOi)=>CX (λ_ _ _ fV _ _ _ _ _ f6 w=>X (fV,f6) w) k4 AM bD bR t.1 s_9 e7 e8 e9 f5 t.2 w) (fV,f6) w
theorem XY(k4:K7)(h4:E7 Q k4 4 3 4 5 8 37 38 39)(h:CY k4 (g 3) (g 4) (g 5) (g 8) (g 9) (g 37) (g 38) (g 39) (g 45) (g 46) w):cP pg jF (bI (aI 2 (bI (aI 1 (bI (aQ 1 (aI 2 (bI (bI (aI 1 (aQ 1 (aI 1 (aI 1 (aI 4 gS)))))))))))))) Q g w:=by
 refine AL (λg:Env=>(g 8,g 46)) (λX t w=>CX (λ_ _ _ fV _ _ _ _ _ f6 w=>X (fV,f6) w) k4 (g 3) (g 4) (g 5) t.1 (g 9) (g 37) (g 38) (g 39) (g 45) t.2 w) h (λX g1 w1 ha hL=> ?_)
 rw[<-cI 3 ha,<-cI 4 ha,<-cI 5 ha,<-cI 9 ha,<-cI 37 ha,<-cI 38 ha,<-cI 39 ha,<-cI 45 ha]at hL
 exact(bZ 2 (zK [(4,(JW k4 3 4 5 8 37 38 39))] (kr:=no) (Xc (IG (λ_ _ _ fV _ _ _ _ _ f6 w=>X (fV,f6) w)) 3 4 5 8 9 37 38 39 45 46) hL (λg w h=>aE (bZ 1 (Z0 _ g w (Lw (λ_ _ _ fV _ _ _ _ _ f6 w=>X (fV,f6) w)) (λg w h=>aE (eL (Xc (λ_ _ _ fV _ _ _ _ _ f6 w=>X (fV,f6) w) 3 4 5 8 9 37 38 39 45 46) h cO)) h))) DN ⟨h4,trivial⟩))
def RY(kn:Zg) AM bD bR fV s_9 aIr e7 e8 e9 w:=
 aA pg (dD .max #[3,3] 3 [aIr,(aOk 0)]) w λf5 w=>
 kn AM bD bR fV s_9 e7 e8 e9 f5 (aOk 0) w
def II(kn:K7) AM bD bR fV s_9 aIr e7 e8 e9 w:=
 RY (CY kn) AM bD bR fV s_9 aIr e7 e8 e9 w
def RZ(kn:K9) AM bD bR fV e7 e8 e9 w:=
 aA pg (aO 117 e7 e9) w λf2 w=>
 aA pg (aH 3 f2) w λf3 w=>
 kn AM bD bR fV e9 f3 e7 e8 e9 w
def IJ(kn:K7) AM bD bR fV e7 e8 e9 w:=
 RZ (II kn) AM bD bR fV e7 e8 e9 w
def IK(kn:K7) AM bD bR fV e7 e8 e9 w:=
 IJ (Lv kn) AM bD bR fV e7 e8 e9 w
theorem XZ(kn:K7)(hn:N7 Q kn 3 4 5 8 37 38 39)(h:IJ kn (g 3) (g 4) (g 5) (g 8) (g 37) (g 38) (g 39) w):cP pg jF (aQ 1 (aI 2 (bI (bI (aI 1 (aQ 1 (aI 1 (aI 1 (aI 4 gS))))))))) Q g w:=
 qM 3 (bZ 1 (eL (Mq9 (II kn) 3 4 5 8 9 10 37 38 39) h (λg w h=>aE (scD (bZ 2 (eL (Xc (CY kn) 3 4 5 8 9 37 38 39 45 46) h (λg w h=>aE (qM 4 (XY _ g w kn hn h)))))))))
def IL(kn:K7)(k2:K1) AM bD bR fV e7 e8 e9 w:=
 aA pg (aD .lss 3 aG aG e9 e8) w λf0 w=>
 bQ f0
  (kn AM bD bR fV e7 e8 e9 w)
  (k2 bD w)
def CZ(kn:K7)(k2:K1) AM bD bR fV e7 e8 e9 w:=
 IL (IK kn) k2 AM bD bR fV e7 e8 e9 w
def C0 (k2:K1) AM bD bR fV e7 e8 e9 w:=
 aX (λ(X:(aOj×aOj)->K0) (t:aOj×aOj) (w:aOi)=>CZ (λ_ _ _ fV _ _ e9 w=>X (fV,e9) w) k2 AM bD bR t.1 e7 e8 t.2 w) (fV,e9) w
theorem X0 (k2:K1)(h2:E1 Q k2 2 4)(h:C0 k2 (g 3) (g 4) (g 5) (g 8) (g 37) (g 38) (g 39) w):cP pg jF (bI (aI 1 (aQ 1 (aI 1 (aI 1 (aI 4 gS)))))) Q g w:=by
 refine AL (λg:Env=>(g 8,g 39)) (λX t w=>CZ (λ_ _ _ fV _ _ e9 w=>X (fV,e9) w) k2 (g 3) (g 4) (g 5) t.1 (g 37) (g 38) t.2 w) h (λX g1 w1 ha hL=> ?_)
 rw[<-cI 3 ha,<-cI 4 ha,<-cI 5 ha,<-cI 37 ha,<-cI 38 ha]at hL
 exact(bZ 2 (zK [(2,(TR k2 4))] (kr:=no) (JW (IK (λ_ _ _ fV _ _ e9 w=>X (fV,e9) w)) 3 4 5 8 37 38 39) hL (λg w h=>aE (bZ 1 (XZ _ g w (Lv (λ_ _ _ fV _ _ e9 w=>X (fV,e9) w)) (λg w h=>aE (eL (JW (λ_ _ _ fV _ _ e9 w=>X (fV,e9) w) 3 4 5 8 37 38 39) h cO)) h))) DN ⟨h2,trivial⟩))
def R0 (kn:K7) eZ AM bD bR fV w:=
 aA pg (aJ 162 eZ 1) w λe6 w=>
 aA pg (aH 117 e6) w λe7 w=>
 aA pg (dD .len #[117] 3 [e7]) w λe8 w=>
 kn AM bD bR fV e7 e8 (aOk 0) w
def IM(kn:K1) eZ AM bD bR fV w:=
 R0 (C0 kn) eZ AM bD bR fV w
def IN(R:K1) eZ AM bD bR fV w:=
 IM (Lu R) eZ AM bD bR fV w
theorem X1 (kn:K1)(hn:N1 Q kn 4)(h:IM kn (g 1) (g 3) (g 4) (g 5) (g 8) w):cP pg jF (aQ 1 (aI 1 (aI 1 (aI 4 gS)))) Q g w:=
 bZ 1 (eL (JW (C0 kn) 3 4 5 8 37 38 39) h (λg w h=>aE (qM 2 (X0 _ g w kn hn h))))
def R1 (kn:K5) eZ AM bD bR w:=
 kn eZ AM bD bR (aOk 0) w
def IP(R:K1) eZ AM bD bR w:=
 R1 (IN R) eZ AM bD bR w
def IQ(kn:K7) eZ AM bD bR c8 c9 d0 w:=
 aA pg (aD .add 3 aG aG d0 (aOk 1)) w λe5 w=>
 kn eZ AM bD bR c8 c9 e5 w
def IS(kn:K7)(k0:K4) eZ AM bD bR c8 c9 d0 w:=
 aA pg (aD .lss 3 aG aG d0 c9) w λd1 w=>
 bQ d1
  (aA pg (aO 117 c8 d0) w λd3 w=>
  aA pg (aH 3 d3) w λd4 w=>
  aA pg (aD .eql 3 (.tmp 25) (.const (aOk (-1))) d4 (aOk (-1))) w λd6 w=>
  bQ d6
   (aA pg (aD .sub 3 aG aG bR (aOk 1)) w λd8 w=>
   aA pg (cH 3 5 d0) w λe2 w=>
   aA pg (aO 104 bD d8) w λe3 w=>
   aA pg (aJ 194 e3 0) w λe4 w=>
   aA pg (aM 5 e4 e2) w λ_u w=>
   kn eZ AM bD d8 c8 c9 d0 w)
   (kn eZ AM bD bR c8 c9 d0 w))
  (k0 eZ AM bD bR w)
def C1 (kn:K7)(k0:K4) eZ AM bD bR c8 c9 d0 w:=
 IS (IQ kn) k0 eZ AM bD bR c8 c9 d0 w
def C2 (k0:K4) eZ AM bD bR c8 c9 d0 w:=
 aX (λ(X:(aOj×aOj)->K0) (t:aOj×aOj) (w:aOi)=>C1 (λ_ _ _ bR _ _ d0 w=>X (bR,d0) w) k0 eZ AM bD t.1 c8 c9 t.2 w) (bR,d0) w
theorem X2 (k0:K4)(h0:E4 Q k0 0 1 3 4 5)(h:C2 k0 (g 1) (g 3) (g 4) (g 5) (g 18) (g 19) (g 20) w):cP pg jF (bI (aI 1 (aQ 1 (aI 4 gS)))) Q g w:=by
 refine AL (λg:Env=>(g 5,g 20)) (λX t w=>C1 (λ_ _ _ bR _ _ d0 w=>X (bR,d0) w) k0 (g 1) (g 3) (g 4) t.1 (g 18) (g 19) t.2 w) h (λX g1 w1 ha hL=> ?_)
 rw[<-cI 1 ha,<-cI 3 ha,<-cI 4 ha,<-cI 18 ha,<-cI 19 ha]at hL
 exact(bZ 3 (zK [(0,(AK k0 1 3 4 5))] (kr:=no) (JW (IQ (λ_ _ _ bR _ _ d0 w=>X (bR,d0) w)) 1 3 4 5 18 19 20) hL (λg w h=>aE (eL (JW (λ_ _ _ bR _ _ d0 w=>X (bR,d0) w) 1 3 4 5 18 19 20) h cO)) DN ⟨h0,trivial⟩))
def R2 (kn:K7) eZ AM bD bR w:=
 aA pg (aJ 162 eZ 1) w λc7 w=>
 aA pg (aH 117 c7) w λc8 w=>
 aA pg (dD .len #[117] 3 [c8]) w λc9 w=>
 kn eZ AM bD bR c8 c9 (aOk 0) w
def IT(kn:K4) eZ AM bD bR w:=
 R2 (C2 kn) eZ AM bD bR w
def IU(R:K1) eZ AM bD bR w:=
 IT (IP R) eZ AM bD bR w
theorem X3 (kn:K4)(hn:N4 Q kn 1 3 4 5)(h:IT kn (g 1) (g 3) (g 4) (g 5) w):cP pg jF (aQ 1 (aI 4 gS)) Q g w:=
 bZ 1 (eL (JW (C2 kn) 1 3 4 5 18 19 20) h (λg w h=>aE (qM 0 (X2 _ g w kn hn h))))
def R3 (kn:K4) c_0 w:=
 aA pg (A0 162 c_0) w λeZ w=>
 aA pg (aJ 162 eZ 0) w λc1 w=>
 aA pg (aH 3 c1) w λc2 w=>
 aA pg (aD .shl 3 aG aG (aOk 1) c2) w λc3 w=>
 aA pg (iS 104 c3 c3) w λc5 w=>
 kn eZ c3 c5 c3 w
def R4 (R:K1) c_0 w:=
 R3 (IU R) c_0 w
def ahK a0 w(R:K1):=
 R4 R a0 w
theorem aeE{a0 w R}(h:ahK a0 w R):aK pg Cp #[a0] w R:=
 lB (ann:=jF) Tryz.f114 gS [a0] alK 70 TryzM.mixed Tryz.func114 (bZ 4 (eL (AK (IU R) 1 3 4 5) h (λg w h=>aE (bZ 1 (X3 _ g w (IP R) (λg w h=>aE (bZ 1 (eL (NQ (IN R) 1 3 4 5 8) h (λg w h=>aE (bZ 1 (X1 _ g w (Lu R) (λg w h=>aE (lT h cO)) h)))))) h)))))
def Xh:FA:=⟨oZ,λi=> .leaf ([],[]) []⟩
def aaX:List ResultVar:=[.tmp 2]
noncomputable def V4:Code:=aY Tryz.f115
def M4 (R:K1) fU w:=
 bQ (.bool false)
  (aA pg (cH 50 38 fU) w λb4 w=>
  aK pg pF #[b4] w λb5 w=>
  R b5 w)
  (aK pg pG #[fU] w λb7 w=>
  R b7 w)
def Vo a0 w(R:K1):=
 M4 R a0 w
theorem Wq{a0 w R}(h:Vo a0 w R):aK pg oZ #[a0] w R:=
 lB (ann:=Xh) Tryz.f115 V4 [a0] aaX 8 TryzM.mixed Tryz.func115 (lT h cO)
def Ig:FA:=⟨Cv,λi=> .leaf ([],[]) []⟩
def LR:List ResultVar:=[.tmp 2]
noncomputable def GM:Code:=aY Tryz.f116
def LK(R:K1) tQ w:=
 aA pg (aD .eql 3 (.tmp 60) (.const (aOk 0)) tQ (aOk 0)) w λj1 w=>
 R j1 w
def AX(kn:K4)(k0:K1)(R:K1) tQ f1 f2 f3 w:=
 aA pg (aD .lss 3 aG aG f3 f2) w λf4 w=>
 bQ f4
  (aA pg (aO 117 f1 f3) w λf5 w=>
  aA pg (aH 3 f5) w λf6 w=>
  aA pg (aD .lss 3 aG aG f6 (aOk (-1))) w λf8 w=>
  Gd (bK f8 false) (λK=>K f6 w) w λi0 w=>
  Gd (bK f8 false) (λK=>aK pg rT #[i0] w K) w λi1 w=>
  Gd (bK f8 false) (λK=>K tQ w) w λi2 w=>
  Gd (bK f8 false) (λK=>aA pg (aD .gtr 3 aG aG i1 i2) w K) w λi3 w=>
  aA pg (cD f8 (.bool true) i3) w λi4 w=>
  bQ i4
   (R (.bool false) w)
   (aK pg rT #[f6] w λi7 w=>
   aA pg (aD .sub 3 aG aG tQ i7) w λi8 w=>
   aA pg (aD .add 3 aG aG f3 (aOk 1)) w λi9 w=>
   kn i8 f1 f2 i9 w))
  (k0 tQ w)
def FT(k0:K1)(R:K1) tQ f1 f2 f3 w:=
 aX (λ(X:(aOj×aOj)->K0) (t:aOj×aOj) (w:aOi)=>AX (λtQ _ _ f3 w=>X (tQ,f3) w) k0 R t.1 f1 f2 t.2 w) (tQ,f3) w
theorem aaJ(k0:K1)(R:K1)(h0:E1 Q k0 0 3)(hr:HR LR R Q)(h:FT k0 R (g 3) (g 41) (g 42) (g 43) w):cP pg Ig (bI (aI 1 (aQ 1 (aI 3 GM)))) Q g w:=by
 refine AL (λg:Env=>(g 3,g 43)) (λX t w=>AX (λtQ _ _ f3 w=>X (tQ,f3) w) k0 R t.1 (g 41) (g 42) t.2 w) h (λX g1 w1 ha hL=> ?_)
 rw[<-cI 41 ha,<-cI 42 ha]at hL
 exact(zK [(0,(TR k0 3))] (AK (λtQ _ _ f3 w=>X (tQ,f3) w) 3 41 42 43) hL cO hr ⟨h0,trivial⟩)
def Vv(kn:K4) eZ tQ w:=
 aA pg (aJ 162 eZ 1) w λf0 w=>
 aA pg (aH 117 f0) w λf1 w=>
 aA pg (dD .len #[117] 3 [f1]) w λf2 w=>
 kn tQ f1 f2 (aOk 0) w
def LL(kn:K1)(R:K1) eZ tQ w:=
 Vv (FT kn R) eZ tQ w
def LM(R:K1) eZ tQ w:=
 LL (LK R) R eZ tQ w
theorem aaK(kn:K1)(R:K1)(hn:N1 Q kn 3)(hr:HR LR R Q)(h:LL kn R (g 1) (g 3) w):cP pg Ig (aQ 1 (aI 3 GM)) Q g w:=
 bZ 1 (eL (AK (FT kn R) 3 41 42 43) h (λg w h=>aE (qM 0 (aaJ _ g w kn R hn hr h))))
def Vw(kn:K2)(R:K1) c_0 w:=
 aA pg (A0 162 c_0) w λeZ w=>
 aA pg (aJ 162 eZ 0) w λb6 w=>
 aA pg (aH 3 b6) w λb7 w=>
 aA pg (aD .lss 3 aG aG b7 (aOk 5)) w λb8 w=>
 Gd (bK b8 false) (λK=>aA pg (aJ 162 eZ 0) w K) w λc0 w=>
 Gd (bK b8 false) (λK=>aA pg (aH 3 c0) w K) w λc1 w=>
 Gd (bK b8 false) (λK=>aA pg (aD .gtr 3 aG aG c1 (aOk 15)) w K) w λc2 w=>
 aA pg (cD b8 (.bool true) c2) w λc3 w=>
 Gd (bK c3 false) (λK=>aA pg (aJ 162 eZ 1) w K) w λc5 w=>
 Gd (bK c3 false) (λK=>aA pg (aH 117 c5) w K) w λc6 w=>
 Gd (bK c3 false) (λK=>aA pg (dD .len #[117] 3 [c6]) w K) w λc7 w=>
 Gd (bK c3 false) (λK=>aA pg (aD .lss 3 aG aG c7 (aOk 1)) w K) w λc8 w=>
 aA pg (cD c3 (.bool true) c8) w λc9 w=>
 Gd (bK c9 false) (λK=>aA pg (aJ 162 eZ 1) w K) w λd1 w=>
 Gd (bK c9 false) (λK=>aA pg (aH 117 d1) w K) w λd2 w=>
 Gd (bK c9 false) (λK=>aA pg (dD .len #[117] 3 [d2]) w K) w λd3 w=>
 Gd (bK c9 false) (λK=>aA pg (aD .gtr 3 aG aG d3 (aOk 256)) w K) w λd4 w=>
 aA pg (cD c9 (.bool true) d4) w λd5 w=>
 Gd (bK d5 false) (λK=>aA pg (aJ 162 eZ 1) w K) w λd7 w=>
 Gd (bK d5 false) (λK=>aA pg (aH 117 d7) w K) w λd8 w=>
 Gd (bK d5 false) (λK=>aA pg (aJ 162 eZ 1) w K) w λd9 w=>
 Gd (bK d5 false) (λK=>aA pg (aH 117 d9) w K) w λe0 w=>
 Gd (bK d5 false) (λK=>aA pg (dD .len #[117] 3 [e0]) w K) w λe1 w=>
 Gd (bK d5 false) (λK=>aA pg (aD .sub 3 aG aG e1 (aOk 1)) w K) w λe2 w=>
 Gd (bK d5 false) (λK=>aA pg (aO 117 d8 e2) w K) w λe3 w=>
 Gd (bK d5 false) (λK=>aA pg (aH 3 e3) w K) w λe4 w=>
 Gd (bK d5 false) (λK=>aA pg (aD .eql 3 (.tmp 34) (.const (aOk 0)) e4 (aOk 0)) w K) w λe5 w=>
 aA pg (cD d5 (.bool true) e5) w λe6 w=>
 bQ e6
  (R (.bool false) w)
  (aA pg (aJ 162 eZ 0) w λe7 w=>
  aA pg (aH 3 e7) w λe8 w=>
  aA pg (aD .shl 3 aG aG (aOk 1) e8) w λe9 w=>
  kn eZ e9 w)
def Vx(R:K1) c_0 w:=
 Vw (LM R) R c_0 w
def aiG a0 w(R:K1):=
 Vx R a0 w
theorem aeT{a0 w R}(h:aiG a0 w R):aK pg Cv #[a0] w R:=
 lB (ann:=Ig) Tryz.f116 GM [a0] LR 62 TryzM.mixed Tryz.func116 (bZ 3 (Lk (Kf (LM R) 1 3) h (λg w h=>aE (bZ 1 (aaK _ g w (LK R) R (λg w h=>aE (lT h cO)) cO h))) cO))
def Zs:FA:=⟨rT,λi=> .leaf ([],[]) []⟩
def afE:List ResultVar:=[.tmp 2]
noncomputable def Xx:Code:=aY Tryz.f117
def G0 (R:K1) p_0 w:=
 aA pg (aD .lss 3 aG aG p_0 (aOk 0)) w λb4 w=>
 bQ b4
  (R (aOk 1) w)
  (R p_0 w)
def OP a0 w(R:K1):=
 G0 R a0 w
theorem Yz{a0 w R}(h:OP a0 w R):aK pg rT #[a0] w R:=
 lB (ann:=Zs) Tryz.f117 Xx [a0] afE 6 TryzM.mixed Tryz.func117 (lT h cO)
def TW:FA:=⟨wP,λi=> .leaf ([],[]) []⟩
def WB:List ResultVar:=[.tmp 2]
noncomputable def Rk:Code:=aY Tryz.f118
def Il(R:K1) DP w:=
 aA pg (aD .eql 170 (.tmp 3) (.const (.pointer none)) DP (.pointer none)) w λb4 w=>
 bQ b4
  (R (.slice none 0 0) w)
  (aA pg (dQ DP) w λb6 w=>
  aA pg (aJ 201 b6 0) w λb7 w=>
  aA pg (aH 22 b7) w λb8 w=>
  aK pg gB #[b8] w λb9 w=>
  R b9 w)
def Pp a0 w(R:K1):=
 Il R a0 w
theorem Rf{a0 w R}(h:Pp a0 w R):aK pg wP #[a0] w R:=
 lB (ann:=TW) Tryz.f118 Rk [a0] WB 10 TryzM.mixed Tryz.func118 (lT h cO)
def T2:FA:=⟨wT,λi=> .leaf ([],[]) []⟩
def WI:List ResultVar:=[.tmp 4,.tmp 5]
noncomputable def Rr:Code:=aY Tryz.f120
def Ji(R:K1) fU y_1 w:=
 aA pg (aD .and 32 aG aG fU (.int .u64 4294967295)) w λc5 w=>
 aA pg (aD .shr 32 aG aG fU (.int .u64 32)) w λc7 w=>
 aA pg (aD .and 32 aG aG y_1 (.int .u64 4294967295)) w λc9 w=>
 aA pg (aD .shr 32 aG aG y_1 (.int .u64 32)) w λd1 w=>
 aA pg (aD .mul 32 aG aG c5 c9) w λd4 w=>
 aA pg (aD .mul 32 aG aG c7 c9) w λd7 w=>
 aA pg (aD .shr 32 aG aG d4 (.int .u64 32)) w λd9 w=>
 aA pg (aD .add 32 aG aG d7 d9) w λe0 w=>
 aA pg (aD .and 32 aG aG e0 (.int .u64 4294967295)) w λe2 w=>
 aA pg (aD .shr 32 aG aG e0 (.int .u64 32)) w λe4 w=>
 aA pg (aD .mul 32 aG aG c5 d1) w λe8 w=>
 aA pg (aD .add 32 aG aG e2 e8) w λe9 w=>
 aA pg (aD .mul 32 aG aG c7 d1) w λf2 w=>
 aA pg (aD .add 32 aG aG f2 e4) w λf4 w=>
 aA pg (aD .shr 32 aG aG e9 (.int .u64 32)) w λf6 w=>
 aA pg (aD .add 32 aG aG f4 f6) w λf7 w=>
 aA pg (aD .mul 32 aG aG fU y_1) w λi0 w=>
 R (.tuple #[f7,i0]) w
def PQ a0 a1 w(R:K1):=
 Ji R a0 a1 w
theorem Sy{a0 a1 w R}(h:PQ a0 a1 w R):aK pg wT #[a0,a1] w R:=
 lB (ann:=T2) Tryz.f120 Rr [a0,a1] WI 51 TryzM.mixed Tryz.func120 (lT h cO)
def CD:FA:=⟨Bd,λi=> .leaf ([],[]) []⟩
def EL:List ResultVar:=[.tmp 2,.tmp 3]
noncomputable def BB:Code:=aY Tryz.f132
def Fk(R:K1) eX w:=
 R (.tuple #[eX,(.bool true)]) w
def Fl(kn:K4) eX b7 b8 b9 w:=
 aA pg (aD .add 3 aG aG b9 (aOk 1)) w λd2 w=>
 kn eX b7 b8 d2 w
def NK(kn:K4)(k0:K1)(R:K1) eX b7 b8 b9 w:=
 aA pg (aD .lss 3 aG aG b9 b8) w λc0 w=>
 bQ c0
  (aA pg (aO 22 b7 b9) w λc1 w=>
  aA pg (aH 5 c1) w λc2 w=>
  aA pg (aD .gtr 5 aG aG c2 (.int .u8 11)) w λc4 w=>
  bQ c4
   (R (.tuple #[(aOk 0),(.bool false)]) w)
   (aA pg (aD .gtr 5 aG aG c2 (.int .u8 0)) w λc6 w=>
   bQ c6
    (aA pg (aD .sub 5 aG aG c2 (.int .u8 1)) w λc9 w=>
    aA pg (aD .shl 3 aG aG (aOk 1) c9) w λd0 w=>
    aA pg (aD .add 3 aG aG eX d0) w λd1 w=>
    kn d1 b7 b8 b9 w)
    (kn eX b7 b8 b9 w)))
  (k0 eX w)
def Fm(kn:K4)(k0:K1)(R:K1) eX b7 b8 b9 w:=
 NK (Fl kn) k0 R eX b7 b8 b9 w
def zV(k0:K1)(R:K1) eX b7 b8 b9 w:=
 aX (λ(X:(aOj×aOj)->K0) (t:aOj×aOj) (w:aOi)=>Fm (λeX _ _ b9 w=>X (eX,b9) w) k0 R t.1 b7 b8 t.2 w) (eX,b9) w
theorem UL(k0:K1)(R:K1)(h0:E1 Q k0 0 4)(hr:HR EL R Q)(h:zV k0 R (g 4) (g 7) (g 8) (g 9) w):cP pg CD (bI (aI 1 (aQ 1 (aI 2 BB)))) Q g w:=by
 refine AL (λg:Env=>(g 4,g 9)) (λX t w=>Fm (λeX _ _ b9 w=>X (eX,b9) w) k0 R t.1 (g 7) (g 8) t.2 w) h (λX g1 w1 ha hL=> ?_)
 rw[<-cI 7 ha,<-cI 8 ha]at hL
 exact(bZ 3 (zK [(0,(TR k0 4))] (AK (Fl (λeX _ _ b9 w=>X (eX,b9) w)) 4 7 8 9) hL (λg w h=>aE (eL (AK (λeX _ _ b9 w=>X (eX,b9) w) 4 7 8 9) h cO)) hr ⟨h0,trivial⟩))
def NL(kn:K4) dB eX w:=
 aA pg (dD .len #[22] 3 [dB]) w λb8 w=>
 kn eX dB b8 (aOk 0) w
def Fo(kn:K1)(R:K1) dB eX w:=
 NL (zV kn R) dB eX w
def Fp(R:K1) dB eX w:=
 Fo (Fk R) R dB eX w
theorem UM(kn:K1)(R:K1)(hn:N1 Q kn 4)(hr:HR EL R Q)(h:Fo kn R (g 0) (g 4) w):cP pg CD (aQ 1 (aI 2 BB)) Q g w:=
 bZ 1 (eL (AK (zV kn R) 4 7 8 9) h (λg w h=>aE (qM 0 (UL _ g w kn R hn hr h))))
def KM(kn:K2) dB w:=
 kn dB (aOk 0) w
def KN(R:K1) dB w:=
 KM (Fp R) dB w
def VI a0 w(R:K1):=
 KN R a0 w
theorem WY{a0 w R}(h:VI a0 w R):aK pg Bd #[a0] w R:=
 lB (ann:=CD) Tryz.f132 BB [a0] EL 24 TryzM.mixed Tryz.func132 (bZ 2 (eL (Kf (Fp R) 0 4) h (λg w h=>aE (bZ 1 (UM _ g w (Fk R) R (λg w h=>aE (lT h cO)) cO h)))))
def rV:FA:=⟨nT,λi=> .leaf ([],[]) []⟩
def O0:List ResultVar:=[.tmp 2]
noncomputable def qN:Code:=aY Tryz.f133
def uD(R:K1) QF w:=
 R QF w
def uE(kn:K3)(k0:K1) fU QF TG w:=
 aA pg (dD .len #[22] 3 [fU]) w λc4 w=>
 aA pg (aD .lss 3 aG aG TG c4) w λc5 w=>
 bQ c5
  (aA pg (aO 22 fU TG) w λd1 w=>
  aA pg (aH 5 d1) w λd2 w=>
  aA pg (dD .max #[5,5] 5 [QF,d2]) w λd3 w=>
  aA pg (aD .add 3 aG aG TG (aOk 1)) w λc7 w=>
  kn fU d3 c7 w)
  (k0 QF w)
def mM(k0:K1) fU QF TG w:=
 aX (λ(X:(aOj×aOj)->K0) (t:aOj×aOj) (w:aOi)=>uE (λ_ QF TG w=>X (QF,TG) w) k0 fU t.1 t.2 w) (QF,TG) w
theorem J7 (k0:K1)(h0:E1 Q k0 0 3)(h:mM k0 (g 0) (g 3) (g 4) w):cP pg rV (bI (aI 1 (aQ 1 (aI 1 (aI 2 qN))))) Q g w:=by
 refine AL (λg:Env=>(g 3,g 4)) (λX t w=>uE (λ_ QF TG w=>X (QF,TG) w) k0 (g 0) t.1 t.2 w) h (λX g1 w1 ha hL=> ?_)
 rw[<-cI 0 ha]at hL
 exact(zK [(0,(TR k0 3))] (kr:=no) (TE (λ_ QF TG w=>X (QF,TG) w) 0 3 4) hL cO DN ⟨h0,trivial⟩)
def Dj(kn:K3) fU QF w:=
 kn fU QF (aOk 1) w
def uF(kn:K1) fU QF w:=
 Dj (mM kn) fU QF w
def uG(R:K1) fU QF w:=
 uF (uD R) fU QF w
theorem J8 (kn:K1)(hn:N1 Q kn 3)(h:uF kn (g 0) (g 3) w):cP pg rV (aQ 1 (aI 1 (aI 2 qN))) Q g w:=
 bZ 1 (eL (TE (mM kn) 0 3 4) h (λg w h=>aE (qM 0 (J7 _ g w kn hn h))))
def Dk(kn:K2) fU w:=
 aA pg (aO 22 fU (aOk 0)) w λc0 w=>
 aA pg (aH 5 c0) w λc1 w=>
 kn fU c1 w
def uH(R:K1) fU w:=
 Dk (uG R) fU w
def Cc(kn:K1) fU w:=
 aA pg (dD .len #[22] 3 [fU]) w λb6 w=>
 aA pg (aD .lss 3 aG aG b6 (aOk 1)) w λb7 w=>
 bQ b7
  (aA pg (WM 9 (.string ⟨#[115,108,105,99,101,115,46,77,97,120,58,32,101,109,112,116,121,32,108,105,115,116]⟩)) w λb8 w=>
  aA pg (V (Instr.panic b8)) w λ_u w=>
  kn fU w)
  (kn fU w)
def Cd(R:K1) fU w:=
 Cc (uH R) fU w
def Hs a0 w(R:K1):=
 Cd R a0 w
theorem LW{a0 w R}(h:Hs a0 w R):aK pg nT #[a0] w R:=
 lB (ann:=rV) Tryz.f133 qN [a0] O0 25 TryzM.mixed Tryz.func133 (bZ 2 (eL (TR (uH R) 0) h (λg w h=>aE (bZ 1 (eL (Kf (uG R) 0 3) h (λg w h=>aE (bZ 1 (J8 _ g w (uD R) (λg w h=>aE (lT h cO)) h))))))))
def pK:FA:=⟨pA,λi=> .leaf ([],[]) []⟩
def aaZ:List ResultVar:=[.tmp 2,.tmp 3]
noncomputable def nG:Code:=aY Tryz.f134
def Fa(R:K1) aR w:=
 R (.tuple #[aR,(aOk 0)]) w
def Fb(kn:K5) dB V8 aR mS P8 w:=
 aA pg (aD .add 3 aG aG P8 (aOk 1)) w λd0 w=>
 kn dB V8 aR mS d0 w
def Fc(kn:K7) dB V8 aR mS P8 d2 d3 w:=
 aA pg (aD .add 3 aG aG d3 (aOk 1)) w λi0 w=>
 kn dB V8 aR mS P8 d2 i0 w
def NF(kn:K7)(k2:K5) dB V8 aR mS P8 d2 d3 w:=
 aA pg (aD .lss 3 aG aG d3 d2) w λd4 w=>
 bQ d4
  (aA pg (aO 22 dB d3) w λd8 w=>
  aA pg (aH 5 d8) w λd9 w=>
  aA pg (cH 5 3 d9) w λe0 w=>
  aA pg (aD .neq 3 (.tmp 30) (.tmp 31) e0 P8) w λe2 w=>
  bQ e2
   (kn dB V8 aR mS P8 d2 d3 w)
   (aA pg (aD .add 3 aG aG V8 (aOk 1)) w λe6 w=>
   aA pg (aD .sub 3 aG aG e6 P8) w λe8 w=>
   aA pg (aD .sub 3 aG aG P8 (aOk 1)) w λf1 w=>
   aA pg (aD .shr 3 aG aG mS f1) w λf2 w=>
   aA pg (bH 241 [(0,e8),(1,f2)]) w λf3 w=>
   aA pg (aO 225 aR d3) w λf4 w=>
   aA pg (aM 241 f4 f3) w λ_u w=>
   aA pg (aD .sub 3 aG aG P8 (aOk 1)) w λf7 w=>
   aA pg (aD .shl 3 aG aG (aOk 1) f7) w λf8 w=>
   aA pg (aD .add 3 aG aG mS f8) w λf9 w=>
   kn dB V8 aR f9 P8 d2 d3 w))
  (k2 dB V8 aR mS P8 w)
def Fe(kn:K7)(k2:K5) dB V8 aR mS P8 d2 d3 w:=
 NF (Fc kn) k2 dB V8 aR mS P8 d2 d3 w
def zS(k2:K5) dB V8 aR mS P8 d2 d3 w:=
 aX (λ(X:(aOj×aOj)->K0) (t:aOj×aOj) (w:aOi)=>Fe (λ_ _ _ mS _ _ d3 w=>X (mS,d3) w) k2 dB V8 aR t.1 P8 d2 t.2 w) (mS,d3) w
theorem UJ(k2:K5)(h2:E5 Q k2 2 0 4 5 6 7)(h:zS k2 (g 0) (g 4) (g 5) (g 6) (g 7) (g 22) (g 23) w):cP pg pK (bI (aI 1 (bI (aQ 1 (aI 1 (bI (bI (aI 1 (aQ 1 (aI 5 nG)))))))))) Q g w:=by
 refine AL (λg:Env=>(g 6,g 23)) (λX t w=>Fe (λ_ _ _ mS _ _ d3 w=>X (mS,d3) w) k2 (g 0) (g 4) (g 5) t.1 (g 7) (g 22) t.2 w) h (λX g1 w1 ha hL=> ?_)
 rw[<-cI 0 ha,<-cI 4 ha,<-cI 5 ha,<-cI 7 ha,<-cI 22 ha]at hL
 exact(bZ 3 (zK [(2,(NQ k2 0 4 5 6 7))] (kr:=no) (JW (Fc (λ_ _ _ mS _ _ d3 w=>X (mS,d3) w)) 0 4 5 6 7 22 23) hL (λg w h=>aE (eL (JW (λ_ _ _ mS _ _ d3 w=>X (mS,d3) w) 0 4 5 6 7 22 23) h cO)) DN ⟨h2,trivial⟩))
def NG(kn:K7) dB V8 aR mS P8 w:=
 aA pg (dD .len #[22] 3 [dB]) w λd2 w=>
 kn dB V8 aR mS P8 d2 (aOk 0) w
def Ff(kn:K5) dB V8 aR mS P8 w:=
 NG (zS kn) dB V8 aR mS P8 w
def Dw(kn:K5) dB V8 aR mS P8 w:=
 Ff (Fb kn) dB V8 aR mS P8 w
theorem Tk(kn:K5)(hn:N5 Q kn 0 4 5 6 7)(h:Ff kn (g 0) (g 4) (g 5) (g 6) (g 7) w):cP pg pK (aQ 1 (aI 1 (bI (bI (aI 1 (aQ 1 (aI 5 nG))))))) Q g w:=
 qM 1 (bZ 1 (eL (JW (zS kn) 0 4 5 6 7 22 23) h (λg w h=>aE (qM 2 (UJ _ g w kn hn h)))))
def KJ(kn:K5)(k0:K1) dB V8 aR mS P8 w:=
 aA pg (aD .leq 3 aG aG P8 V8) w λc8 w=>
 bQ c8
  (kn dB V8 aR mS P8 w)
  (k0 aR w)
def Dx(kn:K5)(k0:K1) dB V8 aR mS P8 w:=
 KJ (Dw kn) k0 dB V8 aR mS P8 w
def xN(k0:K1) dB V8 aR mS P8 w:=
 aX (λ(X:(aOj×aOj)->K0) (t:aOj×aOj) (w:aOi)=>Dx (λ_ _ _ mS P8 w=>X (mS,P8) w) k0 dB V8 aR t.1 t.2 w) (mS,P8) w
theorem Tl(k0:K1)(h0:E1 Q k0 0 5)(h:xN k0 (g 0) (g 4) (g 5) (g 6) (g 7) w):cP pg pK (bI (aI 1 (aQ 1 (aI 5 nG)))) Q g w:=by
 refine AL (λg:Env=>(g 6,g 7)) (λX t w=>Dx (λ_ _ _ mS P8 w=>X (mS,P8) w) k0 (g 0) (g 4) (g 5) t.1 t.2 w) h (λX g1 w1 ha hL=> ?_)
 rw[<-cI 0 ha,<-cI 4 ha,<-cI 5 ha]at hL
 exact(bZ 1 (zK [(0,(TR k0 5))] (kr:=no) (NQ (Dw (λ_ _ _ mS P8 w=>X (mS,P8) w)) 0 4 5 6 7) hL (λg w h=>aE (bZ 1 (Tk _ g w (Fb (λ_ _ _ mS P8 w=>X (mS,P8) w)) (λg w h=>aE (eL (NQ (λ_ _ _ mS P8 w=>X (mS,P8) w) 0 4 5 6 7) h cO)) h))) DN ⟨h0,trivial⟩))
def KK(kn:K5) dB V8 aR mS w:=
 kn dB V8 aR mS (aOk 1) w
def Dy(kn:K1) dB V8 aR mS w:=
 KK (xN kn) dB V8 aR mS w
def Dz(R:K1) dB V8 aR mS w:=
 Dy (Fa R) dB V8 aR mS w
theorem Tm(kn:K1)(hn:N1 Q kn 5)(h:Dy kn (g 0) (g 4) (g 5) (g 6) w):cP pg pK (aQ 1 (aI 5 nG)) Q g w:=
 bZ 1 (eL (NQ (xN kn) 0 4 5 6 7) h (λg w h=>aE (qM 0 (Tl _ g w kn hn h))))
def DA(kn:K4)(R:K1) dB w:=
 aK pg uW #[dB] w λc0 w=>
 aA pg (aD .eql 3 (.tmp 11) (.const (aOk 0)) c0 (aOk 0)) w λc2 w=>
 bQ c2
  (R (.tuple #[(.slice none 0 0),(aOk 1)]) w)
  (aA pg (dD .len #[22] 3 [dB]) w λc4 w=>
  aA pg (iS 225 c4 c4) w λc5 w=>
  kn dB c0 c5 (aOk 0) w)
def DB(R:K1) dB w:=
 DA (Dz R) R dB w
def L3 a0 w(R:K1):=
 DB R a0 w
theorem JK{a0 w R}(h:L3 a0 w R):aK pg pA #[a0] w R:=
 lB (ann:=pK) Tryz.f134 nG [a0] aaZ 52 TryzM.mixed Tryz.func134 (bZ 5 (Lk (AK (Dz R) 0 4 5 6) h (λg w h=>aE (bZ 1 (Tm _ g w (Fa R) (λg w h=>aE (lT h cO)) h))) cO))
def lM:FA:=⟨eM,λi=>match Nat.beq i 6 with|true=> .leaf ([12],[]) (fz 12 (ft [] []))|false=> .leaf ([],[]) []⟩
def Jr:List ResultVar:=[.cell 4 22,.cell 5 24]
noncomputable def bO:Code:=aY Tryz.f135
def xE(kn:K0)(R:K1) jX b4 b5 w_6 GD w:=
 aA pg (cH 5 3 GD) w λc5 w=>
 aA pg (aH 225 jX) w λc6 w=>
 aA pg (dD .len #[225] 3 [c6]) w λc7 w=>
 aA pg (aD .geq 3 aG aG c5 c7) w λc8 w=>
 Gd (bK c8 false) (λK=>aA pg (aH 225 jX) w K) w λd0 w=>
 Gd (bK c8 false) (λK=>K GD w) w λd1 w=>
 Gd (bK c8 false) (λK=>aA pg (aO 225 d0 d1) w K) w λd2 w=>
 Gd (bK c8 false) (λK=>aA pg (aJ 241 d2 0) w K) w λd3 w=>
 Gd (bK c8 false) (λK=>aA pg (aH 3 d3) w K) w λd4 w=>
 Gd (bK c8 false) (λK=>aA pg (aD .eql 3 (.tmp 24) (.const (aOk 0)) d4 (aOk 0)) w K) w λd5 w=>
 aA pg (cD c8 (.bool true) d5) w λd6 w=>
 bQ d6
  (aA pg (aM 22 b4 (.slice none 0 0)) w λ_u w=>
  aA pg (aM 24 b5 (aOk 1)) w λ_u w=>
  R (.tuple #[]) w)
  (aA pg (aH 170 w_6) (dr w) λd7 w_=>w_=(dr w)/\
  aA pg (aH 225 jX) (dr w) λd8 w_=>w_=(dr w)/\
  (dr w)=(dr w)/\
  aA pg (aO 225 d8 GD) (dr w) λe0 w_=>w_=(dr w)/\
  aA pg (aJ 241 e0 1) (dr w) λe1 w_=>w_=(dr w)/\
  aA pg (aH 3 e1) (dr w) λe2 w_=>w_=(dr w)/\
  aA pg (cH 3 32 e2) (dr w) λe3 w_=>w_=(dr w)/\
  aA pg (aH 225 jX) (dr w) λe4 w_=>w_=(dr w)/\
  (dr w)=(dr w)/\
  aA pg (aO 225 e4 GD) (dr w) λe6 w_=>w_=(dr w)/\
  aA pg (aJ 241 e6 0) (dr w) λe7 w_=>w_=(dr w)/\
  aA pg (aH 3 e7) (dr w) λe8 w_=>w_=(dr w)/\
  aK pg bX #[d7,e3,e8] (dr w) λe9 aJ5=>
  kn aJ5)
theorem R9 (kn:K0)(R:K1)(hn:N0 Q kn)(hr:HR aIC R Q)(h:xE kn R (g 2) (g 4) (g 5) (g 6) (g 8) w):cP pg lM (azB bO) Q g w:=
 Lk _ h hn hr
def C5 (kn:K5) jX b4 b5 w_6 c3 w:=
 kn jX b4 b5 w_6 c3 w
theorem R8 (kn:K5)(hn:N5 Q kn 2 4 5 6 8)(h:C5 kn (g 2) (g 4) (g 5) (g 6) (g 13) w):cP pg lM (aCp bO) Q g w:=
 eL _ h hn
def PJ(l:Nat)(R:K1)(jX b4 b5 w_6 c3:aOj)(w:aOi):Prop:=
 C5 (λjX b4 b5 w_6 GD w=>Rdy l w λw=>xE (λw=>arN l none R w) (λ_ w=>arN l (some .ret) R w) jX b4 b5 w_6 GD w) jX b4 b5 w_6 c3 w
theorem Ya{l:Nat}{tmps:Array aOj}{w:aOi}{R:K1}(hsz:tmps.size=42)(h:PJ l R (Qw tmps 2) (Qw tmps 4) (Qw tmps 5) (Qw tmps 6) (Qw tmps 13) w):alV pg l eM tmps (aCp bO) (azB bO) w R:=
 dsR (ann:=lM) 42 TryzM.mixed hsz (R8 (asQ pg lM l (azB bO) R) (Qw tmps) w (λjX b4 b5 w_6 GD w=>Rdy l w λw=>xE (arN l none R) (λ_ w=>arN l (some .ret) R w) jX b4 b5 w_6 GD w) (λg w h=>let⟨r,h1,h2,h3⟩:=h;⟨r,h1,h2,(R9 (aqB l R) g _ (arN l none R) (λ_ w=>arN l (some .ret) R w) (λ_ _ h=>h) (λ_ _ h=>h) h3)⟩) h) (by kernel_rfl) (by kernel_rfl) (by kernel_rfl)
def C6 (R:K1) b4 b5 w_6 t1000003 w:=
 aA pg (aH 170 w_6) w λf0 w=>
 aK pg kS #[f0] w λf1 w=>
 aA pg (aM 22 b4 f1) w λ_u w=>
 aA pg (aM 24 b5 (aOk 0)) w λ_u w=>
 Ec t1000003 w λw=>vU pg 22 b4 w λr0=>vU pg 24 b5 w λr1=>R (.tuple #[r0,r1]) w
def C7 (kn:K4)(R:K1) jX b4 b5 w_6 c1 t1000003 w:=
 ∀g:Env,g 2=jX->g 4=b4->g 5=b5->g 6=w_6->g 11=c1->g 1000003=t1000003->RF pg eM (.tmp 11) (aEG bO) (aCp bO) (azB bO) (exQ (λg w=>kn (g 4) (g 5) (g 6) (g 1000003) w) (λg w=>Ec (g 1000003) w λw=>vU pg 22 (g 4) w λr0=>vU pg 24 (g 5) w λr1=>R (.tuple #[r0,r1]) w) []) g w
theorem X8 (kn:K4)(R:K1)(hn:N4 Q kn 4 5 6 1000003)(hr:HRF Jr R Q)(h:C7 kn R (g 2) (g 4) (g 5) (g 6) (g 11) (g 1000003) w):cP pg lM (bI (aI 1 (aQ 1 (aI 2 bO)))) Q g w:=
 exD (l:=[]) (h g rfl rfl rfl rfl rfl rfl) hn hr trivial
def Sa(kn:K6) tN jX b4 b5 w_6 t1000003 w:=
 aK pg tB #[tN] w λc1 w=>
 kn jX b4 b5 w_6 c1 t1000003 w
def IW(kn:K4)(R:K1) tN jX b4 b5 w_6 t1000003 w:=
 Sa (C7 kn R) tN jX b4 b5 w_6 t1000003 w
def IX(R:K1) tN jX b4 b5 w_6 t1000003 w:=
 IW (C6 R) R tN jX b4 b5 w_6 t1000003 w
theorem X9 (kn:K4)(R:K1)(hn:N4 Q kn 4 5 6 1000003)(hr:HRF Jr R Q)(h:IW kn R (g 1) (g 2) (g 4) (g 5) (g 6) (g 1000003) w):cP pg lM (aQ 1 (aI 2 bO)) Q g w:=
 bZ 1 (eL (TS (C7 kn R) 2 4 5 6 11 1000003) h (λg w h=>aE (qM 0 (X8 _ g w kn R hn hr h))))
def Sb(kn:K6) aoH tN t1000003 w:=
 aA pg (A0 225 aoH) w λjX w=>
 aA pg (bG 22) w λb4 w=>
 aA pg (bG 24) w λb5 w=>
 aK pg kI #[] w λb9 w=>
 aA pg (bG 170) w λw_6 w=>
 aA pg (aM 170 w_6 b9) w λ_u w=>
 kn tN jX b4 b5 w_6 t1000003 w
def Sc(R:K1) aoH tN t1000003 w:=
 Sb (IX R) aoH tN t1000003 w
def acI a0 a1 w(R:K1):=
 Sc R a0 a1 undef w
theorem Z3 {a0 a1 w R}(h:acI a0 a1 w R):aK pg eM #[a0,a1] w R:=
 dsF (ann:=lM) Tryz.f135 bO [a0,a1] Jr 42 TryzM.mixed Tryz.func135 (bZ 2 (eL (TS (IX R) 1 2 4 5 6 1000003) h (λg w h=>aE (bZ 1 (X9 _ g w (C6 R) R (λg w h=>aE (lT h cO)) cO h)))))
def agF:FA:=⟨HK,λi=> .leaf ([],[]) []⟩
def alL:List ResultVar:=[.cell 2 139,.tmp 3]
noncomputable def adS:Code:=aY Tryz.f136
def Vg(R:K1) n_0 w:=
 aA pg (bG 139) w λb2 w=>
 aA pg (aD .add 3 aG aG n_0 (aOk 4)) w λb6 w=>
 aA pg (aD .sub 3 aG aG b6 (aOk 1)) w λb7 w=>
 aA pg (aD .quo 3 aG aG b7 (aOk 4)) w λb8 w=>
 aA pg (aD .mul 3 aG aG (aOk 3) b8) w λc4 w=>
 aA pg (aD .sub 3 aG aG n_0 c4) w λc5 w=>
 aA pg (bH 139 [(0,b8),(1,b8),(2,b8),(3,c5)]) w λc6 w=>
 aA pg (aD .mul 3 aG aG (aOk 3) b8) w λc9 w=>
 aA pg (aD .geq 3 aG aG n_0 c9) w λd0 w=>
 aA pg (aM 139 b2 c6) w λ_u w=>
 vU pg 139 b2 w λr0=>R (.tuple #[r0,d0]) w
def ahQ a0 w(R:K1):=
 Vg R a0 w
theorem aeI{a0 w R}(h:ahQ a0 w R):aK pg HK #[a0] w R:=
 lB (ann:=agF) Tryz.f136 adS [a0] alL 21 TryzM.mixed Tryz.func136 (lT h cO)
def KR:FA:=⟨tB,λi=> .leaf ([],[]) []⟩
def Nl:List ResultVar:=[.tmp 2]
noncomputable def JZ:Code:=aY Tryz.f145
def Cb(R:K1) lU w:=
 aA pg (A0 22 lU) w λs_1 w=>
 aA pg (ajB (.func 151) [] [s_1]) w λb3 w=>
 R b3 w
def Gx a0 w(R:K1):=
 Cb R a0 w
theorem J4 {a0 w R}(h:Gx a0 w R):aK pg tB #[a0] w R:=
 lB (ann:=KR) Tryz.f145 JZ [a0] Nl 4 TryzM.mixed Tryz.func145 (lT h cO)
def uX:FA:=⟨fM,λi=> .leaf ([],[]) []⟩
def xJ:List ResultVar:=[]
noncomputable def sV:Code:=aY Tryz.f151
def mI(kn:K3)(k0:K0)(R:K1) KP b1 i_3 w:=
 aA pg (aD .geq 3 aG aG i_3 (aOk 0)) w λb8 w=>
 bQ b8
  (aA pg (aH 22 b1) w λc3 w=>
  aA pg (aO 22 c3 i_3) w λc5 w=>
  aA pg (aH 5 c5) w λc6 w=>
  aA pg (BF KP [i_3,c6]) w λc7 w=>
  aA pg (sUn .not c7) w λc8 w=>
  bQ c8
   (R (.tuple #[]) w)
   (aA pg (aD .sub 3 aG aG i_3 (aOk 1)) w λc0 w=>
   kn KP b1 c0 w))
  (k0 w)
def iY(k0:K0)(R:K1) KP b1 i_3 w:=
 aX (λ(X:aOj->K0) (t:aOj) (w:aOi)=>mI (λ_ _ i_3 w=>X i_3 w) k0 R KP b1 t w) i_3 w
theorem EM(k0:K0)(R:K1)(h0:E0 Q k0 0)(hr:HR xJ R Q)(h:iY k0 R (g 0) (g 1) (g 3) w):cP pg uX (bI (aI 1 sV)) Q g w:=by
 refine AL (λg:Env=>g 3) (λX t w=>mI (λ_ _ i_3 w=>X i_3 w) k0 R (g 0) (g 1) t w) h (λX g1 w1 ha hL=> ?_)
 rw[<-cI 0 ha,<-cI 1 ha]at hL
 exact(zK [(0,(Mq0 k0))] (TE (λ_ _ i_3 w=>X i_3 w) 0 1 3) hL cO hr ⟨h0,trivial⟩)
def xK(kn:K3) KP b1 w:=
 aA pg (aH 22 b1) w λb4 w=>
 aA pg (dD .len #[22] 3 [b4]) w λb5 w=>
 aA pg (aD .sub 3 aG aG b5 (aOk 1)) w λb6 w=>
 kn KP b1 b6 w
def xL(kn:K0)(R:K1) KP b1 w:=
 xK (iY kn R) KP b1 w
def A4 a0 a1 w(R:K1):=
 xL (λw=>R (.tuple #[]) w) R a0 a1 w
theorem Gy{a0 a1 w R}(h:A4 a0 a1 w R):aK pg fM #[a0,a1] w R:=
 lB (ann:=uX) Tryz.f151 sV [a0,a1] xJ 19 TryzM.mixed Tryz.func151 (bZ 1 (eL (TE (iY (λw=>R (.tuple #[]) w) R) 0 1 3) h (λg w h=>aE (qM 0 (EM _ g w (λw=>R (.tuple #[]) w) R cO cO h)))))
end Go.Proofs.YtoecppploooloaaGreatDoor
namespace Go.En
open Go
section
variable{P:Program}{w:aOi}{t:TypeId}{ox oy:Operand}{k:IntKind}{a b:Int}
theorem lZ(s:Sem aOj):(V s).run P w=(s.run P w).andThen λv w=> .ok (.value v) w:=by
 unfold V;rw[Sem.run_bind]<;>rfl
theorem aJT(s:Sem Unit):(U s).run P w=(s.run P w).andThen λ_ w=> .ok .skip w:=by
 unfold U;rw[Sem.run_bind]<;>rfl
theorem gO:(aD .add t ox oy (.int k a) (.int k b)).run P w= .ok (.value (.int k (k.wrap (a+b)))) w:=by
 simp[aD,J2,lZ,binOp,Op.intArith]
theorem Ca:(aD .sub t ox oy (.int k a) (.int k b)).run P w= .ok (.value (.int k (k.wrap (a-b)))) w:=by
 simp[aD,J2,lZ,binOp,Op.intArith]
theorem VA:(aD .mul t ox oy (.int k a) (.int k b)).run P w= .ok (.value (.int k (k.wrap (a*b)))) w:=by
 simp[aD,J2,lZ,binOp,Op.intArith]
theorem YK(h:b≠0):(aD .quo t ox oy (.int k a) (.int k b)).run P w= .ok (.value (.int k (k.wrap (a.tdiv b)))) w:=by
 simp[aD,J2,lZ,binOp,Op.intDiv,h]
theorem acU(h:b≠0):(aD .rem t ox oy (.int k a) (.int k b)).run P w= .ok (.value (.int k (a.tmod b))) w:=by
 simp[aD,J2,lZ,binOp,Op.intDiv,h]
def Cj(k:IntKind)(a b:Int):Int:=k.wrap (BitVec.ofInt k.bits a&&&BitVec.ofInt k.bits b).toNat
def orI(k:IntKind)(a b:Int):Int:=k.wrap (BitVec.ofInt k.bits a|||BitVec.ofInt k.bits b).toNat
def WZ(k:IntKind)(a b:Int):Int:=k.wrap (BitVec.ofInt k.bits a^^^BitVec.ofInt k.bits b).toNat
def aAk(k:IntKind)(a b:Int):Int:=k.wrap (BitVec.ofInt k.bits a&&& ~~~BitVec.ofInt k.bits b).toNat
theorem Dd:(aD .and t ox oy (.int k a) (.int k b)).run P w= .ok (.value (.int k (Cj k a b))) w:=by
 simp[aD,J2,lZ,binOp,Op.intBits,Cj]
theorem auQ:(aD .or t ox oy (.int k a) (.int k b)).run P w= .ok (.value (.int k (orI k a b))) w:=by
 simp[aD,J2,lZ,binOp,Op.intBits,orI]
theorem acV:(aD .xor t ox oy (.int k a) (.int k b)).run P w= .ok (.value (.int k (WZ k a b))) w:=by
 simp[aD,J2,lZ,binOp,Op.intBits,WZ]
theorem Gn:(aD .andNot t ox oy (.int k a) (.int k b)).run P w= .ok (.value (.int k (aAk k a b))) w:=by
 simp[aD,J2,lZ,binOp,Op.intBits,aAk]
theorem Jm{k':IntKind}(h:0<=b):(aD .shl t ox oy (.int k a) (.int k' b)).run P w= .ok (.value (.int k (k.wrap (a*2^(min b.toNat k.bits))))) w:=by
 simp[aD,J2,lZ,binOp,Op.shift,Int.not_lt.2 h]
theorem oI{k':IntKind}(h:0<=b):(aD .shr t ox oy (.int k a) (.int k' b)).run P w= .ok (.value (.int k (a.fdiv (2^(min b.toNat k.bits))))) w:=by
 simp[aD,J2,lZ,binOp,Op.shift,Int.not_lt.2 h]
theorem mR:(aD .eql t ox oy (.int k a) (.int k b)).run P w= .ok (.value (.bool (a==b))) w:=by
 simp[aD,J2,lZ,binOp,Op.intCmp,eqGuard]
theorem Eb:(aD .neq t ox oy (.int k a) (.int k b)).run P w= .ok (.value (.bool (a !=b))) w:=by
 simp[aD,J2,lZ,binOp,Op.intCmp,eqGuard]
theorem fK:(aD .lss t ox oy (.int k a) (.int k b)).run P w= .ok (.value (.bool (decide (a<b)))) w:=by
 simp[aD,J2,lZ,binOp,Op.intCmp]
theorem Vz:(aD .leq t ox oy (.int k a) (.int k b)).run P w= .ok (.value (.bool (decide (a<=b)))) w:=by
 simp[aD,J2,lZ,binOp,Op.intCmp]
theorem sX:(aD .gtr t ox oy (.int k a) (.int k b)).run P w= .ok (.value (.bool (decide (b<a)))) w:=by
 simp[aD,J2,lZ,binOp,Op.intCmp]
theorem AY:(aD .geq t ox oy (.int k a) (.int k b)).run P w= .ok (.value (.bool (decide (b<=a)))) w:=by
 simp[aD,J2,lZ,binOp,Op.intCmp]
theorem YI:(sUn .neg (.int k a)).run P w= .ok (.value (.int k (k.wrap (0-a)))) w:=by
 simp[sUn,lZ,Op.unary,Op.intArith]
theorem acQ:(sUn .xor (.int k a)).run P w= .ok (.value (.int k (WZ k (if k.signed then-1 else k.max) a))) w:=by
 simp[sUn,lZ,Op.unary,Op.intBits,WZ]
theorem YJ(c:Bool):(sUn .not (.bool c)).run P w= .ok (.value (.bool !c)) w:=by
 simp[sUn,lZ,Op.unary]
theorem kK(c:Bool)(x y:aOj):(cD (.bool c) x y).run P w= .ok (.value (if c then x else y)) w:=by
 simp[cD,asBool]
theorem avC{x y:aOj}{r:Bool}(hg:eqGuard .eql t ox oy x y=pure ())(hb:binOp .eql t x y=(do pure (.bool (<-Op.equal t x y))))(he:(Op.equal t x y).run P w= .ok r w):
 (aD .eql t ox oy x y).run P w= .ok (.value (.bool r)) w:=by
 unfold aD
 simp only[J2,lZ,hg,hb,pure_bind]
 rw[Sem.run_bind,he]<;>rfl
theorem aEL{x y:aOj}{r:Bool}(hg:eqGuard .neq t ox oy x y=pure ())(hb:binOp .neq t x y=(do pure (.bool (!(<-Op.equal t x y)))))(he:(Op.equal t x y).run P w= .ok r w):
 (aD .neq t ox oy x y).run P w= .ok (.value (.bool (!r))) w:=by
 unfold aD
 simp only[J2,lZ,hg,hb,pure_bind]
 rw[Sem.run_bind,he]<;>rfl
theorem dA{n:Int}(h0: -9223372036854775808<=n)(h1:n<=9223372036854775807):IntKind.i64.wrap n=n:=by
 unfold IntKind.wrap;simp[IntKind.bits,IntKind.signed];split<;>omega
theorem gR{n:Int}(h0:0<=n)(h1:n<=18446744073709551615):IntKind.u64.wrap n=n:=by
 unfold IntKind.wrap;simp[IntKind.bits,IntKind.signed];omega
theorem adF{n:Int}(h0: -2147483648<=n)(h1:n<=2147483647):IntKind.i32.wrap n=n:=by
 unfold IntKind.wrap;simp[IntKind.bits,IntKind.signed];split<;>omega
theorem ND{n:Int}(h0:0<=n)(h1:n<=4294967295):IntKind.u32.wrap n=n:=by
 unfold IntKind.wrap;simp[IntKind.bits,IntKind.signed];omega
theorem adG{n:Int}(h0:0<=n)(h1:n<=65535):IntKind.u16.wrap n=n:=by
 unfold IntKind.wrap;simp[IntKind.bits,IntKind.signed];omega
theorem Q0 {n:Int}(h0:0<=n)(h1:n<=255):IntKind.u8.wrap n=n:=by
 unfold IntKind.wrap;simp[IntKind.bits,IntKind.signed];omega
theorem wu8 (n:Int):IntKind.u8.wrap n=n%256:=by
 unfold IntKind.wrap;simp[IntKind.bits,IntKind.signed]
theorem aIy(x y:ByteArray):(aD .eql t ox oy (.string x) (.string y)).run P w= .ok (.value (.bool (x.toList==y.toList))) w:=by
 simp[aD,J2,lZ,binOp,Op.stringOp,eqGuard]
theorem aDN(n:Nat){e:TypeId}(hu:P.underlying t=some (.pointer e))(x:Option Addr):(Op.equalIn (n+1) t (.pointer x) (.pointer none)).run P w= .ok x.isNone w:=by
 simp only[Op.equalIn,underlying]
 cases x<;>simp[hu]
theorem aDO{e:TypeId}(hu:P.underlying t=some (.pointer e))(x:Option Addr):(Op.equal t (.pointer x) (.pointer none)).run P w= .ok x.isNone w:=aDN 9999 hu x
theorem aF8 (m:Nat){e:TypeId}(hu:P.underlying t=some (.slice e))(x:Option Addr)(n c:Nat):(Op.equalIn (m+1) t (.slice x n c) (.slice none 0 0)).run P w= .ok x.isNone w:=by
 simp only[Op.equalIn,underlying]
 cases x<;>simp[hu]
theorem aJA{e:TypeId}(hu:P.underlying t=some (.slice e))(x:Option Addr)(n c:Nat):(Op.equal t (.slice x n c) (.slice none 0 0)).run P w= .ok x.isNone w:=aF8 9999 hu x n c
theorem apY{e:TypeId}(hu:P.underlying t=some (.pointer e))(x:Option Addr):(aD .eql t ox oy (.pointer x) (.pointer none)).run P w= .ok (.value (.bool x.isNone)) w:=
 avC rfl rfl (aDO hu x)
theorem aIx{e:TypeId}(hu:P.underlying t=some (.pointer e))(x:Option Addr):(aD .neq t ox oy (.pointer x) (.pointer none)).run P w= .ok (.value (.bool (!x.isNone))) w:=
 aEL rfl rfl (aDO hu x)
theorem aGE{e:TypeId}(hu:P.underlying t=some (.slice e))(x:Option Addr)(n c:Nat):(aD .eql t ox oy (.slice x n c) (.slice none 0 0)).run P w= .ok (.value (.bool x.isNone)) w:=
 avC rfl rfl (aJA hu x n c)
theorem Aj{s:TypeId}{d:TypeDesc}{kd:IntKind}(hs:P.underlying s=some d)(hu:P.underlying t=some (.int kd)):(cH s t (.int k a)).run P w= .ok (.value (.int kd (kd.wrap a))) w:=by
 cases d<;>simp[cH,lZ,convert,underlying,hs,hu,Conv.intToInt]
theorem Wz{ty:TypeId}{e:TypeId}(hu:P.underlying t=some (.slice e))(x:Option Addr)(n c:Nat):(dD .len #[t] ty [.slice x n c]).run P w= .ok (.value (.int .i64 n)) w:=by
 simp[dD,builtin,Builtin.len_,underlying,hu,goInt]
theorem acS{ats:Array TypeId}{ty:TypeId}:(dD .min ats ty [.int k a,.int k b]).run P w= .ok (.value (.int k (if b<a then b else a))) w:=by
 simp[dD,builtin,Builtin.min_,Builtin.min2]
theorem acR{ats:Array TypeId}{ty:TypeId}:(dD .max ats ty [.int k a,.int k b]).run P w= .ok (.value (.int k (if b>a then b else a))) w:=by
 simp[dD,builtin,Builtin.max_,Builtin.max2]
theorem x20 (a b:aOj):(aV (.tuple #[a,b]) 0).run P w= .ok (.value a) w:=Eq.trans rfl rfl
theorem x21 (a b:aOj):(aV (.tuple #[a,b]) 1).run P w= .ok (.value b) w:=Eq.trans rfl rfl
theorem x30 (a b c:aOj):(aV (.tuple #[a,b,c]) 0).run P w= .ok (.value a) w:=Eq.trans rfl rfl
theorem x31 (a b c:aOj):(aV (.tuple #[a,b,c]) 1).run P w= .ok (.value b) w:=Eq.trans rfl rfl
theorem x32 (a b c:aOj):(aV (.tuple #[a,b,c]) 2).run P w= .ok (.value c) w:=Eq.trans rfl rfl
theorem x40 (a b c d:aOj):(aV (.tuple #[a,b,c,d]) 0).run P w= .ok (.value a) w:=Eq.trans rfl rfl
theorem x41 (a b c d:aOj):(aV (.tuple #[a,b,c,d]) 1).run P w= .ok (.value b) w:=Eq.trans rfl rfl
theorem x42 (a b c d:aOj):(aV (.tuple #[a,b,c,d]) 2).run P w= .ok (.value c) w:=Eq.trans rfl rfl
theorem x43 (a b c d:aOj):(aV (.tuple #[a,b,c,d]) 3).run P w= .ok (.value d) w:=Eq.trans rfl rfl
theorem acT(x:Addr):(dQ (.pointer (some x))).run P w= .ok (.value (.pointer (some x))) w:=Eq.trans rfl rfl
theorem dE{fs:Array Field}{f:Field}{i:Nat}{inf:TypeInfo}(hu:P.underlying t=some (.struct fs))(hf:fs[i]?=some f)
 (hi:P.info? f.type=some inf) (hz:inf.size≠0) (x:Addr):(aJ t (.pointer (some x)) i).run P w= .ok (.value (.pointer (some (x.add f.offset)))) w:=by
 simp[aJ,lZ,Instr.fieldAt,underlying,hu,hf,Instr.sureAddr,fieldPlace,sizeOf,typeInfo,hi,hz]
theorem auP{e:TypeId}{inf:TypeInfo}(hu:P.underlying t=some (.slice e))(hi:P.info? e=some inf)(x:Addr)(n c:Nat)(h0:0<=a)(h1:a<n):
 (aO t (.slice (some x) n c) (.int k a)).run P w= .ok (.value (.pointer (some (x.add (a.toNat*inf.size))))) w:=by
 simp[aO,lZ,Instr.indexAt,asIntOf,underlying,hu,h0,h1,sizeOf,typeInfo,hi]
theorem auO{e:TypeId}{len:Nat}{inf:TypeInfo}(hu:P.underlying t=some (.array len e))(hi:P.info? e=some inf)(x:Addr)(h0:0<=a)(h1:a<len):
 (aO t (.pointer (some x)) (.int k a)).run P w= .ok (.value (.pointer (some (x.add (a.toNat*inf.size))))) w:=by
 simp[aO,lZ,Instr.indexAt,asIntOf,underlying,hu,h0,h1,sizeOf,typeInfo,hi,Instr.sureAddr]
theorem aIv(hu:P.underlying t=some .string)(x:ByteArray)(h0:0<=a)(h1:a.toNat<x.size):
 (HX t (.string x) (.int k a)).run P w= .ok (.value (.int .u8 (x[a.toNat]'h1).toNat)) w:=by
 simp[HX,lZ,Instr.index,asIntOf,underlying,hu,h0,h1]
end
def aZ(w:aOi)(b:Nat)(cs:List aOj):Prop:=
 ∃T lo hi,w.heap[b]?=some (.cells cs.toArray T (lo,hi))/\(cs.length<=lo∨hi=lo)
structure aN(w w':aOi)(M:Nat->Prop):Prop where
 os:w'.os=w.os
 tape:w'.tape=w.tape
 output:w'.output=w.output
 size:w.heap.size<=w'.heap.size
 keep:∀b,b<w.heap.size->¬M b->w'.heap[b]?=w.heap[b]?
def bJ:Nat->Prop:=λ_=>False
theorem aN.refl (w:aOi)(M:Nat->Prop):aN w w M:=⟨rfl,rfl,rfl,aLw _,λ_ _ _=>rfl⟩
theorem aN.mono {w w':aOi}{M N:Nat->Prop}(h:aN w w' M)(hm:∀b,b<w.heap.size->M b->N b):aN w w' N:=
 ⟨h.os,h.tape,h.output,h.size,λb hb hn=>h.keep b hb λhM=>hn (hm b hb hM)⟩
theorem aN.trans {a b c:aOi}{M N:Nat->Prop}(h:aN a b M)(k:aN b c N)(hn:∀x,x<a.heap.size->N x->M x):aN a c M:=
 ⟨k.os.trans h.os,k.tape.trans h.tape,k.output.trans h.output,aMq h.size k.size,
   λx hx hM=>(k.keep x (aNn hx h.size) λh=>hM (hn x hx h)).trans (h.keep x hx hM)⟩
theorem aN.seq {a b c:aOi}{M:Nat->Prop}(h:aN a b M)(k:aN b c M):aN a c M:=h.trans k λ_ _ h=>h
theorem aN.new {a b c:aOi}{M:Nat->Prop}{x:Nat}(h:aN a b M)(k:aN b c (λy=>y=x))(hx:a.heap.size<=x):aN a c M:=
 h.trans k λy hy e=>absurd hy (by subst e;omega)
theorem aN.more {a b c:aOi}{M:Nat->Prop}(h:aN a b M)(k:aN b c (λ_=>False)):aN a c M:=h.trans k λ_ _ h=>h.elim
theorem aN.below {w w':aOi}(h:aN w w' bJ):Go.RowKit.Below w.heap.size w w':=
 ⟨h.os,h.tape,h.output,h.size,λk hk=>h.keep k hk λh=>h⟩
theorem aN.dr (w:aOi)(M:Nat->Prop):aN w (dr w) M:=⟨rfl,rfl,rfl,aLw _,λ_ _ _=>rfl⟩
theorem aN.alloc (w:aOi)(o:Obj)(M:Nat->Prop):aN w (w.alloc o) M:=
 ⟨rfl,rfl,rfl,by simp,λb hb _=>by show(w.heap.push o)[b]?=_;rw[Array.getElem?_push,if_neg (by omega)]⟩
theorem aeG(w:aOi)(a:Addr)(v:aOj)(b:Nat)(h:b≠a.block):(w.setCell a v).heap[b]?=w.heap[b]?:=Go.RowKit.Below.heap_setCell w a v b h
theorem aN.setCell (w:aOi)(a:Addr)(v:aOj){M:Nat->Prop}(h:a.block<w.heap.size->M a.block):aN w (w.setCell a v) M:=
 ⟨rfl,rfl,rfl,by simp,λb hb hM=>aeG w a v b λe=>hM (e▸h (e▸hb))⟩
theorem aZ.lt {w:aOi}{b:Nat}{cs:List aOj}(h:aZ w b cs):b<w.heap.size:=by
 obtain⟨T,lo,hi,h,_⟩:=h
 rcases aLH b w.heap.size with h'|h'
 .exact h'
 .rw [aMC h']at h;cases h
theorem aZ.ext {w w':aOi}{b:Nat}{cs:List aOj}{M:Nat->Prop}(h:aZ w b cs)(hx:aN w w' M)(hM:¬M b):aZ w' b cs:=by
 have:=h.lt
 obtain⟨T,lo,hi,h,k⟩:=h
 exact⟨T,lo,hi,by rw[hx.keep b this hM];exact h,k⟩
theorem aZ.cell {w:aOi}{b off:Nat}{cs:List aOj}(h:aZ w b cs):w.cell? ⟨b,off,none⟩=cs[off]?:=by
 obtain⟨T,lo,hi,h,_⟩:=h
 simp[World.cell?,h]
theorem aZ.free {w:aOi}{b off:Nat}{cs:List aOj}{s:Option Nat}(h:aZ w b cs)(ho:off<cs.length):w.frozen? ⟨b,off,s⟩=false:=by
 obtain⟨T,lo,hi,h,k⟩:=h
 simp only[World.frozen?,h]
 rcases k with k|k<;>(simp;omega)
theorem aZ.setCell {w:aOi}{b off:Nat}{cs:List aOj}(h:aZ w b cs)(v:aOj):aZ (w.setCell ⟨b,off,none⟩ v) b (cs.set off v):=by
 have hb:=h.lt
 obtain⟨T,lo,hi,h,k⟩:=h
 refine⟨T,lo,hi, ?_,by simpa using k⟩
 simp only[World.setCell,aNl,h]
 simp
theorem aZ.alloc (w:aOi)(cs:List aOj)(T:TypeId):aZ (w.alloc (.cells cs.toArray T)) w.heap.size cs:=
 ⟨T,0,0,by show(w.heap.push _)[w.heap.size]?=_;simp,.inr rfl⟩
theorem asA{w w':aOi}{M:Nat->Prop}{a:Addr}{v:aOj}(h:w.cell? a=some v)(hx:aN w w' M)(hM:¬M a.block):w'.cell? a=some v:=by
 have hb:=World.block_lt_of_cell? w a h
 have e:=hx.keep _ hb hM
 unfold World.cell? at h⊢
 rw[e];exact h
section
variable{P:Program}{w:aOi}{t:TypeId}
def akD(d:TypeDesc):Bool:=match d with| .struct _| .array _ _=>true|_=>false
theorem Ex{d:TypeDesc}(hu:P.underlying t=some d):(isAgg t).run P w= .ok (akD d) w:=by
 cases d<;>simp[isAgg,underlying,hu,akD]
theorem cG{i:TypeInfo}(hi:P.info? t=some i):(sizeOf t).run P w= .ok i.size w:=by simp[sizeOf,typeInfo,hi]
theorem Yi{b off:Nat}{cs:List aOj}(ho:aZ w b cs):∀(n i:Nat) (acc:Array aOj),off+i+n<=cs.length→
 (loadCellsFrom ⟨b,off,none⟩ i n acc).run P w= .ok (acc++((cs.drop (off+i)).take n).toArray) w:=by
 intro n
 induction n with
 |zero=>intro i acc _;simp[loadCellsFrom]
 |succ n ih=>
  intro i acc h
  have hc:w.cell? ((⟨b,off,none⟩:Addr).add i)=some cs[off+i]:=by
   unfold Addr.add
   split
   .rename_i hi;subst hi;rw[ho.cell];simp
   .show w.cell? ⟨b,off+i,none⟩=_;rw[ho.cell];simp
  simp only[loadCellsFrom,Sem.run_bind,run_load,hc,Result.andThen_ok]
  rw[ih (i+1) _ (by omega)]
  congr 1
  rw[aL4 (by omega:off+i<cs.length)]
  simp[aMI]
theorem Vl{b off n:Nat}{cs:List aOj}(ho:aZ w b cs)(h:off+n<=cs.length):
 (loadCells ⟨b,off,none⟩ n).run P w= .ok ((cs.drop off).take n).toArray w:=by
 unfold loadCells
 rw[Yi ho n 0 #[] (by omega)]
 simp
theorem zP{d:TypeDesc}{i:TypeInfo}(hu:P.underlying t=some d)(hd:akD d=true)(hi:P.info? t=some i){b off:Nat}{cs:List aOj}(ho:aZ w b cs)(h:off+i.size<=cs.length):
 (aH t (.pointer (some ⟨b,off,none⟩))).run P w= .ok (.value (.agg ((cs.drop off).take i.size).toArray)) w:=by
 unfold aH
 rw[lZ]
 simp only[Instr.loadAt,Instr.sureAddr,loadVar,pure_bind,Sem.run_bind,Ex hu,hd,Result.andThen_ok,if_true,cG hi,Vl ho h,Sem.run_pure]
def one(v:aOj):Bool:=match v with| .agg _| .tuple _=>false|_=>true
theorem azH{a:Addr}{v x:aOj}(hv:one v=true)(hc:w.cell? a=some x)(hf:w.frozen? a=false):(store a v).run P w= .ok () (w.setCell a v):=by
 unfold store
 cases v<;>simp[one]at hv<;>simp[Sem.run,hc,hf]
def aT(cs:List aOj)(off:Nat):List aOj->List aOj
 |[]=>cs
 |v::vs=>aT (cs.set off v) (off+1) vs
theorem VC(vs:List aOj):∀(cs:List aOj) (off:Nat),(aT cs off vs).length=cs.length:=by
 induction vs with
 |nil=>intro cs off;rfl
 |cons v vs ih=>intro cs off;simp[aT,ih]
theorem Dp{b:Nat}{M:Nat->Prop}(hM:M b):∀(vs:List aOj) (w:aOi) (off i:Nat) (cs:List aOj),aZ w b cs->off+i+vs.length<=cs.length->(∀v∈vs,one v=true)→
 ∃w',(storeCells ⟨b,off,none⟩ vs i).run P w= .ok () w'/\aZ w' b (aT cs (off+i) vs)/\aN w w' M/\w'.heap.size=w.heap.size/\w'.drawn=w.drawn:=by
 intro vs
 induction vs with
 |nil=>intro w off i cs ho _ _;exact⟨w,by simp[storeCells],ho,aN.refl _ _,rfl,rfl⟩
 |cons v vs ih=>
  intro w off i cs ho h hv
  simp only[aLO]at h
  have ha:(⟨b,off,none⟩:Addr).add i=⟨b,off+i,none⟩:=by
   unfold Addr.add;split
   .rename_i hi;subst hi;rfl
   .rfl
  have hlt:off+i<cs.length:=by omega
  have hc:w.cell? ⟨b,off+i,none⟩=some cs[off+i]:=by rw[ho.cell];simp
  have hs:=azH (P:=P) (hv v (by simp)) hc (ho.free hlt)
  obtain⟨w',h1,h2,h3,h4,h5⟩:=ih (w.setCell ⟨b,off+i,none⟩ v) off (i+1) (cs.set (off+i) v) (ho.setCell v) (by simp;omega) (λx hx=>hv x (aLJ _ hx))
  refine⟨w', ?_,h2,(aN.setCell w _ v λ_=>hM).trans h3 (λ_ _ h=>h),by rw[h4];simp,by rw[h5]<;>rfl⟩
  simp only[storeCells,Sem.run_bind,ha,hs,Result.andThen_ok]
  exact h1
theorem fZ{i:TypeInfo}(hi:P.info? t=some i){b off:Nat}{cs:List aOj}(ho:aZ w b cs){v:aOj}(hs:v.cells.size=i.size)
 (hv:∀x∈v.cells.toList,one x=true) (h:off+i.size<=cs.length) {K:aOj->aOi->Prop}
 (hk:∀w',aZ w' b (aT cs off v.cells.toList)->aN w w' (λx=>x=b)->w'.heap.size=w.heap.size->K undef w'):aA P (aM t (.pointer (some ⟨b,off,none⟩)) v) w K:=by
 obtain⟨w',h1,h2,h3,h4,_⟩:=Dp (P:=P) (M:=λx=>x=b) rfl v.cells.toList w off 0 cs ho (by simp[hs];omega) hv
 have:(aM t (.pointer (some ⟨b,off,none⟩)) v).run P w= .ok .skip w':=by
  unfold aM
  rw[aJT]
  simp only[Instr.storeAt,Instr.sureAddr,storeVar,pure_bind,Sem.run_bind,cG hi,Result.andThen_ok,hs]
  simp[h1]
 unfold aA
 rw[this]
 exact hk w' h2 h3 h4
theorem anA{v:aOj}(hv:one v=true):v.cells= #[v]:=by cases v<;>simp[one]at hv<;>rfl
theorem qY{i:TypeInfo}(hi:P.info? t=some i)(h1:i.size=1){b off:Nat}{cs:List aOj}(ho:aZ w b cs){v:aOj}(hv:one v=true)(h:off<cs.length){K:aOj->aOi->Prop}
 (hk:∀w',aZ w' b (cs.set off v)->aN w w' (λx=>x=b)->w'.heap.size=w.heap.size->K undef w'):aA P (aM t (.pointer (some ⟨b,off,none⟩)) v) w K:=by
 have e:=anA hv
 refine fZ hi ho (by rw[e,h1]<;>rfl) (by rw[e];simpa using hv) (by omega) λw' a b c=>hk w' ?_ b c
 rw[e]at a;exact a
def ldC(c:Option aOj)(w:aOi)(far:Result Next):Result Next:=match c with|some v=> .ok (.value v) w|none=>far
def far(P:Program)(t:TypeId)(x:Addr)(w:aOi):Result Next:=(aH t (.pointer (some x))).run P w
theorem cR(v:aOj)(w:aOi)(f:Result Next):ldC (some v) w f= .ok (.value v) w:=rfl
theorem aaP{d:TypeDesc}(hu:P.underlying t=some d)(hd:akD d=false)(x:Addr)(w:aOi):
 (aH t (.pointer (some x))).run P w=ldC (w.cell? x) w (far P t x w):=by
 cases h:w.cell? x with
 |none=>rfl
 |some v=>
  unfold aH
  rw[lZ]
  simp only[Instr.loadAt,Instr.sureAddr,loadVar,pure_bind,Sem.run_bind,Ex hu,hd,Result.andThen_ok,aLC,if_false,run_load,h,ldC]
theorem FL{d:TypeDesc}{i:TypeInfo}(hu:P.underlying t=some d)(hd:akD d=true)(hi:P.info? t=some i){b off:Nat}{cs:List aOj}(ho:aZ w b cs)(h:off+i.size<=cs.length){K:aOj->Prop}
 (hk:K (.agg ((cs.drop off).take i.size).toArray)):vU P t (.pointer (some ⟨b,off,none⟩)) w K:=by
 refine⟨_, ?_,hk⟩
 simp only[asAddr,loadVar,pure_bind,Sem.run_bind,Ex hu,hd,Result.andThen_ok,if_true,cG hi,Vl ho h,Sem.run_pure]
theorem aAN{d:TypeDesc}(hu:P.underlying t=some d)(hd:akD d=false){b off:Nat}{cs:List aOj}(ho:aZ w b cs){v:aOj}(h:cs[off]?=some v){K:aOj->Prop}
 (hk:K v):vU P t (.pointer (some ⟨b,off,none⟩)) w K:=by
 refine⟨_, ?_,hk⟩
 simp only[asAddr,loadVar,pure_bind,Sem.run_bind,Ex hu,hd,Result.andThen_ok,aLC,if_false,run_load,ho.cell,h]
theorem fA{v:aOj}{K:aOj->aOi->Prop}(hk:∀w',aZ w' w.heap.size v.cells.toList->aN w w' bJ->w'.heap.size=w.heap.size+1->K (.pointer (some ⟨w.heap.size,0,none⟩)) w'):
 aA P (A0 t v) w K:=by
 have:(A0 t v).run P w= .ok (.value (.pointer (some ⟨w.heap.size,0,none⟩))) (w.alloc (.cells v.cells.toList.toArray t)):=by
  unfold A0;rw[lZ]
  simp[Instr.box,newVar,newRow]
 unfold aA
 rw[this]
 exact hk _ (aZ.alloc _ _ _) (aN.alloc _ _ _) (by simp)
theorem eK{i:TypeInfo}{z:aOj}(hi:P.info? t=some i)(hz:i.zero=some z){K:aOj->aOi->Prop}
 (hk:∀w',aZ w' w.heap.size z.cells.toList->aN w w' bJ->w'.heap.size=w.heap.size+1->K (.pointer (some ⟨w.heap.size,0,none⟩)) w'):
 aA P (bG t) w K:=by
 have:(bG t).run P w= .ok (.value (.pointer (some ⟨w.heap.size,0,none⟩))) (w.alloc (.cells z.cells.toList.toArray t)):=by
  unfold bG;rw[lZ]
  simp[Instr.alloc,zeroValue,typeInfo,hi,hz,newVar,newRow]
 unfold aA
 rw[this]
 exact hk _ (aZ.alloc _ _ _) (aN.alloc _ _ _) (by simp)
end
theorem vH{P:Program}{w:aOi}{k:IntKind}{a:Int}{y:Nat}{code:BoundsCode}(h0:0<=a)(h1:a<=y):(Instr.sliceBound (.int k a) y code).run P w= .ok a.toNat w:=by
 simp[Instr.sliceBound,asIntOf,h0,h1]
section
variable{P:Program}{w:aOi}{t e:TypeId}{k k':IntKind}{lo hi:Int}{i:TypeInfo}
def cW(x:Option Addr)(m l sz:Nat):Option Addr:=if m=l then x else x.map (·.add (l*sz))
theorem ayX(hu:P.underlying t=some (.slice e))(hi':P.info? e=some i)(x:Option Addr)(n c:Nat)(h0:0<=lo)(h1:lo<=n):
 (bP t (.slice x n c) (some (.int k lo)) none none).run P w= .ok (.value (.slice (cW x c lo.toNat i.size) (n-lo.toNat) (c-lo.toNat))) w:=by
 simp only[bP,lZ,Instr.sliceAt,underlying,hu,Sem.run_bind,run_program,Result.andThen_ok,Sem.run_pure,Instr.slice,Instr.sliceBounds,pure_bind,vH h0 h1,cG hi',cW]
theorem WA(hu:P.underlying t=some (.slice e))(hi':P.info? e=some i)(x:Option Addr)(n c:Nat)(h0:0<=hi)(h1:hi<=c):
 (bP t (.slice x n c) none (some (.int k hi)) none).run P w= .ok (.value (.slice (cW x c 0 i.size) (hi.toNat-0) (c-0))) w:=by
 simp only[bP,lZ,Instr.sliceAt,underlying,hu,Sem.run_bind,run_program,Result.andThen_ok,Sem.run_pure,Instr.slice,Instr.sliceBounds,pure_bind,vH h0 h1,cG hi',cW]
theorem apZ(hu:P.underlying t=some (.slice e))(hi':P.info? e=some i)(x:Option Addr)(n c:Nat)(h0:0<=lo)(h1:lo<=hi)(h2:hi<=c):
 (bP t (.slice x n c) (some (.int k lo)) (some (.int k' hi)) none).run P w= .ok (.value (.slice (cW x c lo.toNat i.size) (hi.toNat-lo.toNat) (c-lo.toNat))) w:=by
 have h3:(0:Int)<=hi:=by omega
 have h4:lo<=(hi.toNat:Int):=by omega
 simp only[bP,lZ,Instr.sliceAt,underlying,hu,Sem.run_bind,run_program,Result.andThen_ok,Sem.run_pure,Instr.slice,Instr.sliceBounds,pure_bind,vH h3 h2,vH h0 h4,cG hi',cW]
def hJ(a:Addr)(m l sz:Nat):Addr:=if m=l then a else a.add (l*sz)
theorem auR{n:Nat}(hu:P.underlying t=some (.array n e))(hi':P.info? e=some i)(x:Addr)(h0:0<=lo)(h1:lo<=n):
 (bP t (.pointer (some x)) (some (.int k lo)) none none).run P w= .ok (.value (.slice (some (hJ x n lo.toNat i.size)) (n-lo.toNat) (n-lo.toNat))) w:=by
 simp only[bP,lZ,Instr.sliceAt,Instr.sureAddr,underlying,hu,Sem.run_bind,run_program,Result.andThen_ok,Sem.run_pure,Instr.sliceBounds,pure_bind,vH h0 h1,cG hi',hJ]
theorem SI{n:Nat}(hu:P.underlying t=some (.array n e))(hi':P.info? e=some i)(x:Addr)(h0:0<=hi)(h1:hi<=n):
 (bP t (.pointer (some x)) none (some (.int k hi)) none).run P w= .ok (.value (.slice (some (hJ x n 0 i.size)) (hi.toNat-0) (n-0))) w:=by
 simp only[bP,lZ,Instr.sliceAt,Instr.sureAddr,underlying,hu,Sem.run_bind,run_program,Result.andThen_ok,Sem.run_pure,Instr.sliceBounds,pure_bind,vH h0 h1,cG hi',hJ]
theorem De{n:Nat}(hu:P.underlying t=some (.array n e))(hi':P.info? e=some i)(x:Addr):
 (bP t (.pointer (some x)) none none none).run P w= .ok (.value (.slice (some (hJ x n 0 i.size)) (n-0) (n-0))) w:=by
 simp only[bP,lZ,Instr.sliceAt,Instr.sureAddr,underlying,hu,Sem.run_bind,run_program,Result.andThen_ok,Sem.run_pure,Instr.sliceBounds,pure_bind,cG hi',hJ]
theorem VB{n:Nat}(hu:P.underlying t=some (.array n e))(hi':P.info? e=some i)(x:Addr)(h0:0<=lo)(h1:lo<=hi)(h2:hi<=n):
 (bP t (.pointer (some x)) (some (.int k lo)) (some (.int k' hi)) none).run P w= .ok (.value (.slice (some (hJ x n lo.toNat i.size)) (hi.toNat-lo.toNat) (n-lo.toNat))) w:=by
 have h3:(0:Int)<=hi:=by omega
 have h4:lo<=(hi.toNat:Int):=by omega
 simp only[bP,lZ,Instr.sliceAt,Instr.sureAddr,underlying,hu,Sem.run_bind,run_program,Result.andThen_ok,Sem.run_pure,Instr.sliceBounds,pure_bind,vH h3 h2,vH h0 h4,cG hi',hJ]
end
def Sl(w:aOi)(v:aOj)(l:List aOj):Prop:=
 ∃a n c,v= .slice a n c/\n=l.length/\n<=c/\(0<n->∃b off,a=some ⟨b,off,none⟩/\∀i,i<n->w.cell? ⟨b,off+i,none⟩=l[i]?)
def IY(v:aOj)(M:Nat->Prop):Prop:=match v with| .slice (some a) (_+1) _=>M a.block|_=>False
theorem Sl.ext {w w':aOi}{v:aOj}{l:List aOj}{M:Nat->Prop}(h:Sl w v l)(hx:aN w w' M)(hM:¬IY v M):Sl w' v l:=by
 obtain⟨a,n,c,rfl,hn,hc,h⟩:=h
 refine⟨a,n,c,rfl,hn,hc,λh0=> ?_⟩
 obtain⟨b,off,rfl,h2⟩:=h h0
 refine⟨b,off,rfl,λi hi=> ?_⟩
 have h1:=h2 i hi
 obtain⟨v,hv⟩:∃v,l[i]?=some v:=⟨l[i],by simp⟩
 rw[hv]at h1⊢
 refine asA h1 hx ?_
 obtain⟨m,rfl⟩:∃m,n=m+1:=⟨n-1,by omega⟩
 exact hM
theorem Sl.old {w:aOi}{v:aOj}{l:List aOj}(h:Sl w v l):¬IY v (λb=>w.heap.size<=b):=by
 obtain⟨a,n,c,rfl,hn,hc,h⟩:=h
 unfold IY
 split
 .rename_i x m _ e
  obtain⟨rfl,rfl,rfl⟩:a=some x/\n=m+1/\c=_:=by simpa using e
  obtain⟨b,off,e,h2⟩:=h (by omega)
  have e:=aLS e;subst e
  have h1:=h2 0 (by omega)
  obtain⟨v,hv⟩:∃v,l[0]?=some v:=⟨l[0],by simp⟩
  rw[hv]at h1
  have:=World.block_lt_of_cell? _ _ h1
  simp at this⊢;omega
 .simp
def dP(x:UInt8):aOj:= .int .u8 x.toNat
abbrev Bs(w:aOi)(v:aOj)(l:List UInt8):Prop:=Sl w v (l.map dP)
theorem Cz(b o n:Nat):(⟨b,o,none⟩:Addr).add n=⟨b,o+n,none⟩:=by
 unfold Addr.add;split
 .rename_i h;subst h;rfl
 .rfl
section
variable{P:Program}{w:aOi}{t e:TypeId}{k:IntKind}{a:Int}
theorem aaO{inf:TypeInfo}{sz:Nat}(hz:inf.size=sz)(hu:P.underlying t=some (.slice e))(hi:P.info? e=some inf)(b o n c:Nat)(h0:0<=a)(h1:a<n):
 (aO t (.slice (some ⟨b,o,none⟩) n c) (.int k a)).run P w= .ok (.value (.pointer (some ⟨b,o+a.toNat*sz,none⟩))) w:=by
 rw[auP hu hi _ n c h0 h1,Cz,hz]
theorem TN{inf:TypeInfo}(hz:inf.size=1)(hu:P.underlying t=some (.slice e))(hi:P.info? e=some inf)(b o n c:Nat)(h0:0<=a)(h1:a<n):
 (aO t (.slice (some ⟨b,o,none⟩) n c) (.int k a)).run P w= .ok (.value (.pointer (some ⟨b,o+a.toNat,none⟩))) w:=by
 rw[auP hu hi _ n c h0 h1,Cz,hz,aM2]
theorem aCj{inf:TypeInfo}{sz len:Nat}(hz:inf.size=sz)(hu:P.underlying t=some (.array len e))(hi:P.info? e=some inf)(b o:Nat)(h0:0<=a)(h1:a<(len:Int)):
 (aO t (.pointer (some ⟨b,o,none⟩)) (.int k a)).run P w= .ok (.value (.pointer (some ⟨b,o+a.toNat*sz,none⟩))) w:=by
 rw[auO hu hi _ h0 h1,Cz,hz]
theorem H5 {inf:TypeInfo}{len:Nat}(hz:inf.size=1)(hu:P.underlying t=some (.array len e))(hi:P.info? e=some inf)(b o:Nat)(h0:0<=a)(h1:a<(len:Int)):
 (aO t (.pointer (some ⟨b,o,none⟩)) (.int k a)).run P w= .ok (.value (.pointer (some ⟨b,o+a.toNat,none⟩))) w:=by
 rw[auO hu hi _ h0 h1,Cz,hz,aM2]
end
section
variable{P:Program}{w:aOi}{s d e:TypeId}
theorem aEA(hs:P.underlying s=some (.slice e))(hd:P.underlying d=some .string)(he:P.underlying e=some (.int .u8)){l:List UInt8}{v:aOj}(h:Bs w v l):
 (cH s d v).run P w= .ok (.value (.string ⟨l.toArray⟩)) w:=by
 obtain⟨a,n,c,rfl,hn,hc,h⟩:=h
 simp only[aLr]at hn
 unfold cH
 rw[lZ]
 have key:(convert s d (.slice a n c)).run P w= .ok (.string ⟨l.toArray⟩) w:=by
  cases a with
  |none=>
   have hl:l=[]:=by
    cases l with
    |nil=>rfl
    |cons x l=>obtain⟨b,off,e,_⟩:=h (by rw[hn];simp);cases e
   subst hl
   rw[run_convert_bytes_string w s d e none n c hs he hd]
   rfl
  |some x=>
   subst hn
   refine run_convert_bytes_back w s d e x c l hs he hd λj hj=> ?_
   obtain⟨b,off,hx,h2⟩:=h (by omega)
   have hx:=aLS hx
   subst hx
   rw[Cz,h2 j hj]
   simp[dP,hj]
 rw[key]<;>rfl
end
theorem By(l:List UInt8):∀x∈l.map dP,one x=true:=by
 intro x hx
 obtain⟨c,_,rfl⟩:=aL1.1 hx
 rfl
theorem aCy{b o m l sz:Nat}(h:l≠m):hJ ⟨b,o,none⟩ m l sz=⟨b,o+l*sz,none⟩:=by
 unfold hJ;rw[if_neg (λe=>h e.symm),Cz]
theorem nO{b o m l:Nat}(h:l≠m):hJ ⟨b,o,none⟩ m l 1=⟨b,o+l,none⟩:=by rw[aCy h,aM2]
theorem Sl.drop {w:aOi}{b o n c:Nat}{l:List aOj}(h:Sl w (.slice (some ⟨b,o,none⟩) n c) l){k:Nat}(hk:k<=n):
 Sl w (.slice (cW (some ⟨b,o,none⟩) c k 1) (n-k) (c-k)) (l.drop k):=by
 obtain⟨x,m,c',e,hm,hc,hh⟩:=h
 cases e
 refine⟨_,_,_,rfl,by rw[aLL];omega,by omega,λh0=> ?_⟩
 obtain⟨b',o',e,h2⟩:=hh (by omega)
 cases e
 have hne:¬c=k:=by omega
 refine⟨b,o+k,by unfold cW;rw[if_neg hne,aL2,Cz,aM2],λi hi=> ?_⟩
 rw[aMI,h2 (k+i) (by omega),aMw]
theorem Sl.take {w:aOi}{b o n c:Nat}{l:List aOj}(h:Sl w (.slice (some ⟨b,o,none⟩) n c) l){k:Nat}(hk:k<=n):
 Sl w (.slice (cW (some ⟨b,o,none⟩) c 0 1) (k-0) (c-0)) (l.take k):=by
 obtain⟨x,m,c',e,hm,hc,hh⟩:=h
 cases e
 refine⟨_,_,_,rfl,by rw[aLz];omega,by omega,λh0=> ?_⟩
 obtain⟨b',o',e,h2⟩:=hh (by omega)
 cases e
 have hne:¬c=0:=by omega
 refine⟨b,o,by unfold cW;rw[if_neg hne,aL2,Cz]<;>rfl,λi hi=> ?_⟩
 rw[h2 i (by omega),aLT (by omega)]
theorem aBQ{b o n c k:Nat}{M:Nat->Prop}(h:¬IY (.slice (some ⟨b,o,none⟩) n c) M)(hn:0<n)(m:Nat):¬IY (.slice (cW (some ⟨b,o,none⟩) c k 1) m (c-k)) M:=by
 have hb:¬M b:=by
  obtain⟨n',rfl⟩:∃n',n=n'+1:=⟨n-1,by omega⟩
  exact h
 unfold IY cW
 split
 .rename_i x q _ e
  simp only[Value.slice.injEq]at e
  obtain⟨e,_,_⟩:=e
  split at e
  .cases e;exact hb
  .rw [aL2,Cz]at e;cases e;exact hb
 .simp
theorem aZ.bs {w:aOi}{b off c:Nat}{cs:List aOj}{l:List UInt8}(h:aZ w b cs)(hc:l.length<=c)(hl:∀i (hi:i<l.length),cs[off+i]?=some (dP l[i])):Bs w (.slice (some ⟨b,off,none⟩) l.length c) l:=
 ⟨_,_,_,rfl,by simp,hc,λ_=>⟨b,off,rfl,λi hi=>by rw[h.cell,hl i hi];simp[hi]⟩⟩
section
variable{P:Program}{w:aOi}{t e:TypeId}{k:IntKind}{a:Int}
theorem aIu{len:Nat}{d:TypeDesc}{i:TypeInfo}(hu:P.underlying t=some (.array len e))(hd:P.underlying e=some d)(ha:akD d=false)(hi:P.info? e=some i)(h1:i.size=1)
 (cs:Array aOj) (h0:0<=a) (hl:a<(len:Int)) {v:aOj} (hv:cs[a.toNat]?=some v):(HX t (.agg cs) (.int k a)).run P w= .ok (.value v) w:=by
 unfold HX
 rw[lZ]
 simp only[Instr.index,asIntOf,pure_bind,underlying,hu,Sem.run_bind,run_program,Result.andThen_ok,Sem.run_pure,h0,hl,and_self,if_true,cG hi,h1,aM2,part,Ex hd,ha,aLC,if_false,hv]
def aDT(P:Program)(t:TypeId)(cs:Array aOj)(k:IntKind)(a:Int)(w:aOi):Result Next:=(HX t (.agg cs) (.int k a)).run P w
theorem apX{len:Nat}{d:TypeDesc}{i:TypeInfo}(hu:P.underlying t=some (.array len e))(hd:P.underlying e=some d)(ha:akD d=false)(hi:P.info? e=some i)(h1:i.size=1)
 (cs:Array aOj) (h0:0<=a) (hl:a<(len:Int)):(HX t (.agg cs) (.int k a)).run P w=ldC cs[a.toNat]? w (aDT P t cs k a w):=by
 cases hv:cs[a.toNat]? with
 |none=>rfl
 |some v=>exact aIu hu hd ha hi h1 cs h0 hl hv
theorem Yk{b off:Nat}{l:List aOj}(h:∀i,i<l.length->w.cell? ⟨b,off+i,none⟩=l[i]?)(n:Nat)(hn:n<=l.length):
 (loadCells ⟨b,off,none⟩ n).run P w= .ok (l.take n).toArray w:=by
 have key:∀(m i:Nat) (acc:Array aOj),i+m<=l.length->(loadCellsFrom ⟨b,off,none⟩ i m acc).run P w= .ok (acc++((l.drop i).take m).toArray) w:=by
  intro m
  induction m with
  |zero=>intro i acc _;simp[loadCellsFrom]
  |succ m ih=>
   intro i acc hm
   have hc:=h i (by omega)
   rw[aLp (by omega)]at hc
   simp only[loadCellsFrom,Sem.run_bind,run_load,Cz,hc,Result.andThen_ok]
   rw[ih (i+1) _ (by omega),aL4 (by omega:i<l.length),aLy]
   simp
 unfold loadCells
 rw[key n 0 #[] (by omega)]
 simp
theorem akU{sz n:Nat}{v:aOj}{l:List aOj}(h1:sz=1)(h:Sl w v l)(hn:n<=l.length):(Builtin.firstCells sz n v).run P w= .ok (l.take n).toArray w:=by
 subst h1
 obtain⟨x,m,c,rfl,hm,hc,hh⟩:=h
 cases x with
 |none=>
  have:l=[]:=by
   cases l with
   |nil=>rfl
   |cons y l=>obtain⟨b,off,e,_⟩:=hh (by rw[hm];simp);cases e
  subst this
  simp[Builtin.firstCells]
 |some x=>
  simp only[Builtin.firstCells,aM2]
  by_cases h0:0<m
  .obtain ⟨b,off,e,h2⟩:=hh h0
   have e:=aLS e;subst e
   exact Yk (λi hi=>h2 i (by omega)) n hn
  .have h00:n=0:=by omega
   subst h00
   simp[loadCells,loadCellsFrom]
theorem aIH{v:aOj}{l:List aOj}(h:Sl w v l):(Builtin.lenOf v).run P w= .ok l.length w:=by
 obtain⟨x,m,c,rfl,hm,hc,hh⟩:=h
 simp[Builtin.lenOf,hm]
theorem avN{ty t2:TypeId}{i:TypeInfo}(hu:P.underlying t=some (.slice e))(hi:P.info? e=some i)(h1:i.size=1){b off dl c:Nat}{cs:List aOj}(ho:aZ w b cs)(hl:off+dl<=cs.length)
 {v:aOj} {l:List aOj} (h:Sl w v l) (hv:∀x∈l,one x=true) {K:aOj->aOi->Prop}
 (hk:∀w',aZ w' b (aT cs off (l.take (min l.length dl)))->aN w w' (λx=>x=b)->w'.heap.size=w.heap.size->K (.int .i64 (min l.length dl:Nat)) w'):
 aA P (dD .copy #[t,t2] ty [.slice (some ⟨b,off,none⟩) dl c,v]) w K:=by
 have hlen:(l.take (min l.length dl)).length=min l.length dl:=by rw[aLz];omega
 obtain⟨w',s1,s2,s3,s4,_⟩:=Dp (P:=P) (M:=λx=>x=b) rfl (l.take (min l.length dl)) w off 0 cs ho (by rw[hlen];omega) (λx hx=>hv x (aMt hx))
 have:(dD .copy #[t,t2] ty [.slice (some ⟨b,off,none⟩) dl c,v]).run P w= .ok (.value (.int .i64 (min l.length dl:Nat))) w':=by
  unfold dD builtin
  simp only[Builtin.copy_,aMJ,aLq,aLs]
  simp only[underlying,Sem.run_bind,run_program,Result.andThen_ok,hu,Sem.run_pure,aIH h,cG hi,h1]
  have:=akU (P:=P) (n:=min l.length dl) rfl h (Nat.min_le_left _ _)
  rw[show(Nat.min l.length dl)=min l.length dl from rfl,this]
  simp only[Result.andThen_ok,s1,goInt]
 unfold aA
 rw[this]
 exact hk w' (by simpa using s2) s3 s4
theorem ajJ{i:TypeInfo}{z:aOj}(hu:P.underlying t=some (.slice e))(hi:P.info? e=some i)(h1:i.size=1)(hz:i.zero=some z)(hz1:one z=true){n:Int}(h0:0<=n)(hn:i.bytes*n<=2^48)(hn2:n<=9223372036854775807)
 {K:aOj->aOi->Prop}
 (hk:∀w',aZ w' w.heap.size (List.replicate n.toNat z)->aN w w' bJ->w'.heap.size=w.heap.size+1->K (.slice (some ⟨w.heap.size,0,none⟩) n.toNat n.toNat) w'):
 aA P (iS t (.int k n) (.int k n)) w K:=by
 have hw:IntKind.i64.wrap n=n:=dA (by omega) hn2
 have hcells:z.cells= #[z]:=anA hz1
 have harr:(Array.range n.toNat).map (λj=>(#[z]:Array aOj)[j%(#[z]:Array aOj).size]!)=(List.replicate n.toNat z).toArray:=by
  apply Array.ext
  .simp
  .intro j h1 h2;simp[Nat.mod_one]
 have hz':(zeroValue e).run P w= .ok z w:=by simp[zeroValue,typeInfo,hi,hz]
 have:(iS t (.int k n) (.int k n)).run P w= .ok (.value (.slice (some ⟨w.heap.size,0,none⟩) n.toNat n.toNat)) (w.alloc (.cells (List.replicate n.toNat z).toArray e)):=by
  unfold iS
  rw[lZ]
  have t1:(decide (n<0)||decide ((i.bytes:Int)*n>2^48)||decide (n<0)||decide (n>n))=false:=by
   simp only[aNR,decide_eq_false_iff_not];omega
  by_cases hn0:n.toNat=0
  .simp only[Instr.makeSlice,underlying,typeInfo,asInt,asIntOf,pure_bind,Sem.run_bind,run_program,Result.andThen_ok,hu,hi,Sem.run_pure,hw,t1,aLC,if_false,run_askRoom,cG hi,h1,aM2,hn0,if_true,newRow,run_newObj]
   have:(Array.range 0).map (λx=>(#[]:Array aOj)[x%(#[]:Array aOj).size]!)=(List.replicate 0 z).toArray:=by simp
   rw[this]
   rfl
  .simp only[Instr.makeSlice,underlying,typeInfo,asInt,asIntOf,pure_bind,Sem.run_bind,run_program,Result.andThen_ok,hu,hi,Sem.run_pure,hw,t1,aLC,if_false,run_askRoom,cG hi,h1,aM2,hn0,hz',hcells,newRow,run_newObj,harr]
   rfl
 unfold aA
 rw[this]
 exact hk _ (aZ.alloc _ _ _) (aN.alloc _ _ _) (by simp)
end
def Cl(w:aOi)(sz:Nat)(v:aOj)(n:Nat)(l:List aOj):Prop:=
 ∃a c,v= .slice a n c/\l.length=n*sz/\(0<n->∃b off,a=some ⟨b,off,none⟩/\∀i,i<l.length->w.cell? ⟨b,off+i,none⟩=l[i]?)
def oF(w:aOi)(base sz:Nat)(v:aOj)(n:Nat)(l:List aOj):Prop:=
 l.length=n*sz/\((v= .slice none 0 0/\n=0)∨
   ∃b c rest,v= .slice (some ⟨b,0,none⟩) n c/\base<=b/\aZ w b (l++rest)/\(l++rest).length=c*sz/\n<=c)
def Ab(w:aOi)(S:Nat->Prop)(sz:Nat)(v:aOj)(n:Nat)(l:List aOj):Prop:=
 l.length=n*sz/\((v= .slice none 0 0/\n=0)∨
   ∃b c rest,v= .slice (some ⟨b,0,none⟩) n c/\S b/\aZ w b (l++rest)/\(l++rest).length=c*sz/\n<=c)
theorem Sl.cl {w:aOi}{v:aOj}{l:List aOj}(h:Sl w v l):Cl w 1 v l.length l:=by
 obtain⟨a,n,c,rfl,rfl,hc,h⟩:=h
 exact⟨a,c,rfl,by omega,λh0=>h h0⟩
theorem aZ.cl {w:aOi}{b sz n c off:Nat}{cs l:List aOj}(h:aZ w b cs)(hl:l.length=n*sz)(hcs:∀i,i<l.length->cs[off+i]?=l[i]?):Cl w sz (.slice (some ⟨b,off,none⟩) n c) n l:=
 ⟨_,_,rfl,hl,λ_=>⟨b,off,rfl,λi hi=>by rw[h.cell,hcs i hi]⟩⟩
theorem oF.nil (w:aOi)(base sz:Nat):oF w base sz (.slice none 0 0) 0 []:=⟨by simp,.inl ⟨rfl,rfl⟩⟩
theorem oF.ext {w w':aOi}{base sz n:Nat}{v:aOj}{l:List aOj}{M:Nat->Prop}(h:oF w base sz v n l)(hx:aN w w' M)(hM:∀b,base<=b->¬M b):oF w' base sz v n l:=by
 refine⟨h.1, ?_⟩
 rcases h.2 with h2|⟨b,c,rest,h1,h2,h3,h4,h5⟩
 .exact .inl h2
 .exact .inr ⟨b,c,rest,h1,h2,h3.ext hx (hM b h2),h4,h5⟩
theorem oF.cl {w:aOi}{base sz n:Nat}{v:aOj}{l:List aOj}(h:oF w base sz v n l):Cl w sz v n l:=by
 rcases h.2 with⟨rfl,rfl⟩|⟨b,c,rest,rfl,h2,h3,h4,h5⟩
 .exact ⟨_,_,rfl,h.1,λh=>by omega⟩
 .refine ⟨_,_,rfl,h.1,λ_=>⟨b,0,rfl,λi hi=> ?_⟩⟩
  rw[h3.cell,aLE,aLQ hi]
theorem oF.sl {w:aOi}{base n:Nat}{v:aOj}{l:List aOj}(h:oF w base 1 v n l):Sl w v l:=by
 have hl:=h.1
 rcases h.2 with⟨rfl,rfl⟩|⟨b,c,rest,rfl,h2,h3,h4,h5⟩
 .exact ⟨_,_,_,rfl,by omega,by omega,λh=>by omega⟩
 .refine ⟨_,_,_,rfl,by omega,h5,λ_=>⟨b,0,rfl,λi hi=> ?_⟩⟩
  rw[h3.cell,aLE,aLQ (by omega)]
section
variable{P:Program}{w:aOi}{t e:TypeId}
theorem Yj{b off:Nat}{l:List aOj}(h:∀i,i<l.length->w.cell? ⟨b,off+i,none⟩=l[i]?):(loadCells ⟨b,off,none⟩ l.length).run P w= .ok l.toArray w:=by
 have:=Yk (P:=P) h l.length (aLw _)
 rwa [aNr]at this
theorem AS{sz n:Nat}{v:aOj}{l:List aOj}(h:Cl w sz v n l):(Builtin.firstCells sz n v).run P w= .ok l.toArray w:=by
 obtain⟨x,c,rfl,hl,hh⟩:=h
 cases x with
 |none=>
  have:n=0:=by
   rcases aMy n with h|h
   .exact h
   .obtain ⟨b,off,e,_⟩:=hh h;cases e
  subst this
  have:l=[]:=aL8.1 (by omega)
  subst this
  simp[Builtin.firstCells]
 |some x=>
  simp only[Builtin.firstCells]
  rw[<-hl]
  by_cases h0:0<n
  .obtain ⟨b,off,e,h2⟩:=hh h0
   have e:=aLS e;subst e
   exact Yj h2
  .have:n=0:=by omega
   subst this
   have:l=[]:=aL8.1 (by omega)
   subst this
   simp[loadCells,loadCellsFrom]
theorem sU(zs:Array aOj)(n:Nat):(Builtin.zeroCells zs n).size=n*zs.size:=by simp[Builtin.zeroCells]
theorem LS(vs:List aOj):∀(aLn rest:List aOj),vs.length<=rest.length->aT (aLn++rest) aLn.length vs=aLn++vs++rest.drop vs.length:=by
 induction vs with
 |nil=>intro aLn rest _;simp[aT]
 |cons v vs ih=>
  intro aLn rest h
  cases rest with
  |nil=>simp at h
  |cons r rest=>
   have:=ih (aLn++[v]) rest (by simpa using h)
   simp only[aT,aLo,aLO,aOc,aLF,aMk,aL5]at this⊢
   rw[aNA,<-this,aMp _ _ (aLw _),aNh,aLu,aLE]
theorem avK{S:Nat->Prop}{sz n m:Nat}{i:TypeInfo}{z:aOj}{ty t2 e2:TypeId}(hu:P.underlying t=some (.slice e))(hu2:P.underlying t2=some (.slice e2))(hi:P.info? e=some i)(hsz:i.size=sz)(hz:i.zero=some z)(hzs:z.cells.size=sz)
 {v x:aOj} {l news:List aOj} (h:Ab w S sz v n l) (hx:Cl w sz x m news) (hone:∀y∈news,one y=true) (hb:∀b,w.heap.size<=b->S b)
 (hn:n+m<=9223372036854775807) (hbytes:(n+m)*i.bytes<=140737488355328) (_hpos:i.bytes≠0)
 {K:aOj->aOi->Prop} (hk:∀v' w',Ab w' S sz v' (n+m) (l++news)->aN w w' S->Cl w' sz v n l->K v' w'):aA P (dD .append #[t,t2] ty [v,x]) w K:=by
 have hlx:(Builtin.lenOf x).run P w= .ok m w:=by
  obtain⟨a,c,rfl,_⟩:=hx;simp[Builtin.lenOf]
 have hnl:=hx.choose_spec.choose_spec.2.1
 have hfx:=AS (P:=P) hx
 have hmax:IntKind.i64.max=9223372036854775807:=by decide
 have hnot:¬(((n+m:Nat):Int)>IntKind.i64.max/\(False∨i.bytes=0)):=by rw[hmax];omega
 have hz':∀w,(zeroValue e).run P w= .ok z w:=λw=>by simp[zeroValue,typeInfo,hi,hz]
 have hlen:=h.1
 rcases h.2 with⟨rfl,rfl⟩|⟨b,c,rest,rfl,h2,h3,h4,h5⟩
 .
  have hl0:l=[]:=aL8.1 (by omega)
  subst hl0
  by_cases hm:m=0
  .subst hm
   have hn0:news=[]:=aL8.1 (by omega)
   subst hn0
   have:(dD .append #[t,t2] ty [.slice none 0 0,x]).run P w= .ok (.value (.slice none 0 0)) w:=by
    unfold dD builtin
    simp only[Builtin.append_,aMJ,aLq,aLs]
    simp only[underlying,Sem.run_bind,run_program,Result.andThen_ok,hu,hu2,Sem.run_pure,cG hi,hsz,aLC,if_false,hlx,aLw,aLZ,if_true,aMF,hfx]
   unfold aA
   rw[this]
   exact hk _ _ ⟨by simp,.inl ⟨rfl,by omega⟩⟩ (aN.refl _ _) ⟨none,0,rfl,hlen,λh=>absurd h (by omega)⟩
  .have hfit:=growslice_fits (need:=0+m) (old:=0) (bytes:=i.bytes) (by omega) (by omega)
   have hfit':¬(Builtin.nextslicecap (0+m) 0*i.bytes>2^48):=by omega
   have hle:¬(0+m<=0):=by omega
   have hq:(Question.appendCap (0+m) 0 e).forced=false:=rfl
   obtain⟨r,hr⟩:∃r,(Question.appendCap (0+m) 0 e).cut (w.tape w.drawn (.appendCap (0+m) 0 e))=m+r:=
    ⟨(w.tape w.drawn (.appendCap (0+m) 0 e))%(2^63-(0+m)),by simp only[Question.cut];omega⟩
   have:(dD .append #[t,t2] ty [.slice none 0 0,x]).run P w= .ok (.value (.slice (some ⟨w.heap.size,0,none⟩) (0+m) (m+r))) ((dr w).alloc (.cells (news++(Builtin.zeroCells z.cells (m+r-(0+m))).toList).toArray e)):=by
    have hfx':=AS (P:=P) (w:=dr w) hx
    unfold dD builtin
    simp only[Builtin.append_,aMJ,aLq,aLs]
    simp only[underlying,typeInfo,Sem.run_bind,run_program,Result.andThen_ok,hu,hu2,hi,Sem.run_pure,cG hi,hsz,aLC,if_false,hlx,hle,aMF,if_true,hnot,hfit',run_choose,hq,hr,run_askRoom]
    change((Sem.run P _ (dr w)).andThen _).andThen _=_
    simp only[Sem.run_bind,hfx',run_firstCells_none,Result.andThen_ok,hz',Sem.run_pure,newRow,run_newObj]
    have e1:(#[]++news.toArray++Builtin.zeroCells z.cells (m+r-(0+m)):Array aOj)=(news++(Builtin.zeroCells z.cells (m+r-(0+m))).toList).toArray:=by
     apply Array.ext';simp
    rw[e1]
    rfl
   unfold aA
   rw[this]
   refine hk _ _ ⟨by simp only[aL5];rw[hnl,aLE],.inr ⟨w.heap.size,m+r,(Builtin.zeroCells z.cells (m+r-(0+m))).toList,by rw[aLE],hb _ (aLw _),aZ.alloc (dr w) _ _, ?_,by omega⟩⟩ ((aN.dr w _).seq (aN.alloc _ _ _)) ⟨none,0,rfl,hlen,λh=>absurd h (by omega)⟩
   simp only[aL5,aLo,aNq,sU,hzs,hnl]
   rw[show m+r-(0+m)=r from by omega,aMh]
 .by_cases hc:n+m<=c
  .
   have hroom:news.length<=rest.length:=by
    rw[aLo,hlen]at h4
    have:(n+m)*sz<=c*sz:=aLX _ hc
    rw[aMh]at this;omega
   obtain⟨w',s1,s2,s3,s4,_⟩:=Dp (P:=P) (M:=S) h2 news w (n*sz) 0 (l++rest) h3 (by rw[aLo,hlen];omega) hone
   have:(dD .append #[t,t2] ty [.slice (some ⟨b,0,none⟩) n c,x]).run P w= .ok (.value (.slice (some ⟨b,0,none⟩) (n+m) c)) w':=by
    unfold dD builtin
    simp only[Builtin.append_,aMJ,aLq,aLs]
    simp only[underlying,Sem.run_bind,run_program,Result.andThen_ok,hu,hu2,Sem.run_pure,cG hi,hsz,aLC,if_false,hlx,hc,if_true,aMF,hfx,Cz,aLE,s1]
   unfold aA
   rw[this]
   rw[aLZ,<-hlen,LS _ _ _ hroom]at s2
   refine hk _ _ ⟨by rw[aLo,hlen,hnl,aMh],.inr ⟨b,c,rest.drop news.length,rfl,h2,s2, ?_,hc⟩⟩ s3 ⟨_,_,rfl,hlen,λ_=>⟨b,0,rfl,λi hi=>by
    rw[s2.cell,aLE,aLF,aLQ hi]⟩⟩
   rw[<-h4];simp;omega
  .
   have hfit:=growslice_fits (need:=n+m) (old:=c) (bytes:=i.bytes) (by omega) hbytes
   have hfit':¬(Builtin.nextslicecap (n+m) c*i.bytes>2^48):=by omega
   have hq:(Question.appendCap (n+m) c e).forced=false:=rfl
   obtain⟨r,hr⟩:∃r,(Question.appendCap (n+m) c e).cut (w.tape w.drawn (.appendCap (n+m) c e))=n+m+r:=
    ⟨(w.tape w.drawn (.appendCap (n+m) c e))%(2^63-(n+m)),by simp only[Question.cut]⟩
   have hold:Cl (dr w) sz (.slice (some ⟨b,0,none⟩) n c) n l:=⟨_,_,rfl,hlen,λ_=>⟨b,0,rfl,λi hi=>by
    show w.cell? _=_
    rw[h3.cell,aLE,aLQ hi]⟩⟩
   have:(dD .append #[t,t2] ty [.slice (some ⟨b,0,none⟩) n c,x]).run P w= .ok (.value (.slice (some ⟨w.heap.size,0,none⟩) (n+m) (n+m+r))) ((dr w).alloc (.cells (l++news++(Builtin.zeroCells z.cells (n+m+r-(n+m))).toList).toArray e)):=by
    have hfx':=AS (P:=P) (w:=dr w) hx
    have hfo:=AS (P:=P) hold
    unfold dD builtin
    simp only[Builtin.append_,aMJ,aLq,aLs]
    simp only[underlying,typeInfo,Sem.run_bind,run_program,Result.andThen_ok,hu,hu2,hi,Sem.run_pure,cG hi,hsz,aLC,if_false,hlx,hc,aMF,if_true,hnot,hfit',run_choose,hq,hr,run_askRoom]
    change((Sem.run P _ (dr w)).andThen _).andThen _=_
    simp only[Sem.run_bind,hfx',hfo,Result.andThen_ok,hz',Sem.run_pure,newRow,run_newObj]
    have e1:(l.toArray++news.toArray++Builtin.zeroCells z.cells (n+m+r-(n+m)):Array aOj)=(l++news++(Builtin.zeroCells z.cells (n+m+r-(n+m))).toList).toArray:=by
     apply Array.ext';simp
    rw[e1]
    rfl
   unfold aA
   rw[this]
   refine hk _ _ ⟨by rw[aLo,hlen,hnl,aMh],.inr ⟨w.heap.size,n+m+r,_,rfl,hb _ (aLw _),aZ.alloc (dr w) _ _, ?_,by omega⟩⟩ ((aN.dr w _).seq (aN.alloc _ _ _)) ⟨_,_,rfl,hlen,λ_=>⟨b,0,rfl,λi hi=>by
    have o9:=h3.ext ((aN.dr w bJ).seq (aN.alloc (dr w) (.cells (l++news++(Builtin.zeroCells z.cells (n+m+r-(n+m))).toList).toArray e) bJ)) (λh=>h)
    rw[o9.cell,aLE,aLQ hi]⟩⟩
   simp only[aLo,aNq,sU,hzs,hnl,hlen]
   rw[show n+m+r-(n+m)=r from by omega,aMh,aMh]
theorem qF{S:Nat->Prop}{sz n m:Nat}{i:TypeInfo}{z:aOj}{ty t2 e2:TypeId}(hu:P.underlying t=some (.slice e))(hu2:P.underlying t2=some (.slice e2))(hi:P.info? e=some i)(hsz:i.size=sz)(hz:i.zero=some z)(hzs:z.cells.size=sz)
 {v x:aOj} {l news:List aOj} (h:Ab w S sz v n l) (hx:Cl w sz x m news) (hone:∀y∈news,one y=true) (hb:∀b,w.heap.size<=b->S b)
 (hn:n+m<=9223372036854775807) (hbytes:(n+m)*i.bytes<=140737488355328) (_hpos:i.bytes≠0)
 {K:aOj->aOi->Prop} (hk:∀v' w',Ab w' S sz v' (n+m) (l++news)->aN w w' S->K v' w'):aA P (dD .append #[t,t2] ty [v,x]) w K:=
 avK hu hu2 hi hsz hz hzs h hx hone hb hn hbytes _hpos λv' w' a b _=>hk v' w' a b
theorem ajI{base sz n m:Nat}{i:TypeInfo}{z:aOj}{ty t2 e2:TypeId}(hu:P.underlying t=some (.slice e))(hu2:P.underlying t2=some (.slice e2))(hi:P.info? e=some i)(hsz:i.size=sz)(hz:i.zero=some z)(hzs:z.cells.size=sz)
 {v x:aOj} {l news:List aOj} (h:oF w base sz v n l) (hx:Cl w sz x m news) (hone:∀y∈news,one y=true) (hb:base<=w.heap.size)
 (hn:n+m<=9223372036854775807) (hbytes:(n+m)*i.bytes<=140737488355328) (_hpos:i.bytes≠0)
 {K:aOj->aOi->Prop} (hk:∀v' w',oF w' base sz v' (n+m) (l++news)->aN w w' (λy=>base<=y)->K v' w'):aA P (dD .append #[t,t2] ty [v,x]) w K:=
 qF (S:=λy=>base<=y) hu hu2 hi hsz hz hzs h hx hone (λ_ h=>aMq hb h) hn hbytes _hpos hk
end
section
variable{P:Program}{w:aOi}{t e:TypeId}
theorem JD{i:TypeInfo}{z:aOj}{n:Nat}{ps:List (Nat×aOj)}{cells:Array aOj}(hu:P.underlying t=some (.slice e))(hi:P.info? e=some i)(hz:i.zero=some z)
 (h1:¬n*i.size>2^24) (h0:¬n*i.size=0) (hf:Instr.fill (λj=>some (j*i.size,i.size)) ((Array.range (n*i.size)).map (z.cells[·%z.cells.size]!)) ps=some cells)
 {K:aOj->aOi->Prop} (hk:∀w',aZ w' w.heap.size cells.toList->aN w w' bJ->w'.heap.size=w.heap.size+1->K (.slice (some ⟨w.heap.size,0,none⟩) n n) w'):
 aA P (bT t n ps) w K:=by
 have hz':(zeroValue e).run P w= .ok z w:=by simp[zeroValue,typeInfo,hi,hz]
 have:(bT t n ps).run P w= .ok (.value (.slice (some ⟨w.heap.size,0,none⟩) n n)) (w.alloc (.cells cells.toList.toArray e)):=by
  unfold bT;rw[lZ]
  simp only[Instr.buildSlice,underlying,pure_bind,Sem.run_bind,run_program,Result.andThen_ok,hu,Sem.run_pure,cG hi,h1,h0,if_false,hz',hf,newRow,run_newObj]
  rfl
 unfold aA
 rw[this]
 exact hk _ (aZ.alloc _ _ _) (aN.alloc _ _ _) (by simp)
theorem aZ.mark {b:Nat}{cs:List aOj}(h:aZ w b cs):aZ (w.freeze ⟨b,cs.length,none⟩ 1) b cs:=by
 have hb:=h.lt
 obtain⟨T,lo,hi,h,k⟩:=h
 by_cases hlh:(lo==hi)=true
 .refine ⟨T,cs.length,cs.length+1, ?_,.inl (aLw _)⟩
  show(w.heap.modify b _)[b]?=_
  rw[aNl,if_pos rfl,h]
  have hlh:lo=hi:=by simpa using hlh
  simp[hlh]
 .refine ⟨T,min lo cs.length,max hi (cs.length+1), ?_,.inl ?_⟩
  .show (w.heap.modify b _)[b]?=_
   rw[aNl,if_pos rfl,h]
   have hlh:¬lo=hi:=by simpa using hlh
   simp[hlh]
  .rcases k with k|k
   .omega
   .exfalso;apply hlh;rw[k];simp
theorem aN.mark (w:aOi)(a:Addr):aN w (w.freeze a 1) (λy=>y=a.block):=
 ⟨rfl,rfl,rfl,by show _<=(w.heap.modify _ _).size;simp,λb hb hn=>by
  show(w.heap.modify a.block _)[b]?=_
  rw[aNl]
  rw[if_neg (λh=>hn h.symm)]⟩
end
section
variable{P:Program}{w:aOi}{t e:TypeId}
theorem aiN{d:TypeDesc}(he:P.underlying e=some d)(hd:akD d=false){cs:Array aOj}{k:Nat}{v:aOj}(h:cs[k]?=some v):(part e cs k).run P w= .ok v w:=by
 unfold part
 simp only[Sem.run_bind,Ex he,hd,Result.andThen_ok,aLC,if_false,h,Sem.run_pure]
theorem aAm{a b:UInt8}:(((a.toNat:Int))==(b.toNat:Int))=decide (a=b):=by
 rw[Bool.eq_iff_iff]
 simp only[<-UInt8.toNat_inj,beq_iff_eq,decide_eq_true_eq]
 omega
theorem axJ{i:TypeInfo}(m n:Nat)(hu:P.underlying t=some (.array n e))(he:P.underlying e=some (.int .u8))(hi:P.info? e=some i)(h1:i.size=1)(l l':List UInt8)(hl:l.length=n)(hl':l'.length=n):
 (Op.equalIn (m+2) t (.agg (l.map dP).toArray) (.agg (l'.map dP).toArray)).run P w= .ok (decide (l=l')) w:=by
 unfold Op.equalIn
 simp only[underlying,Sem.run_bind,run_program,Result.andThen_ok,hu,Sem.run_pure,cG hi,Std.Legacy.Range.forIn_eq_forIn_range',Std.Legacy.Range.size,aMU,Nat.add_one_sub_one,Nat.div_one,h1,aM2]
 have key:∀(c k:Nat),k+c=n->l.take k=l'.take k→
     ∃r,(forIn (List.range' k c) (none,()) λ(i:Nat) (_:Option Bool×Unit)=>(do
         let a<-part e (List.map dP l).toArray i
         let b<-part e (List.map dP l').toArray i
         let c<-Op.equalIn (m+1) e a b
         if(!c)=true then pure (ForInStep.done (some false,()))else pure (ForInStep.yield (none,())):Sem (ForInStep (Option Bool×Unit)))).run P w= .ok (r,()) w/\r.getD true=decide (l=l'):=by
  intro c
  induction c with
  |zero=>
   intro k hk ht
   refine⟨none,by simp, ?_⟩
   have:l=l':=by
    rw[aLK (by omega),aLK (by omega)]at ht;exact ht
   simp[this]
  |succ c ih=>
   intro k hk ht
   have g:∀(q:List UInt8) (h:k<q.length),(q.map dP).toArray[k]?=some (dP q[k]):=λq h=>by simp[h]
   have hv:(Op.equalIn (m+1) e (dP (l[k]'(by omega))) (dP (l'[k]'(by omega)))).run P w= .ok (decide (l[k]'(by omega)=l'[k]'(by omega))) w:=by
    unfold Op.equalIn dP
    simp only[underlying,Sem.run_bind,run_program,Result.andThen_ok,he,Sem.run_pure,if_true,aAm]
   rw[aN9]
   simp only[List.forIn_cons,Sem.run_bind,aiN he rfl (g l (by omega)),aiN he rfl (g l' (by omega)),Result.andThen_ok,hv]
   by_cases hx:l[k]'(by omega)=l'[k]'(by omega)
   .simp only[hx,decide_true,aMv,aLC,if_false,Sem.run_pure,Result.andThen_ok]
    refine ih (k+1) (by omega) ?_
    rw[aMB,aMB,ht,aLp (by omega),aLp (by omega),hx]
   .simp only[hx,decide_false,aMF,if_true,Sem.run_pure,Result.andThen_ok]
    refine⟨some false,rfl, ?_⟩
    have:l≠l':=λh=>hx (by subst h;rfl)
    simp[this]
 obtain⟨r,h1,h2⟩:=key n 0 (by omega) (by simp)
 rw[h1,<-h2]
 cases r<;>simp
structure alW{κ:Type}[DecidableEq κ](P:Program)(t:TypeId)(enc:κ->aOj):Prop where
 eq:∀a b (w:aOi),(Op.equal t (enc a) (enc b)).run P w= .ok (decide (a=b)) w
 now:∃d,P.underlying t=some d/\∀a b,Instr.sameNow d (enc a) (enc b)=none∨Instr.sameNow d (enc a) (enc b)=some (decide (a=b))
 chk:∀(e:Bool) a (w:aOi),(Instr.checkKey e 10000 t (enc a)).run P w= .ok () w
 stay:∀a,Instr.sameBits 10000 (enc a) (enc a)=true
def assoc{κ:Type}[DecidableEq κ](k:κ):List (κ×aOj)->Option aOj
 |[]=>none
 |p::r=>if k=p.1 then some p.2 else assoc k r
def upd{κ:Type}[DecidableEq κ](k:κ)(v:aOj):List (κ×aOj)->List (κ×aOj)
 |[]=>[(k,v)]
 |p::r=>if k=p.1 then(k,v)::r else p::upd k v r
theorem aBi{κ:Type}[DecidableEq κ](k j:κ)(v:aOj):∀(l:List (κ×aOj)),assoc j (upd k v l)=if j=k then some v else assoc j l:=by
 intro l
 induction l with
 |nil=>simp only[upd,assoc]
 |cons p r ih=>
  simp only[upd]
  by_cases h:k=p.1
  .rw [if_pos h]
   simp only[assoc]
   by_cases hj:j=k
   .rw [if_pos hj,if_pos hj]
   .rw [if_neg hj,if_neg hj,if_neg (λe=>hj (e.trans h.symm))]
  .rw [if_neg h]
   simp only[assoc,ih]
   by_cases hj:j=p.1
   .rw [if_pos hj,if_pos hj,if_neg (λe=>h (e.symm.trans hj))]
   .rw [if_neg hj,if_neg hj]
theorem aA2 {κ:Type}[DecidableEq κ]{k:κ}{v:aOj}{l:List (κ×aOj)}{p:κ×aOj}(h:p∈upd k v l):p=(k,v)∨p∈l:=by
 induction l with
 |nil=>simp[upd]at h;exact .inl h
 |cons q r ih=>
  simp only[upd]at h
  split at h
  .rcases aL9.1 h with h|h
   .exact .inl h
   .exact .inr (aLJ _ h)
  .rcases aL9.1 h with h|h
   .exact .inr (h▸aL6)
   .rcases ih h with h|h
    .exact .inl h
    .exact .inr (aLJ _ h)
theorem aBh{κ:Type}[DecidableEq κ]{k:κ}{v:aOj}{l:List (κ×aOj)}(h:assoc k l=some v):(k,v)∈l:=by
 induction l with
 |nil=>simp[assoc]at h
 |cons q r ih=>
  simp only[assoc]at h
  split at h
  .rename_i e;cases h;rw[e];exact aL6
  .exact aLJ _ (ih h)
def Grown(es:Array MapEntry)(clock:Nat):Prop:=(es.toList.map (·.born)).Pairwise (·<·)/\∀e∈es.toList,e.born<clock
def Mp{κ:Type}(w:aOi)(m:Nat)(enc:κ->aOj)(l:List (κ×aOj)):Prop:=
 ∃es clock,w.heap[m]?=some (.map es clock)/\es.toList.map (λe=>(e.key,e.val))=l.map (λp=>(enc p.1,p.2))/\Grown es clock/\(l.map (·.1)).Nodup
theorem axL{es:Array MapEntry}{c:Nat}(h:Grown es c)(k v:aOj):Grown (es.push ⟨k,v,c⟩) (c+1):=by
 obtain⟨h1,h2⟩:=h
 refine⟨?_, ?_⟩
 .rw [Array.toList_push,aLY,List.pairwise_append]
  refine⟨h1,by simp,λa ha b hb=> ?_⟩
  simp at hb
  subst hb
  obtain⟨e,he,rfl⟩:=aL1.1 ha
  exact h2 e he
 .intro e he
  rw[Array.toList_push]at he
  rcases aMm.1 he with he|he
  .have:=h2 e he;omega
  .simp at he;subst he;exact Nat.lt_succ_self c
theorem axM{es es':Array MapEntry}{c:Nat}(h:Grown es c)(he:es'.toList.map (·.born)=es.toList.map (·.born)):Grown es' c:=by
 refine⟨by rw[he];exact h.1,λe h'=> ?_⟩
 have:e.born∈es'.toList.map (·.born):=aL1.2 ⟨e,h',rfl⟩
 rw[he]at this
 obtain⟨x,hx,hxe⟩:=aL1.1 this
 rw[<-hxe];exact h.2 x hx
theorem avV{κ:Type}[DecidableEq κ]{k:κ}{v:aOj}:∀{l:List (κ×aOj)},(l.map (·.1)).Nodup->((upd k v l).map (·.1)).Nodup
 |[],_=>by simp[upd]
 |p::r,h=>by
  simp only[upd]
  have h':=h
  rw[aL3,aNX]at h
  split
  .rename_i e
   rw[aL3,aNX]
   exact⟨λhm=>h.1 (e▸hm),h.2⟩
  .rename_i e
   rw[aL3,aNX]
   refine⟨λhm=> ?_,avV h.2⟩
   obtain⟨q,hq,hqe⟩:=aL1.1 hm
   rcases aA2 hq with h1|h1
   .rw [h1]at hqe;exact e hqe
   .exact h.1 (aL1.2 ⟨q,h1,hqe⟩)
theorem Mp.lt {κ:Type}{m:Nat}{enc:κ->aOj}{l:List (κ×aOj)}(h:Mp w m enc l):m<w.heap.size:=by
 obtain⟨es,c,h,_⟩:=h
 rcases aLH m w.heap.size with h'|h'
 .exact h'
 .rw [aMC h']at h;cases h
theorem Mp.ext {κ:Type}{w w':aOi}{m:Nat}{enc:κ->aOj}{l:List (κ×aOj)}{M:Nat->Prop}(h:Mp w m enc l)(hx:aN w w' M)(hM:¬M m):Mp w' m enc l:=by
 have:=h.lt
 obtain⟨es,c,h,k⟩:=h
 exact⟨es,c,by rw[hx.keep m this hM];exact h,k⟩
theorem Mp.dr {κ:Type}{w:aOi}{m:Nat}{enc:κ->aOj}{l:List (κ×aOj)}(h:Mp w m enc l):Mp (dr w) m enc l:=h
def Yb{κ:Type}[DecidableEq κ](k:κ):List (κ×aOj)->Nat->Option (Nat×aOj)
 |[],_=>none
 |p::r,i=>if k=p.1 then some (i,p.2)else Yb k r (i+1)
theorem axQ{κ:Type}[DecidableEq κ](k:κ):∀(l:List (κ×aOj)) (i:Nat),(Yb k l i).map (·.2)=assoc k l:=by
 intro l
 induction l with
 |nil=>intro i;rfl
 |cons p r ih=>intro i;simp only[Yb,assoc];split<;>simp[ih]
variable{κ:Type}[DecidableEq κ]{enc:κ->aOj}
theorem ahL{r:Nat}{es:Array MapEntry}{c:Nat}(hb:w.heap[r]?=some (.map es c)):(getObj r).run P w= .ok (.map es c) w:=by simp[getObj,Sem.run,hb]
theorem ajD{r:Nat}{es:Array MapEntry}{c:Nat}(o:Obj)(hb:w.heap[r]?=some (.map es c)):(setObj r o).run P w= .ok () {w with heap:=w.heap.setIfInBounds r o}:=by simp[setObj,Sem.run,hb]
theorem ahE(K:alW P t enc)(k:κ):∀(es:List MapEntry) (l:List (κ×aOj)) (i:Nat),es.map (λe=>(e.key,e.val))=l.map (λp=>(enc p.1,p.2))→
 (Instr.findAsking t (enc k) es i).run P w= .ok (Yb k l i) w:=by
 intro es
 induction es with
 |nil=>intro l i h;cases l with
  |nil=>rfl
  |cons p r=>simp at h
 |cons x es ih=>
  intro l i h
  cases l with
  |nil=>simp at h
  |cons p r=>
   simp only[aL3,List.cons.injEq,aN8]at h
   obtain⟨⟨h1,h2⟩,h3⟩:=h
   simp only[Instr.findAsking,Sem.run_bind,h1,K.eq,Result.andThen_ok,Yb]
   by_cases hx:k=p.1
   .simp [hx,h2]
   .simp only[hx,decide_false,aLC,if_false]
    exact ih r (i+1) h3
theorem aoQ{d:TypeDesc}(hn:∀a b,Instr.sameNow d (enc a) (enc b)=none∨Instr.sameNow d (enc a) (enc b)=some (decide (a=b)))(k:κ):∀(es:List MapEntry) (l:List (κ×aOj)) (i:Nat) (r:Option (Nat×aOj)),es.map (λe=>(e.key,e.val))=l.map (λp=>(enc p.1,p.2))→
 Instr.findNow d (enc k) es i=some r->r=Yb k l i:=by
 intro es
 induction es with
 |nil=>intro l i r h hr;cases l with
  |nil=>simp[Instr.findNow]at hr;exact hr.symm
  |cons p r=>simp at h
 |cons x es ih=>
  intro l i r h hr
  cases l with
  |nil=>simp at h
  |cons p q=>
   simp only[aL3,List.cons.injEq,aN8]at h
   obtain⟨⟨h1,h2⟩,h3⟩:=h
   simp only[Instr.findNow,h1]at hr
   rcases hn k p.1 with hh|hh
   .rw [hh]at hr;cases hr
   .rw [hh]at hr
    simp only[Yb]
    by_cases hx:k=p.1
    .simp only[hx,decide_true,aNN]at hr
     rw[if_pos hx,<-hr,h2]
    .simp only[hx,decide_false]at hr
     rw[if_neg hx]
     exact ih q (i+1) r h3 hr
theorem acE(K:alW P t enc)(k:κ)(es:List MapEntry)(l:List (κ×aOj))(h:es.map (λe=>(e.key,e.val))=l.map (λp=>(enc p.1,p.2))):
 (Instr.findKey t (enc k) es).run P w= .ok (Yb k l 0) w:=by
 obtain⟨d,hd,hn⟩:=K.now
 unfold Instr.findKey
 simp only[underlying,Sem.run_bind,run_program,Result.andThen_ok,hd,Sem.run_pure]
 cases hr:Instr.findNow d (enc k) es 0 with
 |none=>exact ahE K k es l 0 h
 |some r=>rw[aoQ hn k es l 0 r h hr]<;>rfl
theorem aIw{kt et:TypeId}{i:TypeInfo}{z:aOj}(hu:P.underlying t=some (.map kt et))(hi:P.info? et=some i)(hz:i.zero=some z)(K:alW P kt enc){m:Nat}{l:List (κ×aOj)}(hm:Mp w m enc l)(k:κ):
 (avD t (.map (some m)) (enc k) true).run P w= .ok (.value (.tuple #[(assoc k l).getD z,.bool (assoc k l).isSome])) w:=by
 obtain⟨es,c,hb,he,_⟩:=hm
 unfold avD;rw[lZ]
 unfold Instr.lookup
 simp only[underlying,Sem.run_bind,run_program,Result.andThen_ok,hu,Sem.run_pure,ahL hb,K.chk,acE K k es.toList l he,<-axQ k l 0]
 cases Yb k l 0 with
 |none=>simp[zeroValue,typeInfo,hi,hz]
 |some p=>simp
omit [DecidableEq κ]in
theorem aCE{K:aOj->aOi->Prop}(enc:κ->aOj)(hk:∀w',Mp w' w.heap.size enc ([]:List (κ×aOj))->aN w w' bJ->w'.heap.size=w.heap.size+1->K (.map (some w.heap.size)) w'):aA P (abC t none) w K:=by
 have:(abC t none).run P w= .ok (.value (.map (some w.heap.size))) (w.alloc (.map #[] 0)):=by
  unfold abC;rw[lZ]
  simp[Instr.makeMap]
 unfold aA
 rw[this]
 exact hk _ ⟨#[],0,by show(w.heap.push _)[w.heap.size]?=_;simp,rfl,⟨by simp,by simp⟩,by simp⟩ (aN.alloc _ _ _) (by simp)
theorem aCD{kt et:TypeId}(hu:P.underlying t=some (.map kt et))(Ke:alW P kt enc){m:Nat}{l:List (κ×aOj)}(hm:Mp w m enc l)(k:κ)(v:aOj){K:aOj->aOi->Prop}
 (hk:∀w',Mp w' m enc (upd k v l)->aN w w' (λy=>y=m)->w'.heap.size=w.heap.size->K undef w'):aA P (ajA t (.map (some m)) (enc k) v) w K:=by
 have hlt:=hm.lt
 obtain⟨es,c,hb,he,hgr,hnd⟩:=hm
 have hext:∀o,aN w {w with heap:=w.heap.setIfInBounds m o} (λy=>y=m):=λo=>
  ⟨rfl,rfl,rfl,by simp,λb hb hn=>by
   show(w.heap.setIfInBounds m o)[b]?=_
   rw[aMr (λe=>hn e.symm)]⟩
 have key:∃es' c',(ajA t (.map (some m)) (enc k) v).run P w= .ok .skip {w with heap:=w.heap.setIfInBounds m (.map es' c')}/\es'.toList.map (λe=>(e.key,e.val))=((upd k v l).map λp=>(enc p.1,p.2))/\Grown es' c':=by
  have gen:∀(es:List MapEntry) (l:List (κ×aOj)) (i:Nat),es.map (λe=>(e.key,e.val))=l.map (λp=>(enc p.1,p.2))→
      (Yb k l i=none->∀b,(es++[(⟨enc k,v,b⟩:MapEntry)]).map (λe=>(e.key,e.val))=(upd k v l).map λp=>(enc p.1,p.2))/\
      (∀j x,Yb k l i=some (j,x)->i<=j/\∃old,es[j-i]?=some old/\old.key=enc k/\(es.set (j-i) ({old with key:=enc k,val:=v}:MapEntry)).map (λe=>(e.key,e.val))=(upd k v l).map λp=>(enc p.1,p.2)):=by
   intro es
   induction es with
   |nil=>
    intro l i h
    cases l with
    |nil=>exact⟨λ_ b=>rfl,λj x h=>by simp[Yb]at h⟩
    |cons p r=>simp at h
   |cons x es ih=>
    intro l i h
    cases l with
    |nil=>simp at h
    |cons p r=>
     simp only[aL3,List.cons.injEq,aN8]at h
     obtain⟨⟨h1,h2⟩,h3⟩:=h
     simp only[Yb,upd]
     by_cases hx:k=p.1
     .rw [if_pos hx,if_pos hx]
      refine⟨λh=>by(cases h),λj y h=> ?_⟩
      cases h
      refine⟨aLw _,x,by simp,by rw[h1,hx], ?_⟩
      simp[h3]
     .rw [if_neg hx,if_neg hx]
      obtain⟨a,b⟩:=ih r (i+1) h3
      refine⟨λh q=> ?_,λj y h=> ?_⟩
      .simp only[aMk,aL3,a h q,h1,h2]
      .obtain ⟨hj,old,o1,o2,o3⟩:=b j y h
       refine⟨by omega,old, ?_,o2, ?_⟩
       .rw [show j-i=(j-(i+1))+1 from by omega,aLs];exact o1
       .rw [show j-i=(j-(i+1))+1 from by omega,aLx]
        simp only[aL3,o3,h1,h2]
  obtain⟨g1,g2⟩:=gen es.toList l 0 he
  unfold ajA
  rw[aJT]
  unfold Instr.mapUpdate
  simp only[underlying,Sem.run_bind,run_program,Result.andThen_ok,hu,Sem.run_pure,ahL hb,Ke.chk,acE Ke k es.toList l he]
  cases hi:Yb k l 0 with
  |none=>
   refine⟨es.push ⟨enc k,v,c⟩,c+1, ?_,by simpa using g1 hi c,axL hgr _ _⟩
   simp only[ajD _ hb,Result.andThen_ok]
  |some q=>
   obtain⟨j,x⟩:=q
   obtain⟨_,old,o1,o2,o3⟩:=g2 j x hi
   rw[aMU]at o1 o3
   have o1':es[j]?=some old:=by simpa using o1
   refine⟨es.modify j λe=>{e with key:=enc k,val:=v},c, ?_, ?_,axM hgr ?_⟩
   .simp only[o1',aL2,aNs,o2,Instr.keyThatStays,Ke.stay,if_true,Sem.run_pure,Result.andThen_ok,ajD _ hb,Sem.run_bind]
   .have hj:j<es.toList.length:=by
     rcases aLH j es.toList.length with h|h
     .exact h
     .rw [aLD h]at o1;cases o1
    rw[<-o3]
    congr 1
    apply aML
    intro y
    rw[aNO,aNl,aN4]
    by_cases hy:j=y
    .subst hy
     have hj':j<es.size:=by simpa using hj
     have e1:es[j]=old:=by rw[aL0 hj']at o1';exact aLS o1'
     simp[hj',e1]
    .simp [hy]
   .apply aML
    intro y
    rw[aLN,aLN,aNO,aNO,aNl]
    split
    .rename_i h;subst h
     cases es[j]?<;>rfl
    .rfl
 obtain⟨es',c',h1,h2,h3⟩:=key
 unfold aA
 rw[h1]
 refine hk _ ⟨es',c',by show(w.heap.setIfInBounds m _)[m]?=_;rw[aMe hlt],h2,h3,avV hnd⟩ (hext _) (by simp)
theorem atG{κ:Type}[DecidableEq κ]{i:TypeInfo}{n:Nat}(hu:P.underlying t=some (.array n e))(he:P.underlying e=some (.int .u8))(hi:P.info? e=some i)(h1:i.size=1)
 (bs:κ->List UInt8) (hb:∀k,(bs k).length=n) (hinj:∀a b,bs a=bs b->a=b):alW P t (λk=> .agg ((bs k).map dP).toArray):=by
 refine⟨λa b w=> ?_,⟨_,hu,λa b=> .inl rfl⟩,λc a w=> ?_,λa=> ?_⟩
 .unfold Op.equal Op.maxDepth
  rw[axJ 9998 n hu he hi h1 _ _ (hb a) (hb b)]
  congr 1
  rw[decide_eq_decide]
  exact⟨hinj a b,λh=>h▸rfl⟩
 .unfold Instr.checkKey
  simp only[underlying,Sem.run_bind,run_program,Result.andThen_ok,hu,Sem.run_pure,Std.Legacy.Range.forIn_eq_forIn_range',Std.Legacy.Range.size,aMU,Nat.add_one_sub_one,Nat.div_one]
  have key:∀(q k:Nat),k+q=n->(forIn (List.range' k q) () λ(i:Nat) (_:Unit)=>(do
      let z<-sizeOf e
      let x<-part e (List.map dP (bs a)).toArray (i*z)
      Instr.checkKey c 9999 e x
      pure (ForInStep.yield ()):Sem (ForInStep Unit))).run P w= .ok () w:=by
   intro q
   induction q with
   |zero=>intro k _;simp
   |succ q ih=>
    intro k hk
    have g:((bs a).map dP).toArray[k]?=some (dP ((bs a)[k]'(by rw[hb];omega))):=by
     have:k<(bs a).length:=by rw[hb];omega
     simp[this]
    have hc:∀x:UInt8,(Instr.checkKey c 9999 e (dP x)).run P w= .ok () w:=λx=>by
     unfold Instr.checkKey dP
     simp only[underlying,Sem.run_bind,run_program,Result.andThen_ok,he,Sem.run_pure]
    rw[aN9]
    simp only[List.forIn_cons,Sem.run_bind,cG hi,h1,aM2,aiN he rfl g,Result.andThen_ok,hc,Sem.run_pure]
    exact ih (k+1) (by omega)
  have:=key n 0 (by omega)
  rw[this]<;>rfl
 .unfold Instr.sameBits
  simp only[beq_self_eq_true,Bool.true_and,aMj]
  intro x hx
  have:∀l:List aOj,∀x∈l.zip l,x.1=x.2:=by
   intro l
   induction l with
   |nil=>simp
   |cons a r ih=>intro x hx;simp at hx;rcases hx with rfl|hx;·rfl
                 .exact ih x hx
  have e1:=this _ x hx
  have hm:=(List.of_mem_zip hx).1
  obtain⟨x1,x2⟩:=x
  simp only at e1 hm⊢
  subst e1
  simp at hm
  obtain⟨u,_,rfl⟩:=hm
  simp[dP,Instr.sameBits]
abbrev Qb(n:Nat):={l:List UInt8//l.length=n}
def XD{n:Nat}(k:Qb n):aOj:= .agg (k.1.map dP).toArray
theorem amR{i:TypeInfo}{n:Nat}(hu:P.underlying t=some (.array n e))(he:P.underlying e=some (.int .u8))(hi:P.info? e=some i)(h1:i.size=1):alW P t (XD (n:=n)):=
 atG (κ:=Qb n) hu he hi h1 (λk=>k.1) (λk=>k.2) (λ_ _ h=>Subtype.ext h)
theorem aJQ{n:Nat}(hu:P.underlying t=some (.array n e))(x:Option Addr)(m c:Nat)(h:n<=m):(aGJ t (.slice x m c)).run P w= .ok (.value (.pointer x)) w:=by
 unfold aGJ;rw[lZ]
 simp only[Instr.arrayAt,underlying,Sem.run_bind,run_program,Result.andThen_ok,hu,Sem.run_pure,if_neg (Nat.not_lt.2 h)]
theorem OV{d:TypeDesc}{i:TypeInfo}(hu:P.underlying t=some d)(hd:akD d=true)(hi:P.info? t=some i){b off:Nat}{l:List aOj}(hl:i.size=l.length)(h:∀j,j<l.length->w.cell? ⟨b,off+j,none⟩=l[j]?):
 (aH t (.pointer (some ⟨b,off,none⟩))).run P w= .ok (.value (.agg l.toArray)) w:=by
 unfold aH
 rw[lZ]
 simp only[Instr.loadAt,Instr.sureAddr,loadVar,pure_bind,Sem.run_bind,Ex hu,hd,Result.andThen_ok,if_true,cG hi,hl,Yj h,Sem.run_pure]
end
theorem bV{w:aOi}{b:Nat}{cs:List aOj}(h:aZ w b cs):aZ (dr w) b cs:=h.ext (aN.dr w bJ) (λh=>h)
theorem Sl.dr {w:aOi}{v:aOj}{l:List aOj}(h:Sl w v l):Sl (dr w) v l:=h
theorem Sl.open {w:aOi}{v:aOj}{l:List UInt8}(h:Bs w v l)(h0:0<l.length):∃b off c,v= .slice (some ⟨b,off,none⟩) l.length c/\l.length<=c/\∀i,(h:i<l.length)->w.cell? ⟨b,off+i,none⟩=some (dP l[i]):=by
 obtain⟨a,n,c,rfl,hn,hc,h⟩:=h
 simp only[aLr]at hn
 subst hn
 obtain⟨b,off,rfl,hh⟩:=h h0
 exact⟨b,off,c,rfl,hc,λi hi=>by rw[hh i hi];simp[hi]⟩
theorem Sl.len {w:aOi}{v:aOj}{l:List aOj}(h:Sl w v l):∃a c,v= .slice a l.length c/\l.length<=c:=by
 obtain⟨a,n,c,rfl,rfl,hc,_⟩:=h
 exact⟨a,c,rfl,hc⟩
theorem aU(v:aOj):¬IY v bJ:=by unfold IY bJ;split<;>simp
theorem Jw{b o m l:Nat}(h:l≠m):cW (some ⟨b,o,none⟩) m l 1=some ⟨b,o+l,none⟩:=by
 unfold cW;rw[if_neg (λe=>h e.symm)];simp[Cz]
theorem vA{v:aOj}{M N:Nat->Prop}(h:IY v M)(hm:∀b,M b->N b):IY v N:=by
 unfold IY at*
 split at h
 .exact hm _ h
 .exact h
theorem oF.len {w:aOi}{b sz n:Nat}{v:aOj}{l:List aOj}(h:oF w b sz v n l):∃a c,v= .slice a n c:=by
 rcases h.2 with⟨rfl,rfl⟩|⟨x,c,r,rfl,_⟩
 .exact ⟨_,_,rfl⟩
 .exact ⟨_,_,rfl⟩
theorem oF.lower {w:aOi}{a b sz n:Nat}{v:aOj}{l:List aOj}(h:oF w b sz v n l)(hab:a<=b):oF w a sz v n l:=by
 refine⟨h.1, ?_⟩
 rcases h.2 with h|⟨x,c,r,h1,h2,h3⟩
 .exact .inl h
 .exact .inr ⟨x,c,r,h1,by omega,h3⟩
theorem Sl.nil (w:aOi):Sl w (.slice none 0 0) []:=⟨none,0,0,rfl,rfl,aLw _,λh=>absurd h (by simp)⟩
theorem Sl.take' {w:aOi}{a:Option Addr}{n c:Nat}{l:List aOj}(h:Sl w (.slice a n c) l){k:Nat}(hk:k<=n):Sl w (.slice (cW a c 0 1) (k-0) (c-0)) (l.take k):=by
 have h':=h
 obtain⟨a',n',c',e,hn,hc,hh⟩:=h'
 cases e
 by_cases h0:k=0
 .subst h0
  exact⟨_,_,_,rfl,by simp,by omega,λh=>by simp at h⟩
 .obtain ⟨b,off,rfl,_⟩:=hh (by omega)
  exact h.take hk
theorem Sl.drop' {w:aOi}{a:Option Addr}{n c:Nat}{l:List aOj}(h:Sl w (.slice a n c) l){k:Nat}(hk:k<=n):Sl w (.slice (cW a c k 1) (n-k) (c-k)) (l.drop k):=by
 have h':=h
 obtain⟨a',n',c',e,hn,hc,hh⟩:=h'
 cases e
 by_cases h0:n=0
 .exact ⟨_,_,_,rfl,by rw[aLL];omega,by omega,λh=>by omega⟩
 .obtain ⟨b,off,rfl,_⟩:=hh (by omega)
  exact h.drop hk
theorem Sl.mid {w:aOi}{a:Option Addr}{n c:Nat}{l:List aOj}(h:Sl w (.slice a n c) l){i j:Nat}(hij:i<=j)(hj:j<=n):Sl w (.slice (cW a c i 1) (j-i) (c-i)) ((l.drop i).take (j-i)):=by
 have h':=h
 obtain⟨a',n',c',e,hn,hc,hh⟩:=h'
 cases e
 by_cases h0:j-i=0
 .rw [h0]
  exact⟨_,_,_,rfl,by simp,by omega,λh=>by omega⟩
 .obtain ⟨b,off,rfl,_⟩:=hh (by omega)
  have hd:=h.drop (k:=i) (by omega)
  obtain⟨a',n',c',e,hn',hc',hh'⟩:=hd
  obtain⟨b',off',e',h2⟩:=hh' (by have:=(Value.slice.inj e).2.1;omega)
  injection e with e1 e2 e3
  subst e3
  refine⟨_,_,_,rfl,by rw[aLz,aLL];omega,by omega,λ_=>⟨b',off',by rw[e1];exact e',λx hx=> ?_⟩⟩
  rw[h2 x (by omega),aLT hx]
theorem Sl.openV {w:aOi}{v:aOj}{l:List aOj}(h:Sl w v l)(h0:0<l.length):∃b off c,v= .slice (some ⟨b,off,none⟩) l.length c/\l.length<=c/\∀i,(h:i<l.length)->w.cell? ⟨b,off+i,none⟩=some l[i]:=by
 obtain⟨a,n,c,rfl,hn,hc,h⟩:=h
 subst hn
 obtain⟨b,off,rfl,hh⟩:=h h0
 exact⟨b,off,c,rfl,hc,λi hi=>by rw[hh i hi];simp[hi]⟩
theorem Sl.openI {w:aOi}{v:aOj}{k:IntKind}{l:List Int}(h:Sl w v (l.map (Value.int k)))(h0:0<l.length):∃b off c,v= .slice (some ⟨b,off,none⟩) l.length c/\l.length<=c/\∀i,(h:i<l.length)->w.cell? ⟨b,off+i,none⟩=some (.int k l[i]):=by
 obtain⟨b,off,c,e,hc,hh⟩:=h.openV (by simpa using h0)
 simp only[aLr]at e hc hh
 exact⟨b,off,c,e,hc,λi hi=>by rw[hh i hi];simp⟩
theorem Sl.lenI {w:aOi}{v:aOj}{k:IntKind}{l:List Int}(h:Sl w v (l.map (Value.int k))):∃a c,v= .slice a l.length c/\l.length<=c:=by
 obtain⟨a,c,e,hc⟩:=h.len
 simp only[aLr]at e hc
 exact⟨a,c,e,hc⟩
def Hg(n:Nat)(l:List aOj):List aOj:=(List.replicate n l).flatten
theorem YN(n:Nat)(l:List aOj):(Hg n l).length=n*l.length:=by
 unfold Hg;rw[List.length_flatten];simp
theorem aCn:∀(n:Nat) (l:List aOj) (j:Nat) (_:j<n*l.length) (h0:0<l.length),(Hg n l)[j]?=some (l[j%l.length]'(aNI _ h0)):=by
 intro n
 induction n with
 |zero=>intro l j h;simp at h
 |succ n ih=>
  intro l j h h0
  unfold Hg
  rw[aMs,aNL]
  by_cases hj:j<l.length
  .rw [aLQ hj,aLp hj]
   simp only[aLR hj]
  .rw [aLW (by omega)]
   have:=ih l (j-l.length) (by rw[aN1]at h;omega) h0
   unfold Hg at this
   rw[this]
   simp only[<-Nat.mod_eq_sub_mod (show j≥l.length by omega)]
theorem anM{P:Program}{w:aOi}{t e:TypeId}{k:IntKind}{i:TypeInfo}{z:aOj}{sz:Nat}(hu:P.underlying t=some (.slice e))(hi:P.info? e=some i)(h1:i.size=sz)(hsz:0<sz)(hz:i.zero=some z)(hz1:z.cells.size=sz){n:Int}(h0:0<=n)(hn:i.bytes*n<=2^48)(hn2:n<=9223372036854775807)
 {K:aOj->aOi->Prop}
 (hk:∀w',aZ w' w.heap.size (Hg n.toNat z.cells.toList)->aN w w' bJ->w'.heap.size=w.heap.size+1->K (.slice (some ⟨w.heap.size,0,none⟩) n.toNat n.toNat) w'):
 aA P (iS t (.int k n) (.int k n)) w K:=by
 have hw:IntKind.i64.wrap n=n:=dA (by omega) hn2
 have hl:z.cells.toList.length=sz:=by simpa using hz1
 have harr:(Array.range (n.toNat*sz)).map (λj=>z.cells[j%z.cells.size]!)=(Hg n.toNat z.cells.toList).toArray:=by
  apply Array.ext
  .simp [YN,hz1]
  .intro j h1 h2
   have hj:j<n.toNat*sz:=by simpa using h1
   have:=aCn n.toNat z.cells.toList j (by rw[hl];exact hj) (by rw[hl];exact hsz)
   have hm:j%z.cells.size<z.cells.size:=aNI _ (by omega)
   simp only[Array.getElem_map,Array.getElem_range,List.getElem_toArray]
   rw[getElem!_pos z.cells _ hm]
   rw[aLp (by rw[YN,hl];exact hj)]at this
   have:=aLS this
   rw[this]
   simp
 have hz':(zeroValue e).run P w= .ok z w:=by simp[zeroValue,typeInfo,hi,hz]
 have:(iS t (.int k n) (.int k n)).run P w= .ok (.value (.slice (some ⟨w.heap.size,0,none⟩) n.toNat n.toNat)) (w.alloc (.cells (Hg n.toNat z.cells.toList).toArray e)):=by
  unfold iS
  rw[lZ]
  have t1:(decide (n<0)||decide ((i.bytes:Int)*n>2^48)||decide (n<0)||decide (n>n))=false:=by
   simp only[aNR,decide_eq_false_iff_not];omega
  by_cases hn0:n.toNat*sz=0
  .simp only[Instr.makeSlice,underlying,typeInfo,asInt,asIntOf,pure_bind,Sem.run_bind,run_program,Result.andThen_ok,hu,hi,Sem.run_pure,hw,t1,aLC,if_false,run_askRoom,cG hi,h1,hn0,if_true,newRow,run_newObj]
   have hn:n.toNat=0:=by rcases Nat.mul_eq_zero.1 hn0 with h|h<;>omega
   have:(Array.range 0).map (λx=>(#[]:Array aOj)[x%(#[]:Array aOj).size]!)=(Hg n.toNat z.cells.toList).toArray:=by rw[hn];simp[Hg]
   rw[this]
   rfl
  .simp only[Instr.makeSlice,underlying,typeInfo,asInt,asIntOf,pure_bind,Sem.run_bind,run_program,Result.andThen_ok,hu,hi,Sem.run_pure,hw,t1,aLC,if_false,run_askRoom,cG hi,h1,hn0,hz',newRow,run_newObj,harr]
   rfl
 unfold aA
 rw[this]
 exact hk _ (aZ.alloc _ _ _) (aN.alloc _ _ _) (by simp)
abbrev T3:=Int×Int×Int
def fe(k:IntKind):List T3->List aOj
 |[]=>[]
 |e::r=> .int k e.1:: .int .i64 e.2.1:: .int .i64 e.2.2::fe k r
theorem Eu(k:IntKind):∀L:List T3,(fe k L).length=L.length*3
 |[]=>rfl
 |e::r=>by simp[fe,Eu k r];omega
theorem ahD(k:IntKind):∀(L:List T3) (i:Nat) (h:i<L.length),(fe k L)[i*3]?=some (.int k L[i].1)/\(fe k L)[i*3+1]?=some (.int .i64 L[i].2.1)/\(fe k L)[i*3+2]?=some (.int .i64 L[i].2.2)
 |[],i,h=>by simp at h
 |e::r,0,_=>⟨rfl,rfl,rfl⟩
 |e::r,i+1,h=>by
  have:=ahD k r i (by simpa using h)
  rw[aMh]
  exact this
theorem aoP(k:IntKind):∀(L:List T3) (i:Nat) (h:i<L.length) (x:Int),(fe k L).set (i*3) (.int k x)=fe k (L.set i (x,L[i].2))/\(fe k L).set (i*3+1) (.int .i64 x)=fe k (L.set i (L[i].1,x,L[i].2.2))/\(fe k L).set (i*3+2) (.int .i64 x)=fe k (L.set i (L[i].1,L[i].2.1,x))
 |[],i,h,_=>by simp at h
 |e::r,0,_,x=>⟨rfl,rfl,rfl⟩
 |e::r,i+1,h,x=>by
  have:=aoP k r i (by simpa using h) x
  rw[aMh]
  obtain⟨h1,h2,h3⟩:=this
  refine⟨?_, ?_, ?_⟩
  .show (_::_::_::(fe k r).set (i*3) _)=_;rw[h1]<;>rfl
  .show (_::_::_::(fe k r).set (i*3+1) _)=_;rw[h2]<;>rfl
  .show (_::_::_::(fe k r).set (i*3+2) _)=_;rw[h3]<;>rfl
theorem aAz(k:IntKind)(x:Int):∀n:Nat,Hg n [.int k x,.int .i64 0,.int .i64 0]=fe k (List.replicate n (x,0,0))
 |0=>rfl
 |n+1=>by
  have:=aAz k x n
  unfold Hg at this⊢
  rw[aMs,aNL,this,aMs]<;>rfl
theorem ayW{P:Program}{w:aOi}{t e:TypeId}{k k':IntKind}{hi mx:Int}{i:TypeInfo}(hu:P.underlying t=some (.slice e))(hi':P.info? e=some i)(x:Option Addr)(n c:Nat)(h0:0<=hi)(h1:hi<=mx)(h2:mx<=c):
 (bP t (.slice x n c) none (some (.int k hi)) (some (.int k' mx))).run P w= .ok (.value (.slice (cW x mx.toNat 0 i.size) (hi.toNat-0) (mx.toNat-0))) w:=by
 have h3:(0:Int)<=mx:=by omega
 have h4:hi<=(mx.toNat:Int):=by omega
 simp only[bP,lZ,Instr.sliceAt,underlying,hu,Sem.run_bind,run_program,Result.andThen_ok,Sem.run_pure,Instr.slice,Instr.sliceBounds,pure_bind,vH h3 h2,vH h0 h4,cG hi',cW]
section
variable{P:Program}{w:aOi}{t e:TypeId}
variable{κ:Type}[DecidableEq κ]{enc:κ->aOj}
def Itr{κ:Type}(w:aOi)(it m:Nat)(enc:κ->aOj)(rest:List (κ×aOj)):Prop:=
 ∃es clock seen,w.heap[m]?=some (.map es clock)/\w.heap[it]?=some (.mapIter (some m) clock seen clock)/\Grown es clock/\
  (es.toList.filter λe=> !seen.contains e.born).map (λe=>(e.key,e.val))=rest.map λp=>(enc p.1,p.2)
theorem Itr.ext {κ:Type}{w w':aOi}{it m:Nat}{enc:κ->aOj}{rest:List (κ×aOj)}{M:Nat->Prop}(h:Itr w it m enc rest)(hx:aN w w' M)(hm:¬M m)(hi:¬M it):Itr w' it m enc rest:=by
 obtain⟨es,c,seen,h1,h2,h3⟩:=h
 have lt:∀{b:Nat} {o:Obj},w.heap[b]?=some o->b<w.heap.size:=λ{b o} h=>by
  rcases aLH b w.heap.size with h'|h'
  .exact h'
  .rw [aMC h']at h;cases h
 exact⟨es,c,seen,by rw[hx.keep m (lt h1) hm];exact h1,by rw[hx.keep it (lt h2) hi];exact h2,h3⟩
def Cur{κ:Type}(w:aOi)(it m:Nat)(enc:κ->aOj)(p:κ×aOj):Prop:=
 ∃es clock c0 seen e,w.heap[m]?=some (.map es clock)/\w.heap[it]?=some (.mapIter (some m) c0 seen clock)/\seen.back?=some e.born/\es.find? (λx=>x.born==e.born)=some e/\e.key=enc p.1/\e.val=p.2
omit [DecidableEq κ]in
theorem Cur.ext {w w':aOi}{it m:Nat}{p:κ×aOj}{M:Nat->Prop}(h:Cur w it m enc p)(hx:aN w w' M)(hm:¬M m)(hi:¬M it):Cur w' it m enc p:=by
 obtain⟨es,c,c0,seen,e,h1,h2,h3⟩:=h
 have lt:∀{b:Nat} {o:Obj},w.heap[b]?=some o->b<w.heap.size:=λ{b o} h=>by
  rcases aLH b w.heap.size with h'|h'
  .exact h'
  .rw [aMC h']at h;cases h
 exact⟨es,c,c0,seen,e,by rw[hx.keep m (lt h1) hm];exact h1,by rw[hx.keep it (lt h2) hi];exact h2,h3⟩
omit [DecidableEq κ]in
end
end Go.En

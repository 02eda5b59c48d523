/- Parts of the proof of EncodeBound: merged and given short names by a program of ours. -/
import Derived.Laws.IdiomStrings
import Derived.Test.YtoecppploooloaaGreatDoorZbA
set_option linter.unusedVariables false
set_option linter.unusedSimpArgs false
open Array renaming getElem?_eq_getElem → aL4, getElem?_eq_none → aMH, getElem?_setIfInBounds_self_of_lt → aMi, getElem?_setIfInBounds_ne → aMv, getElem?_toList → aNS, getElem?_modify → aNp, length_toList → aNu
open Bool renaming false_eq_true → aLF, not_false → aMD, not_true → aMy, or_eq_false_iff → aNV
open List renaming getElem?_append_right → aL0, map_append → aL2, mem_map → aL5, map_cons → aL7, drop_eq_getElem_cons → aL8, nil_append → aL9, set_cons_succ → aLB, take_succ_cons → aLC, length_take → aLD, getElem?_eq_none → aLH, append_assoc → aLJ, mem_cons_of_mem → aLN, take_of_length_le → aLO, length_drop → aLP, getElem?_map → aLR, length_cons → aLS, getElem?_append_left → aLU, getElem?_take_of_lt → aLX, length_append → aLs, getElem?_eq_getElem → aLt, getElem?_cons_zero → aLu, length_map → aLv, getElem?_cons_succ → aLw, set_cons_zero → aLy, getElem?_drop → aMA, take_add_one → aMG, getElem?_toArray → aMN, ext_getElem? → aMP, mem_cons_self → aMa, length_eq_zero_iff → aMc, mem_cons → aMd, all_eq_true → aMn, cons_append → aMo, mem_append → aMq, set_append_right → aMt, replicate_succ → aMw, mem_of_mem_take → aMx, nodup_cons → aN1, getElem?_set → aN8, drop_succ_cons → aNE, flatten_cons → aNP, take_length → aNv, range'_succ → aOd, length_nil → aOg
open Nat renaming mul_le_mul_right → aL1, add_zero → aL3, le_refl → aLA, zero_add → aLI, lt_or_ge → aLL, mod_eq_of_lt → aLV, sub_zero → aM0, mul_one → aM6, eq_zero_or_pos → aMC, add_assoc → aMM, add_mul → aMl, le_trans → aMu, succ_mul → aN5, mod_lt → aNM, sub_self → aNl, lt_of_lt_of_le → aNr
open Option renaming map_some → aL6, getD_some → aNw
open Option.some renaming inj → aLW, injEq → aNR
open Prod.mk renaming injEq → aOc
namespace Go.Proofs.YtoecppploooloaaGreatDoor
open Go Go.En
set_option maxRecDepth 20000
attribute [local irreducible] Go.En.cP
variable (Q : Exit -> Env -> aOm -> Prop) (g : Env) (w : aOm)
def Rt:FA:=⟨fD,λi=>match Nat.beq i 1 with|true=> .leaf ([],[]) (fz 11 [])|false=>match Nat.beq i 7 with|true=> .leaf ([6],[]) (fz 6 (ft [] []))|false=> .leaf ([],[]) []⟩
def TX:List ResultVar:=[]
noncomputable def Pv:Code:=aY Tryz.f59
def iW(kn:K0) BJ mH k_4 aKL w:=
 bQ aKL
  ((dr w)=(dr w)/\
  aA pg (dS BJ) (dr w) λf9 w_=>w_=(dr w)/\
  aA pg (aJ 119 f9 2) (dr w) λi0 w_=>w_=(dr w)/\
  aA pg (aH 116 i0) (dr w) λi1 w_=>w_=(dr w)/\
  aA pg (aH 146 k_4) (dr w) λi2 w_=>w_=(dr w)/\
  (dr w)=(dr w)/\
  aA pg (ajS 116 i1 i2 mH) (dr w) λ_u6 aKS=>
  kn aKS)
  (kn w)
def qH(kn:K4) BJ mH w:=
 aK pg kU #[BJ,mH] w λc1 w=>
 aA pg (aV c1 0) w λc2 w=>
 aA pg (aV c1 1) w λc3 w=>
 aA pg (bG 146) w λk_4 w=>
 aA pg (aM 146 k_4 c2) w λ_u w=>
 (dr w)=(dr w)/\
 aA pg (dS BJ) (dr w) λc6 w_=>w_=(dr w)/\
 aA pg (aJ 119 c6 2) (dr w) λc7 w_=>w_=(dr w)/\
 aA pg (aH 116 c7) (dr w) λc8 w_=>w_=(dr w)/\
 aA pg (aH 146 k_4) (dr w) λc9 w_=>w_=(dr w)/\
 aA pg (avL 116 c8 c9 true) (dr w) λd0 w_=>w_=(dr w)/\
 (dr w)=(dr w)/\
 aA pg (aV d0 0) (dr w) λd1 w_=>w_=(dr w)/\
 aA pg (aV d0 1) (dr w) λd2 w_=>w_=(dr w)/\
 (dr w)=(dr w)/\
 (dr w)=(dr w)/\
 aA pg (sUn .not c3) (dr w) λd5 w=>
 Gd (bK d5 false) (λK=>K d2 w) w λd7 w=>
 Gd (bK d5 false) (λK=>aA pg (sUn .not d7) w K) w λd8 w=>
 aA pg (cD d5 (.bool true) d8) w λd9 w=>
 bQ d9
  (aA pg (dS BJ) w λe1 w=>
  aA pg (aJ 119 e1 3) w λe2 w=>
  aA pg (aH 117 e2) w λe3 w=>
  aA pg (aO 117 e3 mH) w λe5 w=>
  aA pg (aM 3 e5 (aOo (-1))) w λ_u w=>
  kn BJ mH k_4 c3 w)
  (aA pg (aD .lss 3 aG aG d1 mH) w λe9 w=>
  bQ e9
   (aA pg (dS BJ) w λf1 w=>
   aA pg (aJ 119 f1 3) w λf2 w=>
   aA pg (aH 117 f2) w λf3 w=>
   aA pg (aO 117 f3 mH) w λf6 w=>
   aA pg (aM 3 f6 d1) w λ_u w=>
   kn BJ mH k_4 c3 w)
   (kn BJ mH k_4 c3 w))
def qI(kn:K0) BJ mH w:=
 qH (iW kn) BJ mH w
def xJ a0 a1 w(R:K1):=
 qI (λw=>R (.tuple #[]) w) a0 a1 w
theorem PR{a0 a1 w R}(h:xJ a0 a1 w R):aK pg fD #[a0,a1] w R:=
 lC (ann:=Rt) Tryz.f59 Pv [a0,a1] TX 54 TryzM.mixed Tryz.func59 (bZ 3 (eM (AQ (iW (λw=>R (.tuple #[]) w)) 0 1 4 5) h (λg w h=>aE (eM (Mq0 (λw=>R (.tuple #[]) w)) h cO))))
def oJ:FA:=⟨lZ,λi=>match Nat.beq i 4 with|true=> .leaf ([],[]) (fz 11 [])|false=> .leaf ([],[]) []⟩
def TV:List ResultVar:=[.tmp 4,.tmp 5]
noncomputable def mK:Code:=aY Tryz.f60
def GK(R:K1) dL fI w:=
 R (.tuple #[dL,fI]) w
def iR(kn:K7) BJ mH kP dL fI e5 e6 w:=
 aA pg (aD .add 3 aG aG e6 (aOo 1)) w λi8 w=>
 kn BJ mH kP dL fI e5 i8 w
def dZ(kn:K7)(k0:K2) BJ mH kP dL fI e5 e6 w:=
 aA pg (dS BJ) w λi0 w=>
 aA pg (aJ 119 i0 3) w λi1 w=>
 aA pg (aH 117 i1) w λi2 w=>
 aA pg (aO 117 i2 kP) w λi4 w=>
 aA pg (aH 3 i4) w λi5 w=>
 aA pg (aD .lss 3 aG aG i5 (aOo 0)) w λi7 w=>
 bQ i7
  (k0 dL fI w)
  (kn BJ mH i5 dL fI e5 e6 w)
def lH(kn:K7) BJ mH kP dL fI e5 e6 w:=
 aK pg rL #[BJ,kP,mH] w λf1 w=>
 aA pg (aD .gtr 3 aG aG f1 dL) w λf4 w=>
 bQ f4
  (aA pg (aD .sub 3 aG aG mH kP) w λf8 w=>
  kn BJ mH kP f1 f8 e5 e6 w)
  (kn BJ mH kP dL fI e5 e6 w)
def iS(kn:K7)(k0:K2) BJ mH kP dL fI e5 e6 w:=
 lH (dZ kn k0) BJ mH kP dL fI e5 e6 w
def iT(kn:K7)(k0:K2) BJ mH kP dL fI e5 e6 w:=
 iS (iR kn) k0 BJ mH kP dL fI e5 e6 w
theorem Og(kn:K7)(k0:K2)(hn:N7 Q kn 0 1 8 10 11 35 36)(h0:E2 Q k0 0 10 11)(h:iS kn k0 (g 0) (g 1) (g 8) (g 10) (g 11) (g 35) (g 36) w):cP pg oJ (aQ 1 (aI 2 (bI (bI (aI 1 (aQ 1 (aI 6 (bI (aI 1 mK))))))))) Q g w:=
 qU 1 (bZ 1 (eM (KQ (dZ kn k0) 0 1 8 10 11 35 36) h (λg w h=>aE (zO [(0,(Lg k0 10 11))] (kr:=no) _ h hn D1 ⟨h0,trivial⟩))))
def lI(kn:K7)(k0:K2) BJ mH kP dL fI e5 e6 w:=
 aA pg (aD .lss 3 aG aG e6 e5) w λe7 w=>
 bQ e7
  (kn BJ mH kP dL fI e5 e6 w)
  (k0 dL fI w)
def iU(kn:K7)(k0:K2) BJ mH kP dL fI e5 e6 w:=
 lI (iT kn k0) k0 BJ mH kP dL fI e5 e6 w
def kF(k0:K2) BJ mH kP dL fI e5 e6 w:=
 aX (λ(X:(aOn×aOn×aOn×aOn)->K0) (t:aOn×aOn×aOn×aOn) (w:aOm)=>iU (λ_ _ kP dL fI _ e6 w=>X (kP,dL,fI,e6) w) k0 BJ mH t.1 t.2.1 t.2.2.1 e5 t.2.2.2 w) (kP,dL,fI,e6) w
theorem MH(k0:K2)(h0:E2 Q k0 0 10 11)(h:kF k0 (g 0) (g 1) (g 8) (g 10) (g 11) (g 35) (g 36) w):cP pg oJ (bI (aI 1 (aQ 1 (aI 6 (bI (aI 1 mK)))))) Q g w:=by
 refine AR (λg:Env=>(g 8,g 10,g 11,g 36)) (λX t w=>iU (λ_ _ kP dL fI _ e6 w=>X (kP,dL,fI,e6) w) k0 (g 0) (g 1) t.1 t.2.1 t.2.2.1 (g 35) t.2.2.2 w) h (λX g1 w1 ha hL=> ?_)
 rw[<-cI 0 ha,<-cI 1 ha,<-cI 35 ha]at hL
 exact(bZ 2 (zO [(0,(Lg k0 10 11))] (kr:=no) (KQ (iT (λ_ _ kP dL fI _ e6 w=>X (kP,dL,fI,e6) w) k0) 0 1 8 10 11 35 36) hL (λg w h=>aE (bZ 1 (Og _ g w (iR (λ_ _ kP dL fI _ e6 w=>X (kP,dL,fI,e6) w)) k0 (λg w h=>aE (eM (KQ (λ_ _ kP dL fI _ e6 w=>X (kP,dL,fI,e6) w) 0 1 8 10 11 35 36) h cO)) h0 h))) D1 ⟨h0,trivial⟩))
def Ev(kn:K7) BJ mH kP dL fI w:=
 aA pg (dS BJ) w λe3 w=>
 aA pg (aJ 119 e3 4) w λe4 w=>
 aA pg (aH 3 e4) w λe5 w=>
 kn BJ mH kP dL fI e5 (aOo 0) w
def wF(kn:K2) BJ mH kP dL fI w:=
 Ev (kF kn) BJ mH kP dL fI w
def wG(R:K1) BJ mH kP dL fI w:=
 wF (GK R) BJ mH kP dL fI w
theorem MI(kn:K2)(hn:N2 Q kn 10 11)(h:wF kn (g 0) (g 1) (g 8) (g 10) (g 11) w):cP pg oJ (aQ 1 (aI 6 (bI (aI 1 mK)))) Q g w:=
 bZ 1 (eM (KQ (kF kn) 0 1 8 10 11 35 36) h (λg w h=>aE (qU 0 (MH _ g w kn hn h))))
def Ew(kn:K5)(R:K1) BJ mH w:=
 aK pg kU #[BJ,mH] w λc6 w=>
 aA pg (aV c6 0) w λc7 w=>
 aA pg (aV c6 1) w λc8 w=>
 aA pg (bG 146) w λk_6 w=>
 aA pg (aM 146 k_6 c7) w λ_u w=>
 aA pg (sUn .not c8) w λd0 w=>
 bQ d0
  (R (.tuple #[(aOo 0),(aOo 0)]) w)
  ((dr w)=(dr w)/\
  aA pg (dS BJ) (dr w) λd3 w_=>w_=(dr w)/\
  aA pg (aJ 119 d3 2) (dr w) λd4 w_=>w_=(dr w)/\
  aA pg (aH 116 d4) (dr w) λd5 w_=>w_=(dr w)/\
  aA pg (aH 146 k_6) (dr w) λd6 w_=>w_=(dr w)/\
  aA pg (avL 116 d5 d6 true) (dr w) λd7 w_=>w_=(dr w)/\
  (dr w)=(dr w)/\
  aA pg (aV d7 0) (dr w) λd8 w_=>w_=(dr w)/\
  aA pg (aV d7 1) (dr w) λd9 w_=>w_=(dr w)/\
  (dr w)=(dr w)/\
  (dr w)=(dr w)/\
  aA pg (sUn .not d9) (dr w) λe1 w=>
  bQ e1
   (R (.tuple #[(aOo 0),(aOo 0)]) w)
   (kn BJ mH d8 (aOo 0) (aOo 0) w))
def wH(R:K1) BJ mH w:=
 Ew (wG R) R BJ mH w
def Ex(kn:K2) BJ mH w:=
 kn BJ mH w
def Ey(R:K1) BJ mH w:=
 Ex (wH R) BJ mH w
def LK a0 a1 w(R:K1):=
 Ey R a0 a1 w
theorem PO{a0 a1 w R}(h:LK a0 a1 w R):aK pg lZ #[a0,a1] w R:=
 lC (ann:=oJ) Tryz.f60 mK [a0,a1] TV 61 TryzM.mixed Tryz.func60 (bZ 1 (eM (Lg (wH R) 0 1) h (λg w h=>aE (scD (bZ 6 (Mn (O9 (wG R) 0 1 8 10 11) h (λg w h=>aE (bZ 1 (MI _ g w (GK R) (λg w h=>aE (lX h cO)) h))) cO))))))
def WW:FA:=⟨zD,λi=>match Nat.beq i 5 with|true=> .leaf ([8,10],[(0,8),(1,8),(2,8)]) (fz 8 (ft [5,6,7] (fz 1 (ft [] (fz 1 [])))))|false=> .leaf ([],[]) []⟩
def ZC:List ResultVar:=[.tmp 4,.cell 5 45,.tmp 6]
noncomputable def U2:Code:=aY Tryz.f61
def qD(R:K1) r_2 b5 Xl k_8 ajC w:=
 aA pg (aD .eql 38 (.tmp 44) (.const (.int .u32 0)) ajC (.int .u32 0)) w λf5 w=>
 bQ f5
  (aA pg (bH 45 []) w λf6 w=>
  aA pg (aM 45 b5 f6) w λ_u w=>
  vV pg 45 b5 w λr1=>R (.tuple #[(.int .u32 0),r1,(aOo 16)]) w)
  (aA pg (aH 45 r_2) w λf8 w=>
  aA pg (dD .min #[3,3] 3 [k_8,Xl]) w λi2 w=>
  aK pg iI #[f8,ajC,i2] w λi3 w=>
  aA pg (aM 45 b5 i3) w λ_u w=>
  vV pg 45 b5 w λr1=>R (.tuple #[ajC,r1,(aOo 0)]) w)
def Lv(kn:K5) r_2 b5 Xl k_8 w:=
 aA pg (aO 45 r_2 (aOo 0)) w λe5 w=>
 aA pg (aH 38 e5) w λe6 w=>
 aA pg (aD .sub 38 aG aG e6 (.int .u32 1)) w λe7 w=>
 aA pg (aD .leq 3 aG aG k_8 Xl) w λf0 w=>
 bQ f0
  (aA pg (aO 45 r_2 k_8) w λf2 w=>
  aA pg (aH 38 f2) w λf3 w=>
  kn r_2 b5 Xl k_8 f3 w)
  (kn r_2 b5 Xl k_8 e7 w)
def xF(R:K1) r_2 b5 Xl k_8 w:=
 Lv (qD R) r_2 b5 Xl k_8 w
def Lw(kn:K4)(R:K1) RJ s_1 w:=
 aA pg (Ba 45 RJ) w λr_2 w=>
 aA pg (Ba 84 s_1) w λs_3 w=>
 aA pg (bG 45) w λb5 w=>
 aA pg (aJ 84 s_3 2) w λc0 w=>
 aA pg (aH 38 c0) w λc1 w=>
 aA pg (aD .eql 38 (.tmp 11) (.const (.int .u32 0)) c1 (.int .u32 0)) w λc2 w=>
 bQ c2
  (aA pg (bH 45 []) w λc3 w=>
  aA pg (aM 45 b5 c3) w λ_u w=>
  vV pg 45 b5 w λr1=>R (.tuple #[(.int .u32 0),r1,(aOo 11)]) w)
  (aA pg (aJ 84 s_3 2) w λc4 w=>
  aA pg (aH 38 c4) w λc5 w=>
  aA pg (aD .gtr 38 aG aG c5 (.int .u32 3)) w λc6 w=>
  bQ c6
   (aA pg (aJ 84 s_3 2) (dr w) λc7 w_=>w_=(dr w)/\
   aA pg (aH 38 c7) (dr w) λc8 w_=>w_=(dr w)/\
   aA pg (aD .sub 38 aG aG c8 (.int .u32 3)) (dr w) λc9 w_=>w_=(dr w)/\
   aA pg (aH 45 r_2) (dr w) λd0 w_=>w_=(dr w)/\
   aA pg (aJ 84 s_3 2) (dr w) λd1 w_=>w_=(dr w)/\
   aA pg (aH 38 d1) (dr w) λd2 w_=>w_=(dr w)/\
   aA pg (aD .sub 38 aG aG d2 (.int .u32 3)) (dr w) λd3 w_=>w_=(dr w)/\
   (dr w)=(dr w)/\
   aK pg iI #[d0,d3,(aOo 2)] (dr w) λd5 ZP=>
   (dT pg (aD .sub 38 aG aG c8 (.int .u32 3)) c9 ZP/\dT pg (aH 38 c7) c8 ZP/\dT pg (aJ 84 s_3 2) c7 ZP/\True)/\
   ZP=ZP/\
   aA pg (aM 45 b5 d5) ZP λ_u10 aBh=>
   aBh=aBh/\
   vV pg 45 b5 aBh λr1=>R (.tuple #[c9,r1,(aOo 0)]) aBh)
   (aA pg (aJ 84 s_3 2) w λd6 w=>
   aA pg (aH 38 d6) w λd7 w=>
   aA pg (cH 38 3 d7) w λd8 w=>
   aA pg (aD .sub 3 aG aG d8 (aOo 1)) w λd9 w=>
   aA pg (aJ 84 s_3 0) w λe0 w=>
   aA pg (aH 38 e0) w λe1 w=>
   aA pg (aD .eql 38 (.tmp 31) (.const (.int .u32 0)) e1 (.int .u32 0)) w λe2 w=>
   bQ e2
    (aA pg (aD .add 3 aG aG d9 (aOo 1)) w λe4 w=>
    kn r_2 b5 (aOo 2) e4 w)
    (kn r_2 b5 (aOo 2) d9 w)))
def Lx(R:K1) RJ s_1 w:=
 Lw (xF R) R RJ s_1 w
def SP a0 a1 w(R:K1):=
 Lx R a0 a1 w
theorem Vb{a0 a1 w R}(h:SP a0 a1 w R):aK pg zD #[a0,a1] w R:=
 lC (ann:=WW) Tryz.f61 U2 [a0,a1] ZC 54 TryzM.mixed Tryz.func61 (bZ 6 (Mn (AQ (xF R) 2 5 7 8) h (λg w h=>aE (bZ 2 (eM (O9 (qD R) 2 5 7 8 9) h (λg w h=>aE (lX h cO))))) cO))
def Pj:FA:=⟨iI,λi=>match Nat.beq i 2 with|true=> .leaf ([5],[]) (fz 5 (ft [] []))|false=> .leaf ([],[]) []⟩
def RP:List ResultVar:=[.cell 6 45]
noncomputable def Nx:Code:=aY Tryz.f62
def El(R:K1) RJ aEv k_2 w:=
 aA pg (Ba 45 RJ) w λr_3 w=>
 aA pg (bG 45) w λb6 w=>
 aA pg (aH 45 r_3) w λb8 w=>
 aA pg (bG 45) w λaA1 w=>
 aA pg (aM 45 aA1 b8) w λ_u w=>
 (dr w)=(dr w)/\
 aA pg (aD .add 3 aG aG k_2 (aOo 1)) (dr w) λc0 w_=>w_=(dr w)/\
 aA pg (bP 45 aA1 (some (aOo 1)) (some c0) none) (dr w) λc1 w_=>w_=(dr w)/\
 (dr w)=(dr w)/\
 aA pg (bP 45 r_3 none (some k_2) none) (dr w) λc3 w_=>w_=(dr w)/\
 aA pg (dD .copy #[128,128] 3 [c1,c3]) (dr w) λc4 aKR=>
 aA pg (aO 45 aA1 (aOo 0)) aKR λc6 w=>
 aA pg (aM 38 c6 aEv) w λ_u w=>
 aA pg (aH 45 aA1) w λc7 w=>
 aA pg (aM 45 b6 c7) w λ_u w=>
 vV pg 45 b6 w λr0=>R r0 w
def Jp a0 a1 a2 w(R:K1):=
 El R a0 a1 a2 w
theorem NV{a0 a1 a2 w R}(h:Jp a0 a1 a2 w R):aK pg iI #[a0,a1,a2] w R:=
 lC (ann:=Pj) Tryz.f62 Nx [a0,a1,a2] RP 18 TryzM.mixed Tryz.func62 (lX h cO)
def aaD:FA:=⟨Cy,λi=> .leaf ([],[]) []⟩
def afU:List ResultVar:=[.tmp 2,.tmp 3]
noncomputable def Yh:Code:=aY Tryz.f63
def QZ(R:K1) dB w:=
 aA pg (dD .len #[22] 3 [dB]) w λb5 w=>
 aA pg (aD .gtr 3 aG aG b5 (aOo 131072)) w λb6 w=>
 bQ b6
  (R (.tuple #[(.slice none 0 0),(aOo 1)]) w)
  (aA pg (dD .len #[22] 3 [dB]) w λb8 w=>
  aK pg sB #[(aOo 0),b8] w λb9 w=>
  aA pg (dD .append #[22,22] 22 [b9,dB]) w λc1 w=>
  R (.tuple #[c1,(aOo 0)]) w)
def YY a0 w(R:K1):=
 QZ R a0 w
theorem YZ{a0 w R}(h:YY a0 w R):aK pg Cy #[a0] w R:=
 lC (ann:=aaD) Tryz.f63 Yh [a0] afU 12 TryzM.mixed Tryz.func63 (lX h cO)
def Sd:FA:=⟨iC,λi=> .leaf ([],[]) []⟩
def Vo:List ResultVar:=[]
noncomputable def Rx:Code:=aY Tryz.f64
def An(kn:K0) jI e_1 b2 w:=
 aA pg (aD .eql 24 (.tmp 5) (.const (aOo 0)) e_1 (aOo 0)) w λb6 w=>
 bQ b6
  (aA pg (aH 22 b2) w λb7 w=>
  aA pg (bT 137 2 [(0,b7),(1,jI)]) w λb9 w=>
  aK pg wS #[b9] w λc0 w=>
  aA pg (aM 22 b2 c0) w λ_u w=>
  kn w)
  (kn w)
def ER a0 a1 a2 w(R:K1):=
 An (λw=>R (.tuple #[]) w) a0 a1 a2 w
theorem Ek{a0 a1 a2 w R}(h:ER a0 a1 a2 w R):aK pg iC #[a0,a1,a2] w R:=
 lC (ann:=Sd) Tryz.f64 Rx [a0,a1,a2] Vo 11 TryzM.mixed Tryz.func64 (eM (Mq0 (λw=>R (.tuple #[]) w)) h cO)
def UT:FA:=⟨wS,λi=> .leaf ([],[]) []⟩
def Xy:List ResultVar:=[.tmp 2]
noncomputable def Sr:Code:=aY Tryz.f65
def Jn(R:K1) dB w:=
 aK pg vU #[dB,(.func (.func 83) #[] #[])] w λb4 w=>
 R b4 w
def QE a0 w(R:K1):=
 Jn R a0 w
theorem SO{a0 w R}(h:QE a0 w R):aK pg wS #[a0] w R:=
 lC (ann:=UT) Tryz.f65 Sr [a0] Xy 5 TryzM.mixed Tryz.func65 (lX h cO)
def X5:FA:=⟨Bi,λi=> .leaf ([],[]) []⟩
def acK:List ResultVar:=[.tmp 4,.tmp 5]
noncomputable def W8:Code:=aY Tryz.f66
def Of(R:K1) c_0 LM w:=
 aA pg (aD .lss 3 aG aG LM (aOo 0)) w λb7 w=>
 Gd (bK b7 false) (λK=>K LM w) w λb9 w=>
 Gd (bK b7 false) (λK=>aA pg (aD .gtr 3 aG aG b9 (aOo 131072)) w K) w λc0 w=>
 aA pg (cD b7 (.bool true) c0) w λc1 w=>
 bQ c1
  (R (.tuple #[(.slice none 0 0),(aOo 1)]) w)
  (aK pg sB #[(aOo 1),LM] w λc3 w=>
  aA pg (bT 22 1 [(0,c_0)]) w λc5 w=>
  aA pg (dD .append #[22,22] 22 [c3,c5]) w λc6 w=>
  R (.tuple #[c6,(aOo 0)]) w)
def Wj a0 a1 w(R:K1):=
 Of R a0 a1 w
theorem Xn{a0 a1 w R}(h:Wj a0 a1 w R):aK pg Bi #[a0,a1] w R:=
 lC (ann:=X5) Tryz.f66 W8 [a0,a1] acK 17 TryzM.mixed Tryz.func66 (lX h cO)
def sH:FA:=⟨Iy,λi=> .leaf ([],[]) []⟩
def alS:List ResultVar:=[.tmp 2,.tmp 3]
noncomputable def pM:Code:=aY Tryz.f67
def M3 (R:K1) fR w:=
 R (.tuple #[fR,(aOo 0)]) w
def Gk(kn:K5) Jg fR i1 i2 i3 w:=
 aA pg (aD .add 3 aG aG i3 (aOo 1)) w λj8 w=>
 kn Jg fR i1 i2 j8 w
def Gl(kn:K5) Jg fR aKU i1 i2 i3 w:=
 aA pg (cH 3 5 aKU) w λj5 w=>
 aA pg (bT 22 1 [(0,j5)]) w λj6 w=>
 aA pg (dD .append #[22,22] 22 [fR,j6]) w λj7 w=>
 kn Jg j7 i1 i2 i3 w
def WI(kn:K6) Jg fR i1 i2 i3 w:=
 aA pg (aO 117 i1 i3) w λi5 w=>
 aA pg (aH 3 i5) w λi6 w=>
 aA pg (aD .gtr 3 aG aG i6 (aOo 0)) w λi8 w=>
 bQ i8
  (aA pg (aD .add 3 aG aG Jg (aOo 1)) w λj0 w=>
  aA pg (aD .sub 3 aG aG j0 i6) w λj2 w=>
  kn Jg fR j2 i1 i2 i3 w)
  (kn Jg fR (aOo 0) i1 i2 i3 w)
def M4 (kn:K5) Jg fR i1 i2 i3 w:=
 WI (Gl kn) Jg fR i1 i2 i3 w
def M5 (kn:K5) Jg fR i1 i2 i3 w:=
 M4 (Gk kn) Jg fR i1 i2 i3 w
theorem acX(kn:K5)(hn:N5 Q kn 10 11 51 52 53)(h:M4 kn (g 10) (g 11) (g 51) (g 52) (g 53) w):cP pg sH (aQ 1 (aI 2 (bI (bI (aI 1 (aQ 1 (aI 4 (aI 1 (aI 3 pM))))))))) Q g w:=
 qU 3 (bZ 3 (eM (UP (Gl kn) 10 11 14 51 52 53) h (λg w h=>aE (eM _ h hn))))
def WJ(kn:K5)(k2:K1) Jg fR i1 i2 i3 w:=
 aA pg (aD .lss 3 aG aG i3 i2) w λi4 w=>
 bQ i4
  (kn Jg fR i1 i2 i3 w)
  (k2 fR w)
def M6 (kn:K5)(k2:K1) Jg fR i1 i2 i3 w:=
 WJ (M5 kn) k2 Jg fR i1 i2 i3 w
def DQ(k2:K1) Jg fR i1 i2 i3 w:=
 aX (λ(X:(aOn×aOn)->K0) (t:aOn×aOn) (w:aOm)=>M6 (λ_ fR _ _ i3 w=>X (fR,i3) w) k2 Jg t.1 i1 i2 t.2 w) (fR,i3) w
theorem ZS(k2:K1)(h2:E1 Q k2 2 11)(h:DQ k2 (g 10) (g 11) (g 51) (g 52) (g 53) w):cP pg sH (bI (aI 1 (aQ 1 (aI 4 (aI 1 (aI 3 pM)))))) Q g w:=by
 refine AR (λg:Env=>(g 11,g 53)) (λX t w=>M6 (λ_ fR _ _ i3 w=>X (fR,i3) w) k2 (g 10) t.1 (g 51) (g 52) t.2 w) h (λX g1 w1 ha hL=> ?_)
 rw[<-cI 10 ha,<-cI 51 ha,<-cI 52 ha]at hL
 exact(bZ 2 (zO [(2,(UO k2 11))] (kr:=no) (O9 (M5 (λ_ fR _ _ i3 w=>X (fR,i3) w)) 10 11 51 52 53) hL (λg w h=>aE (bZ 1 (acX _ g w (Gk (λ_ fR _ _ i3 w=>X (fR,i3) w)) (λg w h=>aE (eM (O9 (λ_ fR _ _ i3 w=>X (fR,i3) w) 10 11 51 52 53) h cO)) h))) D1 ⟨h2,trivial⟩))
def Uk(kn:K5) l_9 Jg fR w:=
 aA pg (dD .len #[117] 3 [l_9]) w λi2 w=>
 kn Jg fR l_9 i2 (aOo 0) w
def KF(kn:K1) l_9 Jg fR w:=
 Uk (DQ kn) l_9 Jg fR w
def KG(R:K1) l_9 Jg fR w:=
 KF (M3 R) l_9 Jg fR w
theorem ZT(kn:K1)(hn:N1 Q kn 11)(h:KF kn (g 9) (g 10) (g 11) w):cP pg sH (aQ 1 (aI 4 (aI 1 (aI 3 pM)))) Q g w:=
 bZ 1 (eM (O9 (DQ kn) 10 11 51 52 53) h (λg w h=>aE (qU 2 (ZS _ g w kn hn h))))
def Ul(kn:K3)(R:K1) aL eY b5 lG w:=
 aA pg (dD .len #[128] 3 [aL]) w λe3 w=>
 aA pg (aD .gtr 3 aG aG e3 (aOo 256)) w λe4 w=>
 Gd (bK e4 false) (λK=>K b5 w) w λe6 w=>
 Gd (bK e4 false) (λK=>aA pg (aD .lss 3 aG aG e6 (aOo 2)) w K) w λe7 w=>
 aA pg (cD e4 (.bool true) e7) w λe8 w=>
 Gd (bK e8 false) (λK=>K eY w) w λf0 w=>
 Gd (bK e8 false) (λK=>aA pg (aD .gtr 32 aG aG f0 (.int .u64 2147483647)) w K) w λf1 w=>
 aA pg (cD e8 (.bool true) f1) w λf2 w=>
 bQ f2
  (R (.tuple #[(.slice none 0 0),(aOo 1)]) w)
  (aA pg (aD .add 3 aG aG lG (aOo 1)) w λf5 w=>
  aA pg (bP 128 aL none (some f5) none) w λf6 w=>
  aK pg wZ #[f6,eY] w λf8 w=>
  aK pg wY #[f8] w λi0 w=>
  kn f8 i0 (.slice none 0 0) w)
def DR(R:K1) aL eY b5 lG w:=
 Ul (KG R) R aL eY b5 lG w
def DT(kn:K7) aL eY b5 lG c5 c6 c7 w:=
 aA pg (aD .add 3 aG aG c7 (aOo 1)) w λe1 w=>
 kn aL eY b5 lG c5 c6 e1 w
def Um(kn:K7)(k0:K4) aL eY b5 lG c5 c6 c7 w:=
 aA pg (aD .lss 3 aG aG c7 c6) w λc8 w=>
 bQ c8
  (aA pg (aO 128 c5 c7) w λd0 w=>
  aA pg (aH 38 d0) w λd1 w=>
  aA pg (cH 38 32 d1) w λd4 w=>
  aA pg (aD .add 32 aG aG eY d4) w λd5 w=>
  aA pg (aD .gtr 38 aG aG d1 (.int .u32 0)) w λd7 w=>
  bQ d7
   (aA pg (aD .add 3 aG aG b5 (aOo 1)) w λd9 w=>
   kn aL d5 d9 c7 c5 c6 c7 w)
   (kn aL d5 b5 lG c5 c6 c7 w))
  (k0 aL eY b5 lG w)
def KH(kn:K7)(k0:K4) aL eY b5 lG c5 c6 c7 w:=
 Um (DT kn) k0 aL eY b5 lG c5 c6 c7 w
def DU(k0:K4) aL eY b5 lG c5 c6 c7 w:=
 aX (λ(X:(aOn×aOn×aOn×aOn)->K0) (t:aOn×aOn×aOn×aOn) (w:aOm)=>KH (λ_ eY b5 lG _ _ c7 w=>X (eY,b5,lG,c7) w) k0 aL t.1 t.2.1 t.2.2.1 c5 c6 t.2.2.2 w) (eY,b5,lG,c7) w
theorem ZU(k0:K4)(h0:E4 Q k0 0 0 4 5 6)(h:DU k0 (g 0) (g 4) (g 5) (g 6) (g 15) (g 16) (g 17) w):cP pg sH (bI (aI 1 (aQ 1 (aI 3 pM)))) Q g w:=by
 refine AR (λg:Env=>(g 4,g 5,g 6,g 17)) (λX t w=>KH (λ_ eY b5 lG _ _ c7 w=>X (eY,b5,lG,c7) w) k0 (g 0) t.1 t.2.1 t.2.2.1 (g 15) (g 16) t.2.2.2 w) h (λX g1 w1 ha hL=> ?_)
 rw[<-cI 0 ha,<-cI 15 ha,<-cI 16 ha]at hL
 exact(bZ 3 (zO [(0,(AQ k0 0 4 5 6))] (kr:=no) (KQ (DT (λ_ eY b5 lG _ _ c7 w=>X (eY,b5,lG,c7) w)) 0 4 5 6 15 16 17) hL (λg w h=>aE (eM (KQ (λ_ eY b5 lG _ _ c7 w=>X (eY,b5,lG,c7) w) 0 4 5 6 15 16 17) h cO)) D1 ⟨h0,trivial⟩))
def Un(kn:K7) aL eY b5 lG w:=
 aA pg (dD .len #[128] 3 [aL]) w λc6 w=>
 kn aL eY b5 lG aL c6 (aOo 0) w
def KI(kn:K4) aL eY b5 lG w:=
 Un (DU kn) aL eY b5 lG w
def DV(R:K1) aL eY b5 lG w:=
 KI (DR R) aL eY b5 lG w
theorem ZV(kn:K4)(hn:N4 Q kn 0 4 5 6)(h:KI kn (g 0) (g 4) (g 5) (g 6) w):cP pg sH (aQ 1 (aI 3 pM)) Q g w:=
 bZ 1 (eM (KQ (DU kn) 0 4 5 6 15 16 17) h (λg w h=>aE (qU 0 (ZU _ g w kn hn h))))
def Uo(kn:K4) aL w:=
 kn aL (.int .u64 0) (aOo 0) (aOo 0) w
def Up(R:K1) aL w:=
 Uo (DV R) aL w
def akF a0 w(R:K1):=
 Up R a0 w
theorem agC{a0 w R}(h:akF a0 w R):aK pg Iy #[a0] w R:=
 lC (ann:=sH) Tryz.f67 pM [a0] alS 70 TryzM.mixed Tryz.func67 (bZ 3 (eM (AQ (DV R) 0 4 5 6) h (λg w h=>aE (bZ 1 (ZV _ g w (DR R) (λg w h=>aE (bZ 4 (Mn (UB (KG R) 9 10 11) h (λg w h=>aE (bZ 1 (ZT _ g w (M3 R) (λg w h=>aE (lX h cO)) h))) cO))) h)))))
def UW:FA:=⟨wU,λi=> .leaf ([],[]) []⟩
def XA:List ResultVar:=[.tmp 6,.tmp 7]
noncomputable def Su:Code:=aY Tryz.f68
def nS(R:K1) gE Tk b_9 aGf aFQ aGT w:=
 aK pg eZ #[] w λl5 w=>
 aA pg (aD .shl 3 aG aG aGf (.int .u64 2)) w λl9 w=>
 aA pg (aD .or 3 aG aG Tk l9) w λm0 w=>
 aA pg (dD .len #[22] 3 [gE]) w λm2 w=>
 aA pg (aD .shl 3 aG aG m2 (.int .u64 4)) w λm3 w=>
 aA pg (aD .or 3 aG aG m0 m3) w λm4 w=>
 aA pg (cH 3 32 m4) w λm5 w=>
 aA pg (dD .len #[22] 3 [b_9]) w λm7 w=>
 aA pg (cH 3 32 m7) w λm8 w=>
 aA pg (aD .add 3 aG aG (aOo 4) aFQ) w λn0 w=>
 aA pg (aD .shl 32 aG aG m8 n0) w λn1 w=>
 aA pg (aD .or 32 aG aG m5 n1) w λn2 w=>
 aK pg bA #[l5,n2,aGT] w λn4 w=>
 aK pg fE #[l5,b_9] w λn7 w=>
 aK pg eJ #[l5] w λn9 w=>
 R (.tuple #[n9,(aOo 0)]) w
def JR(kn:K6)(R:K1) gE tV Tk b_9 w:=
 aK pg rK #[tV,gE] w λf0 w=>
 aA pg (aV f0 0) w λf1 w=>
 aA pg (aV f0 1) w λf2 w=>
 aA pg (aD .neq 24 (.tmp 43) (.const (aOo 0)) f2 (aOo 0)) w λf4 w=>
 bQ f4
  (R (.tuple #[(.slice none 0 0),f2]) w)
  (aA pg (dD .append #[22,22] 22 [b_9,f1]) w λf8 w=>
  aA pg (dD .len #[22] 3 [f8]) w λi0 w=>
  aA pg (aD .geq 3 aG aG i0 (aOo 262144)) w λi1 w=>
  bQ i1
   (R (.tuple #[(.slice none 0 0),(aOo 1)]) w)
   (aA pg (dD .len #[22] 3 [gE]) w λi3 w=>
   aA pg (dD .len #[22] 3 [f8]) w λi5 w=>
   aA pg (dD .max #[3,3] 3 [i3,i5]) w λi6 w=>
   aA pg (dD .len #[22] 3 [gE]) w λi9 w=>
   aA pg (aD .lss 3 aG aG i9 (aOo 256)) w λj0 w=>
   Gd (bK j0 true) (λK=>K i6 w) w λj2 w=>
   Gd (bK j0 true) (λK=>aA pg (aD .lss 3 aG aG j2 (aOo 1024)) w K) w λj3 w=>
   aA pg (cD j0 j3 (.bool false)) w λj4 w=>
   bQ j4
    (kn gE Tk f8 (aOo 0) (aOo 10) (aOo 3) w)
    (aA pg (dD .len #[22] 3 [gE]) w λj7 w=>
    aA pg (aD .lss 3 aG aG j7 (aOo 256)) w λj8 w=>
    bQ j8
     (R (.tuple #[(.slice none 0 0),(aOo 1)]) w)
     (aA pg (aD .lss 3 aG aG i6 (aOo 1024)) w λl1 w=>
     bQ l1
      (kn gE Tk f8 (aOo 1) (aOo 10) (aOo 3) w)
      (aA pg (aD .lss 3 aG aG i6 (aOo 16384)) w λl4 w=>
      bQ l4
       (kn gE Tk f8 (aOo 2) (aOo 14) (aOo 4) w)
       (kn gE Tk f8 (aOo 3) (aOo 18) (aOo 5) w))))))
def tX(R:K1) gE tV Tk b_9 w:=
 JR (nS R) R gE tV Tk b_9 w
def JS(kn:K4)(R:K1) gE tV apE w:=
 aA pg (dD .len #[22] 3 [gE]) w λd0 w=>
 aA pg (aD .eql 3 (.tmp 20) (.const (aOo 0)) d0 (aOo 0)) w λd1 w=>
 Gd (bK d1 false) (λK=>K gE w) w λd3 w=>
 Gd (bK d1 false) (λK=>aA pg (dD .len #[22] 3 [d3]) w K) w λd4 w=>
 Gd (bK d1 false) (λK=>aA pg (aD .gtr 3 aG aG d4 (aOo 131072)) w K) w λd5 w=>
 aA pg (cD d1 (.bool true) d5) w λd6 w=>
 bQ d6
  (R (.tuple #[(.slice none 0 0),(aOo 1)]) w)
  (bQ apE
   (aK pg uZ #[tV] w λe0 w=>
   aA pg (aV e0 0) w λe1 w=>
   aA pg (aV e0 1) w λe2 w=>
   aA pg (aD .neq 24 (.tmp 33) (.const (aOo 0)) e2 (aOo 0)) w λe4 w=>
   bQ e4
    (R (.tuple #[(.slice none 0 0),e2]) w)
    (kn gE tV (aOo 2) e1 w))
   (kn gE tV (aOo 3) (.slice none 0 0) w))
def JT(R:K1) gE tV apE w:=
 JS (tX R) R gE tV apE w
def QY a0 a1 a2 w(R:K1):=
 JT R a0 a1 a2 w
theorem To{a0 a1 a2 w R}(h:QY a0 a1 a2 w R):aK pg wU #[a0,a1,a2] w R:=
 lC (ann:=UW) Tryz.f68 Su [a0,a1,a2] XA 100 TryzM.mixed Tryz.func68 (bZ 5 (Mn (AQ (tX R) 0 1 8 9) h (λg w h=>aE (bZ 6 (Mn (UP (nS R) 0 8 9 14 15 16) h (λg w h=>aE (lX h cO)) cO))) cO))
def mA:FA:=⟨wX,λi=> .leaf ([],[]) []⟩
def oA:List ResultVar:=[.cell 2 131,.tmp 3]
noncomputable def kZ:Code:=aY Tryz.f69
def BQ(R:K1) b2 bE w:=
 aA pg (aH 131 bE) w λf4 w=>
 aA pg (aM 131 b2 f4) w λ_u w=>
 vV pg 131 b2 w λr0=>R (.tuple #[r0,(aOo 0)]) w
def BR(kn:K5) b2 bE c2 c3 c4 w:=
 aA pg (aD .add 3 aG aG c4 (aOo 1)) w λf3 w=>
 kn b2 bE c2 c3 f3 w
def BS(kn:K7)(k2:K5)(R:K1) b2 bE c2 c3 c4 c9 d0 w:=
 aA pg (aD .lss 3 aG aG d0 (aOo 3)) w λd1 w=>
 bQ d1
  (aA pg (IJ 44 c9 d0) w λd3 w=>
  aK pg O7 #[d0,d3] w λd7 w=>
  aA pg (aV d7 0) w λd8 w=>
  aA pg (aV d7 1) w λd9 w=>
  aA pg (aV d7 2) w λe0 w=>
  aA pg (aD .neq 24 (.tmp 31) (.const (aOo 0)) e0 (aOo 0)) w λe2 w=>
  bQ e2
   (aA pg (aH 131 bE) w λe3 w=>
   aA pg (aM 131 b2 e3) w λ_u w=>
   vV pg 131 b2 w λr0=>R (.tuple #[r0,(aOo 1)]) w)
   (aA pg (aO 131 bE d0) w λe6 w=>
   aA pg (aH 117 e6) w λe7 w=>
   aA pg (bT 117 1 [(0,d8)]) w λe9 w=>
   aA pg (dD .append #[117,117] 117 [e7,e9]) w λf0 w=>
   aA pg (aO 131 bE d0) w λf1 w=>
   aA pg (aM 117 f1 f0) w λ_u w=>
   aA pg (aD .add 3 aG aG d0 (aOo 1)) w λf2 w=>
   kn b2 bE c2 c3 c4 c9 f2 w))
  (k2 b2 bE c2 c3 c4 w)
def uE(k2:K5)(R:K1) b2 bE c2 c3 c4 c9 d0 w:=
 aX (λ(X:aOn->K0) (t:aOn) (w:aOm)=>BS (λ_ _ _ _ _ _ d0 w=>X d0 w) k2 R b2 bE c2 c3 c4 c9 t w) d0 w
theorem RW(k2:K5)(R:K1)(h2:E5 Q k2 2 2 4 12 13 14)(hr:HR oA R Q)(h:uE k2 R (g 2) (g 4) (g 12) (g 13) (g 14) (g 19) (g 20) w):cP pg mA (bI (aI 2 (bI (aQ 1 (aI 2 (bI (bI (aI 1 (aQ 1 (aI 2 kZ)))))))))) Q g w:=by
 refine AR (λg:Env=>g 20) (λX t w=>BS (λ_ _ _ _ _ _ d0 w=>X d0 w) k2 R (g 2) (g 4) (g 12) (g 13) (g 14) (g 19) t w) h (λX g1 w1 ha hL=> ?_)
 rw[<-cI 2 ha,<-cI 4 ha,<-cI 12 ha,<-cI 13 ha,<-cI 14 ha,<-cI 19 ha]at hL
 exact(zO [(2,(O9 k2 2 4 12 13 14))] (KQ (λ_ _ _ _ _ _ d0 w=>X d0 w) 2 4 12 13 14 19 20) hL cO hr ⟨h2,trivial⟩)
def Kl(kn:K7) b2 bE c2 c3 c4 w:=
 aA pg (aO 80 c2 c4) w λc6 w=>
 aA pg (aH 84 c6) w λc7 w=>
 aA pg (bG 84) w λs_6 w=>
 aA pg (aM 84 s_6 c7) w λ_u w=>
 aA pg (aH 84 s_6) w λc8 w=>
 aK pg nI #[c8] w λc9 w=>
 kn b2 bE c2 c3 c4 c9 (aOo 0) w
def BT(kn:K5)(R:K1) b2 bE c2 c3 c4 w:=
 Kl (uE kn R) b2 bE c2 c3 c4 w
def BU(kn:K5)(R:K1) b2 bE c2 c3 c4 w:=
 BT (BR kn) R b2 bE c2 c3 c4 w
theorem RX(kn:K5)(R:K1)(hn:N5 Q kn 2 4 12 13 14)(hr:HR oA R Q)(h:BT kn R (g 2) (g 4) (g 12) (g 13) (g 14) w):cP pg mA (aQ 1 (aI 2 (bI (bI (aI 1 (aQ 1 (aI 2 kZ))))))) Q g w:=
 qU 1 (bZ 2 (eM (KQ (uE kn R) 2 4 12 13 14 19 20) h (λg w h=>aE (qU 2 (RW _ g w kn R hn hr h)))))
def H3 (kn:K5)(k0:K2) b2 bE c2 c3 c4 w:=
 aA pg (aD .lss 3 aG aG c4 c3) w λc5 w=>
 bQ c5
  (kn b2 bE c2 c3 c4 w)
  (k0 b2 bE w)
def Aq(kn:K5)(k0:K2)(R:K1) b2 bE c2 c3 c4 w:=
 H3 (BU kn R) k0 b2 bE c2 c3 c4 w
def rQ(k0:K2)(R:K1) b2 bE c2 c3 c4 w:=
 aX (λ(X:aOn->K0) (t:aOn) (w:aOm)=>Aq (λ_ _ _ _ c4 w=>X c4 w) k0 R b2 bE c2 c3 t w) c4 w
theorem P8 (k0:K2)(R:K1)(h0:E2 Q k0 0 2 4)(hr:HR oA R Q)(h:rQ k0 R (g 2) (g 4) (g 12) (g 13) (g 14) w):cP pg mA (bI (aI 1 (aQ 1 (aI 2 kZ)))) Q g w:=by
 refine AR (λg:Env=>g 14) (λX t w=>Aq (λ_ _ _ _ c4 w=>X c4 w) k0 R (g 2) (g 4) (g 12) (g 13) t w) h (λX g1 w1 ha hL=> ?_)
 rw[<-cI 2 ha,<-cI 4 ha,<-cI 12 ha,<-cI 13 ha]at hL
 exact(bZ 2 (zO [(0,(Lg k0 2 4))] (kr:=no) (O9 (BU (λ_ _ _ _ c4 w=>X c4 w) R) 2 4 12 13 14) hL (λg w h=>aE (bZ 1 (RX _ g w (BR (λ_ _ _ _ c4 w=>X c4 w)) R (λg w h=>aE (eM (O9 (λ_ _ _ _ c4 w=>X c4 w) 2 4 12 13 14) h cO)) hr h))) D1 ⟨h0,trivial⟩))
def H4 (kn:K5) dB b2 bE w:=
 aA pg (dD .len #[80] 3 [dB]) w λc3 w=>
 kn b2 bE dB c3 (aOo 0) w
def Ar(kn:K2)(R:K1) dB b2 bE w:=
 H4 (rQ kn R) dB b2 bE w
def As(R:K1) dB b2 bE w:=
 Ar (BQ R) R dB b2 bE w
theorem P9 (kn:K2)(R:K1)(hn:N2 Q kn 2 4)(hr:HR oA R Q)(h:Ar kn R (g 0) (g 2) (g 4) w):cP pg mA (aQ 1 (aI 2 kZ)) Q g w:=
 bZ 1 (eM (O9 (rQ kn R) 2 4 12 13 14) h (λg w h=>aE (qU 0 (P8 _ g w kn R hn hr h))))
def H5 (kn:K3) dB w:=
 aA pg (bG 131) w λb2 w=>
 aA pg (bG 131) w λbE w=>
 kn dB b2 bE w
def H6 (R:K1) dB w:=
 H5 (As R) dB w
def Q9 a0 w(R:K1):=
 H6 R a0 w
theorem T1 {a0 w R}(h:Q9 a0 w R):aK pg wX #[a0] w R:=
 lC (ann:=mA) Tryz.f69 kZ [a0] oA 45 TryzM.mixed Tryz.func69 (bZ 2 (eM (UB (As R) 0 2 4) h (λg w h=>aE (bZ 1 (P9 _ g w (BQ R) R (λg w h=>aE (lX h cO)) cO h)))))
def sG:FA:=⟨kV,λi=>match Nat.beq i 18 with|true=> .split 4 9 (.split 9 10 (.perm [0,1,2,3,4,5,6,7,8,9,10,11,12,13] [(9,10),(4,9)] ([4,9,10],[(4,6),(4,7),(4,8)]) (fz 4 (ft [] (fz 1 (fu [1] (fu [2] (fu [3] (ft [] (ft [] (fz 3 [])))))))))) (.perm [0,1,2,3,4,5,6,7,8,10,9,11,12,13] [(10,9),(4,9)] ([4,9,10],[(4,6),(4,7),(4,8),(6,9),(7,9),(8,9)]) (fz 4 (ft [] (fz 1 (fu [1] (fu [2] (fu [3] (ft [0,1,2] (ft [] (fz 3 []))))))))))) (.perm [0,1,2,3,5,6,7,8,9,4,10,11,12,13] [(9,4)] ([8,9,10],[(1,8),(2,8),(3,8)]) (fz 8 (ft [4,5,6] (ft [] (ft [] (fz 3 []))))))|false=>match Nat.beq i 22 with|true=> .split 4 9 (.split 5 9 (.perm [0,1,2,3,4,5,6,7,8,9,10,11] [(5,9),(4,9)] ([4,5,9,10],[(1,4),(2,4),(7,9),(8,9),(8,10)]) (fz 4 (ft [1,2] (ft [] (fz 3 (ft [0,1] (ft [1] (fz 1 [])))))))) (.perm [0,1,2,3,4,9,5,6,7,8,10,11] [(9,5),(4,9)] ([4,5,6,10],[(1,4),(1,5),(2,4),(2,5),(9,10)]) (fz 4 (ft [1,2] (ft [2,3] (ft [] (fz 3 (ft [0] (fz 1 []))))))))) (.perm [0,1,2,3,9,4,5,6,7,8,10,11] [(9,4)] ([4,5,6,10],[(1,4),(1,5),(2,4),(2,5),(9,10)]) (fz 4 (ft [1,2] (ft [2,3] (ft [] (fz 3 (ft [0] (fz 1 []))))))))|false=> .leaf ([],[]) []⟩
def vG:List ResultVar:=[.cell 4 106,.tmp 5,.tmp 6,.tmp 7]
noncomputable def fJ:Code:=aY Tryz.f70
def Bz(R:K1) b4 ahF aJD w:=
 aA pg (aD .neq 24 (.tmp 107) (.const (aOo 0)) aJD (aOo 0)) w λo8 w=>
 bQ o8
  (aA pg (bH 106 []) w λo9 w=>
  aA pg (aM 106 b4 o9) w λ_u w=>
  vV pg 106 b4 w λr0=>R (.tuple #[r0,(aOo 0),(.slice none 0 0),aJD]) w)
  (aA pg (aH 162 ahF) w λp2 w=>
  aK pg CB #[p2] w λp3 w=>
  aA pg (aV p3 0) w λp4 w=>
  aA pg (aV p3 1) w λp5 w=>
  aA pg (aD .neq 24 (.tmp 116) (.const (aOo 0)) p5 (aOo 0)) w λp7 w=>
  bQ p7
   (aA pg (bH 106 []) w λp8 w=>
   aA pg (aM 106 b4 p8) w λ_u w=>
   vV pg 106 b4 w λr0=>R (.tuple #[r0,(aOo 0),(.slice none 0 0),p5]) w)
   (aA pg (aH 162 ahF) w λq1 w=>
   aK pg B6 #[q1] w λq2 w=>
   aA pg (aV q2 0) w λq3 w=>
   aA pg (aV q2 1) w λq4 w=>
   aA pg (bG 106) w λd0 w=>
   aA pg (aM 106 d0 q3) w λ_u w=>
   aA pg (aH 106 d0) w λq5 w=>
   aA pg (aM 106 b4 q5) w λ_u w=>
   vV pg 106 b4 w λr0=>R (.tuple #[r0,(aOo 2),p4,q4]) w))
def Rc(kn:K3) bF b4 bY aP w:=
 Ord (aqE kV 22 (Kb 22 fJ) 4 9 w)
  (Ord (aqE kV 22 (Kb 22 fJ) 5 9 w)
   ((dr w)=(dr w)/\
   aA pg (aD .add 3 aG aG aP (aOo 1)) (dr w) λo0 w_=>w_=(dr w)/\
   aA pg (bP 160 bY none (some o0) none) (dr w) λo1 w_=>w_=(dr w)/\
   (dr w)=(dr w)/\
   aK pg vJ #[bF] (dr w) λo3 Uf=>
   (dT pg (bP 160 bY none (some o0) none) o1 Uf/\dT pg (aD .add 3 aG aG aP (aOo 1)) o0 Uf/\True)/\
   aK pg B7 #[o1,o3] Uf λo4 KC=>
   KC=KC/\
   aA pg (aV o4 0) KC λo5 w_=>w_=KC/\
   aA pg (aV o4 1) KC λo6 w_=>w_=KC/\
   aA pg (bG 162) KC λahF aFg=>
   (dT pg (aV o4 1) o6 aFg/\dT pg (aV o4 0) o5 aFg/\True)/\
   aA pg (aM 162 ahF o5) aFg λ_u10 DH=>
   (dT pg (aV o4 1) o6 DH/\True)/\
   DH=DH/\
   kn b4 ahF o6 DH)
   ((dr w)=(dr w)/\
   aA pg (aD .add 3 aG aG aP (aOo 1)) (dr w) λo0 w_=>w_=(dr w)/\
   aA pg (bP 160 bY none (some o0) none) (dr w) λo1 w_=>w_=(dr w)/\
   (dr w)=(dr w)/\
   aK pg vJ #[bF] (dr w) λo3 Uf=>
   (dT pg (bP 160 bY none (some o0) none) o1 Uf/\dT pg (aD .add 3 aG aG aP (aOo 1)) o0 Uf/\True)/\
   aA pg (bG 162) Uf λahF KC=>
   (dT pg (bP 160 bY none (some o0) none) o1 KC/\dT pg (aD .add 3 aG aG aP (aOo 1)) o0 KC/\True)/\
   aK pg B7 #[o1,o3] KC λo4 KD=>
   KD=KD/\
   aA pg (aV o4 0) KD λo5 w_=>w_=KD/\
   aA pg (aV o4 1) KD λo6 w_=>w_=KD/\
   aA pg (aM 162 ahF o5) KD λ_u10 DH=>
   (dT pg (aV o4 1) o6 DH/\True)/\
   DH=DH/\
   kn b4 ahF o6 DH))
  ((dr w)=(dr w)/\
  aA pg (aD .add 3 aG aG aP (aOo 1)) (dr w) λo0 w_=>w_=(dr w)/\
  aA pg (bP 160 bY none (some o0) none) (dr w) λo1 w_=>w_=(dr w)/\
  (dr w)=(dr w)/\
  aA pg (bG 162) (dr w) λahF Uf=>
  (dT pg (bP 160 bY none (some o0) none) o1 Uf/\dT pg (aD .add 3 aG aG aP (aOo 1)) o0 Uf/\True)/\
  aK pg vJ #[bF] Uf λo3 KC=>
  (dT pg (bP 160 bY none (some o0) none) o1 KC/\dT pg (aD .add 3 aG aG aP (aOo 1)) o0 KC/\True)/\
  aK pg B7 #[o1,o3] KC λo4 KD=>
  KD=KD/\
  aA pg (aV o4 0) KD λo5 w_=>w_=KD/\
  aA pg (aV o4 1) KD λo6 w_=>w_=KD/\
  aA pg (aM 162 ahF o5) KD λ_u10 DH=>
  (dT pg (aV o4 1) o6 DH/\True)/\
  DH=DH/\
  kn b4 ahF o6 DH)
def vI(R:K1) bF b4 bY aP w:=
 Rc (Bz R) bF b4 bY aP w
def BA(R:K1) b4 b5 b6 b7 w:=
 vV pg 106 b4 w λr0=>R (.tuple #[r0,b5,b6,b7]) w
def Rd(kn:K4) tV b4 w:=
 Ord (aqE kV 18 (Kb 18 fJ) 4 9 w)
  (Ord (aqE kV 18 (Kb 18 fJ) 9 10 w)
   ((dr w)=(dr w)/\
   aA pg (aO 117 tV (aOo 0)) (dr w) λl1 w_=>w_=(dr w)/\
   aA pg (aH 3 l1) (dr w) λl2 w_=>w_=(dr w)/\
   aA pg (cH 3 5 l2) (dr w) λl3 w_=>w_=(dr w)/\
   aK pg IN #[l3] (dr w) λl4 DG=>
   DG=DG/\
   aA pg (aO 117 tV (aOo 0)) DG λl6 w_=>w_=DG/\
   (dT pg (aO 117 tV (aOo 0)) l6 (dr w)/\True)/\
   aA pg (aH 3 l6) DG λl7 w_=>w_=DG/\
   (dT pg (aH 3 l6) l7 (dr w)/\True)/\
   aA pg (cH 3 5 l7) DG λl8 w_=>w_=DG/\
   (dT pg (cH 3 5 l7) l8 (dr w)/\True)/\
   aA pg (bT 22 1 [(0,l8)]) DG λl9 aeG=>
   aA pg (aM 106 b4 l4) aeG λ_u10 oF=>
   oF=oF/\
   oF=oF/\
   oF=oF/\
   kn b4 (aOo 1) l9 (aOo 0) oF)
   ((dr w)=(dr w)/\
   aA pg (aO 117 tV (aOo 0)) (dr w) λl1 w_=>w_=(dr w)/\
   aA pg (aH 3 l1) (dr w) λl2 w_=>w_=(dr w)/\
   aA pg (cH 3 5 l2) (dr w) λl3 w_=>w_=(dr w)/\
   aK pg IN #[l3] (dr w) λl4 DG=>
   DG=DG/\
   aA pg (aO 117 tV (aOo 0)) DG λl6 w_=>w_=DG/\
   (dT pg (aO 117 tV (aOo 0)) l6 (dr w)/\True)/\
   aA pg (aH 3 l6) DG λl7 w_=>w_=DG/\
   (dT pg (aH 3 l6) l7 (dr w)/\True)/\
   aA pg (cH 3 5 l7) DG λl8 w_=>w_=DG/\
   (dT pg (cH 3 5 l7) l8 (dr w)/\True)/\
   aA pg (aM 106 b4 l4) DG λ_u9 aeG=>
   (dT pg (cH 3 5 l7) l8 aeG/\dT pg (aH 3 l6) l7 aeG/\dT pg (aO 117 tV (aOo 0)) l6 aeG/\True)/\
   aA pg (bT 22 1 [(0,l8)]) aeG λl9 oF=>
   oF=oF/\
   oF=oF/\
   oF=oF/\
   kn b4 (aOo 1) l9 (aOo 0) oF))
  ((dr w)=(dr w)/\
  aA pg (aO 117 tV (aOo 0)) (dr w) λl1 w_=>w_=(dr w)/\
  aA pg (aH 3 l1) (dr w) λl2 w_=>w_=(dr w)/\
  aA pg (cH 3 5 l2) (dr w) λl3 w_=>w_=(dr w)/\
  (dr w)=(dr w)/\
  aA pg (aO 117 tV (aOo 0)) (dr w) λl6 w_=>w_=(dr w)/\
  aA pg (aH 3 l6) (dr w) λl7 w_=>w_=(dr w)/\
  aA pg (cH 3 5 l7) (dr w) λl8 w_=>w_=(dr w)/\
  aA pg (bT 22 1 [(0,l8)]) (dr w) λl9 aBe=>
  (dT pg (cH 3 5 l2) l3 aBe/\dT pg (aH 3 l1) l2 aBe/\dT pg (aO 117 tV (aOo 0)) l1 aBe/\True)/\
  aK pg IN #[l3] aBe λl4 aeG=>
  aA pg (aM 106 b4 l4) aeG λ_u10 oF=>
  oF=oF/\
  oF=oF/\
  oF=oF/\
  kn b4 (aOo 1) l9 (aOo 0) oF)
def HC(R:K1) tV b4 w:=
 Rd (BA R) tV b4 w
def Re(kn:K4)(R:K1) bF tV b4 bY aP abF w:=
 aA pg (dD .len #[117] 3 [tV]) w λm2 w=>
 aA pg (aD .lss 3 aG aG m2 (aOo 64)) w λm3 w=>
 Gd (bK m3 true) (λK=>K aP w) w λm5 w=>
 Gd (bK m3 true) (λK=>aA pg (aJ 162 abF 1) w K) w λm6 w=>
 Gd (bK m3 true) (λK=>aA pg (aH 117 m6) w K) w λm7 w=>
 Gd (bK m3 true) (λK=>aA pg (dD .len #[117] 3 [m7]) w K) w λm8 w=>
 Gd (bK m3 true) (λK=>aA pg (aD .lss 3 aG aG m5 m8) w K) w λm9 w=>
 aA pg (cD m3 m9 (.bool false)) w λn0 w=>
 bQ n0
  (aA pg (aH 162 abF) w λn2 w=>
  aK pg B6 #[n2] w λn3 w=>
  aA pg (aV n3 0) w λn4 w=>
  aA pg (aV n3 1) w λn5 w=>
  aA pg (bG 106) w λc5 w=>
  aA pg (aM 106 c5 n4) w λ_u w=>
  aA pg (aH 106 c5) w λn6 w=>
  aA pg (aM 106 b4 n6) w λ_u w=>
  vV pg 106 b4 w λr0=>R (.tuple #[r0,(aOo 0),(.slice none 0 0),n5]) w)
  (kn bF b4 bY aP w)
def HD(kn:K4)(R:K1) bF tV b4 bY aP abF j7 w:=
 bQ j7 (HC R tV b4 w) (Re kn R bF tV b4 bY aP abF w)
def Rf(kn:K7) bF tV b4 bY c0 aP abF w:=
 aA pg (aD .eql 3 (.tmp 68) (.const (aOo 1)) c0 (aOo 1)) w λj9 w=>
 kn bF tV b4 bY aP abF j9 w
def Fp(kn:K4)(R:K1) bF tV b4 bY c0 aP abF w:=
 Rf (HD kn R) bF tV b4 bY c0 aP abF w
def Fq(R:K1) bF tV b4 bY c0 aP abF w:=
 Fp (vI R) R bF tV b4 bY c0 aP abF w
theorem Vs(kn:K4)(R:K1)(hn:N4 Q kn 0 4 9 11)(hr:HR vG R Q)(h:Fp kn R (g 0) (g 1) (g 4) (g 9) (g 10) (g 11) (g 14) w):cP pg sG (aQ 1 (aI 1 (aI 1 (aI 5 fJ)))) Q g w:=
 qU 2 (bZ 1 (eM (KQ (HD kn R) 0 1 4 9 11 14 67) h (λg w h=>aE (cdD (.tmp 67) (λh=>(bZ 1 (eM (AQ (BA R) 4 5 6 7) h (λg w h=>aE (lX h hr))))) (λh=>(Mn _ h hn hr)) h))))
def OS(kn:K7) bF tV b4 bY c0 aP w:=
 aK pg CD #[bF] w λj6 w=>
 aA pg (bG 162) w λabF w=>
 aA pg (aM 162 abF j6) w λ_u w=>
 kn bF tV b4 bY c0 aP abF w
def Fs(R:K1) bF tV b4 bY c0 aP w:=
 OS (Fq R) bF tV b4 bY c0 aP w
def Ft(kn:Z3) bF tV b4 cK bY c0 aP e6 e7 e8 w:=
 aA pg (aD .add 3 aG aG e8 (aOo 1)) w λj4 w=>
 kn bF tV b4 cK bY c0 aP e6 e7 j4 w
def Fu(kn:Z3) bF tV b4 cK bY c0 aP aKC e6 e7 e8 w:=
 aA pg (dD .max #[3,3] 3 [aP,aKC]) w λj3 w=>
 kn bF tV b4 cK bY c0 j3 e6 e7 e8 w
def OT(kn:K11)(R:K1) bF tV b4 cK bY c0 aP e6 e7 e8 w:=
 aA pg (aO 117 e6 e8) w λf0 w=>
 aA pg (aH 3 f0) w λf1 w=>
 aA pg (aD .lss 3 aG aG f1 (aOo 0)) w λf3 w=>
 Gd (bK f3 false) (λK=>K f1 w) w λf5 w=>
 Gd (bK f3 false) (λK=>K cK w) w λf6 w=>
 Gd (bK f3 false) (λK=>aA pg (aD .gtr 3 aG aG f5 f6) w K) w λf7 w=>
 aA pg (cD f3 (.bool true) f7) w λf8 w=>
 bQ f8
  (aA pg (bH 106 []) w λf9 w=>
  aA pg (aM 106 b4 f9) w λ_u w=>
  vV pg 106 b4 w λr0=>R (.tuple #[r0,(aOo 0),(.slice none 0 0),(aOo 1)]) w)
  (aA pg (aO 160 bY f1) w λi1 w=>
  aA pg (aH 38 i1) w λi2 w=>
  aA pg (aD .add 38 aG aG i2 (.int .u32 1)) w λi3 w=>
  aA pg (aO 160 bY f1) w λi4 w=>
  aA pg (aM 38 i4 i3) w λ_u w=>
  aA pg (aO 160 bY f1) w λi6 w=>
  aA pg (aH 38 i6) w λi7 w=>
  aA pg (aD .eql 38 (.tmp 57) (.const (.int .u32 1)) i7 (.int .u32 1)) w λi8 w=>
  bQ i8
   (aA pg (aD .add 3 aG aG c0 (aOo 1)) w λj0 w=>
   kn bF tV b4 cK bY j0 aP f1 e6 e7 e8 w)
   (kn bF tV b4 cK bY c0 aP f1 e6 e7 e8 w))
def Fv(kn:Z3)(R:K1) bF tV b4 cK bY c0 aP e6 e7 e8 w:=
 OT (Fu kn) R bF tV b4 cK bY c0 aP e6 e7 e8 w
def Fw(kn:Z3)(R:K1) bF tV b4 cK bY c0 aP e6 e7 e8 w:=
 Fv (Ft kn) R bF tV b4 cK bY c0 aP e6 e7 e8 w
theorem Vt(kn:Z3)(R:K1)(hn:N10 Q kn 0 1 4 8 9 10 11 36 37 38)(hr:HR vG R Q)(h:Fv kn R (g 0) (g 1) (g 4) (g 8) (g 9) (g 10) (g 11) (g 36) (g 37) (g 38) w):cP pg sG (aQ 1 (aI 2 (bI (bI (aI 1 (aQ 1 (aI 5 fJ))))))) Q g w:=
 qU 1 (bZ 3 (Mn (aKs (Fu kn) 0 1 4 8 9 10 11 13 36 37 38) h (λg w h=>aE (eM _ h hn)) hr))
def OU(kn:Z3)(k0:K6) bF tV b4 cK bY c0 aP e6 e7 e8 w:=
 aA pg (aD .lss 3 aG aG e8 e7) w λe9 w=>
 bQ e9
  (kn bF tV b4 cK bY c0 aP e6 e7 e8 w)
  (k0 bF tV b4 bY c0 aP w)
def Fx(kn:Z3)(k0:K6)(R:K1) bF tV b4 cK bY c0 aP e6 e7 e8 w:=
 OU (Fw kn R) k0 bF tV b4 cK bY c0 aP e6 e7 e8 w
def zU(k0:K6)(R:K1) bF tV b4 cK bY c0 aP e6 e7 e8 w:=
 aX (λ(X:(aOn×aOn×aOn)->K0) (t:aOn×aOn×aOn) (w:aOm)=>Fx (λ_ _ _ _ _ c0 aP _ _ e8 w=>X (c0,aP,e8) w) k0 R bF tV b4 cK bY t.1 t.2.1 e6 e7 t.2.2 w) (c0,aP,e8) w
theorem Vu(k0:K6)(R:K1)(h0:E6 Q k0 0 0 1 4 9 10 11)(hr:HR vG R Q)(h:zU k0 R (g 0) (g 1) (g 4) (g 8) (g 9) (g 10) (g 11) (g 36) (g 37) (g 38) w):cP pg sG (bI (aI 1 (aQ 1 (aI 5 fJ)))) Q g w:=by
 refine AR (λg:Env=>(g 10,g 11,g 38)) (λX t w=>Fx (λ_ _ _ _ _ c0 aP _ _ e8 w=>X (c0,aP,e8) w) k0 R (g 0) (g 1) (g 4) (g 8) (g 9) t.1 t.2.1 (g 36) (g 37) t.2.2 w) h (λX g1 w1 ha hL=> ?_)
 rw[<-cI 0 ha,<-cI 1 ha,<-cI 4 ha,<-cI 8 ha,<-cI 9 ha,<-cI 36 ha,<-cI 37 ha]at hL
 exact(bZ 2 (zO [(0,(UP k0 0 1 4 9 10 11))] (kr:=no) (X1 (Fw (λ_ _ _ _ _ c0 aP _ _ e8 w=>X (c0,aP,e8) w) R) 0 1 4 8 9 10 11 36 37 38) hL (λg w h=>aE (bZ 1 (Vt _ g w (Ft (λ_ _ _ _ _ c0 aP _ _ e8 w=>X (c0,aP,e8) w)) R (λg w h=>aE (eM (X1 (λ_ _ _ _ _ c0 aP _ _ e8 w=>X (c0,aP,e8) w) 0 1 4 8 9 10 11 36 37 38) h cO)) hr h))) D1 ⟨h0,trivial⟩))
def OV(kn:Z3) bF tV b4 cK bY c0 aP w:=
 aA pg (dD .len #[117] 3 [tV]) w λe7 w=>
 kn bF tV b4 cK bY c0 aP tV e7 (aOo 0) w
def zV(kn:K6)(R:K1) bF tV b4 cK bY c0 aP w:=
 OV (zU kn R) bF tV b4 cK bY c0 aP w
def Fy(R:K1) bF tV b4 cK bY c0 aP w:=
 zV (Fs R) R bF tV b4 cK bY c0 aP w
theorem Vv(kn:K6)(R:K1)(hn:N6 Q kn 0 1 4 9 10 11)(hr:HR vG R Q)(h:zV kn R (g 0) (g 1) (g 4) (g 8) (g 9) (g 10) (g 11) w):cP pg sG (aQ 1 (aI 5 fJ)) Q g w:=
 bZ 1 (eM (X1 (zU kn R) 0 1 4 8 9 10 11 36 37 38) h (λg w h=>aE (qU 0 (Vu _ g w kn R hn hr h))))
def OW(kn:K7)(R:K1) bF tV w:=
 aA pg (bG 106) w λb4 w=>
 aK pg zB #[bF] w λd2 w=>
 aA pg (aD .lss 3 aG aG d2 (aOo 0)) w λd4 w=>
 Gd (bK d4 false) (λK=>K tV w) w λd6 w=>
 Gd (bK d4 false) (λK=>aA pg (dD .len #[117] 3 [d6]) w K) w λd7 w=>
 Gd (bK d4 false) (λK=>aA pg (aD .eql 3 (.tmp 27) (.const (aOo 0)) d7 (aOo 0)) w K) w λd8 w=>
 aA pg (cD d4 (.bool true) d8) w λd9 w=>
 Gd (bK d9 false) (λK=>K tV w) w λe1 w=>
 Gd (bK d9 false) (λK=>aA pg (dD .len #[117] 3 [e1]) w K) w λe2 w=>
 Gd (bK d9 false) (λK=>aA pg (aD .gtr 3 aG aG e2 (aOo 131072)) w K) w λe3 w=>
 aA pg (cD d9 (.bool true) e3) w λe4 w=>
 bQ e4
  (aA pg (bH 106 []) w λe5 w=>
  aA pg (aM 106 b4 e5) w λ_u w=>
  vV pg 106 b4 w λr0=>R (.tuple #[r0,(aOo 0),(.slice none 0 0),(aOo 1)]) w)
  (aA pg (bG 160) w λbY w=>
  kn bF tV b4 d2 bY (aOo 0) (aOo 0) w)
def OX(R:K1) bF tV w:=
 OW (Fy R) R bF tV w
def ZK a0 a1 w(R:K1):=
 OX R a0 a1 w
theorem ZL{a0 a1 w R}(h:ZK a0 a1 w R):aK pg kV #[a0,a1] w R:=
 lC (ann:=sG) Tryz.f70 fJ [a0,a1] vG 128 TryzM.mixed Tryz.func70 (bZ 5 (Mn (KQ (Fy R) 0 1 4 8 9 10 11) h (λg w h=>aE (bZ 1 (Vv _ g w (Fs R) R (λg w h=>aE (bZ 1 (eM (KQ (Fq R) 0 1 4 9 10 11 14) h (λg w h=>aE (bZ 1 (Vs _ g w (vI R) R (λg w h=>aE (bZ 1 (eM (UB (Bz R) 4 17 18) h (λg w h=>aE (lX h cO))))) cO h)))))) cO h))) cO))
def dV:FA:=⟨tJ,λi=>match Nat.beq i 15 with|true=> .leaf ([7],[]) (fz 7 (ft [] (fz 9 [])))|false=>match Nat.beq i 31 with|true=> .leaf ([9],[]) (fz 9 (ft [] []))|false=> .leaf ([],[]) []⟩
def jN:List ResultVar:=[.tmp 6,.tmp 7]
noncomputable def dP:Code:=aY Tryz.f71
def Au(R:K1) D4 w:=
 aK pg kS #[D4] w λs7 w=>
 R (.tuple #[s7,(aOo 0)]) w
def Av(kn:K5)(k6:K1) b5 D4 bL q1 q2 w:=
 aA pg (aD .lss 3 aG aG q2 (aOo 3)) w λq3 w=>
 bQ q3
  (aA pg (IJ 172 q1 q2) w λq4 w=>
  (dr w)=(dr w)/\
  (dr w)=(dr w)/\
  aA pg (aO 172 bL q4) (dr w) λq7 w_=>w_=(dr w)/\
  aA pg (aH 3 q7) (dr w) λq8 w_=>w_=(dr w)/\
  aA pg (cH 3 32 q8) (dr w) λq9 w_=>w_=(dr w)/\
  (dr w)=(dr w)/\
  aA pg (aO 108 b5 q4) (dr w) λs1 w_=>w_=(dr w)/\
  aA pg (aJ 106 s1 0) (dr w) λs2 w_=>w_=(dr w)/\
  aA pg (aH 3 s2) (dr w) λs3 w_=>w_=(dr w)/\
  aK pg bX #[D4,q9,s3] (dr w) λs4 aJ8=>
  aA pg (aD .add 3 aG aG q2 (aOo 1)) aJ8 λs5 w=>
  kn b5 D4 bL q1 s5 w)
  (k6 D4 w)
def jO(k6:K1) b5 D4 bL q1 q2 w:=
 aX (λ(X:aOn->K0) (t:aOn) (w:aOm)=>Av (λ_ _ _ _ q2 w=>X q2 w) k6 b5 D4 bL q1 t w) q2 w
theorem Qa(k6:K1)(h6:E1 Q k6 6 8)(h:jO k6 (g 5) (g 8) (g 9) (g 121) (g 122) w):cP pg dV (bI (aI 1 (aQ 1 (aI 1 (aI 3 dP))))) Q g w:=by
 refine AR (λg:Env=>g 122) (λX t w=>Av (λ_ _ _ _ q2 w=>X q2 w) k6 (g 5) (g 8) (g 9) (g 121) t w) h (λX g1 w1 ha hL=> ?_)
 rw[<-cI 5 ha,<-cI 8 ha,<-cI 9 ha,<-cI 121 ha]at hL
 exact(zO [(6,(UO k6 8))] (kr:=no) (O9 (λ_ _ _ _ q2 w=>X q2 w) 5 8 9 121 122) hL cO D1 ⟨h6,trivial⟩)
def H7 (kn:K5) b5 D4 bL w:=
 aA pg (bH 172 [(0,(aOo 2)),(1,(aOo 1)),(2,(aOo 0))]) w λq1 w=>
 kn b5 D4 bL q1 (aOo 0) w
def Aw(kn:K1) b5 D4 bL w:=
 H7 (jO kn) b5 D4 bL w
def Ax(R:K1) b5 D4 bL w:=
 Aw (Au R) b5 D4 bL w
theorem Qb(kn:K1)(hn:N1 Q kn 8)(h:Aw kn (g 5) (g 8) (g 9) w):cP pg dV (aQ 1 (aI 1 (aI 3 dP))) Q g w:=
 bZ 1 (eM (O9 (jO kn) 5 8 9 121 122) h (λg w h=>aE (qU 6 (Qa _ g w kn hn h))))
def Ay(kn:K6) dB dW b5 D4 bL mO w:=
 aA pg (aD .sub 3 aG aG mO (aOo 1)) w λe5 w=>
 kn dB dW b5 D4 bL e5 w
def Az(kn:K9)(k4:K6) dB dW b5 D4 bL mO azV n5 n6 w:=
 aA pg (aD .lss 3 aG aG n6 (aOo 3)) w λn7 w=>
 bQ n7
  (aA pg (IJ 172 n5 n6) w λn8 w=>
  aA pg (aO 131 dW n8) w λo2 w=>
  aA pg (aH 117 o2) w λo3 w=>
  aA pg (aO 117 o3 mO) w λo5 w=>
  aA pg (aH 3 o5) w λo6 w=>
  aK pg It #[n8,o6] w λo7 w=>
  aA pg (aV o7 0) w λo8 w=>
  aA pg (aV o7 1) w λo9 w=>
  aA pg (aV o7 2) w λp0 w=>
  aA pg (aO 44 azV n8) w λp3 w=>
  aA pg (aH 38 p3) w λp4 w=>
  aA pg (aD .sub 38 aG aG p4 o8) w λp6 w=>
  aA pg (cH 38 32 p6) w λp7 w=>
  aK pg bX #[D4,p7,o9] w λp9 w=>
  aA pg (aD .add 3 aG aG n6 (aOo 1)) w λq0 w=>
  kn dB dW b5 D4 bL mO azV n5 q0 w)
  (k4 dB dW b5 D4 bL mO w)
def iY(k4:K6) dB dW b5 D4 bL mO azV n5 n6 w:=
 aX (λ(X:aOn->K0) (t:aOn) (w:aOm)=>Az (λ_ _ _ _ _ _ _ _ n6 w=>X n6 w) k4 dB dW b5 D4 bL mO azV n5 t w) n6 w
theorem OF(k4:K6)(h4:E6 Q k4 4 0 4 5 8 9 10)(h:iY k4 (g 0) (g 4) (g 5) (g 8) (g 9) (g 10) (g 20) (g 95) (g 96) w):cP pg dV (bI (aI 2 (aI 1 (bI (aQ 1 (aI 1 (bI (bI (aI 1 (aQ 1 (aI 3 dP))))))))))) Q g w:=by
 refine AR (λg:Env=>g 96) (λX t w=>Az (λ_ _ _ _ _ _ _ _ n6 w=>X n6 w) k4 (g 0) (g 4) (g 5) (g 8) (g 9) (g 10) (g 20) (g 95) t w) h (λX g1 w1 ha hL=> ?_)
 rw[<-cI 0 ha,<-cI 4 ha,<-cI 5 ha,<-cI 8 ha,<-cI 9 ha,<-cI 10 ha,<-cI 20 ha,<-cI 95 ha]at hL
 exact(zO [(4,(UP k4 0 4 5 8 9 10))] (kr:=no) (Mq9 (λ_ _ _ _ _ _ _ _ n6 w=>X n6 w) 0 4 5 8 9 10 20 95 96) hL cO D1 ⟨h4,trivial⟩)
def GS(kn:K9) dB dW b5 D4 bL mO w:=
 aA pg (aO 80 dB mO) w λn2 w=>
 aA pg (aH 84 n2) w λn3 w=>
 aK pg nI #[n3] w λn4 w=>
 aA pg (bG 44) w λazV w=>
 aA pg (aM 44 azV n4) w λ_u w=>
 aA pg (bH 172 [(0,(aOo 0)),(1,(aOo 2)),(2,(aOo 1))]) w λn5 w=>
 kn dB dW b5 D4 bL mO azV n5 (aOo 0) w
def yS(kn:K6) dB dW b5 D4 bL mO w:=
 GS (iY kn) dB dW b5 D4 bL mO w
def qL(kn:K8) dB dW b5 D4 bL mO e6 e7 w:=
 aA pg (aD .add 3 aG aG e7 (aOo 1)) w λm9 w=>
 kn dB dW b5 D4 bL mO e6 m9 w
def GU(kn:K8)(k2:K6)(R:K1) dB dW b5 D4 bL mO e6 e7 w:=
 aA pg (aD .lss 3 aG aG e7 (aOo 3)) w λe8 w=>
 bQ e8
  (aA pg (IJ 172 e6 e7) w λe9 w=>
  aA pg (aO 131 dW e9) w λf1 w=>
  aA pg (aH 117 f1) w λf2 w=>
  aA pg (aO 117 f2 mO) w λf4 w=>
  aA pg (aH 3 f4) w λf5 w=>
  aA pg (cH 3 5 f5) w λf6 w=>
  aA pg (dD .len #[80] 3 [dB]) w λf9 w=>
  aA pg (aD .sub 3 aG aG f9 (aOo 1)) w λi0 w=>
  aA pg (aD .eql 3 (.tmp 47) (.tmp 50) mO i0) w λi1 w=>
  bQ i1
   (aA pg (aO 108 b5 e9) w λi4 w=>
   aA pg (aH 106 i4) w λi5 w=>
   aK pg Lf #[i5,f6] w λi7 w=>
   aA pg (aV i7 0) w λi8 w=>
   aA pg (aV i7 1) w λi9 w=>
   aA pg (aD .neq 24 (.tmp 60) (.const (aOo 0)) i9 (aOo 0)) w λj1 w=>
   bQ j1
    (R (.tuple #[(.slice none 0 0),i9]) w)
    (aA pg (aO 172 bL e9) w λj5 w=>
    aA pg (aM 3 j5 i8) w λ_u w=>
    kn dB dW b5 D4 bL mO e6 e7 w))
   ((dr w)=(dr w)/\
   aA pg (aO 108 b5 e9) (dr w) λj8 w_=>w_=(dr w)/\
   aA pg (aH 106 j8) (dr w) λj9 w_=>w_=(dr w)/\
   (dr w)=(dr w)/\
   aA pg (aO 172 bL e9) (dr w) λl1 w_=>w_=(dr w)/\
   aA pg (aH 3 l1) (dr w) λl2 w_=>w_=(dr w)/\
   (dr w)=(dr w)/\
   aK pg Iw #[j9,l2,f6] (dr w) λl4 DF=>
   DF=DF/\
   aA pg (aV l4 0) DF λl5 w_=>w_=DF/\
   aA pg (aV l4 1) DF λl6 w_=>w_=DF/\
   aA pg (aV l4 2) DF λl7 w_=>w_=DF/\
   aA pg (aV l4 3) DF λl8 w_=>w_=DF/\
   DF=DF/\
   DF=DF/\
   DF=DF/\
   DF=DF/\
   aA pg (aD .neq 24 (.tmp 79) (.const (aOo 0)) l8 (aOo 0)) DF λm0 w=>
   bQ m0
    (R (.tuple #[(.slice none 0 0),l8]) w)
    (aK pg bX #[D4,l6,l7] w λm5 w=>
    aA pg (aO 172 bL e9) w λm8 w=>
    aA pg (aM 3 m8 l5) w λ_u w=>
    kn dB dW b5 D4 bL mO e6 e7 w)))
  (k2 dB dW b5 D4 bL mO w)
def yT(kn:K8)(k2:K6)(R:K1) dB dW b5 D4 bL mO e6 e7 w:=
 GU (qL kn) k2 R dB dW b5 D4 bL mO e6 e7 w
def iZ(k2:K6)(R:K1) dB dW b5 D4 bL mO e6 e7 w:=
 aX (λ(X:aOn->K0) (t:aOn) (w:aOm)=>yT (λ_ _ _ _ _ _ _ e7 w=>X e7 w) k2 R dB dW b5 D4 bL mO e6 t w) e7 w
theorem OG(k2:K6)(R:K1)(h2:E6 Q k2 2 0 4 5 8 9 10)(hr:HR jN R Q)(h:iZ k2 R (g 0) (g 4) (g 5) (g 8) (g 9) (g 10) (g 36) (g 37) w):cP pg dV (bI (aI 1 (aQ 1 (bI (aQ 1 (aI 1 (bI (bI (aI 1 (aQ 1 (aI 3 dP))))))))))) Q g w:=by
 refine AR (λg:Env=>g 37) (λX t w=>yT (λ_ _ _ _ _ _ _ e7 w=>X e7 w) k2 R (g 0) (g 4) (g 5) (g 8) (g 9) (g 10) (g 36) t w) h (λX g1 w1 ha hL=> ?_)
 rw[<-cI 0 ha,<-cI 4 ha,<-cI 5 ha,<-cI 8 ha,<-cI 9 ha,<-cI 10 ha,<-cI 36 ha]at hL
 exact(bZ 3 (zO [(2,(UP k2 0 4 5 8 9 10))] (Mq8 (qL (λ_ _ _ _ _ _ _ e7 w=>X e7 w)) 0 4 5 8 9 10 36 37) hL (λg w h=>aE (eM (Mq8 (λ_ _ _ _ _ _ _ e7 w=>X e7 w) 0 4 5 8 9 10 36 37) h cO)) hr ⟨h2,trivial⟩))
def GV(kn:K8) dB dW b5 D4 bL mO w:=
 aA pg (bH 172 [(0,(aOo 1)),(1,(aOo 2)),(2,(aOo 0))]) w λe6 w=>
 kn dB dW b5 D4 bL mO e6 (aOo 0) w
def yU(kn:K6)(R:K1) dB dW b5 D4 bL mO w:=
 GV (iZ kn R) dB dW b5 D4 bL mO w
def yV(kn:K6)(R:K1) dB dW b5 D4 bL mO w:=
 yU (yS kn) R dB dW b5 D4 bL mO w
theorem OH(kn:K6)(R:K1)(hn:N6 Q kn 0 4 5 8 9 10)(hr:HR jN R Q)(h:yU kn R (g 0) (g 4) (g 5) (g 8) (g 9) (g 10) w):cP pg dV (aQ 1 (bI (aQ 1 (aI 1 (bI (bI (aI 1 (aQ 1 (aI 3 dP))))))))) Q g w:=
 bZ 1 (eM (Mq8 (iZ kn R) 0 4 5 8 9 10 36 37) h (λg w h=>aE (qU 2 (OG _ g w kn R hn hr h))))
def yW(kn:K6)(R:K1) dB dW b5 D4 bL mO w:=
 yV (Ay kn) R dB dW b5 D4 bL mO w
theorem OI(kn:K6)(R:K1)(hn:N6 Q kn 0 4 5 8 9 10)(hr:HR jN R Q)(h:yV kn R (g 0) (g 4) (g 5) (g 8) (g 9) (g 10) w):cP pg dV (aQ 1 (aI 1 (bI (bI (aI 1 (aQ 1 (aI 3 dP))))))) Q g w:=
 qU 1 (bZ 1 (OH _ g w (yS kn) R (λg w h=>aE (bZ 2 (eM (Mq9 (iY kn) 0 4 5 8 9 10 20 95 96) h (λg w h=>aE (qU 4 (OF _ g w kn hn h)))))) hr h))
def GW(kn:K6)(k0:K3) dB dW b5 D4 bL mO w:=
 aA pg (aD .geq 3 aG aG mO (aOo 0)) w λe3 w=>
 bQ e3
  (kn dB dW b5 D4 bL mO w)
  (k0 b5 D4 bL w)
def yX(kn:K6)(k0:K3)(R:K1) dB dW b5 D4 bL mO w:=
 GW (yW kn R) k0 dB dW b5 D4 bL mO w
def qM(k0:K3)(R:K1) dB dW b5 D4 bL mO w:=
 aX (λ(X:aOn->K0) (t:aOn) (w:aOm)=>yX (λ_ _ _ _ _ mO w=>X mO w) k0 R dB dW b5 D4 bL t w) mO w
theorem OJ(k0:K3)(R:K1)(h0:E3 Q k0 0 5 8 9)(hr:HR jN R Q)(h:qM k0 R (g 0) (g 4) (g 5) (g 8) (g 9) (g 10) w):cP pg dV (bI (aI 1 (aQ 1 (aI 3 dP)))) Q g w:=by
 refine AR (λg:Env=>g 10) (λX t w=>yX (λ_ _ _ _ _ mO w=>X mO w) k0 R (g 0) (g 4) (g 5) (g 8) (g 9) t w) h (λX g1 w1 ha hL=> ?_)
 rw[<-cI 0 ha,<-cI 4 ha,<-cI 5 ha,<-cI 8 ha,<-cI 9 ha]at hL
 exact(bZ 1 (zO [(0,(UB k0 5 8 9))] (kr:=no) (UP (yW (λ_ _ _ _ _ mO w=>X mO w) R) 0 4 5 8 9 10) hL (λg w h=>aE (bZ 1 (OI _ g w (Ay (λ_ _ _ _ _ mO w=>X mO w)) R (λg w h=>aE (eM (UP (λ_ _ _ _ _ mO w=>X mO w) 0 4 5 8 9 10) h cO)) hr h))) D1 ⟨h0,trivial⟩))
def GX(kn:K6) dB dW b5 D4 bL w:=
 aA pg (dD .len #[80] 3 [dB]) w λe0 w=>
 aA pg (aD .sub 3 aG aG e0 (aOo 1)) w λe1 w=>
 kn dB dW b5 D4 bL e1 w
def yY(kn:K3)(R:K1) dB dW b5 D4 bL w:=
 GX (qM kn R) dB dW b5 D4 bL w
def yZ(R:K1) dB dW b5 D4 bL w:=
 yY (Ax R) R dB dW b5 D4 bL w
theorem OK(kn:K3)(R:K1)(hn:N3 Q kn 5 8 9)(hr:HR jN R Q)(h:yY kn R (g 0) (g 4) (g 5) (g 8) (g 9) w):cP pg dV (aQ 1 (aI 3 dP)) Q g w:=
 bZ 1 (eM (UP (qM kn R) 0 4 5 8 9 10) h (λg w h=>aE (qU 0 (OJ _ g w kn R hn hr h))))
def GY(kn:K5) dB axP b2 w:=
 aA pg (Ba 131 axP) w λdW w=>
 aA pg (Ba 108 b2) w λb5 w=>
 aK pg kJ #[] w λd8 w=>
 aA pg (bG 172) w λbL w=>
 kn dB dW b5 d8 bL w
def GZ(R:K1) dB axP b2 w:=
 GY (yZ R) dB axP b2 w
def OE a0 a1 a2 w(R:K1):=
 GZ R a0 a1 a2 w
theorem RY{a0 a1 a2 w R}(h:OE a0 a1 a2 w R):aK pg tJ #[a0,a1,a2] w R:=
 lC (ann:=dV) Tryz.f71 dP [a0,a1,a2] jN 138 TryzM.mixed Tryz.func71 (bZ 3 (eM (O9 (yZ R) 0 4 5 8 9) h (λg w h=>aE (bZ 1 (OK _ g w (Ax R) R (λg w h=>aE (bZ 1 (Qb _ g w (Au R) (λg w h=>aE (lX h cO)) h))) cO h)))))
def Nf:FA:=⟨fE,λi=> .leaf ([],[]) []⟩
def P3:List ResultVar:=[]
noncomputable def L8:Code:=aY Tryz.f72
def CS(kn:K0) D3 D5 w:=
 aA pg (aD .neq 60 (.tmp 4) (.const (.pointer none)) D3 (.pointer none)) w λb5 w=>
 bQ b5
  (aA pg (dS D3) w λb8 w=>
  aA pg (aJ 77 b8 0) w λb9 w=>
  aA pg (aH 22 b9) w λc0 w=>
  aA pg (dD .append #[22,22] 22 [c0,D5]) w λc2 w=>
  aA pg (dS D3) w λc3 w=>
  aA pg (aJ 77 c3 0) w λc4 w=>
  aA pg (aM 22 c4 c2) w λ_u w=>
  kn w)
  (kn w)
def HK a0 a1 w(R:K1):=
 CS (λw=>R (.tuple #[]) w) a0 a1 w
theorem Mf{a0 a1 w R}(h:HK a0 a1 w R):aK pg fE #[a0,a1] w R:=
 lC (ann:=Nf) Tryz.f72 L8 [a0,a1] P3 15 TryzM.mixed Tryz.func72 (eM (Mq0 (λw=>R (.tuple #[]) w)) h cO)
def Sg:FA:=⟨tL,λi=> .leaf ([],[]) []⟩
def Vr:List ResultVar:=[.tmp 4]
noncomputable def RA:Code:=aY Tryz.f73
def AB(R:K1) lY w:=
 R lY w
def H9 (kn:K1) lY LM w:=
 aA pg (dD .cap #[22] 3 [lY]) w λc0 w=>
 aA pg (dD .len #[22] 3 [lY]) w λc2 w=>
 aA pg (aD .sub 3 aG aG c0 c2) w λc3 w=>
 aA pg (aD .sub 3 aG aG LM c3) w λc4 w=>
 aA pg (aD .gtr 3 aG aG c4 (aOo 0)) w λc6 w=>
 bQ c6
  (aA pg (dD .cap #[22] 3 [lY]) w λc9 w=>
  aA pg (bP 22 lY none (some c9) none) w λd0 w=>
  aA pg (dD .append #[22,3] 22 [d0,c4]) w λd2 w=>
  aA pg (dD .len #[22] 3 [lY]) w λd4 w=>
  aA pg (bP 22 d2 none (some d4) none) w λd5 w=>
  kn d5 w)
  (kn lY w)
def AD(R:K1) lY LM w:=
 H9 (AB R) lY LM w
def Ia(kn:K2) lY LM w:=
 aA pg (aD .lss 3 aG aG LM (aOo 0)) w λb6 w=>
 bQ b6
  (aA pg (XH 9 (.string ⟨#[99,97,110,110,111,116,32,98,101,32,110,101,103,97,116,105,118,101]⟩)) w λb7 w=>
  aA pg (V (Instr.panic b7)) w λ_u w=>
  kn lY LM w)
  (kn lY LM w)
def Ib(R:K1) lY LM w:=
 Ia (AD R) lY LM w
def OQ a0 a1 w(R:K1):=
 Ib R a0 a1 w
theorem R0 {a0 a1 w R}(h:OQ a0 a1 w R):aK pg tL #[a0,a1] w R:=
 lC (ann:=Sg) Tryz.f73 RA [a0,a1] Vr 27 TryzM.mixed Tryz.func73 (bZ 2 (eM (Lg (AD R) 0 1) h (λg w h=>aE (bZ 1 (eM (UO (AB R) 0) h (λg w h=>aE (lX h cO)))))))
def aaC:FA:=⟨Cu,λi=> .leaf ([],[]) []⟩
def afT:List ResultVar:=[.tmp 2]
noncomputable def Yg:Code:=aY Tryz.f74
def QM(R:K1) D3 w:=
 aA pg (aD .shr 32 aG aG D3 (.int .u64 3)) w λb5 w=>
 aA pg (aD .add 32 aG aG (.int .u64 10) b5) w λb6 w=>
 aA pg (aD .shl 32 aG aG (.int .u64 1) b6) w λb7 w=>
 aA pg (aD .quo 32 aG aG b7 (.int .u64 8)) w λc0 w=>
 aA pg (aD .and 32 aG aG D3 (.int .u64 7)) w λc2 w=>
 aA pg (aD .mul 32 aG aG c0 c2) w λc3 w=>
 aA pg (aD .add 32 aG aG b7 c3) w λc4 w=>
 R c4 w
def Yy a0 w(R:K1):=
 QM R a0 w
theorem Yz{a0 w R}(h:Yy a0 w R):aK pg Cu #[a0] w R:=
 lC (ann:=aaC) Tryz.f74 Yg [a0] afT 15 TryzM.mixed Tryz.func74 (lX h cO)
def Ph:FA:=⟨iH,λi=> .leaf ([],[]) []⟩
def RO:List ResultVar:=[.tmp 4,.tmp 5]
noncomputable def Nw:Code:=aY Tryz.f75
def Eh(R:K1) lY LM w:=
 aA pg (dS lY) w λb8 w=>
 aA pg (aJ 56 b8 0) w λb9 w=>
 aA pg (aH 54 b9) w λc0 w=>
 aK pg eU #[c0] w λc1 w=>
 aA pg (aD .gtr 3 aG aG LM c1) w λc2 w=>
 bQ c2
  (R (.tuple #[(.slice none 0 0),(aOo 10)]) w)
  (aA pg (dS lY) w λc4 w=>
  aA pg (aJ 56 c4 0) w λc5 w=>
  aA pg (aH 54 c5) w λc6 w=>
  aK pg gQ #[c6,LM] w λc8 w=>
  R (.tuple #[c8,(aOo 0)]) w)
def Ji a0 a1 w(R:K1):=
 Eh R a0 a1 w
theorem NK{a0 a1 w R}(h:Ji a0 a1 w R):aK pg iH #[a0,a1] w R:=
 lC (ann:=Ph) Tryz.f75 Nw [a0,a1] RO 19 TryzM.mixed Tryz.func75 (lX h cO)
def UU:FA:=⟨wT,λi=> .leaf ([],[]) []⟩
def Xz:List ResultVar:=[.cell 2 65,.tmp 3]
noncomputable def Ss:Code:=aY Tryz.f76
def Ju(R:K1) jI w:=
 aA pg (bG 65) w λb2 w=>
 aK pg fN #[jI] w λb7 w=>
 aK pg cC #[b7,(aOo 3)] w λb9 w=>
 aA pg (cH 32 3 b9) w λc0 w=>
 aK pg cU #[b7] w λc3 w=>
 aA pg (aD .neq 24 (.tmp 13) (.const (aOo 0)) c3 (aOo 0)) w λc4 w=>
 bQ c4
  (aA pg (bH 65 []) w λc5 w=>
  aK pg cU #[b7] w λc7 w=>
  aA pg (aM 65 b2 c5) w λ_u w=>
  vV pg 65 b2 w λr0=>R (.tuple #[r0,c7]) w)
  (aA pg (aD .shr 3 aG aG c0 (.int .u64 1)) w λd0 w=>
  aA pg (aD .and 3 aG aG d0 (aOo 3)) w λd1 w=>
  aA pg (aD .gtr 3 aG aG d1 (aOo 2)) w λd2 w=>
  bQ d2
   (aA pg (bH 65 []) w λd3 w=>
   aA pg (aM 65 b2 d3) w λ_u w=>
   vV pg 65 b2 w λr0=>R (.tuple #[r0,(aOo 11)]) w)
   (aA pg (aD .and 3 aG aG c0 (aOo 1)) w λd5 w=>
   aA pg (aD .eql 3 (.tmp 25) (.const (aOo 1)) d5 (aOo 1)) w λd6 w=>
   aA pg (aD .shr 3 aG aG c0 (.int .u64 1)) w λd8 w=>
   aA pg (aD .and 3 aG aG d8 (aOo 3)) w λd9 w=>
   aA pg (aD .shr 3 aG aG c0 (.int .u64 3)) w λe1 w=>
   aA pg (bH 65 [(0,d6),(1,d9),(2,e1)]) w λe2 w=>
   aA pg (aM 65 b2 e2) w λ_u w=>
   vV pg 65 b2 w λr0=>R (.tuple #[r0,(aOo 0)]) w))
def QL a0 w(R:K1):=
 Ju R a0 w
theorem SR{a0 w R}(h:QL a0 w R):aK pg wT #[a0] w R:=
 lC (ann:=UU) Tryz.f76 Ss [a0] Xz 33 TryzM.mixed Tryz.func76 (lX h cO)
def tN:FA:=⟨pT,λi=>match Nat.beq i 9 with|true=> .leaf ([7],[]) (fz 7 (ft [] (fz 2 [])))|false=> .leaf ([],[]) []⟩
def RT:List ResultVar:=[.tmp 4]
noncomputable def sK:Code:=aY Tryz.f77
def wN(R:K1) nW w:=
 R nW w
def wO(kn:K2)(k0:K1) nW n_8 w:=
 aA pg (dD .len #[22] 3 [nW]) w λe6 w=>
 aA pg (aD .lss 3 aG aG n_8 e6) w λe7 w=>
 bQ e7
  ((dr w)=(dr w)/\
  (dr w)=(dr w)/\
  (dr w)=(dr w)/\
  aA pg (bP 22 nW (some n_8) none none) (dr w) λf1 w_=>w_=(dr w)/\
  (dr w)=(dr w)/\
  (dr w)=(dr w)/\
  aA pg (bP 22 nW none (some n_8) none) (dr w) λf4 w_=>w_=(dr w)/\
  aA pg (dD .copy #[22,22] 3 [f1,f4]) (dr w) λf5 aFj=>
  aA pg (aD .add 3 aG aG n_8 f5) aFj λf6 w_=>w_=aFj/\
  aFj=aFj/\
  kn nW f6 aFj)
  (k0 nW w)
def oZ(k0:K1) nW n_8 w:=
 aX (λ(X:aOn->K0) (t:aOn) (w:aOm)=>wO (λ_ n_8 w=>X n_8 w) k0 nW t w) n_8 w
theorem MZ(k0:K1)(h0:E1 Q k0 0 7)(h:oZ k0 (g 7) (g 8) w):cP pg tN (bI (aQ 1 (aI 2 (aI 2 (aI 2 sK))))) Q g w:=by
 refine AR (λg:Env=>g 8) (λX t w=>wO (λ_ n_8 w=>X n_8 w) k0 (g 7) t w) h (λX g1 w1 ha hL=> ?_)
 rw[<-cI 7 ha]at hL
 exact(zO [(0,(UO k0 7))] (kr:=no) (Lg (λ_ n_8 w=>X n_8 w) 7 8) hL cO D1 ⟨h0,trivial⟩)
def pA(R:K1) nW n_8 w:=
 oZ (wN R) nW n_8 w
theorem M0 (kn:K1)(hn:N1 Q kn 7)(h:oZ kn (g 7) (g 8) w):cP pg tN (aQ 1 (aI 2 (aI 2 (aI 2 sK)))) Q g w:=
 qU 0 (MZ _ g w kn hn h)
def EF(kn:K2) fY aIf w:=
 aA pg (cH 50 3 aIf) w λd9 w=>
 aA pg (iX 22 d9 d9) w λe0 w=>
 aA pg (dD .copy #[22,22] 3 [e0,fY]) w λe3 w=>
 kn e0 e3 w
def wP(R:K1) fY aIf w:=
 EF (pA R) fY aIf w
def EG(kn:K2) fY IB w:=
 aA pg (dD .len #[22] 3 [fY]) w λc4 w=>
 aA pg (cH 3 50 c4) w λc5 w=>
 aA pg (cH 3 50 IB) w λc7 w=>
 aK pg Bj #[c5,c7] w λc8 w=>
 aA pg (aV c8 0) w λc9 w=>
 aA pg (aV c8 1) w λd0 w=>
 aA pg (aD .gtr 50 aG aG c9 (.int .u64 0)) w λd2 w=>
 Gd (bK d2 false) (λK=>K d0 w) w λd4 w=>
 Gd (bK d2 false) (λK=>aA pg (aD .gtr 50 aG aG d4 (.int .u64 9223372036854775807)) w K) w λd5 w=>
 aA pg (cD d2 (.bool true) d5) w λd6 w=>
 bQ d6
  (aA pg (XH 9 (.string ⟨#[116,104,101,32,114,101,115,117,108,116,32,111,102,32,40,108,101,110,40,120,41,32,42,32,99,111,117,110,116,41,32,111,118,101,114,102,108,111,119,115]⟩)) w λd7 w=>
  aA pg (V (Instr.panic d7)) w λ_u w=>
  kn fY d0 w)
  (kn fY d0 w)
def wQ(R:K1) fY IB w:=
 EG (wP R) fY IB w
def DB(kn:K2) fY IB w:=
 aA pg (aD .lss 3 aG aG IB (aOo 0)) w λc0 w=>
 bQ c0
  (aA pg (XH 9 (.string ⟨#[99,97,110,110,111,116,32,98,101,32,110,101,103,97,116,105,118,101]⟩)) w λc1 w=>
  aA pg (V (Instr.panic c1)) w λ_u w=>
  kn fY IB w)
  (kn fY IB w)
def DC(R:K1) fY IB w:=
 DB (wQ R) fY IB w
def Kv a0 a1 w(R:K1):=
 DC R a0 a1 w
theorem OR{a0 a1 w R}(h:Kv a0 a1 w R):aK pg pT #[a0,a1] w R:=
 lC (ann:=tN) Tryz.f77 sK [a0,a1] RT 48 TryzM.mixed Tryz.func77 (bZ 2 (eM (Lg (wQ R) 0 1) h (λg w h=>aE (bZ 2 (eM (Lg (wP R) 0 6) h (λg w h=>aE (bZ 2 (eM (Lg (pA R) 7 8) h (λg w h=>aE (bZ 1 (M0 _ g w (wN R) (λg w h=>aE (lX h cO)) h)))))))))))
def Pk:FA:=⟨kU,λi=> .leaf ([],[]) []⟩
def RQ:List ResultVar:=[.cell 4 146,.tmp 5]
noncomputable def Ny:Code:=aY Tryz.f79
def Ez(R:K1) BJ mH w:=
 aA pg (bG 146) w λb4 w=>
 aA pg (aD .add 3 aG aG mH (aOo 4)) w λb7 w=>
 aA pg (dS BJ) w λb9 w=>
 aA pg (aJ 119 b9 0) w λc0 w=>
 aA pg (aH 22 c0) w λc1 w=>
 aA pg (dD .len #[22] 3 [c1]) w λc2 w=>
 aA pg (aD .gtr 3 aG aG b7 c2) w λc3 w=>
 bQ c3
  (aA pg (bH 146 []) w λc4 w=>
  aA pg (aM 146 b4 c4) w λ_u w=>
  vV pg 146 b4 w λr0=>R (.tuple #[r0,(.bool false)]) w)
  (aA pg (dS BJ) w λc6 w=>
  aA pg (aJ 119 c6 0) w λc7 w=>
  aA pg (aH 22 c7) w λc8 w=>
  aA pg (aD .add 3 aG aG mH (aOo 4)) w λd1 w=>
  aA pg (bP 22 c8 (some mH) (some d1) none) w λd2 w=>
  aA pg (aGN 146 d2) w λd3 w=>
  aA pg (aH 146 d3) w λd4 w=>
  aA pg (aM 146 b4 d4) w λ_u w=>
  vV pg 146 b4 w λr0=>R (.tuple #[r0,(.bool true)]) w)
def J0 a0 a1 w(R:K1):=
 Ez R a0 a1 w
theorem Oh{a0 a1 w R}(h:J0 a0 a1 w R):aK pg kU #[a0,a1] w R:=
 lC (ann:=Pk) Tryz.f79 Ny [a0,a1] RQ 25 TryzM.mixed Tryz.func79 (lX h cO)
def vX:FA:=⟨rL,λi=>match Nat.beq i 2 with|true=> .leaf ([],[]) (fz 33 [])|false=> .leaf ([],[]) []⟩
def TW:List ResultVar:=[.tmp 6]
noncomputable def tR:Code:=aY Tryz.f80
def yO(R:K1) n_7 w:=
 R n_7 w
def iV(kn:K4)(k0:K1) BJ Wz ahA n_7 w:=
 (dr w)=(dr w)/\
 (dr w)=(dr w)/\
 aA pg (aD .add 3 aG aG ahA n_7) (dr w) λc0 w_=>w_=(dr w)/\
 (dr w)=(dr w)/\
 aA pg (dS BJ) (dr w) λc2 w_=>w_=(dr w)/\
 aA pg (aJ 119 c2 1) (dr w) λc3 w_=>w_=(dr w)/\
 aA pg (aH 3 c3) (dr w) λc4 w_=>w_=(dr w)/\
 aA pg (aD .lss 3 aG aG c0 c4) (dr w) λc5 w_=>w_=(dr w)/\
 (dr w)=(dr w)/\
 Gd (bK c5 true) (λK=>K n_7 (dr w)) (dr w) λc7 w_=>w_=(dr w)/\
 Gd (bK c5 true) (λK=>aA pg (aD .lss 3 aG aG c7 (aOo 131074)) (dr w) K) (dr w) λc8 w_=>w_=(dr w)/\
 aA pg (cD c5 c8 (.bool false)) (dr w) λc9 w_=>w_=(dr w)/\
 (dr w)=(dr w)/\
 Gd (bK c9 true) (λK=>K BJ (dr w)) (dr w) λd1 w_=>w_=(dr w)/\
 Gd (bK c9 true) (λK=>aA pg (dS d1) (dr w) K) (dr w) λd2 w_=>w_=(dr w)/\
 Gd (bK c9 true) (λK=>aA pg (aJ 119 d2 0) (dr w) K) (dr w) λd3 w_=>w_=(dr w)/\
 Gd (bK c9 true) (λK=>aA pg (aH 22 d3) (dr w) K) (dr w) λd4 w_=>w_=(dr w)/\
 Gd (bK c9 true) (λK=>K Wz (dr w)) (dr w) λd5 w_=>w_=(dr w)/\
 Gd (bK c9 true) (λK=>K n_7 (dr w)) (dr w) λd6 w_=>w_=(dr w)/\
 Gd (bK c9 true) (λK=>aA pg (aD .add 3 aG aG d5 d6) (dr w) K) (dr w) λd7 w_=>w_=(dr w)/\
 Gd (bK c9 true) (λK=>aA pg (aO 22 d4 d7) (dr w) K) (dr w) λd8 w_=>w_=(dr w)/\
 Gd (bK c9 true) (λK=>aA pg (aH 5 d8) (dr w) K) (dr w) λd9 w_=>w_=(dr w)/\
 Gd (bK c9 true) (λK=>K BJ (dr w)) (dr w) λe0 w_=>w_=(dr w)/\
 Gd (bK c9 true) (λK=>aA pg (dS e0) (dr w) K) (dr w) λe1 w_=>w_=(dr w)/\
 Gd (bK c9 true) (λK=>aA pg (aJ 119 e1 0) (dr w) K) (dr w) λe2 w_=>w_=(dr w)/\
 Gd (bK c9 true) (λK=>aA pg (aH 22 e2) (dr w) K) (dr w) λe3 w_=>w_=(dr w)/\
 Gd (bK c9 true) (λK=>K ahA (dr w)) (dr w) λe4 w_=>w_=(dr w)/\
 Gd (bK c9 true) (λK=>K n_7 (dr w)) (dr w) λe5 w_=>w_=(dr w)/\
 Gd (bK c9 true) (λK=>aA pg (aD .add 3 aG aG e4 e5) (dr w) K) (dr w) λe6 w_=>w_=(dr w)/\
 Gd (bK c9 true) (λK=>aA pg (aO 22 e3 e6) (dr w) K) (dr w) λe7 w_=>w_=(dr w)/\
 Gd (bK c9 true) (λK=>aA pg (aH 5 e7) (dr w) K) (dr w) λe8 w_=>w_=(dr w)/\
 Gd (bK c9 true) (λK=>aA pg (aD .eql 5 (.tmp 29) (.tmp 38) d9 e8) (dr w) K) (dr w) λe9 w_=>w_=(dr w)/\
 aA pg (cD c9 e9 (.bool false)) (dr w) λf0 w_=>w_=(dr w)/\
 bQ f0
  (aA pg (aD .add 3 aG aG n_7 (aOo 1)) (dr w) λf2 w=>
  kn BJ Wz ahA f2 w)
  (k0 n_7 (dr w))
def qG(k0:K1) BJ Wz ahA n_7 w:=
 aX (λ(X:aOn->K0) (t:aOn) (w:aOm)=>iV (λ_ _ _ n_7 w=>X n_7 w) k0 BJ Wz ahA t w) n_7 w
theorem Oi(k0:K1)(h0:E1 Q k0 0 7)(h:qG k0 (g 0) (g 1) (g 2) (g 7) w):cP pg vX (bI (aQ 1 (aI 2 tR))) Q g w:=by
 refine AR (λg:Env=>g 7) (λX t w=>iV (λ_ _ _ n_7 w=>X n_7 w) k0 (g 0) (g 1) (g 2) t w) h (λX g1 w1 ha hL=> ?_)
 rw[<-cI 0 ha,<-cI 1 ha,<-cI 2 ha]at hL
 exact(zO [(0,(UO k0 7))] (kr:=no) (AQ (λ_ _ _ n_7 w=>X n_7 w) 0 1 2 7) hL cO D1 ⟨h0,trivial⟩)
def yP(R:K1) BJ Wz ahA n_7 w:=
 qG (yO R) BJ Wz ahA n_7 w
theorem Oj(kn:K1)(hn:N1 Q kn 7)(h:qG kn (g 0) (g 1) (g 2) (g 7) w):cP pg vX (aQ 1 (aI 2 tR)) Q g w:=
 qU 0 (Oi _ g w kn hn h)
def GL(kn:K4) BJ Wz ahA w:=
 kn BJ Wz ahA (aOo 0) w
def GM(R:K1) BJ Wz ahA w:=
 GL (yP R) BJ Wz ahA w
def LL a0 a1 a2 w(R:K1):=
 GM R a0 a1 a2 w
theorem PQ{a0 a1 a2 w R}(h:LL a0 a1 a2 w R):aK pg rL #[a0,a1,a2] w R:=
 lC (ann:=vX) Tryz.f80 tR [a0,a1,a2] TW 44 TryzM.mixed Tryz.func80 (bZ 2 (eM (AQ (yP R) 0 1 2 7) h (λg w h=>aE (bZ 1 (Oj _ g w (yO R) (λg w h=>aE (lX h cO)) h)))))
def WX:FA:=⟨sB,λi=> .leaf ([],[]) []⟩
def ZD:List ResultVar:=[.tmp 4]
noncomputable def U3:Code:=aY Tryz.f81
def xI(R:K1) w_5 w:=
 aK pg eJ #[w_5] w λe7 w=>
 R e7 w
def LG(kn:K1) bF LM w:=
 aK pg eZ #[] w λb6 w=>
 aA pg (aD .lss 3 aG aG LM (aOo 32)) w λc7 w=>
 bQ c7
  (aA pg (aD .shl 3 aG aG LM (.int .u64 3)) w λd0 w=>
  aA pg (aD .or 3 aG aG d0 bF) w λd2 w=>
  aA pg (cH 3 32 d2) w λd3 w=>
  aK pg bA #[b6,d3,(aOo 1)] w λd4 w=>
  kn b6 w)
  (aA pg (aD .lss 3 aG aG LM (aOo 4096)) w λd7 w=>
  bQ d7
   (aA pg (aD .shl 3 aG aG LM (.int .u64 4)) w λe0 w=>
   aA pg (aD .or 3 aG aG e0 (aOo 4)) w λe1 w=>
   aA pg (aD .or 3 aG aG e1 bF) w λe3 w=>
   aA pg (cH 3 32 e3) w λe4 w=>
   aK pg bA #[b6,e4,(aOo 2)] w λe5 w=>
   kn b6 w)
   (aA pg (aD .shl 3 aG aG LM (.int .u64 4)) w λb9 w=>
   aA pg (aD .or 3 aG aG b9 (aOo 12)) w λc0 w=>
   aA pg (aD .or 3 aG aG c0 bF) w λc2 w=>
   aA pg (cH 3 32 c2) w λc3 w=>
   aK pg bA #[b6,c3,(aOo 3)] w λc4 w=>
   kn b6 w))
def LH(R:K1) bF LM w:=
 LG (xI R) bF LM w
def Tp a0 a1 w(R:K1):=
 LH R a0 a1 w
theorem Vf{a0 a1 w R}(h:Tp a0 a1 w R):aK pg sB #[a0,a1] w R:=
 lC (ann:=WX) Tryz.f81 U3 [a0,a1] ZD 38 TryzM.mixed Tryz.func81 (bZ 3 (eM (UO (xI R) 5) h (λg w h=>aE (lX h cO))))
def sF:FA:=⟨vU,λi=> .leaf ([],[]) []⟩
def P7:List ResultVar:=[.tmp 4]
noncomputable def qW:Code:=aY Tryz.f82
def uN(R:K1) m_5 w:=
 R m_5 w
def uO(kn:K4) fY xC m_5 kR w:=
 aA pg (aD .add 3 aG aG kR (aOo 1)) w λc9 w=>
 kn fY xC m_5 c9 w
def uP(kn:K4)(k0:K1) fY xC m_5 kR w:=
 aA pg (dD .len #[137] 3 [fY]) w λc6 w=>
 aA pg (aD .lss 3 aG aG kR c6) w λc7 w=>
 bQ c7
  (aA pg (aO 137 fY kR) w λd3 w=>
  aA pg (aH 22 d3) w λd4 w=>
  aA pg (BL xC [d4,m_5]) w λd6 w=>
  aA pg (aD .lss 3 aG aG d6 (aOo 0)) w λd7 w=>
  bQ d7
   (aA pg (aO 137 fY kR) w λe0 w=>
   aA pg (aH 22 e0) w λe1 w=>
   kn fY xC e1 kR w)
   (kn fY xC m_5 kR w))
  (k0 m_5 w)
def mU(kn:K4)(k0:K1) fY xC m_5 kR w:=
 uP (uO kn) k0 fY xC m_5 kR w
def mV(k0:K1) fY xC m_5 kR w:=
 aX (λ(X:(aOn×aOn)->K0) (t:aOn×aOn) (w:aOm)=>mU (λ_ _ m_5 kR w=>X (m_5,kR) w) k0 fY xC t.1 t.2 w) (m_5,kR) w
theorem Lc(k0:K1)(h0:E1 Q k0 0 5)(h:mV k0 (g 0) (g 1) (g 5) (g 6) w):cP pg sF (bI (aI 1 (aQ 1 (aI 1 (aI 2 qW))))) Q g w:=by
 refine AR (λg:Env=>(g 5,g 6)) (λX t w=>mU (λ_ _ m_5 kR w=>X (m_5,kR) w) k0 (g 0) (g 1) t.1 t.2 w) h (λX g1 w1 ha hL=> ?_)
 rw[<-cI 0 ha,<-cI 1 ha]at hL
 exact(bZ 2 (zO [(0,(UO k0 5))] (kr:=no) (AQ (uO (λ_ _ m_5 kR w=>X (m_5,kR) w)) 0 1 5 6) hL (λg w h=>aE (eM (AQ (λ_ _ m_5 kR w=>X (m_5,kR) w) 0 1 5 6) h cO)) D1 ⟨h0,trivial⟩))
def DA(kn:K4) fY xC m_5 w:=
 kn fY xC m_5 (aOo 1) w
def uQ(kn:K1) fY xC m_5 w:=
 DA (mV kn) fY xC m_5 w
def uR(R:K1) fY xC m_5 w:=
 uQ (uN R) fY xC m_5 w
theorem Ld(kn:K1)(hn:N1 Q kn 5)(h:uQ kn (g 0) (g 1) (g 5) w):cP pg sF (aQ 1 (aI 1 (aI 2 qW))) Q g w:=
 bZ 1 (eM (AQ (mV kn) 0 1 5 6) h (λg w h=>aE (qU 0 (Lc _ g w kn hn h))))
def Ck(kn:K3) fY xC w:=
 aA pg (aO 137 fY (aOo 0)) w λc2 w=>
 aA pg (aH 22 c2) w λc3 w=>
 kn fY xC c3 w
def tB(R:K1) fY xC w:=
 Ck (uR R) fY xC w
def Cm(kn:K2) fY xC w:=
 aA pg (dD .len #[137] 3 [fY]) w λb8 w=>
 aA pg (aD .lss 3 aG aG b8 (aOo 1)) w λb9 w=>
 bQ b9
  (aA pg (XH 9 (.string ⟨#[115,108,105,99,101,115,46,77,105,110,70,117,110,99,58,32,101,109,112,116,121,32,108,105,115,116]⟩)) w λc0 w=>
  aA pg (V (Instr.panic c0)) w λ_u w=>
  kn fY xC w)
  (kn fY xC w)
def Cn(R:K1) fY xC w:=
 Cm (tB R) fY xC w
def Ih a0 a1 w(R:K1):=
 Cn R a0 a1 w
theorem MY{a0 a1 w R}(h:Ih a0 a1 w R):aK pg vU #[a0,a1] w R:=
 lC (ann:=sF) Tryz.f82 qW [a0,a1] P7 33 TryzM.mixed Tryz.func82 (bZ 2 (eM (Lg (tB R) 0 1) h (λg w h=>aE (bZ 1 (eM (UB (uR R) 0 1 5) h (λg w h=>aE (bZ 1 (Ld _ g w (uN R) (λg w h=>aE (lX h cO)) h))))))))
def Rp:FA:=⟨rJ,λi=> .leaf ([],[]) []⟩
def TR:List ResultVar:=[.tmp 4]
noncomputable def Pr:Code:=aY Tryz.f83
def Gz(R:K1) a_0 D5 w:=
 aA pg (dD .len #[22] 3 [a_0]) w λb6 w=>
 aA pg (dD .len #[22] 3 [D5]) w λb8 w=>
 aA pg (aD .sub 3 aG aG b6 b8) w λb9 w=>
 R b9 w
def Lu a0 a1 w(R:K1):=
 Gz R a0 a1 w
theorem PB{a0 a1 w R}(h:Lu a0 a1 w R):aK pg rJ #[a0,a1] w R:=
 lC (ann:=Rp) Tryz.f83 Pr [a0,a1] TR 10 TryzM.mixed Tryz.func83 (lX h cO)
def dC:FA:=⟨wZ,λi=>match Nat.beq i 15 with|true=> .leaf ([],[]) (fz 43 [])|false=>match Nat.beq i 25 with|true=> .leaf ([],[]) (fz 46 [])|false=> .leaf ([],[]) []⟩
def XF:List ResultVar:=[.tmp 4]
noncomputable def dA:Code:=aY Tryz.f84
def B1 (R:K1) aS w:=
 R aS w
def B2 (kn:K3) aL aS aW pD w:=
 aA pg (aO 117 aS pD) w λy6 w=>
 aA pg (aH 3 y6) w λy7 w=>
 aA pg (aD .sub 3 aG aG (aOo 11) y7) w λy8 w=>
 aA pg (aD .shl 3 aG aG (aOo 1) y8) w λy9 w=>
 aA pg (aD .sub 3 aG aG aW y9) w λz0 w=>
 aA pg (aO 117 aS pD) w λz3 w=>
 aA pg (aH 3 z3) w λz4 w=>
 aA pg (aD .sub 3 aG aG z4 (aOo 1)) w λz5 w=>
 aA pg (aO 117 aS pD) w λz6 w=>
 aA pg (aM 3 z6 z5) w λ_u w=>
 kn aL aS z0 w
def B3 (kn:K7) aL aS aW pD p8 p9 q0 w:=
 aA pg (aD .add 3 aG aG q0 (aOo 1)) w λy2 w=>
 kn aL aS aW pD p8 p9 y2 w
def KK(kn:K7)(k8:K4) aL aS aW pD p8 p9 q0 w:=
 aA pg (aD .lss 3 aG aG q0 p9) w λq1 w=>
 bQ q1
  (aA pg (aO 128 p8 q0) w λq3 w=>
  aA pg (aH 38 q3) w λq4 w=>
  (dr w)=(dr w)/\
  aA pg (aD .gtr 38 aG aG q4 (.int .u32 0)) (dr w) λq6 w_=>w_=(dr w)/\
  (dr w)=(dr w)/\
  Gd (bK q6 true) (λK=>K aS (dr w)) (dr w) λq8 w_=>w_=(dr w)/\
  Gd (bK q6 true) (λK=>K q0 (dr w)) (dr w) λq9 w_=>w_=(dr w)/\
  Gd (bK q6 true) (λK=>aA pg (aO 117 q8 q9) (dr w) K) (dr w) λs0 w_=>w_=(dr w)/\
  Gd (bK q6 true) (λK=>aA pg (aH 3 s0) (dr w) K) (dr w) λs1 w_=>w_=(dr w)/\
  Gd (bK q6 true) (λK=>aA pg (aD .sub 3 aG aG (aOo 11) s1) (dr w) K) (dr w) λs2 w_=>w_=(dr w)/\
  Gd (bK q6 true) (λK=>aA pg (aD .shl 3 aG aG (aOo 1) s2) (dr w) K) (dr w) λs3 w_=>w_=(dr w)/\
  Gd (bK q6 true) (λK=>K aW (dr w)) (dr w) λs4 w_=>w_=(dr w)/\
  Gd (bK q6 true) (λK=>aA pg (aD .leq 3 aG aG s3 s4) (dr w) K) (dr w) λs5 w_=>w_=(dr w)/\
  aA pg (cD q6 s5 (.bool false)) (dr w) λs6 w_=>w_=(dr w)/\
  (dr w)=(dr w)/\
  Gd (bK s6 true) (λK=>K pD (dr w)) (dr w) λs8 w_=>w_=(dr w)/\
  Gd (bK s6 true) (λK=>aA pg (aD .lss 3 aG aG s8 (aOo 0)) (dr w) K) (dr w) λs9 w_=>w_=(dr w)/\
  Gd (bK s6 true) (λK=>K s9 (dr w)) (dr w) λu0 w_=>w_=(dr w)/\
  Gd (bK u0 false) (λK=>K aS (dr w)) (dr w) λu1 w_=>w_=(dr w)/\
  Gd (bK u0 false) (λK=>K q0 (dr w)) (dr w) λu2 w_=>w_=(dr w)/\
  Gd (bK u0 false) (λK=>aA pg (aO 117 u1 u2) (dr w) K) (dr w) λu3 w_=>w_=(dr w)/\
  Gd (bK u0 false) (λK=>aA pg (aH 3 u3) (dr w) K) (dr w) λu4 w_=>w_=(dr w)/\
  Gd (bK u0 false) (λK=>K aS (dr w)) (dr w) λu5 w_=>w_=(dr w)/\
  Gd (bK u0 false) (λK=>K pD (dr w)) (dr w) λu6 w_=>w_=(dr w)/\
  Gd (bK u0 false) (λK=>aA pg (aO 117 u5 u6) (dr w) K) (dr w) λu7 w_=>w_=(dr w)/\
  Gd (bK u0 false) (λK=>aA pg (aH 3 u7) (dr w) K) (dr w) λu8 w_=>w_=(dr w)/\
  Gd (bK u0 false) (λK=>aA pg (aD .gtr 3 aG aG u4 u8) (dr w) K) (dr w) λu9 w_=>w_=(dr w)/\
  Gd (bK s6 true) (λK=>aA pg (cD u0 (.bool true) u9) (dr w) K) (dr w) λv0 w_=>w_=(dr w)/\
  Gd (bK s6 true) (λK=>K v0 (dr w)) (dr w) λv1 w_=>w_=(dr w)/\
  Gd (bK v1 false) (λK=>K aS (dr w)) (dr w) λv2 w_=>w_=(dr w)/\
  Gd (bK v1 false) (λK=>K q0 (dr w)) (dr w) λv3 w_=>w_=(dr w)/\
  Gd (bK v1 false) (λK=>aA pg (aO 117 v2 v3) (dr w) K) (dr w) λv4 w_=>w_=(dr w)/\
  Gd (bK v1 false) (λK=>aA pg (aH 3 v4) (dr w) K) (dr w) λv5 w_=>w_=(dr w)/\
  Gd (bK v1 false) (λK=>K aS (dr w)) (dr w) λv6 w_=>w_=(dr w)/\
  Gd (bK v1 false) (λK=>K pD (dr w)) (dr w) λv7 w_=>w_=(dr w)/\
  Gd (bK v1 false) (λK=>aA pg (aO 117 v6 v7) (dr w) K) (dr w) λv8 w_=>w_=(dr w)/\
  Gd (bK v1 false) (λK=>aA pg (aH 3 v8) (dr w) K) (dr w) λv9 w_=>w_=(dr w)/\
  Gd (bK v1 false) (λK=>aA pg (aD .eql 3 (.tmp 155) (.tmp 159) v5 v9) (dr w) K) (dr w) λx0 w_=>w_=(dr w)/\
  Gd (bK v1 false) (λK=>K x0 (dr w)) (dr w) λx1 w_=>w_=(dr w)/\
  Gd (bK x1 true) (λK=>K q4 (dr w)) (dr w) λx2 w_=>w_=(dr w)/\
  Gd (bK x1 true) (λK=>K aL (dr w)) (dr w) λx3 w_=>w_=(dr w)/\
  Gd (bK x1 true) (λK=>K pD (dr w)) (dr w) λx4 w_=>w_=(dr w)/\
  Gd (bK x1 true) (λK=>aA pg (aO 128 x3 x4) (dr w) K) (dr w) λx5 w_=>w_=(dr w)/\
  Gd (bK x1 true) (λK=>aA pg (aH 38 x5) (dr w) K) (dr w) λx6 w_=>w_=(dr w)/\
  Gd (bK x1 true) (λK=>aA pg (aD .gtr 38 aG aG x2 x6) (dr w) K) (dr w) λx7 w_=>w_=(dr w)/\
  Gd (bK v1 false) (λK=>aA pg (cD x1 x7 (.bool false)) (dr w) K) (dr w) λx8 w_=>w_=(dr w)/\
  Gd (bK s6 true) (λK=>aA pg (cD v1 (.bool true) x8) (dr w) K) (dr w) λx9 w_=>w_=(dr w)/\
  aA pg (cD s6 x9 (.bool false)) (dr w) λy0 w_=>w_=(dr w)/\
  bQ y0
   (kn aL aS aW q0 p8 p9 q0 (dr w))
   (kn aL aS aW pD p8 p9 q0 (dr w)))
  (k8 aL aS aW pD w)
def B4 (kn:K7)(k8:K4) aL aS aW pD p8 p9 q0 w:=
 KK (B3 kn) k8 aL aS aW pD p8 p9 q0 w
def uS(k8:K4) aL aS aW pD p8 p9 q0 w:=
 aX (λ(X:(aOn×aOn)->K0) (t:aOn×aOn) (w:aOm)=>B4 (λ_ _ _ pD _ _ q0 w=>X (pD,q0) w) k8 aL aS aW t.1 p8 p9 t.2 w) (pD,q0) w
theorem R3 (k8:K4)(h8:E4 Q k8 8 0 5 6 12)(h:uS k8 (g 0) (g 5) (g 6) (g 12) (g 118) (g 119) (g 120) w):cP pg dC (bI (aI 1 (aQ 1 (aI 1 (bI (aI 1 (bI (bI (aQ 1 (aI 1 (aI 1 (aI 3 dA)))))))))))) Q g w:=by
 refine AR (λg:Env=>(g 12,g 120)) (λX t w=>B4 (λ_ _ _ pD _ _ q0 w=>X (pD,q0) w) k8 (g 0) (g 5) (g 6) t.1 (g 118) (g 119) t.2 w) h (λX g1 w1 ha hL=> ?_)
 rw[<-cI 0 ha,<-cI 5 ha,<-cI 6 ha,<-cI 118 ha,<-cI 119 ha]at hL
 exact(bZ 3 (zO [(8,(AQ k8 0 5 6 12))] (kr:=no) (KQ (B3 (λ_ _ _ pD _ _ q0 w=>X (pD,q0) w)) 0 5 6 12 118 119 120) hL (λg w h=>aE (eM (KQ (λ_ _ _ pD _ _ q0 w=>X (pD,q0) w) 0 5 6 12 118 119 120) h cO)) D1 ⟨h8,trivial⟩))
def KL(kn:K7) aL aS aW pD w:=
 aA pg (dD .len #[128] 3 [aL]) w λp9 w=>
 kn aL aS aW pD aL p9 (aOo 0) w
def uT(kn:K4) aL aS aW pD w:=
 KL (uS kn) aL aS aW pD w
def AE(kn:K3) aL aS aW pD w:=
 uT (B2 kn) aL aS aW pD w
theorem R4 (kn:K4)(hn:N4 Q kn 0 5 6 12)(h:uT kn (g 0) (g 5) (g 6) (g 12) w):cP pg dC (aQ 1 (aI 1 (bI (aI 1 (bI (bI (aQ 1 (aI 1 (aI 1 (aI 3 dA)))))))))) Q g w:=
 bZ 1 (eM (KQ (uS kn) 0 5 6 12 118 119 120) h (λg w h=>aE (qU 8 (R3 _ g w kn hn h))))
def Ii(kn:K4) aL aS aW w:=
 kn aL aS aW (aOo (-1)) w
def AF(kn:K3) aL aS aW w:=
 Ii (AE kn) aL aS aW w
def Ij(kn:K3)(k6:K1) aL aS aW w:=
 aA pg (aD .gtr 3 aG aG aW (aOo 0)) w λp7 w=>
 bQ p7
  (kn aL aS aW w)
  (k6 aS w)
def AG(kn:K3)(k6:K1) aL aS aW w:=
 Ij (AF kn) k6 aL aS aW w
def rS(k6:K1) aL aS aW w:=
 aX (λ(X:aOn->K0) (t:aOn) (w:aOm)=>AG (λ_ _ aW w=>X aW w) k6 aL aS t w) aW w
theorem Qh(k6:K1)(h6:E1 Q k6 6 5)(h:rS k6 (g 0) (g 5) (g 6) w):cP pg dC (bI (aQ 1 (aI 1 (aI 1 (aI 3 dA))))) Q g w:=by
 refine AR (λg:Env=>g 6) (λX t w=>AG (λ_ _ aW w=>X aW w) k6 (g 0) (g 5) t w) h (λX g1 w1 ha hL=> ?_)
 rw[<-cI 0 ha,<-cI 5 ha]at hL
 exact(bZ 1 (zO [(6,(UO k6 5))] (kr:=no) (UB (AF (λ_ _ aW w=>X aW w)) 0 5 6) hL (λg w h=>aE (qU 7 (bZ 1 (eM (AQ (AE (λ_ _ aW w=>X aW w)) 0 5 6 12) h (λg w h=>aE (bZ 1 (R4 _ g w (B2 (λ_ _ aW w=>X aW w)) (λg w h=>aE (eM (UB (λ_ _ aW w=>X aW w) 0 5 6) h cO)) h))))))) D1 ⟨h6,trivial⟩))
def mF(R:K1) aL aS aW w:=
 rS (B1 R) aL aS aW w
theorem Qi(kn:K1)(hn:N1 Q kn 5)(h:rS kn (g 0) (g 5) (g 6) w):cP pg dC (aQ 1 (aI 1 (aI 1 (aI 3 dA)))) Q g w:=
 qU 6 (Qh _ g w kn hn h)
def AH(kn:K3) aL aS aW mI w:=
 aA pg (aO 117 aS mI) w λo4 w=>
 aA pg (aH 3 o4) w λo5 w=>
 aA pg (aD .sub 3 aG aG (aOo 11) o5) w λo6 w=>
 aA pg (aD .sub 3 aG aG o6 (aOo 1)) w λo7 w=>
 aA pg (aD .shl 3 aG aG (aOo 1) o7) w λo8 w=>
 aA pg (aD .add 3 aG aG aW o8) w λo9 w=>
 aA pg (aO 117 aS mI) w λp2 w=>
 aA pg (aH 3 p2) w λp3 w=>
 aA pg (aD .add 3 aG aG p3 (aOo 1)) w λp4 w=>
 aA pg (aO 117 aS mI) w λp5 w=>
 aA pg (aM 3 p5 p4) w λ_u w=>
 kn aL aS o9 w
def AI(kn:K7) aL aS aW mI f9 i0 i1 w:=
 aA pg (aD .add 3 aG aG i1 (aOo 1)) w λo0 w=>
 kn aL aS aW mI f9 i0 o0 w
def Ik(kn:K7)(k4:K4) aL aS aW mI f9 i0 i1 w:=
 aA pg (aD .lss 3 aG aG i1 i0) w λi2 w=>
 bQ i2
  (aA pg (aO 128 f9 i1) w λi4 w=>
  aA pg (aH 38 i4) w λi5 w=>
  (dr w)=(dr w)/\
  aA pg (aD .gtr 38 aG aG i5 (.int .u32 0)) (dr w) λi7 w_=>w_=(dr w)/\
  (dr w)=(dr w)/\
  Gd (bK i7 true) (λK=>K aS (dr w)) (dr w) λi9 w_=>w_=(dr w)/\
  Gd (bK i7 true) (λK=>K i1 (dr w)) (dr w) λj0 w_=>w_=(dr w)/\
  Gd (bK i7 true) (λK=>aA pg (aO 117 i9 j0) (dr w) K) (dr w) λj1 w_=>w_=(dr w)/\
  Gd (bK i7 true) (λK=>aA pg (aH 3 j1) (dr w) K) (dr w) λj2 w_=>w_=(dr w)/\
  Gd (bK i7 true) (λK=>aA pg (aD .lss 3 aG aG j2 (aOo 11)) (dr w) K) (dr w) λj3 w_=>w_=(dr w)/\
  aA pg (cD i7 j3 (.bool false)) (dr w) λj4 w_=>w_=(dr w)/\
  (dr w)=(dr w)/\
  Gd (bK j4 true) (λK=>K mI (dr w)) (dr w) λj6 w_=>w_=(dr w)/\
  Gd (bK j4 true) (λK=>aA pg (aD .lss 3 aG aG j6 (aOo 0)) (dr w) K) (dr w) λj7 w_=>w_=(dr w)/\
  Gd (bK j4 true) (λK=>K j7 (dr w)) (dr w) λj8 w_=>w_=(dr w)/\
  Gd (bK j8 false) (λK=>K aS (dr w)) (dr w) λj9 w_=>w_=(dr w)/\
  Gd (bK j8 false) (λK=>K i1 (dr w)) (dr w) λl0 w_=>w_=(dr w)/\
  Gd (bK j8 false) (λK=>aA pg (aO 117 j9 l0) (dr w) K) (dr w) λl1 w_=>w_=(dr w)/\
  Gd (bK j8 false) (λK=>aA pg (aH 3 l1) (dr w) K) (dr w) λl2 w_=>w_=(dr w)/\
  Gd (bK j8 false) (λK=>K aS (dr w)) (dr w) λl3 w_=>w_=(dr w)/\
  Gd (bK j8 false) (λK=>K mI (dr w)) (dr w) λl4 w_=>w_=(dr w)/\
  Gd (bK j8 false) (λK=>aA pg (aO 117 l3 l4) (dr w) K) (dr w) λl5 w_=>w_=(dr w)/\
  Gd (bK j8 false) (λK=>aA pg (aH 3 l5) (dr w) K) (dr w) λl6 w_=>w_=(dr w)/\
  Gd (bK j8 false) (λK=>aA pg (aD .gtr 3 aG aG l2 l6) (dr w) K) (dr w) λl7 w_=>w_=(dr w)/\
  Gd (bK j4 true) (λK=>aA pg (cD j8 (.bool true) l7) (dr w) K) (dr w) λl8 w_=>w_=(dr w)/\
  Gd (bK j4 true) (λK=>K l8 (dr w)) (dr w) λl9 w_=>w_=(dr w)/\
  Gd (bK l9 false) (λK=>K aS (dr w)) (dr w) λm0 w_=>w_=(dr w)/\
  Gd (bK l9 false) (λK=>K i1 (dr w)) (dr w) λm1 w_=>w_=(dr w)/\
  Gd (bK l9 false) (λK=>aA pg (aO 117 m0 m1) (dr w) K) (dr w) λm2 w_=>w_=(dr w)/\
  Gd (bK l9 false) (λK=>aA pg (aH 3 m2) (dr w) K) (dr w) λm3 w_=>w_=(dr w)/\
  Gd (bK l9 false) (λK=>K aS (dr w)) (dr w) λm4 w_=>w_=(dr w)/\
  Gd (bK l9 false) (λK=>K mI (dr w)) (dr w) λm5 w_=>w_=(dr w)/\
  Gd (bK l9 false) (λK=>aA pg (aO 117 m4 m5) (dr w) K) (dr w) λm6 w_=>w_=(dr w)/\
  Gd (bK l9 false) (λK=>aA pg (aH 3 m6) (dr w) K) (dr w) λm7 w_=>w_=(dr w)/\
  Gd (bK l9 false) (λK=>aA pg (aD .eql 3 (.tmp 83) (.tmp 87) m3 m7) (dr w) K) (dr w) λm8 w_=>w_=(dr w)/\
  Gd (bK l9 false) (λK=>K m8 (dr w)) (dr w) λm9 w_=>w_=(dr w)/\
  Gd (bK m9 true) (λK=>K i5 (dr w)) (dr w) λn0 w_=>w_=(dr w)/\
  Gd (bK m9 true) (λK=>K aL (dr w)) (dr w) λn1 w_=>w_=(dr w)/\
  Gd (bK m9 true) (λK=>K mI (dr w)) (dr w) λn2 w_=>w_=(dr w)/\
  Gd (bK m9 true) (λK=>aA pg (aO 128 n1 n2) (dr w) K) (dr w) λn3 w_=>w_=(dr w)/\
  Gd (bK m9 true) (λK=>aA pg (aH 38 n3) (dr w) K) (dr w) λn4 w_=>w_=(dr w)/\
  Gd (bK m9 true) (λK=>aA pg (aD .lss 38 aG aG n0 n4) (dr w) K) (dr w) λn5 w_=>w_=(dr w)/\
  Gd (bK l9 false) (λK=>aA pg (cD m9 n5 (.bool false)) (dr w) K) (dr w) λn6 w_=>w_=(dr w)/\
  Gd (bK j4 true) (λK=>aA pg (cD l9 (.bool true) n6) (dr w) K) (dr w) λn7 w_=>w_=(dr w)/\
  aA pg (cD j4 n7 (.bool false)) (dr w) λn8 w_=>w_=(dr w)/\
  bQ n8
   (kn aL aS aW i1 f9 i0 i1 (dr w))
   (kn aL aS aW mI f9 i0 i1 (dr w)))
  (k4 aL aS aW mI w)
def AJ(kn:K7)(k4:K4) aL aS aW mI f9 i0 i1 w:=
 Ik (AI kn) k4 aL aS aW mI f9 i0 i1 w
def rT(k4:K4) aL aS aW mI f9 i0 i1 w:=
 aX (λ(X:(aOn×aOn)->K0) (t:aOn×aOn) (w:aOm)=>AJ (λ_ _ _ mI _ _ i1 w=>X (mI,i1) w) k4 aL aS aW t.1 f9 i0 t.2 w) (mI,i1) w
theorem Qj(k4:K4)(h4:E4 Q k4 4 0 5 6 9)(h:rT k4 (g 0) (g 5) (g 6) (g 9) (g 49) (g 50) (g 51) w):cP pg dC (bI (aI 1 (aQ 1 (aI 1 (bI (aI 1 (bI (bI (aQ 1 (aI 1 (aI 3 dA))))))))))) Q g w:=by
 refine AR (λg:Env=>(g 9,g 51)) (λX t w=>AJ (λ_ _ _ mI _ _ i1 w=>X (mI,i1) w) k4 (g 0) (g 5) (g 6) t.1 (g 49) (g 50) t.2 w) h (λX g1 w1 ha hL=> ?_)
 rw[<-cI 0 ha,<-cI 5 ha,<-cI 6 ha,<-cI 49 ha,<-cI 50 ha]at hL
 exact(bZ 3 (zO [(4,(AQ k4 0 5 6 9))] (kr:=no) (KQ (AI (λ_ _ _ mI _ _ i1 w=>X (mI,i1) w)) 0 5 6 9 49 50 51) hL (λg w h=>aE (eM (KQ (λ_ _ _ mI _ _ i1 w=>X (mI,i1) w) 0 5 6 9 49 50 51) h cO)) D1 ⟨h4,trivial⟩))
def Il(kn:K7) aL aS aW mI w:=
 aA pg (dD .len #[128] 3 [aL]) w λi0 w=>
 kn aL aS aW mI aL i0 (aOo 0) w
def rU(kn:K4) aL aS aW mI w:=
 Il (rT kn) aL aS aW mI w
def AK(kn:K3) aL aS aW mI w:=
 rU (AH kn) aL aS aW mI w
theorem Qk(kn:K4)(hn:N4 Q kn 0 5 6 9)(h:rU kn (g 0) (g 5) (g 6) (g 9) w):cP pg dC (aQ 1 (aI 1 (bI (aI 1 (bI (bI (aQ 1 (aI 1 (aI 3 dA))))))))) Q g w:=
 bZ 1 (eM (KQ (rT kn) 0 5 6 9 49 50 51) h (λg w h=>aE (qU 4 (Qj _ g w kn hn h))))
def Im(kn:K4) aL aS aW w:=
 kn aL aS aW (aOo (-1)) w
def AL(kn:K3) aL aS aW w:=
 Im (AK kn) aL aS aW w
def Io(kn:K3)(k2:K3) aL aS aW w:=
 aA pg (aD .lss 3 aG aG aW (aOo 0)) w λf8 w=>
 bQ f8
  (kn aL aS aW w)
  (k2 aL aS aW w)
def AM(kn:K3)(k2:K3) aL aS aW w:=
 Io (AL kn) k2 aL aS aW w
def rV(k2:K3) aL aS aW w:=
 aX (λ(X:aOn->K0) (t:aOn) (w:aOm)=>AM (λ_ _ aW w=>X aW w) k2 aL aS t w) aW w
theorem Ql(k2:K3)(h2:E3 Q k2 2 0 5 6)(h:rV k2 (g 0) (g 5) (g 6) w):cP pg dC (bI (aQ 1 (aI 1 (aI 3 dA)))) Q g w:=by
 refine AR (λg:Env=>g 6) (λX t w=>AM (λ_ _ aW w=>X aW w) k2 (g 0) (g 5) t w) h (λX g1 w1 ha hL=> ?_)
 rw[<-cI 0 ha,<-cI 5 ha]at hL
 exact(bZ 1 (zO [(2,(UB k2 0 5 6))] (kr:=no) (UB (AL (λ_ _ aW w=>X aW w)) 0 5 6) hL (λg w h=>aE (qU 3 (bZ 1 (eM (AQ (AK (λ_ _ aW w=>X aW w)) 0 5 6 9) h (λg w h=>aE (bZ 1 (Qk _ g w (AH (λ_ _ aW w=>X aW w)) (λg w h=>aE (eM (UB (λ_ _ aW w=>X aW w) 0 5 6) h cO)) h))))))) D1 ⟨h2,trivial⟩))
def mG(R:K1) aL aS aW w:=
 rV (mF R) aL aS aW w
theorem Qm(kn:K3)(hn:N3 Q kn 0 5 6)(h:rV kn (g 0) (g 5) (g 6) w):cP pg dC (aQ 1 (aI 1 (aI 3 dA))) Q g w:=
 qU 2 (Ql _ g w kn hn h)
def AN(kn:K7) aL pE aS aW c8 c9 d0 w:=
 aA pg (aD .add 3 aG aG d0 (aOo 1)) w λf6 w=>
 kn aL pE aS aW c8 c9 f6 w
def Ip(kn:K7)(k0:K3) aL pE aS aW c8 c9 d0 w:=
 aA pg (aD .lss 3 aG aG d0 c9) w λd1 w=>
 bQ d1
  (aA pg (aO 128 c8 d0) w λd3 w=>
  aA pg (aH 38 d3) w λd4 w=>
  aA pg (aD .gtr 38 aG aG d4 (.int .u32 0)) w λd6 w=>
  bQ d6
   (aA pg (aD .sub 32 aG aG pE (.int .u64 1)) w λe0 w=>
   aA pg (cH 38 32 d4) w λe2 w=>
   aA pg (aD .quo 32 aG aG e0 e2) w λe3 w=>
   aK pg pR #[e3] w λe4 w=>
   aA pg (dD .max #[3,3] 3 [e4,(aOo 1)]) w λe5 w=>
   aA pg (dD .min #[3,3] 3 [e5,(aOo 11)]) w λe6 w=>
   aA pg (aO 117 aS d0) w λe7 w=>
   aA pg (aM 3 e7 e6) w λ_u w=>
   aA pg (aO 117 aS d0) w λf1 w=>
   aA pg (aH 3 f1) w λf2 w=>
   aA pg (aD .sub 3 aG aG (aOo 11) f2) w λf3 w=>
   aA pg (aD .shl 3 aG aG (aOo 1) f3) w λf4 w=>
   aA pg (aD .sub 3 aG aG aW f4) w λf5 w=>
   kn aL pE aS f5 c8 c9 d0 w)
   (kn aL pE aS aW c8 c9 d0 w))
  (k0 aL aS aW w)
def AO(kn:K7)(k0:K3) aL pE aS aW c8 c9 d0 w:=
 Ip (AN kn) k0 aL pE aS aW c8 c9 d0 w
def rW(k0:K3) aL pE aS aW c8 c9 d0 w:=
 aX (λ(X:(aOn×aOn)->K0) (t:aOn×aOn) (w:aOm)=>AO (λ_ _ _ aW _ _ d0 w=>X (aW,d0) w) k0 aL pE aS t.1 c8 c9 t.2 w) (aW,d0) w
theorem Qn(k0:K3)(h0:E3 Q k0 0 0 5 6)(h:rW k0 (g 0) (g 1) (g 5) (g 6) (g 18) (g 19) (g 20) w):cP pg dC (bI (aI 1 (aQ 1 (aI 3 dA)))) Q g w:=by
 refine AR (λg:Env=>(g 6,g 20)) (λX t w=>AO (λ_ _ _ aW _ _ d0 w=>X (aW,d0) w) k0 (g 0) (g 1) (g 5) t.1 (g 18) (g 19) t.2 w) h (λX g1 w1 ha hL=> ?_)
 rw[<-cI 0 ha,<-cI 1 ha,<-cI 5 ha,<-cI 18 ha,<-cI 19 ha]at hL
 exact(bZ 3 (zO [(0,(UB k0 0 5 6))] (kr:=no) (KQ (AN (λ_ _ _ aW _ _ d0 w=>X (aW,d0) w)) 0 1 5 6 18 19 20) hL (λg w h=>aE (eM (KQ (λ_ _ _ aW _ _ d0 w=>X (aW,d0) w) 0 1 5 6 18 19 20) h cO)) D1 ⟨h0,trivial⟩))
def Iq(kn:K7) aL pE aS aW w:=
 aA pg (dD .len #[128] 3 [aL]) w λc9 w=>
 kn aL pE aS aW aL c9 (aOo 0) w
def AP(kn:K3) aL pE aS aW w:=
 Iq (rW kn) aL pE aS aW w
def rX(R:K1) aL pE aS aW w:=
 AP (mG R) aL pE aS aW w
theorem Qo(kn:K3)(hn:N3 Q kn 0 5 6)(h:AP kn (g 0) (g 1) (g 5) (g 6) w):cP pg dC (aQ 1 (aI 3 dA)) Q g w:=
 bZ 1 (eM (KQ (rW kn) 0 1 5 6 18 19 20) h (λg w h=>aE (qU 0 (Qn _ g w kn hn h))))
def Ir(kn:K4) aL pE w:=
 aA pg (dD .len #[128] 3 [aL]) w λc6 w=>
 aA pg (iX 117 c6 c6) w λc7 w=>
 kn aL pE c7 (aOo 2048) w
def Is(R:K1) aL pE w:=
 Ir (rX R) aL pE w
def Ri a0 a1 w(R:K1):=
 Is R a0 a1 w
theorem Us{a0 a1 w R}(h:Ri a0 a1 w R):aK pg wZ #[a0,a1] w R:=
 lC (ann:=dC) Tryz.f84 dA [a0,a1] XF 188 TryzM.mixed Tryz.func84 (bZ 3 (eM (AQ (rX R) 0 1 5 6) h (λg w h=>aE (bZ 1 (Qo _ g w (mG R) (λg w h=>aE (bZ 1 (Qm _ g w (mF R) (λg w h=>aE (bZ 1 (Qi _ g w (B1 R) (λg w h=>aE (lX h cO)) h))) h))) h)))))
def Aj:FA:=⟨wY,λi=> .leaf ([],[]) []⟩
def XE:List ResultVar:=[.tmp 2]
noncomputable def yH:Code:=aY Tryz.f85
def BV(R:K1) RH w:=
 R RH w
def BW(kn:K3)(k0:K1) fY RH UD w:=
 aA pg (dD .len #[117] 3 [fY]) w λc4 w=>
 aA pg (aD .lss 3 aG aG UD c4) w λc5 w=>
 bQ c5
  (aA pg (aO 117 fY UD) w λd1 w=>
  aA pg (aH 3 d1) w λd2 w=>
  aA pg (dD .max #[3,3] 3 [RH,d2]) w λd3 w=>
  aA pg (aD .add 3 aG aG UD (aOo 1)) w λc7 w=>
  kn fY d3 c7 w)
  (k0 RH w)
def uM(k0:K1) fY RH UD w:=
 aX (λ(X:(aOn×aOn)->K0) (t:aOn×aOn) (w:aOm)=>BW (λ_ RH UD w=>X (RH,UD) w) k0 fY t.1 t.2 w) (RH,UD) w
theorem R1 (k0:K1)(h0:E1 Q k0 0 3)(h:uM k0 (g 0) (g 3) (g 4) w):cP pg Aj (bI (aI 1 (aQ 1 (aI 1 (aI 2 yH))))) Q g w:=by
 refine AR (λg:Env=>(g 3,g 4)) (λX t w=>BW (λ_ RH UD w=>X (RH,UD) w) k0 (g 0) t.1 t.2 w) h (λX g1 w1 ha hL=> ?_)
 rw[<-cI 0 ha]at hL
 exact(zO [(0,(UO k0 3))] (kr:=no) (UB (λ_ RH UD w=>X (RH,UD) w) 0 3 4) hL cO D1 ⟨h0,trivial⟩)
def Kt(kn:K3) fY RH w:=
 kn fY RH (aOo 1) w
def BX(kn:K1) fY RH w:=
 Kt (uM kn) fY RH w
def BY(R:K1) fY RH w:=
 BX (BV R) fY RH w
theorem R2 (kn:K1)(hn:N1 Q kn 3)(h:BX kn (g 0) (g 3) w):cP pg Aj (aQ 1 (aI 1 (aI 2 yH))) Q g w:=
 bZ 1 (eM (UB (uM kn) 0 3 4) h (λg w h=>aE (qU 0 (R1 _ g w kn hn h))))
def Ku(kn:K2) fY w:=
 aA pg (aO 117 fY (aOo 0)) w λc0 w=>
 aA pg (aH 3 c0) w λc1 w=>
 kn fY c1 w
def BZ(R:K1) fY w:=
 Ku (BY R) fY w
def Ie(kn:K1) fY w:=
 aA pg (dD .len #[117] 3 [fY]) w λb6 w=>
 aA pg (aD .lss 3 aG aG b6 (aOo 1)) w λb7 w=>
 bQ b7
  (aA pg (XH 9 (.string ⟨#[115,108,105,99,101,115,46,77,97,120,58,32,101,109,112,116,121,32,108,105,115,116]⟩)) w λb8 w=>
  aA pg (V (Instr.panic b8)) w λ_u w=>
  kn fY w)
  (kn fY w)
def Ig(R:K1) fY w:=
 Ie (BZ R) fY w
def Ra a0 w(R:K1):=
 Ig R a0 w
theorem T6 {a0 w R}(h:Ra a0 w R):aK pg wY #[a0] w R:=
 lC (ann:=Aj) Tryz.f85 yH [a0] XE 25 TryzM.mixed Tryz.func85 (bZ 2 (eM (UO (BZ R) 0) h (λg w h=>aE (bZ 1 (eM (Lg (BY R) 0 3) h (λg w h=>aE (bZ 1 (R2 _ g w (BV R) (λg w h=>aE (lX h cO)) h))))))))
def xB:FA:=⟨uZ,λi=> .leaf ([],[]) []⟩
def acO:List ResultVar:=[.tmp 2,.tmp 3]
noncomputable def tS:Code:=aY Tryz.f86
def FF(R:K1) aS w:=
 R (.tuple #[aS,(aOo 0)]) w
def zY(kn:K4) dB n_4 aS kR w:=
 aA pg (aD .add 3 aG aG kR (aOo 2)) w λd7 w=>
 kn dB n_4 aS d7 w
def zZ(kn:K4) dB n_4 aS kR c_7 w:=
 aA pg (bT 22 1 [(0,c_7)]) w λf6 w=>
 aA pg (dD .append #[22,22] 22 [aS,f6]) w λf7 w=>
 kn dB n_4 f7 kR w
def O0 (kn:K5) dB n_4 aS kR w:=
 aA pg (aO 22 dB kR) w λe0 w=>
 aA pg (aH 5 e0) w λe1 w=>
 aA pg (aD .shl 5 aG aG e1 (.int .u64 4)) w λe2 w=>
 aA pg (aD .add 3 aG aG kR (aOo 1)) w λe4 w=>
 aA pg (aD .lss 3 aG aG e4 n_4) w λe6 w=>
 bQ e6
  (aA pg (aD .add 3 aG aG kR (aOo 1)) w λf0 w=>
  aA pg (aO 22 dB f0) w λf1 w=>
  aA pg (aH 5 f1) w λf2 w=>
  aA pg (aD .or 5 aG aG e2 f2) w λf3 w=>
  kn dB n_4 aS kR f3 w)
  (kn dB n_4 aS kR e2 w)
def FG(kn:K4) dB n_4 aS kR w:=
 O0 (zZ kn) dB n_4 aS kR w
def FI(kn:K4) dB n_4 aS kR w:=
 FG (zY kn) dB n_4 aS kR w
theorem Vy(kn:K4)(hn:N4 Q kn 0 4 5 6)(h:FG kn (g 0) (g 4) (g 5) (g 6) w):cP pg xB (aQ 1 (aI 1 (bI (bI (aI 1 (aQ 1 (aI 4 tS))))))) Q g w:=
 qU 2 (bZ 2 (eM (O9 (zZ kn) 0 4 5 6 7) h (λg w h=>aE (eM _ h hn))))
def O1 (kn:K4)(k1:K1) dB n_4 aS kR w:=
 aA pg (aD .lss 3 aG aG kR n_4) w λd5 w=>
 bQ d5
  (kn dB n_4 aS kR w)
  (k1 aS w)
def FJ(kn:K4)(k1:K1) dB n_4 aS kR w:=
 O1 (FI kn) k1 dB n_4 aS kR w
def xQ(k1:K1) dB n_4 aS kR w:=
 aX (λ(X:(aOn×aOn)->K0) (t:aOn×aOn) (w:aOm)=>FJ (λ_ _ aS kR w=>X (aS,kR) w) k1 dB n_4 t.1 t.2 w) (aS,kR) w
theorem Uq(k1:K1)(h1:E1 Q k1 1 5)(h:xQ k1 (g 0) (g 4) (g 5) (g 6) w):cP pg xB (bI (aI 1 (aQ 1 (aI 4 tS)))) Q g w:=by
 refine AR (λg:Env=>(g 5,g 6)) (λX t w=>FJ (λ_ _ aS kR w=>X (aS,kR) w) k1 (g 0) (g 4) t.1 t.2 w) h (λX g1 w1 ha hL=> ?_)
 rw[<-cI 0 ha,<-cI 4 ha]at hL
 exact(bZ 1 (zO [(1,(UO k1 5))] (kr:=no) (AQ (FI (λ_ _ aS kR w=>X (aS,kR) w)) 0 4 5 6) hL (λg w h=>aE (bZ 1 (Vy _ g w (zY (λ_ _ aS kR w=>X (aS,kR) w)) (λg w h=>aE (eM (AQ (λ_ _ aS kR w=>X (aS,kR) w) 0 4 5 6) h cO)) h))) D1 ⟨h1,trivial⟩))
def LV(kn:K4) dB n_4 aS w:=
 kn dB n_4 aS (aOo 0) w
def DW(kn:K1) dB n_4 aS w:=
 LV (xQ kn) dB n_4 aS w
def DX(R:K1) dB n_4 aS w:=
 DW (FF R) dB n_4 aS w
theorem Ur(kn:K1)(hn:N1 Q kn 5)(h:DW kn (g 0) (g 4) (g 5) w):cP pg xB (aQ 1 (aI 4 tS)) Q g w:=
 bZ 1 (eM (AQ (xQ kn) 0 4 5 6) h (λg w h=>aE (qU 1 (Uq _ g w kn hn h))))
def DY(kn:K3)(R:K1) dB w:=
 aK pg vA #[dB] w λc0 w=>
 aA pg (aD .eql 3 (.tmp 10) (.const (aOo 0)) c0 (aOo 0)) w λc1 w=>
 bQ c1
  (R (.tuple #[(.slice none 0 0),(aOo 1)]) w)
  (aA pg (dD .len #[22] 3 [dB]) w λc4 w=>
  aA pg (aD .gtr 3 aG aG c4 (aOo 129)) w λc5 w=>
  bQ c5
   (R (.tuple #[(.slice none 0 0),(aOo 12)]) w)
   (aA pg (dD .len #[22] 3 [dB]) w λc7 w=>
   aA pg (aD .sub 3 aG aG c7 (aOo 1)) w λc8 w=>
   aA pg (aD .add 3 aG aG (aOo 127) c8) w λd0 w=>
   aA pg (cH 3 5 d0) w λd1 w=>
   aA pg (bT 22 1 [(0,d1)]) w λd2 w=>
   kn dB c8 d2 w))
def DZ(R:K1) dB w:=
 DY (DX R) R dB w
def M7 a0 w(R:K1):=
 DZ R a0 w
theorem KJ{a0 w R}(h:M7 a0 w R):aK pg uZ #[a0] w R:=
 lC (ann:=xB) Tryz.f86 tS [a0] acO 49 TryzM.mixed Tryz.func86 (bZ 4 (Mn (UB (DX R) 0 4 5) h (λg w h=>aE (bZ 1 (Ur _ g w (FF R) (λg w h=>aE (lX h cO)) h))) cO))
def Rr:FA:=⟨rK,λi=> .leaf ([],[]) []⟩
def TU:List ResultVar:=[.tmp 4,.tmp 5]
noncomputable def Pt:Code:=aY Tryz.f87
def GI(R:K1) dB bN w:=
 aA pg (dD .len #[22] 3 [bN]) w λb7 w=>
 aA pg (aD .lss 3 aG aG b7 (aOo 256)) w λb8 w=>
 bQ b8
  (aK pg FR #[dB,bN] w λc1 w=>
  aA pg (aV c1 0) w λc2 w=>
  aA pg (aV c1 1) w λc3 w=>
  R (.tuple #[c2,c3]) w)
  (aK pg Cx #[dB,bN] w λc6 w=>
  aA pg (aV c6 0) w λc7 w=>
  aA pg (aV c6 1) w λc8 w=>
  R (.tuple #[c7,c8]) w)
def LI a0 a1 w(R:K1):=
 GI R a0 a1 w
theorem PN{a0 a1 w R}(h:LI a0 a1 w R):aK pg rK #[a0,a1] w R:=
 lC (ann:=Rr) Tryz.f87 Pt [a0,a1] TU 19 TryzM.mixed Tryz.func87 (lX h cO)
def Sf:FA:=⟨nI,λi=> .leaf ([],[]) []⟩
def Vq:List ResultVar:=[.cell 2 44]
noncomputable def Rz:Code:=aY Tryz.f88
def H8 (R:K1) lY w:=
 aA pg (Ba 84 lY) w λs_1 w=>
 aA pg (bG 44) w λb2 w=>
 aA pg (aJ 84 s_1 0) w λb3 w=>
 aA pg (aH 38 b3) w λb4 w=>
 aA pg (aJ 84 s_1 2) w λb5 w=>
 aA pg (aH 38 b5) w λb6 w=>
 aA pg (aJ 84 s_1 1) w λb7 w=>
 aA pg (aH 38 b7) w λb8 w=>
 aA pg (bH 44 [(0,b4),(1,b6),(2,b8)]) w λb9 w=>
 aA pg (aM 44 b2 b9) w λ_u w=>
 vV pg 44 b2 w λr0=>R r0 w
def OL a0 w(R:K1):=
 H8 R a0 w
theorem RZ{a0 w R}(h:OL a0 w R):aK pg nI #[a0] w R:=
 lC (ann:=Sf) Tryz.f88 Rz [a0] Vq 10 TryzM.mixed Tryz.func88 (lX h cO)
def Pd:FA:=⟨O7,λi=>match Nat.beq i 8 with|true=> .leaf ([],[]) (fz 8 [])|false=> .leaf ([],[]) []⟩
def TN:List ResultVar:=[.tmp 4,.tmp 5,.tmp 6]
noncomputable def L5:Code:=aY Tryz.f89
def Sy(R:K1) w:=
 R (.tuple #[(aOo 0),(.int .u32 0),(aOo 17)]) w
def Sz(kn:K5)(k1:K0)(R:K1) iA Gi i8 i9 j0 w:=
 aA pg (aD .lss 3 aG aG j0 i9) w λj1 w=>
 bQ j1
  (aA pg (aO 117 i8 j0) w λj3 w=>
  aA pg (aH 3 j3) w λj4 w=>
  aA pg (aD .shl 38 aG aG (.int .u32 1) j4) w λj7 w=>
  aA pg (aD .lss 38 aG aG iA j7) w λj8 w=>
  bQ j8
   (aA pg (aD .add 3 aG aG Gi j0) w λl1 w=>
   R (.tuple #[l1,iA,(aOo 0)]) w)
   (aA pg (aD .shl 38 aG aG (.int .u32 1) j4) w λl5 w=>
   aA pg (aD .sub 38 aG aG iA l5) w λl6 w=>
   aA pg (aD .add 3 aG aG j0 (aOo 1)) w λl7 w=>
   kn l6 Gi i8 i9 l7 w))
  (k1 w)
def Ll(k1:K0)(R:K1) iA Gi i8 i9 j0 w:=
 aX (λ(X:(aOn×aOn)->K0) (t:aOn×aOn) (w:aOm)=>Sz (λiA _ _ _ j0 w=>X (iA,j0) w) k1 R t.1 Gi i8 i9 t.2 w) (iA,j0) w
theorem ahK(k1:K0)(R:K1)(h1:E0 Q k1 1)(hr:HR TN R Q)(h:Ll k1 R (g 1) (g 7) (g 58) (g 59) (g 60) w):cP pg Pd (bI (aI 1 (aQ 1 (aI 6 L5)))) Q g w:=by
 refine AR (λg:Env=>(g 1,g 60)) (λX t w=>Sz (λiA _ _ _ j0 w=>X (iA,j0) w) k1 R t.1 (g 7) (g 58) (g 59) t.2 w) h (λX g1 w1 ha hL=> ?_)
 rw[<-cI 7 ha,<-cI 58 ha,<-cI 59 ha]at hL
 exact(zO [(1,(Mq0 k1))] (O9 (λiA _ _ _ j0 w=>X (iA,j0) w) 1 7 58 59 60) hL cO hr ⟨h1,trivial⟩)
def adI(kn:K5) iA Gi abT w:=
 aA pg (dD .len #[117] 3 [abT]) w λi9 w=>
 kn iA Gi abT i9 (aOo 0) w
def SB(kn:K0)(R:K1) iA Gi abT w:=
 adI (Ll kn R) iA Gi abT w
def SC(R:K1) iA Gi abT w:=
 SB (Sy R) R iA Gi abT w
theorem ahL(kn:K0)(R:K1)(hn:N0 Q kn)(hr:HR TN R Q)(h:SB kn R (g 1) (g 7) (g 9) w):cP pg Pd (aQ 1 (aI 6 L5)) Q g w:=
 bZ 1 (eM (O9 (Ll kn R) 1 7 58 59 60) h (λg w h=>aE (qU 1 (ahK _ g w kn R hn hr h))))
def adJ(kn:K3)(R:K1) bF iA w:=
 aK pg B5 #[bF] w λc5 w=>
 aA pg (aV c5 0) w λc6 w=>
 aA pg (aV c5 1) w λc7 w=>
 aA pg (aV c5 2) w λc8 w=>
 aK pg zB #[bF] w λd1 w=>
 aA pg (aD .lss 3 aG aG d1 (aOo 0)) w λd2 w=>
 bQ d2
  (R (.tuple #[(aOo 0),(.int .u32 0),(aOo 1)]) w)
  (aA pg (aD .eql 3 (.tmp 24) (.const (aOo 1)) bF (aOo 1)) w λd5 w=>
  Gd (bK d5 true) (λK=>K iA w) w λd7 w=>
  Gd (bK d5 true) (λK=>aA pg (aD .eql 38 (.tmp 27) (.const (.int .u32 0)) d7 (.int .u32 0)) w K) w λd8 w=>
  aA pg (cD d5 d8 (.bool false)) w λd9 w=>
  bQ d9
   (R (.tuple #[(aOo 0),(.int .u32 0),(aOo 17)]) w)
   (aA pg (aD .eql 3 (.tmp 31) (.const (aOo 1)) bF (aOo 1)) w λe2 w=>
   bQ e2
    (aK pg pQ #[iA] w λe4 w=>
    aA pg (aD .sub 3 aG aG e4 (aOo 1)) w λe5 w=>
    (dr w)=(dr w)/\
    (dr w)=(dr w)/\
    (dr w)=(dr w)/\
    aA pg (aD .shl 38 aG aG (.int .u32 1) e5) (dr w) λe9 w_=>w_=(dr w)/\
    aA pg (aD .sub 38 aG aG iA e9) (dr w) λf0 w_=>w_=(dr w)/\
    (dr w)=(dr w)/\
    (dr w)=(dr w)/\
    (dr w)=(dr w)/\
    R (.tuple #[e5,f0,(aOo 0)]) (dr w))
    (aA pg (aD .lss 38 aG aG iA c7) w λf4 w=>
    bQ f4
     (R (.tuple #[(aOo 0),(.int .u32 0),(aOo 17)]) w)
     (aA pg (aD .sub 38 aG aG iA c7) w λf7 w=>
     aA pg (cH 3 38 c6) w λi0 w=>
     aA pg (aD .lss 38 aG aG f7 i0) w λi1 w=>
     bQ i1
      (aA pg (cH 38 3 f7) w λi3 w=>
      R (.tuple #[i3,(.int .u32 0),(aOo 0)]) w)
      (aA pg (cH 3 38 c6) w λi6 w=>
      aA pg (aD .sub 38 aG aG f7 i6) w λi7 w=>
      kn i7 c6 c8 w)))))
def adK(R:K1) bF iA w:=
 adJ (SC R) R bF iA w
def asR a0 a1 w(R:K1):=
 adK R a0 a1 w
theorem alA{a0 a1 w R}(h:asR a0 a1 w R):aK pg O7 #[a0,a1] w R:=
 lC (ann:=Pd) Tryz.f89 L5 [a0,a1] TN 78 TryzM.mixed Tryz.func89 (bZ 6 (Mn (UB (SC R) 1 7 9) h (λg w h=>aE (bZ 1 (ahL _ g w (Sy R) R (λg w h=>aE (lX h cO)) cO h))) cO))
def agW:FA:=⟨zB,λi=> .leaf ([],[]) []⟩
def alN:List ResultVar:=[.tmp 2]
noncomputable def aeR:Code:=aY Tryz.f90
def VL(R:K1) bF w:=
 aA pg (aD .eql 3 (.tmp 6) (.const (aOo 1)) bF (aOo 1)) w λb7 w=>
 bQ b7
  (R (aOo 31) w)
  (aK pg B5 #[bF] w λc0 w=>
  aA pg (aV c0 0) w λc1 w=>
  aA pg (aV c0 1) w λc2 w=>
  aA pg (aV c0 2) w λc3 w=>
  aA pg (dD .len #[117] 3 [c3]) w λc6 w=>
  aA pg (aD .add 3 aG aG c1 c6) w λc7 w=>
  aA pg (aD .sub 3 aG aG c7 (aOo 1)) w λc8 w=>
  R c8 w)
def ahJ a0 w(R:K1):=
 VL R a0 w
theorem aeV{a0 w R}(h:ahJ a0 w R):aK pg zB #[a0] w R:=
 lC (ann:=agW) Tryz.f90 aeR [a0] alN 19 TryzM.mixed Tryz.func90 (lX h cO)
def aaG:FA:=⟨CD,λi=> .leaf ([],[]) []⟩
def afY:List ResultVar:=[.cell 2 162]
noncomputable def Yk:Code:=aY Tryz.f91
def Rg(R:K1) bF w:=
 aA pg (bG 162) w λb2 w=>
 aA pg (aD .eql 3 (.tmp 6) (.const (aOo 0)) bF (aOo 0)) w λb8 w=>
 bQ b8
  (aA pg (aH 190 (.pointer (some ⟨0,0,none⟩))) w λb9 w=>
  aA pg (bG 190) w λl_3 w=>
  aA pg (aM 190 l_3 b9) w λ_u w=>
  aA pg (bP 190 l_3 none none none) w λc0 w=>
  aA pg (bH 162 [(0,(aOo 6)),(1,c0)]) w λc1 w=>
  aA pg (aM 162 b2 c1) w λ_u w=>
  vV pg 162 b2 w λr0=>R r0 w)
  (aA pg (aD .eql 3 (.tmp 6) (.const (aOo 1)) bF (aOo 1)) w λc3 w=>
  bQ c3
   (aA pg (aH 191 (.pointer (some ⟨1,0,none⟩))) w λc4 w=>
   aA pg (bG 191) w λl_4 w=>
   aA pg (aM 191 l_4 c4) w λ_u w=>
   aA pg (bP 191 l_4 none none none) w λc5 w=>
   aA pg (bH 162 [(0,(aOo 5)),(1,c5)]) w λc6 w=>
   aA pg (aM 162 b2 c6) w λ_u w=>
   vV pg 162 b2 w λr0=>R r0 w)
   (aA pg (aD .eql 3 (.tmp 6) (.const (aOo 2)) bF (aOo 2)) w λc8 w=>
   bQ c8
    (aA pg (aH 192 (.pointer (some ⟨2,0,none⟩))) w λc9 w=>
    aA pg (bG 192) w λl_5 w=>
    aA pg (aM 192 l_5 c9) w λ_u w=>
    aA pg (bP 192 l_5 none none none) w λd0 w=>
    aA pg (bH 162 [(0,(aOo 6)),(1,d0)]) w λd1 w=>
    aA pg (aM 162 b2 d1) w λ_u w=>
    vV pg 162 b2 w λr0=>R r0 w)
    (aA pg (bH 162 []) w λd2 w=>
    aA pg (aM 162 b2 d2) w λ_u w=>
    vV pg 162 b2 w λr0=>R r0 w)))
def ZM a0 w(R:K1):=
 Rg R a0 w
theorem ZN{a0 w R}(h:ZM a0 w R):aK pg CD #[a0] w R:=
 lC (ann:=aaG) Tryz.f91 Yk [a0] afY 23 TryzM.mixed Tryz.func91 (lX h cO)
def asG:FA:=⟨IN,λi=> .leaf ([],[]) []⟩
def azJ:List ResultVar:=[.cell 2 106]
noncomputable def aoN:Code:=aY Tryz.f92
def ahZ(R:K1) aE6 w:=
 aA pg (bG 106) w λb2 w=>
 aA pg (bH 194 [(0,aE6)]) w λb4 w=>
 aA pg (bT 104 1 [(0,b4)]) w λb5 w=>
 aA pg (bH 106 [(1,b5)]) w λb6 w=>
 aA pg (aM 106 b2 b6) w λ_u w=>
 vV pg 106 b2 w λr0=>R r0 w
def aAK a0 w(R:K1):=
 ahZ R a0 w
theorem apF{a0 w R}(h:aAK a0 w R):aK pg IN #[a0] w R:=
 lC (ann:=asG) Tryz.f92 aoN [a0] azJ 7 TryzM.mixed Tryz.func92 (lX h cO)
def vK:FA:=⟨B6,λi=>match Nat.beq i 3 with|true=> .split 3 5 (.perm [0,1,2,3,4,5,6] [(3,5)] ([3,5,6],[(0,3),(0,5),(1,3),(1,5),(4,5)]) (fz 3 (ft [1,2] (fz 1 (ft [0,3,4] (ft [] [])))))) (.perm [0,1,2,5,3,4,6] [(5,3)] ([3,4,6],[(0,3),(0,4),(1,3),(1,4),(2,3)]) (fz 3 (ft [0,1,2] (ft [2,3] (fz 1 (ft [] []))))))|false=>match Nat.beq i 16 with|true=> .leaf ([5,10],[(1,5),(2,5)]) (fz 5 (ft [2,3] (fz 4 (ft [] []))))|false=>match Nat.beq i 17 with|true=> .leaf ([13],[]) (fz 13 (ft [] []))|false=> .leaf ([],[]) []⟩
def aqP:List ResultVar:=[.cell 2 106,.tmp 3]
noncomputable def nL:Code:=aY Tryz.f93
def PC(R:K1) b2 b4 w:=
 aA pg (aH 106 b4) w λn0 w=>
 aA pg (aM 106 b2 n0) w λ_u w=>
 vV pg 106 b2 w λr0=>R (.tuple #[r0,(aOo 0)]) w
def PD(kn:K6) fA b2 b4 eT f2 f3 w:=
 aA pg (aD .add 3 aG aG f3 (aOo 1)) w λm9 w=>
 kn fA b2 b4 eT f2 m9 w
def PE(kn:K6) fA b2 b4 eT x_9 aBZ f2 f3 w:=
 (dr w)=(dr w)/\
 (dr w)=(dr w)/\
 (dr w)=(dr w)/\
 aA pg (dS x_9) (dr w) λl9 w_=>w_=(dr w)/\
 aA pg (aJ 194 l9 1) (dr w) λm0 w_=>w_=(dr w)/\
 aA pg (aH 3 m0) (dr w) λm1 w_=>w_=(dr w)/\
 aA pg (aD .shl 3 aG aG aBZ m1) (dr w) λm2 w_=>w_=(dr w)/\
 aA pg (aJ 106 b4 1) (dr w) λm3 w_=>w_=(dr w)/\
 aA pg (aH 104 m3) (dr w) λm4 w_=>w_=(dr w)/\
 aA pg (dD .len #[104] 3 [m4]) (dr w) λm5 w_=>w_=(dr w)/\
 aA pg (aD .sub 3 aG aG m2 m5) (dr w) λm6 w_=>w_=(dr w)/\
 aA pg (dS x_9) (dr w) λm7 w_=>w_=(dr w)/\
 aA pg (aJ 194 m7 2) (dr w) λm8 w_=>w_=(dr w)/\
 aA pg (aM 3 m8 m6) (dr w) λ_u13 aIT=>
 kn fA b2 b4 eT f2 f3 aIT
def YA(kn:K8) fA b2 b4 eT x_9 aBZ f2 f3 w:=
 (dr w)=(dr w)/\
 aA pg (aJ 162 fA 0) (dr w) λj7 w_=>w_=(dr w)/\
 aA pg (aH 3 j7) (dr w) λj8 w_=>w_=(dr w)/\
 (dr w)=(dr w)/\
 aA pg (cH 3 50 aBZ) (dr w) λl0 w_=>w_=(dr w)/\
 aK pg pK #[l0] (dr w) λl1 Ue=>
 (dT pg (aH 3 j7) j8 Ue/\dT pg (aJ 162 fA 0) j7 Ue/\True)/\
 aA pg (aD .sub 3 aG aG j8 l1) Ue λl2 w_=>w_=Ue/\
 aA pg (aD .add 3 aG aG l2 (aOo 1)) Ue λl3 w_=>w_=Ue/\
 aA pg (dS x_9) Ue λl4 w_=>w_=Ue/\
 aA pg (aJ 194 l4 1) Ue λl5 w_=>w_=Ue/\
 aA pg (aM 3 l5 l3) Ue λ_u10 aIS=>
 kn fA b2 b4 eT x_9 aBZ f2 f3 aIS
def PF(kn:K6) fA b2 b4 eT x_9 aBZ f2 f3 w:=
 YA (PE kn) fA b2 b4 eT x_9 aBZ f2 f3 w
def YB(kn:K8) fA b2 b4 eT f2 f3 w:=
 aA pg (aJ 106 b4 1) w λf6 w=>
 aA pg (aH 104 f6) w λf7 w=>
 aA pg (aO 104 f7 f3) w λf9 w=>
 aA pg (dS f9) w λi2 w=>
 aA pg (aJ 194 i2 0) w λi3 w=>
 aA pg (aH 5 i3) w λi4 w=>
 aA pg (aO 117 eT i4) w λi5 w=>
 aA pg (aH 3 i5) w λi6 w=>
 aA pg (dS f9) w λi9 w=>
 aA pg (aJ 194 i9 0) w λj0 w=>
 aA pg (aH 5 j0) w λj1 w=>
 aA pg (aO 117 eT j1) w λj2 w=>
 aA pg (aH 3 j2) w λj3 w=>
 aA pg (aD .add 3 aG aG j3 (aOo 1)) w λj4 w=>
 aA pg (aO 117 eT j1) w λj5 w=>
 aA pg (aM 3 j5 j4) w λ_u w=>
 kn fA b2 b4 eT f9 i6 f2 f3 w
def PG(kn:K6) fA b2 b4 eT f2 f3 w:=
 YB (PF kn) fA b2 b4 eT f2 f3 w
def IC(kn:K6) fA b2 b4 eT f2 f3 w:=
 PG (PD kn) fA b2 b4 eT f2 f3 w
theorem afA(kn:K6)(hn:N6 Q kn 1 2 4 5 42 43)(h:PG kn (g 1) (g 2) (g 4) (g 5) (g 42) (g 43) w):cP pg vK (aQ 1 (aI 2 (bI (bI (aI 1 (aQ 1 (aI 1 (aI 1 (aI 3 nL))))))))) Q g w:=
 qU 3 (bZ 4 (eM (Mq8 (PF kn) 1 2 4 5 9 10 42 43) h (λg w h=>aE (bZ 1 (eM (Mq8 (PE kn) 1 2 4 5 9 10 42 43) h (λg w h=>aE (eM _ h hn)))))))
def V3 (kn:K6)(k2:K2) fA b2 b4 eT f2 f3 w:=
 aA pg (aD .lss 3 aG aG f3 f2) w λf4 w=>
 bQ f4
  (kn fA b2 b4 eT f2 f3 w)
  (k2 b2 b4 w)
def Mt(kn:K6)(k2:K2) fA b2 b4 eT f2 f3 w:=
 V3 (IC kn) k2 fA b2 b4 eT f2 f3 w
def F4 (k2:K2) fA b2 b4 eT f2 f3 w:=
 aX (λ(X:aOn->K0) (t:aOn) (w:aOm)=>Mt (λ_ _ _ _ _ f3 w=>X f3 w) k2 fA b2 b4 eT f2 t w) f3 w
theorem aaZ(k2:K2)(h2:E2 Q k2 2 2 4)(h:F4 k2 (g 1) (g 2) (g 4) (g 5) (g 42) (g 43) w):cP pg vK (bI (aI 1 (aQ 1 (aI 1 (aI 1 (aI 3 nL)))))) Q g w:=by
 refine AR (λg:Env=>g 43) (λX t w=>Mt (λ_ _ _ _ _ f3 w=>X f3 w) k2 (g 1) (g 2) (g 4) (g 5) (g 42) t w) h (λX g1 w1 ha hL=> ?_)
 rw[<-cI 1 ha,<-cI 2 ha,<-cI 4 ha,<-cI 5 ha,<-cI 42 ha]at hL
 exact(bZ 2 (zO [(2,(Lg k2 2 4))] (kr:=no) (UP (IC (λ_ _ _ _ _ f3 w=>X f3 w)) 1 2 4 5 42 43) hL (λg w h=>aE (bZ 1 (afA _ g w (PD (λ_ _ _ _ _ f3 w=>X f3 w)) (λg w h=>aE (eM (UP (λ_ _ _ _ _ f3 w=>X f3 w) 1 2 4 5 42 43) h cO)) h))) D1 ⟨h2,trivial⟩))
def V4 (kn:K6) fA b2 b4 eT w:=
 aA pg (aJ 106 b4 1) w λf0 w=>
 aA pg (aH 104 f0) w λf1 w=>
 aA pg (dD .len #[104] 3 [f1]) w λf2 w=>
 kn fA b2 b4 eT f2 (aOo 0) w
def Mu(kn:K2) fA b2 b4 eT w:=
 V4 (F4 kn) fA b2 b4 eT w
def F5 (R:K1) fA b2 b4 eT w:=
 Mu (PC R) fA b2 b4 eT w
theorem abA(kn:K2)(hn:N2 Q kn 2 4)(h:Mu kn (g 1) (g 2) (g 4) (g 5) w):cP pg vK (aQ 1 (aI 1 (aI 1 (aI 3 nL)))) Q g w:=
 bZ 1 (eM (UP (F4 kn) 1 2 4 5 42 43) h (λg w h=>aE (qU 2 (aaZ _ g w kn hn h))))
def F6 (kn:K7)(k0:K4) fA b2 b4 eT d5 d6 d7 w:=
 aA pg (aD .lss 3 aG aG d7 d6) w λd8 w=>
 bQ d8
  (aA pg (aO 117 d5 d7) w λe0 w=>
  aA pg (aH 3 e0) w λe1 w=>
  aA pg (sUn .neg e1) w λe6 w=>
  aA pg (dD .max #[3,3] 3 [e1,e6]) w λe7 w=>
  aA pg (aO 117 eT d7) w λe8 w=>
  aA pg (aM 3 e8 e7) w λ_u w=>
  aA pg (aD .add 3 aG aG d7 (aOo 1)) w λe9 w=>
  kn fA b2 b4 eT d5 d6 e9 w)
  (k0 fA b2 b4 eT w)
def F7 (k0:K4) fA b2 b4 eT d5 d6 d7 w:=
 aX (λ(X:aOn->K0) (t:aOn) (w:aOm)=>F6 (λ_ _ _ _ _ _ d7 w=>X d7 w) k0 fA b2 b4 eT d5 d6 t w) d7 w
theorem abB(k0:K4)(h0:E4 Q k0 0 1 2 4 5)(h:F7 k0 (g 1) (g 2) (g 4) (g 5) (g 25) (g 26) (g 27) w):cP pg vK (bI (aI 1 (aQ 1 (aI 1 (aI 3 nL))))) Q g w:=by
 refine AR (λg:Env=>g 27) (λX t w=>F6 (λ_ _ _ _ _ _ d7 w=>X d7 w) k0 (g 1) (g 2) (g 4) (g 5) (g 25) (g 26) t w) h (λX g1 w1 ha hL=> ?_)
 rw[<-cI 1 ha,<-cI 2 ha,<-cI 4 ha,<-cI 5 ha,<-cI 25 ha,<-cI 26 ha]at hL
 exact(zO [(0,(AQ k0 1 2 4 5))] (kr:=no) (KQ (λ_ _ _ _ _ _ d7 w=>X d7 w) 1 2 4 5 25 26 27) hL cO D1 ⟨h0,trivial⟩)
def V5 (kn:K7) fA b2 b4 eT w:=
 aA pg (aJ 162 fA 1) w λd4 w=>
 aA pg (aH 117 d4) w λd5 w=>
 aA pg (dD .len #[117] 3 [d5]) w λd6 w=>
 kn fA b2 b4 eT d5 d6 (aOo 0) w
def Mv(kn:K4) fA b2 b4 eT w:=
 V5 (F7 kn) fA b2 b4 eT w
def Mw(R:K1) fA b2 b4 eT w:=
 Mv (F5 R) fA b2 b4 eT w
theorem abC(kn:K4)(hn:N4 Q kn 1 2 4 5)(h:Mv kn (g 1) (g 2) (g 4) (g 5) w):cP pg vK (aQ 1 (aI 1 (aI 3 nL))) Q g w:=
 bZ 1 (eM (KQ (F7 kn) 1 2 4 5 25 26 27) h (λg w h=>aE (qU 0 (abB _ g w kn hn h))))
def V6 (kn:K4) fA b2 b4 w:=
 aA pg (aJ 162 fA 1) w λd0 w=>
 aA pg (aH 117 d0) w λd1 w=>
 aA pg (dD .len #[117] 3 [d1]) w λd2 w=>
 aA pg (iX 117 d2 d2) w λd3 w=>
 kn fA b2 b4 d3 w
def A6 (R:K1) fA b2 b4 w:=
 V6 (Mw R) fA b2 b4 w
def V7 (kn:K3)(R:K1) c_0 w:=
 aA pg (Ba 162 c_0) w λfA w=>
 aA pg (bG 106) w λb2 w=>
 aA pg (aH 162 fA) w λc1 w=>
 aK pg CA #[c1,(aOo 15)] w λc2 w=>
 aA pg (aD .neq 24 (.tmp 12) (.const (aOo 0)) c2 (aOo 0)) w λc3 w=>
 bQ c3
  (aA pg (bH 106 []) w λc4 w=>
  aA pg (aM 106 b2 c4) w λ_u w=>
  vV pg 106 b2 w λr0=>R (.tuple #[r0,(aOo 1)]) w)
  (Ord (aqE B6 3 (Kb 3 nL) 3 5 w)
   (aA pg (aJ 162 fA 0) (dr w) λc5 w_=>w_=(dr w)/\
   aA pg (aH 3 c5) (dr w) λc6 w_=>w_=(dr w)/\
   aA pg (aH 162 fA) (dr w) λc7 w_=>w_=(dr w)/\
   aK pg Cv #[c7] (dr w) λc8 XM=>
   (dT pg (aH 3 c5) c6 XM/\dT pg (aJ 162 fA 0) c5 XM/\True)/\
   aA pg (bH 106 [(0,c6),(1,c8)]) XM λc9 w_=>w_=XM/\
   aA pg (bG 106) XM λb4 aGY=>
   (dT pg (bH 106 [(0,c6),(1,c8)]) c9 aGY/\dT pg (aH 3 c5) c6 aGY/\dT pg (aJ 162 fA 0) c5 aGY/\True)/\
   aA pg (aM 106 b4 c9) aGY λ_u6 azY=>
   kn fA b2 b4 azY)
   (aA pg (aJ 162 fA 0) (dr w) λc5 w_=>w_=(dr w)/\
   aA pg (aH 3 c5) (dr w) λc6 w_=>w_=(dr w)/\
   aA pg (aH 162 fA) (dr w) λc7 w_=>w_=(dr w)/\
   aA pg (bG 106) (dr w) λb4 XM=>
   (dT pg (aH 162 fA) c7 XM/\dT pg (aH 3 c5) c6 XM/\dT pg (aJ 162 fA 0) c5 XM/\True)/\
   aK pg Cv #[c7] XM λc8 Ug=>
   (dT pg (aH 3 c5) c6 Ug/\dT pg (aJ 162 fA 0) c5 Ug/\True)/\
   aA pg (bH 106 [(0,c6),(1,c8)]) Ug λc9 w_=>w_=Ug/\
   aA pg (aM 106 b4 c9) Ug λ_u6 azY=>
   kn fA b2 b4 azY))
def V8 (R:K1) c_0 w:=
 V7 (A6 R) R c_0 w
def amS a0 w(R:K1):=
 V8 R a0 w
theorem ahX{a0 w R}(h:amS a0 w R):aK pg B6 #[a0] w R:=
 lC (ann:=vK) Tryz.f93 nL [a0] aqP 91 TryzM.mixed Tryz.func93 (bZ 3 (Mn (UB (A6 R) 1 2 4) h (λg w h=>aE (bZ 1 (eM (AQ (Mw R) 1 2 4 5) h (λg w h=>aE (bZ 1 (abC _ g w (F5 R) (λg w h=>aE (bZ 1 (abA _ g w (PC R) (λg w h=>aE (lX h cO)) h))) h)))))) cO))
def AU:FA:=⟨B7,λi=>match Nat.beq i 22 with|true=> .leaf ([],[]) (fz 11 [])|false=> .leaf ([],[]) []⟩
def aqQ:List ResultVar:=[.cell 4 162,.tmp 5]
noncomputable def yF:Code:=aY Tryz.f94
def IF(R:K1) b4 Hd gY cF w:=
 aA pg (aJ 162 Hd 1) w λq0 w=>
 aA pg (aH 117 q0) w λq1 w=>
 aA pg (aO 117 q1 cF) w λq3 w=>
 aA pg (aH 3 q3) w λq4 w=>
 aA pg (aD .add 3 aG aG q4 gY) w λq6 w=>
 aA pg (aO 117 q1 cF) w λq7 w=>
 aA pg (aM 3 q7 q6) w λ_u w=>
 aA pg (aH 162 Hd) w λq8 w=>
 aA pg (aM 162 b4 q8) w λ_u w=>
 vV pg 162 b4 w λr0=>R (.tuple #[r0,(aOo 0)]) w
def PS(kn:Z3) eP b4 gO b7 Hd gY cF l8 l9 m0 w:=
 aA pg (aD .add 3 aG aG m0 (aOo 1)) w λp9 w=>
 kn eP b4 gO b7 Hd gY cF l8 l9 p9 w
def Zd(kn:Z3)(k2:K4) eP b4 gO b7 Hd gY cF l8 l9 m0 w:=
 aA pg (aD .lss 3 aG aG m0 l9) w λm1 w=>
 bQ m1
  (aA pg (aO 128 l8 m0) w λm3 w=>
  aA pg (aH 38 m3) w λm4 w=>
  aA pg (aD .eql 38 (.tmp 85) (.const (.int .u32 0)) m4 (.int .u32 0)) w λm6 w=>
  bQ m6
   (kn eP b4 gO b7 Hd gY cF l8 l9 m0 w)
   (aA pg (cH 38 32 m4) w λm8 w=>
   aA pg (aD .shl 3 aG aG (aOo 1) eP) w λn0 w=>
   aA pg (aD .sub 3 aG aG n0 b7) w λn2 w=>
   aA pg (cH 3 32 n2) w λn3 w=>
   aA pg (aD .mul 32 aG aG m8 n3) w λn4 w=>
   aA pg (aD .quo 32 aG aG n4 gO) w λn6 w=>
   aA pg (cH 32 3 n6) w λn7 w=>
   aA pg (aJ 162 Hd 1) w λn8 w=>
   aA pg (aH 117 n8) w λn9 w=>
   aA pg (aD .add 3 aG aG (aOo 1) n7) w λo2 w=>
   aA pg (aO 117 n9 m0) w λo3 w=>
   aA pg (aM 3 o3 o2) w λ_u w=>
   aA pg (aD .sub 3 aG aG gY n7) w λo6 w=>
   aA pg (aJ 162 Hd 1) (dr w) λo7 w_=>w_=(dr w)/\
   aA pg (aH 117 o7) (dr w) λo8 w_=>w_=(dr w)/\
   (dr w)=(dr w)/\
   aA pg (aO 117 o8 m0) (dr w) λp0 w_=>w_=(dr w)/\
   aA pg (aH 3 p0) (dr w) λp1 w_=>w_=(dr w)/\
   aA pg (aJ 162 Hd 1) (dr w) λp2 w_=>w_=(dr w)/\
   aA pg (aH 117 p2) (dr w) λp3 w_=>w_=(dr w)/\
   (dr w)=(dr w)/\
   aA pg (aO 117 p3 cF) (dr w) λp5 w_=>w_=(dr w)/\
   aA pg (aH 3 p5) (dr w) λp6 w_=>w_=(dr w)/\
   aA pg (aD .gtr 3 aG aG p1 p6) (dr w) λp7 w_=>w_=(dr w)/\
   bQ p7
    (kn eP b4 gO b7 Hd o6 m0 l8 l9 m0 (dr w))
    (kn eP b4 gO b7 Hd o6 cF l8 l9 m0 (dr w))))
  (k2 b4 Hd gY cF w)
def PT(kn:Z3)(k2:K4) eP b4 gO b7 Hd gY cF l8 l9 m0 w:=
 Zd (PS kn) k2 eP b4 gO b7 Hd gY cF l8 l9 m0 w
def IG(k2:K4) eP b4 gO b7 Hd gY cF l8 l9 m0 w:=
 aX (λ(X:(aOn×aOn×aOn)->K0) (t:aOn×aOn×aOn) (w:aOm)=>PT (λ_ _ _ _ _ gY cF _ _ m0 w=>X (gY,cF,m0) w) k2 eP b4 gO b7 Hd t.1 t.2.1 l8 l9 t.2.2 w) (gY,cF,m0) w
theorem afL(k2:K4)(h2:E4 Q k2 2 4 11 12 13)(h:IG k2 (g 1) (g 4) (g 6) (g 7) (g 11) (g 12) (g 13) (g 78) (g 79) (g 80) w):cP pg AU (bI (aI 1 (aQ 1 (aI 4 (aI 1 (aI 3 yF)))))) Q g w:=by
 refine AR (λg:Env=>(g 12,g 13,g 80)) (λX t w=>PT (λ_ _ _ _ _ gY cF _ _ m0 w=>X (gY,cF,m0) w) k2 (g 1) (g 4) (g 6) (g 7) (g 11) t.1 t.2.1 (g 78) (g 79) t.2.2 w) h (λX g1 w1 ha hL=> ?_)
 rw[<-cI 1 ha,<-cI 4 ha,<-cI 6 ha,<-cI 7 ha,<-cI 11 ha,<-cI 78 ha,<-cI 79 ha]at hL
 exact(bZ 3 (zO [(2,(AQ k2 4 11 12 13))] (kr:=no) (X1 (PS (λ_ _ _ _ _ gY cF _ _ m0 w=>X (gY,cF,m0) w)) 1 4 6 7 11 12 13 78 79 80) hL (λg w h=>aE (eM (X1 (λ_ _ _ _ _ gY cF _ _ m0 w=>X (gY,cF,m0) w) 1 4 6 7 11 12 13 78 79 80) h cO)) D1 ⟨h2,trivial⟩))
def Ze(kn:Z3) aL eP b4 gO b7 cK Hd gY cF w:=
 aA pg (aD .add 3 aG aG cK (aOo 1)) w λl7 w=>
 aA pg (bP 128 aL none (some l7) none) w λl8 w=>
 aA pg (dD .len #[128] 3 [l8]) w λl9 w=>
 kn eP b4 gO b7 Hd gY cF l8 l9 (aOo 0) w
def PU(kn:K4) aL eP b4 gO b7 cK Hd gY cF w:=
 Ze (IG kn) aL eP b4 gO b7 cK Hd gY cF w
def IH(R:K1) aL eP b4 gO b7 cK Hd gY cF w:=
 PU (IF R) aL eP b4 gO b7 cK Hd gY cF w
theorem afM(kn:K4)(hn:N4 Q kn 4 11 12 13)(h:PU kn (g 0) (g 1) (g 4) (g 6) (g 7) (g 8) (g 11) (g 12) (g 13) w):cP pg AU (aQ 1 (aI 4 (aI 1 (aI 3 yF)))) Q g w:=
 bZ 1 (eM (X1 (IG kn) 1 4 6 7 11 12 13 78 79 80) h (λg w h=>aE (qU 2 (afL _ g w kn hn h))))
def Wp(kn:K9)(R:K1) aL eP b4 gO b7 cK w:=
 aA pg (aD .lss 3 aG aG eP (aOo 5)) w λe5 w=>
 Gd (bK e5 false) (λK=>K eP w) w λe7 w=>
 Gd (bK e5 false) (λK=>aA pg (aD .gtr 3 aG aG e7 (aOo 15)) w K) w λe8 w=>
 aA pg (cD e5 (.bool true) e8) w λe9 w=>
 Gd (bK e9 false) (λK=>K aL w) w λf1 w=>
 Gd (bK e9 false) (λK=>aA pg (dD .len #[128] 3 [f1]) w K) w λf2 w=>
 Gd (bK e9 false) (λK=>aA pg (aD .lss 3 aG aG f2 (aOo 1)) w K) w λf3 w=>
 aA pg (cD e9 (.bool true) f3) w λf4 w=>
 Gd (bK f4 false) (λK=>K aL w) w λf6 w=>
 Gd (bK f4 false) (λK=>aA pg (dD .len #[128] 3 [f6]) w K) w λf7 w=>
 Gd (bK f4 false) (λK=>aA pg (aD .gtr 3 aG aG f7 (aOo 256)) w K) w λf8 w=>
 aA pg (cD f4 (.bool true) f8) w λf9 w=>
 Gd (bK f9 false) (λK=>K b7 w) w λi1 w=>
 Gd (bK f9 false) (λK=>aA pg (aD .lss 3 aG aG i1 (aOo 2)) w K) w λi2 w=>
 aA pg (cD f9 (.bool true) i2) w λi3 w=>
 Gd (bK i3 false) (λK=>K b7 w) w λi5 w=>
 Gd (bK i3 false) (λK=>K eP w) w λi6 w=>
 Gd (bK i3 false) (λK=>aA pg (aD .shl 3 aG aG (aOo 1) i6) w K) w λi7 w=>
 Gd (bK i3 false) (λK=>aA pg (aD .gtr 3 aG aG i5 i7) w K) w λi8 w=>
 aA pg (cD i3 (.bool true) i8) w λi9 w=>
 Gd (bK i9 false) (λK=>K gO w) w λj1 w=>
 Gd (bK i9 false) (λK=>aA pg (aD .gtr 32 aG aG j1 (.int .u64 2147483647)) w K) w λj2 w=>
 aA pg (cD i9 (.bool true) j2) w λj3 w=>
 bQ j3
  (aA pg (bH 162 []) w λj4 w=>
  aA pg (aM 162 b4 j4) w λ_u w=>
  vV pg 162 b4 w λr0=>R (.tuple #[r0,(aOo 1)]) w)
  (aA pg (aD .add 3 aG aG cK (aOo 1)) w λj7 w=>
  aA pg (iX 117 j7 j7) w λj8 w=>
  aA pg (bH 162 [(0,eP),(1,j8)]) w λj9 w=>
  aA pg (bG 162) w λHd w=>
  aA pg (aM 162 Hd j9) w λ_u w=>
  aA pg (aD .shl 3 aG aG (aOo 1) eP) w λl1 w=>
  aA pg (aD .sub 3 aG aG l1 b7) w λl3 w=>
  kn aL eP b4 gO b7 cK Hd l3 cK w)
def Gc(R:K1) aL eP b4 gO b7 cK w:=
 Wp (IH R) R aL eP b4 gO b7 cK w
def Ge(kn:K9) aL eP b4 gO b7 cK c7 c8 c9 w:=
 aA pg (aD .add 3 aG aG c9 (aOo 1)) w λe3 w=>
 kn aL eP b4 gO b7 cK c7 c8 e3 w
def Wq(kn:K9)(k0:K6) aL eP b4 gO b7 cK c7 c8 c9 w:=
 aA pg (aD .lss 3 aG aG c9 c8) w λd0 w=>
 bQ d0
  (aA pg (aO 128 c7 c9) w λd2 w=>
  aA pg (aH 38 d2) w λd3 w=>
  aA pg (cH 38 32 d3) w λd6 w=>
  aA pg (aD .add 32 aG aG gO d6) w λd7 w=>
  aA pg (aD .gtr 38 aG aG d3 (.int .u32 0)) w λd9 w=>
  bQ d9
   (aA pg (aD .add 3 aG aG b7 (aOo 1)) w λe1 w=>
   kn aL eP b4 d7 e1 c9 c7 c8 c9 w)
   (kn aL eP b4 d7 b7 cK c7 c8 c9 w))
  (k0 aL eP b4 gO b7 cK w)
def MK(kn:K9)(k0:K6) aL eP b4 gO b7 cK c7 c8 c9 w:=
 Wq (Ge kn) k0 aL eP b4 gO b7 cK c7 c8 c9 w
def Gf(k0:K6) aL eP b4 gO b7 cK c7 c8 c9 w:=
 aX (λ(X:(aOn×aOn×aOn×aOn)->K0) (t:aOn×aOn×aOn×aOn) (w:aOm)=>MK (λ_ _ _ gO b7 cK _ _ c9 w=>X (gO,b7,cK,c9) w) k0 aL eP b4 t.1 t.2.1 t.2.2.1 c7 c8 t.2.2.2 w) (gO,b7,cK,c9) w
theorem abV(k0:K6)(h0:E6 Q k0 0 0 1 4 6 7 8)(h:Gf k0 (g 0) (g 1) (g 4) (g 6) (g 7) (g 8) (g 17) (g 18) (g 19) w):cP pg AU (bI (aI 1 (aQ 1 (aI 3 yF)))) Q g w:=by
 refine AR (λg:Env=>(g 6,g 7,g 8,g 19)) (λX t w=>MK (λ_ _ _ gO b7 cK _ _ c9 w=>X (gO,b7,cK,c9) w) k0 (g 0) (g 1) (g 4) t.1 t.2.1 t.2.2.1 (g 17) (g 18) t.2.2.2 w) h (λX g1 w1 ha hL=> ?_)
 rw[<-cI 0 ha,<-cI 1 ha,<-cI 4 ha,<-cI 17 ha,<-cI 18 ha]at hL
 exact(bZ 3 (zO [(0,(UP k0 0 1 4 6 7 8))] (kr:=no) (Mq9 (Ge (λ_ _ _ gO b7 cK _ _ c9 w=>X (gO,b7,cK,c9) w)) 0 1 4 6 7 8 17 18 19) hL (λg w h=>aE (eM (Mq9 (λ_ _ _ gO b7 cK _ _ c9 w=>X (gO,b7,cK,c9) w) 0 1 4 6 7 8 17 18 19) h cO)) D1 ⟨h0,trivial⟩))
def Wt(kn:K9) aL eP b4 gO b7 cK w:=
 aA pg (dD .len #[128] 3 [aL]) w λc8 w=>
 kn aL eP b4 gO b7 cK aL c8 (aOo 0) w
def ML(kn:K6) aL eP b4 gO b7 cK w:=
 Wt (Gf kn) aL eP b4 gO b7 cK w
def Gg(R:K1) aL eP b4 gO b7 cK w:=
 ML (Gc R) aL eP b4 gO b7 cK w
theorem abW(kn:K6)(hn:N6 Q kn 0 1 4 6 7 8)(h:ML kn (g 0) (g 1) (g 4) (g 6) (g 7) (g 8) w):cP pg AU (aQ 1 (aI 3 yF)) Q g w:=
 bZ 1 (eM (Mq9 (Gf kn) 0 1 4 6 7 8 17 18 19) h (λg w h=>aE (qU 0 (abV _ g w kn hn h))))
def Wu(kn:K6) aL eP w:=
 aA pg (bG 162) w λb4 w=>
 kn aL eP b4 (.int .u64 0) (aOo 0) (aOo 0) w
def Wv(R:K1) aL eP w:=
 Wu (Gg R) aL eP w
def anC a0 a1 w(R:K1):=
 Wv R a0 a1 w
theorem aiX{a0 a1 w R}(h:anC a0 a1 w R):aK pg B7 #[a0,a1] w R:=
 lC (ann:=AU) Tryz.f94 yF [a0,a1] aqQ 129 TryzM.mixed Tryz.func94 (bZ 3 (eM (UP (Gg R) 0 1 4 6 7 8) h (λg w h=>aE (bZ 1 (abW _ g w (Gc R) (λg w h=>aE (bZ 4 (Mn (Mq9 (IH R) 0 1 4 6 7 8 11 12 13) h (λg w h=>aE (bZ 1 (afM _ g w (IF R) (λg w h=>aE (lX h cO)) h))) cO))) h)))))
def Qt:FA:=⟨vJ,λi=> .leaf ([],[]) []⟩
def TZ:List ResultVar:=[.tmp 2]
noncomputable def Nz:Code:=aY Tryz.f95
def Ky(R:K1) w:=
 R (aOo 0) w
def tC(kn:K0)(R:K1) b3 b4 w:=
 bQ b4
  (R (aOo 9) w)
  (aA pg (aD .eql 3 (.tmp 3) (.const (aOo 1)) b3 (aOo 1)) w λb8 w=>
  bQ b8
   (R (aOo 8) w)
   (kn w))
def T8 (kn:K2) b3 w:=
 aA pg (aD .eql 3 (.tmp 3) (.const (aOo 0)) b3 (aOo 0)) w λb5 w=>
 bQ b5
  (kn b3 b5 w)
  (aA pg (aD .eql 3 (.tmp 3) (.const (aOo 2)) b3 (aOo 2)) w λb6 w=>
  kn b3 b6 w)
def Kz(kn:K0)(R:K1) b3 w:=
 T8 (tC kn R) b3 w
def T9 (kn:K1) bF w:=
 kn bF w
def KA(kn:K0)(R:K1) bF w:=
 T9 (Kz kn R) bF w
def KB(R:K1) bF w:=
 KA (Ky R) R bF w
theorem ZJ(kn:K0)(R:K1)(hn:N0 Q kn)(hr:HR TZ R Q)(h:KA kn R (g 0) w):cP pg Qt (aQ 1 (aI 1 Nz)) Q g w:=
 bZ 1 (eM (UO (Kz kn R) 3) h (λg w h=>aE (qU 0 (bZ 1 (eM (Lg (tC kn R) 3 4) h (λg w h=>aE (Mn _ h hn hr)))))))
def Ua(kn:K1) bF w:=
 kn bF w
def Rb(R:K1) bF w:=
 Ua (KB R) bF w
def aeF a0 w(R:K1):=
 Rb R a0 w
theorem acU{a0 w R}(h:aeF a0 w R):aK pg vJ #[a0] w R:=
 lC (ann:=Qt) Tryz.f95 Nz [a0] TZ 9 TryzM.mixed Tryz.func95 (bZ 1 (eM (UO (KB R) 0) h (λg w h=>aE (bZ 1 (ZJ _ g w (Ky R) R (λg w h=>aE (lX h cO)) cO h)))))
def iJ:FA:=⟨CB,λi=> .leaf ([],[]) []⟩
def afW:List ResultVar:=[.tmp 2,.tmp 3]
noncomputable def gM:Code:=aY Tryz.f96
def Bt(R:K1) vS w:=
 aK pg wR #[vS] w λo7 w=>
 R (.tuple #[o7,(aOo 0)]) w
def Bu(kn:K4) fA vS cJ kR w:=
 aA pg (aD .add 3 aG aG kR (aOo 1)) w λe1 w=>
 kn fA vS cJ e1 w
def Hr(kn:K4) fA vS cJ kR gB w:=
 aA pg (cH 3 32 gB) w λo4 w=>
 aK pg bX #[vS,o4,(aOo 2)] w λo5 w=>
 kn fA vS cJ kR w
def Hs(kn:K5)(k5:K5) fA vS cJ kR gB w:=
 aA pg (aD .geq 3 aG aG gB (aOo 3)) w λn7 w=>
 bQ n7
  (aK pg bX #[vS,(.int .u64 3),(aOo 2)] w λo1 w=>
  aA pg (aD .sub 3 aG aG gB (aOo 3)) w λn9 w=>
  kn fA vS cJ kR n9 w)
  (k5 fA vS cJ kR gB w)
def Bv(k5:K5) fA vS cJ kR gB w:=
 aX (λ(X:aOn->K0) (t:aOn) (w:aOm)=>Hs (λ_ _ _ _ gB w=>X gB w) k5 fA vS cJ kR t w) gB w
theorem Xr(k5:K5)(h5:E5 Q k5 5 1 4 5 6 11)(h:Bv k5 (g 1) (g 4) (g 5) (g 6) (g 11) w):cP pg iJ (bI (aQ 1 (aI 1 (aI 1 (aI 3 (aI 5 (bI (aQ 1 (aI 1 (bI (bI (aI 1 (aQ 1 (aI 5 gM)))))))))))))) Q g w:=by
 refine AR (λg:Env=>g 11) (λX t w=>Hs (λ_ _ _ _ gB w=>X gB w) k5 (g 1) (g 4) (g 5) (g 6) t w) h (λX g1 w1 ha hL=> ?_)
 rw[<-cI 1 ha,<-cI 4 ha,<-cI 5 ha,<-cI 6 ha]at hL
 exact(zO [(5,(O9 k5 1 4 5 6 11))] (kr:=no) (O9 (λ_ _ _ _ gB w=>X gB w) 1 4 5 6 11) hL cO D1 ⟨h5,trivial⟩)
def Bw(kn:K4) fA vS cJ kR gB w:=
 Bv (Hr kn) fA vS cJ kR gB w
theorem Xs(kn:K5)(hn:N5 Q kn 1 4 5 6 11)(h:Bv kn (g 1) (g 4) (g 5) (g 6) (g 11) w):cP pg iJ (aQ 1 (aI 1 (aI 1 (aI 3 (aI 5 (bI (aQ 1 (aI 1 (bI (bI (aI 1 (aQ 1 (aI 5 gM))))))))))))) Q g w:=
 qU 5 (Xr _ g w kn hn h)
def Q5 (kn:K5) fA vS cJ kR gB w:=
 aA pg (aD .add 3 aG aG kR gB) w λn5 w=>
 kn fA vS cJ n5 gB w
def Ht(kn:K4) fA vS cJ kR gB w:=
 Q5 (Bw kn) fA vS cJ kR gB w
def EZ(kn:K5)(k3:K5) fA vS cJ kR gB w:=
 aA pg (aJ 162 fA 1) w λm2 w=>
 aA pg (aH 117 m2) w λm3 w=>
 aA pg (aD .add 3 aG aG kR (aOo 1)) w λm5 w=>
 aA pg (aD .add 3 aG aG m5 gB) w λm7 w=>
 aA pg (aO 117 m3 m7) w λm8 w=>
 aA pg (aH 3 m8) w λm9 w=>
 aA pg (aD .eql 3 (.tmp 89) (.const (aOo 0)) m9 (aOo 0)) w λn0 w=>
 bQ n0
  (aA pg (aD .add 3 aG aG gB (aOo 1)) w λn2 w=>
  kn fA vS cJ kR n2 w)
  (k3 fA vS cJ kR gB w)
def nF(k3:K5) fA vS cJ kR gB w:=
 aX (λ(X:aOn->K0) (t:aOn) (w:aOm)=>EZ (λ_ _ _ _ gB w=>X gB w) k3 fA vS cJ kR t w) gB w
theorem Vh(k3:K5)(h3:E5 Q k3 3 1 4 5 6 11)(h:nF k3 (g 1) (g 4) (g 5) (g 6) (g 11) w):cP pg iJ (bI (aQ 1 (aI 3 (aI 5 (bI (aQ 1 (aI 1 (bI (bI (aI 1 (aQ 1 (aI 5 gM)))))))))))) Q g w:=by
 refine AR (λg:Env=>g 11) (λX t w=>EZ (λ_ _ _ _ gB w=>X gB w) k3 (g 1) (g 4) (g 5) (g 6) t w) h (λX g1 w1 ha hL=> ?_)
 rw[<-cI 1 ha,<-cI 4 ha,<-cI 5 ha,<-cI 6 ha]at hL
 exact(zO [(3,(O9 k3 1 4 5 6 11))] (kr:=no) (O9 (λ_ _ _ _ gB w=>X gB w) 1 4 5 6 11) hL cO D1 ⟨h3,trivial⟩)
def Fa(kn:K4) fA vS cJ kR gB w:=
 nF (Ht kn) fA vS cJ kR gB w
theorem Vi(kn:K5)(hn:N5 Q kn 1 4 5 6 11)(h:nF kn (g 1) (g 4) (g 5) (g 6) (g 11) w):cP pg iJ (aQ 1 (aI 3 (aI 5 (bI (aQ 1 (aI 1 (bI (bI (aI 1 (aQ 1 (aI 5 gM))))))))))) Q g w:=
 qU 3 (Vh _ g w kn hn h)
def Oo(kn:K5)(k1:K4) fA vS cJ kR p_7 w:=
 aK pg sC #[p_7] w λl8 w=>
 aA pg (aD .sub 3 aG aG cJ l8) w λl9 w=>
 aA pg (aD .neq 3 (.tmp 80) (.const (aOo 0)) p_7 (aOo 0)) w λm1 w=>
 bQ m1
  (k1 fA vS l9 kR w)
  (kn fA vS l9 kR (aOo 0) w)
def Fb(kn:K4)(k1:K4) fA vS cJ kR p_7 w:=
 Oo (Fa kn) k1 fA vS cJ kR p_7 w
def Fc(kn:K5) fA vS cJ kR w:=
 aA pg (aJ 162 fA 1) w λe2 w=>
 aA pg (aH 117 e2) w λe3 w=>
 aA pg (aO 117 e3 kR) w λe5 w=>
 aA pg (aH 3 e5) w λe6 w=>
 aA pg (aD .add 3 aG aG cJ (aOo 1)) w λe8 w=>
 aA pg (cH 3 50 e8) w λe9 w=>
 aK pg pK #[e9] w λf0 w=>
 aA pg (aD .shl 3 aG aG (aOo 1) f0) w λf2 w=>
 aA pg (aD .sub 3 aG aG f2 (aOo 2)) w λf3 w=>
 aA pg (aD .sub 3 aG aG f3 cJ) w λf5 w=>
 aA pg (aD .add 3 aG aG e6 (aOo 1)) w λf7 w=>
 aA pg (aD .lss 3 aG aG f7 f5) w λi8 w=>
 bQ i8
  (aA pg (cH 3 32 f7) w λj1 w=>
  aA pg (aD .sub 3 aG aG f0 (aOo 1)) w λj3 w=>
  aK pg bX #[vS,j1,j3] w λj4 w=>
  kn fA vS cJ kR e6 w)
  (aA pg (aD .sub 3 aG aG f0 (aOo 1)) w λj8 w=>
  aA pg (aD .shl 3 aG aG (aOo 1) j8) w λj9 w=>
  aA pg (aD .lss 3 aG aG f7 j9) w λl0 w=>
  bQ l0
   (aA pg (cH 3 32 f7) w λl3 w=>
   aK pg bX #[vS,l3,f0] w λl5 w=>
   kn fA vS cJ kR e6 w)
   (aA pg (aD .add 3 aG aG f7 f5) w λi1 w=>
   aA pg (cH 3 32 i1) w λi2 w=>
   aK pg bX #[vS,i2,f0] w λi4 w=>
   kn fA vS cJ kR e6 w))
def Oq(kn:K4)(k1:K4) fA vS cJ kR w:=
 Fc (Fb kn k1) fA vS cJ kR w
def Fe(kn:K4) fA vS cJ kR w:=
 Oq kn kn fA vS cJ kR w
def Ff(kn:K4) fA vS cJ kR w:=
 Fe (Bu kn) fA vS cJ kR w
theorem Vj(kn:K4)(hn:N4 Q kn 1 4 5 6)(h:Fe kn (g 1) (g 4) (g 5) (g 6) w):cP pg iJ (aQ 1 (aI 1 (bI (bI (aI 1 (aQ 1 (aI 5 gM))))))) Q g w:=
 qU 1 (bZ 5 (eM (O9 (Fb kn kn) 1 4 5 6 7) h (λg w h=>aE (bZ 3 (zO [(1,(AQ kn 1 4 5 6))] (kr:=no) (O9 (Fa kn) 1 4 5 6 11) h (λg w h=>aE (bZ 1 (Vi _ g w (Ht kn) (λg w h=>aE (bZ 1 (eM (O9 (Bw kn) 1 4 5 6 11) h (λg w h=>aE (bZ 1 (Xs _ g w (Hr kn) (λg w h=>aE (eM _ h hn)) h)))))) h))) D1 ⟨hn,trivial⟩)))))
def Ot(kn:K4)(k0:K1) fA vS cJ kR w:=
 aA pg (aJ 162 fA 1) w λd6 w=>
 aA pg (aH 117 d6) w λd7 w=>
 aA pg (dD .len #[117] 3 [d7]) w λd8 w=>
 aA pg (aD .lss 3 aG aG kR d8) w λd9 w=>
 bQ d9
  (kn fA vS cJ kR w)
  (k0 vS w)
def Fg(kn:K4)(k0:K1) fA vS cJ kR w:=
 Ot (Ff kn) k0 fA vS cJ kR w
def zQ(k0:K1) fA vS cJ kR w:=
 aX (λ(X:(aOn×aOn)->K0) (t:aOn×aOn) (w:aOm)=>Fg (λ_ _ cJ kR w=>X (cJ,kR) w) k0 fA vS t.1 t.2 w) (cJ,kR) w
theorem Vk(k0:K1)(h0:E1 Q k0 0 4)(h:zQ k0 (g 1) (g 4) (g 5) (g 6) w):cP pg iJ (bI (aI 1 (aQ 1 (aI 5 gM)))) Q g w:=by
 refine AR (λg:Env=>(g 5,g 6)) (λX t w=>Fg (λ_ _ cJ kR w=>X (cJ,kR) w) k0 (g 1) (g 4) t.1 t.2 w) h (λX g1 w1 ha hL=> ?_)
 rw[<-cI 1 ha,<-cI 4 ha]at hL
 exact(bZ 1 (zO [(0,(UO k0 4))] (kr:=no) (AQ (Ff (λ_ _ cJ kR w=>X (cJ,kR) w)) 1 4 5 6) hL (λg w h=>aE (bZ 1 (Vj _ g w (Bu (λ_ _ cJ kR w=>X (cJ,kR) w)) (λg w h=>aE (eM (AQ (λ_ _ cJ kR w=>X (cJ,kR) w) 1 4 5 6) h cO)) h))) D1 ⟨h0,trivial⟩))
def Ou(kn:K4) fA vS cJ w:=
 kn fA vS cJ (aOo 0) w
def Fh(kn:K1) fA vS cJ w:=
 Ou (zQ kn) fA vS cJ w
def zR(R:K1) fA vS cJ w:=
 Fh (Bt R) fA vS cJ w
theorem Vl(kn:K1)(hn:N1 Q kn 4)(h:Fh kn (g 1) (g 4) (g 5) w):cP pg iJ (aQ 1 (aI 5 gM)) Q g w:=
 bZ 1 (eM (AQ (zQ kn) 1 4 5 6) h (λg w h=>aE (qU 0 (Vk _ g w kn hn h))))
def Ov(kn:K3)(R:K1) c_0 w:=
 aA pg (Ba 162 c_0) w λfA w=>
 aA pg (aH 162 fA) w λc2 w=>
 aK pg CC #[c2] w λc3 w=>
 aA pg (sUn .not c3) w λc4 w=>
 bQ c4
  (R (.tuple #[(.slice none 0 0),(aOo 1)]) w)
  (aK pg kJ #[] w λc5 w=>
  aA pg (aJ 162 fA 0) w λc7 w=>
  aA pg (aH 3 c7) w λc8 w=>
  aA pg (aD .sub 3 aG aG c8 (aOo 5)) w λc9 w=>
  aA pg (cH 3 32 c9) w λd0 w=>
  aK pg bX #[c5,d0,(aOo 4)] w λd1 w=>
  aA pg (aJ 162 fA 0) w λd2 w=>
  aA pg (aH 3 d2) w λd3 w=>
  aA pg (aD .shl 3 aG aG (aOo 1) d3) w λd4 w=>
  kn fA c5 d4 w)
def Ow(R:K1) c_0 w:=
 Ov (zR R) R c_0 w
def Zf a0 w(R:K1):=
 Ow R a0 w
theorem Zg{a0 w R}(h:Zf a0 w R):aK pg CB #[a0] w R:=
 lC (ann:=iJ) Tryz.f96 gM [a0] afW 108 TryzM.mixed Tryz.func96 (bZ 5 (Mn (UB (zR R) 1 4 5) h (λg w h=>aE (bZ 1 (Vl _ g w (Bt R) (λg w h=>aE (lX h cO)) h))) cO))
def WU:FA:=⟨kJ,λi=> .leaf ([],[]) []⟩
def Zz:List ResultVar:=[.tmp 0]
noncomputable def U0:Code:=aY Tryz.f97
def CM(R:K1) w:=
 aA pg (bH 201 []) w λb1 w=>
 aA pg (Ba 201 b1) w λb2 w=>
 R b2 w
def I6 w(R:K1):=
 CM R w
theorem HG{w R}(h:I6 w R):aK pg kJ #[] w R:=
 lC (ann:=WU) Tryz.f97 U0 [] Zz 3 TryzM.mixed Tryz.func97 (lX h cO)
def L3:FA:=⟨Lf,λi=> .leaf ([],[]) []⟩
def P5:List ResultVar:=[.tmp 4,.tmp 5]
noncomputable def I9:Code:=aY Tryz.f98
def PH(R:K1) w:=
 R (.tuple #[(aOo 0),(aOo 21)]) w
def PI(kn:K4)(k0:K0)(R:K1) qO b9 c0 c1 w:=
 aA pg (aD .lss 3 aG aG c1 c0) w λc2 w=>
 bQ c2
  (aA pg (aO 104 b9 c1) w λc4 w=>
  aA pg (aH 194 c4) w λc5 w=>
  aA pg (bG 194) w λx_7 w=>
  aA pg (aM 194 x_7 c5) w λ_u w=>
  aA pg (aJ 194 x_7 0) w λc6 w=>
  aA pg (aH 5 c6) w λc7 w=>
  aA pg (aD .eql 5 (.tmp 17) (.tmp 18) c7 qO) w λc9 w=>
  bQ c9
   (R (.tuple #[c1,(aOo 0)]) w)
   (aA pg (aD .add 3 aG aG c1 (aOo 1)) w λd1 w=>
   kn qO b9 c0 d1 w))
  (k0 w)
def ID(k0:K0)(R:K1) qO b9 c0 c1 w:=
 aX (λ(X:aOn->K0) (t:aOn) (w:aOm)=>PI (λ_ _ _ c1 w=>X c1 w) k0 R qO b9 c0 t w) c1 w
theorem afB(k0:K0)(R:K1)(h0:E0 Q k0 0)(hr:HR P5 R Q)(h:ID k0 R (g 1) (g 9) (g 10) (g 11) w):cP pg L3 (bI (aI 1 (aQ 1 (aI 1 I9)))) Q g w:=by
 refine AR (λg:Env=>g 11) (λX t w=>PI (λ_ _ _ c1 w=>X c1 w) k0 R (g 1) (g 9) (g 10) t w) h (λX g1 w1 ha hL=> ?_)
 rw[<-cI 1 ha,<-cI 9 ha,<-cI 10 ha]at hL
 exact(zO [(0,(Mq0 k0))] (AQ (λ_ _ _ c1 w=>X c1 w) 1 9 10 11) hL cO hr ⟨h0,trivial⟩)
def YC(kn:K4) qO b2 w:=
 aA pg (aJ 106 b2 1) w λb8 w=>
 aA pg (aH 104 b8) w λb9 w=>
 aA pg (dD .len #[104] 3 [b9]) w λc0 w=>
 kn qO b9 c0 (aOo 0) w
def PJ(kn:K0)(R:K1) qO b2 w:=
 YC (ID kn R) qO b2 w
def PK(R:K1) qO b2 w:=
 PJ (PH R) R qO b2 w
theorem afC(kn:K0)(R:K1)(hn:N0 Q kn)(hr:HR P5 R Q)(h:PJ kn R (g 1) (g 2) w):cP pg L3 (aQ 1 (aI 1 I9)) Q g w:=
 bZ 1 (eM (AQ (ID kn R) 1 9 10 11) h (λg w h=>aE (qU 0 (afB _ g w kn R hn hr h))))
def YD(kn:K2) b0 qO w:=
 aA pg (Ba 106 b0) w λb2 w=>
 kn qO b2 w
def YE(R:K1) b0 qO w:=
 YD (PK R) b0 qO w
def amT a0 a1 w(R:K1):=
 YE R a0 a1 w
theorem ahY{a0 a1 w R}(h:amT a0 a1 w R):aK pg Lf #[a0,a1] w R:=
 lC (ann:=L3) Tryz.f98 I9 [a0,a1] P5 22 TryzM.mixed Tryz.func98 (bZ 1 (eM (Lg (PK R) 1 2) h (λg w h=>aE (bZ 1 (afC _ g w (PH R) R (λg w h=>aE (lX h cO)) cO h)))))
def IZ:FA:=⟨Iw,λi=>match Nat.beq i 8 with|true=> .leaf ([],[]) (fz 9 [])|false=> .leaf ([],[]) []⟩
def MS:List ResultVar:=[.tmp 6,.tmp 7,.tmp 8,.tmp 9]
noncomputable def Hg:Code:=aY Tryz.f99
def Mo(R:K1) w:=
 R (.tuple #[(aOo 0),(.int .u64 0),(aOo 0),(aOo 21)]) w
def Mq(kn:K5)(k0:K0)(R:K1) rR qP d3 d4 d5 w:=
 aA pg (aD .lss 3 aG aG d5 d4) w λd6 w=>
 bQ d6
  (aA pg (aO 104 d3 d5) w λd8 w=>
  aA pg (aH 194 d8) w λd9 w=>
  aA pg (bG 194) w λaFy w=>
  aA pg (aM 194 aFy d9) w λ_u w=>
  aA pg (aJ 194 aFy 2) w λe1 w=>
  aA pg (aH 3 e1) w λe2 w=>
  aA pg (aD .sub 3 aG aG rR e2) w λe3 w=>
  aA pg (aJ 194 aFy 0) w λe4 w=>
  aA pg (aH 5 e4) w λe5 w=>
  aA pg (aD .eql 5 (.tmp 35) (.tmp 36) e5 qP) w λe7 w=>
  Gd (bK e7 true) (λK=>K e3 w) w λe9 w=>
  Gd (bK e7 true) (λK=>aA pg (aD .geq 3 aG aG e9 (aOo 0)) w K) w λf0 w=>
  aA pg (cD e7 f0 (.bool false)) w λf1 w=>
  Gd (bK f1 true) (λK=>K e3 w) w λf3 w=>
  Gd (bK f1 true) (λK=>aA pg (aJ 194 aFy 1) w K) w λf4 w=>
  Gd (bK f1 true) (λK=>aA pg (aH 3 f4) w K) w λf5 w=>
  Gd (bK f1 true) (λK=>aA pg (aD .shl 3 aG aG (aOo 1) f5) w K) w λf6 w=>
  Gd (bK f1 true) (λK=>aA pg (aD .lss 3 aG aG f3 f6) w K) w λf7 w=>
  aA pg (cD f1 f7 (.bool false)) w λf8 w=>
  bQ f8
   ((dr w)=(dr w)/\
   (dr w)=(dr w)/\
   aA pg (cH 3 32 e3) (dr w) λi1 w_=>w_=(dr w)/\
   aA pg (aJ 194 aFy 1) (dr w) λi2 w_=>w_=(dr w)/\
   aA pg (aH 3 i2) (dr w) λi3 w_=>w_=(dr w)/\
   (dr w)=(dr w)/\
   (dr w)=(dr w)/\
   (dr w)=(dr w)/\
   (dr w)=(dr w)/\
   R (.tuple #[d5,i1,i3,(aOo 0)]) (dr w))
   (aA pg (aD .add 3 aG aG d5 (aOo 1)) w λi4 w=>
   kn rR qP d3 d4 i4 w))
  (k0 w)
def F2 (k0:K0)(R:K1) rR qP d3 d4 d5 w:=
 aX (λ(X:aOn->K0) (t:aOn) (w:aOm)=>Mq (λ_ _ _ _ d5 w=>X d5 w) k0 R rR qP d3 d4 t w) d5 w
theorem aaX(k0:K0)(R:K1)(h0:E0 Q k0 0)(hr:HR MS R Q)(h:F2 k0 R (g 1) (g 2) (g 23) (g 24) (g 25) w):cP pg IZ (bI (aI 1 (aQ 1 (aI 2 Hg)))) Q g w:=by
 refine AR (λg:Env=>g 25) (λX t w=>Mq (λ_ _ _ _ d5 w=>X d5 w) k0 R (g 1) (g 2) (g 23) (g 24) t w) h (λX g1 w1 ha hL=> ?_)
 rw[<-cI 1 ha,<-cI 2 ha,<-cI 23 ha,<-cI 24 ha]at hL
 exact(zO [(0,(Mq0 k0))] (O9 (λ_ _ _ _ d5 w=>X d5 w) 1 2 23 24 25) hL cO hr ⟨h0,trivial⟩)
def V0 (kn:K5) rR qP b3 w:=
 aA pg (aJ 106 b3 1) w λd2 w=>
 aA pg (aH 104 d2) w λd3 w=>
 aA pg (dD .len #[104] 3 [d3]) w λd4 w=>
 kn rR qP d3 d4 (aOo 0) w
def Mr(kn:K0)(R:K1) rR qP b3 w:=
 V0 (F2 kn R) rR qP b3 w
def Ms(R:K1) rR qP b3 w:=
 Mr (Mo R) R rR qP b3 w
theorem aaY(kn:K0)(R:K1)(hn:N0 Q kn)(hr:HR MS R Q)(h:Mr kn R (g 1) (g 2) (g 3) w):cP pg IZ (aQ 1 (aI 2 Hg)) Q g w:=
 bZ 1 (eM (O9 (F2 kn R) 1 2 23 24 25) h (λg w h=>aE (qU 0 (aaX _ g w kn R hn hr h))))
def V1 (kn:K3)(R:K1) b0 rR qP w:=
 aA pg (Ba 106 b0) w λb3 w=>
 aA pg (aD .lss 3 aG aG rR (aOo 0)) w λc4 w=>
 Gd (bK c4 false) (λK=>K rR w) w λc6 w=>
 Gd (bK c4 false) (λK=>aA pg (aJ 106 b3 1) w K) w λc7 w=>
 Gd (bK c4 false) (λK=>aA pg (aH 104 c7) w K) w λc8 w=>
 Gd (bK c4 false) (λK=>aA pg (dD .len #[104] 3 [c8]) w K) w λc9 w=>
 Gd (bK c4 false) (λK=>aA pg (aD .geq 3 aG aG c6 c9) w K) w λd0 w=>
 aA pg (cD c4 (.bool true) d0) w λd1 w=>
 bQ d1
  (R (.tuple #[(aOo 0),(.int .u64 0),(aOo 0),(aOo 1)]) w)
  (kn rR qP b3 w)
def V2 (R:K1) b0 rR qP w:=
 V1 (Ms R) R b0 rR qP w
def ahW a0 a1 a2 w(R:K1):=
 V2 R a0 a1 a2 w
theorem aeZ{a0 a1 a2 w R}(h:ahW a0 a1 a2 w R):aK pg Iw #[a0,a1,a2] w R:=
 lC (ann:=IZ) Tryz.f99 Hg [a0,a1,a2] MS 55 TryzM.mixed Tryz.func99 (bZ 2 (Mn (UB (Ms R) 1 2 3) h (λg w h=>aE (bZ 1 (aaY _ g w (Mo R) R (λg w h=>aE (lX h cO)) cO h))) cO))
def vW:FA:=⟨bX,λi=>match Nat.beq i 6 with|true=> .leaf ([25],[]) (fz 25 (ft [] []))|false=> .leaf ([],[]) []⟩
def TM:List ResultVar:=[]
noncomputable def tQ:Code:=aY Tryz.f100
def pX(kn:K4) D3 O5 c7 c8 w:=
 aA pg (aD .add 3 aG aG c8 (aOo 1)) w λj8 w=>
 kn D3 O5 c7 j8 w
def iK(kn:K4) D3 O5 kR c7 c8 w:=
 (dr w)=(dr w)/\
 aA pg (dS D3) (dr w) λe7 w_=>w_=(dr w)/\
 aA pg (aJ 201 e7 0) (dr w) λe8 w_=>w_=(dr w)/\
 aA pg (aH 22 e8) (dr w) λe9 w_=>w_=(dr w)/\
 (dr w)=(dr w)/\
 aA pg (dS D3) (dr w) λf1 w_=>w_=(dr w)/\
 aA pg (aJ 201 f1 1) (dr w) λf2 w_=>w_=(dr w)/\
 aA pg (aH 3 f2) (dr w) λf3 w_=>w_=(dr w)/\
 aA pg (aD .quo 3 aG aG f3 (aOo 8)) (dr w) λf4 w_=>w_=(dr w)/\
 aA pg (aO 22 e9 f4) (dr w) λf5 w_=>w_=(dr w)/\
 aA pg (aH 5 f5) (dr w) λf6 w_=>w_=(dr w)/\
 (dr w)=(dr w)/\
 (dr w)=(dr w)/\
 aA pg (cH 3 50 kR) (dr w) λf9 w_=>w_=(dr w)/\
 aA pg (aD .shr 32 aG aG O5 f9) (dr w) λi0 w_=>w_=(dr w)/\
 aA pg (aD .and 32 aG aG i0 (.int .u64 1)) (dr w) λi1 w_=>w_=(dr w)/\
 aA pg (cH 32 5 i1) (dr w) λi2 w_=>w_=(dr w)/\
 (dr w)=(dr w)/\
 aA pg (dS D3) (dr w) λi4 w_=>w_=(dr w)/\
 aA pg (aJ 201 i4 1) (dr w) λi5 w_=>w_=(dr w)/\
 aA pg (aH 3 i5) (dr w) λi6 w_=>w_=(dr w)/\
 aA pg (aD .rem 3 aG aG i6 (aOo 8)) (dr w) λi7 w_=>w_=(dr w)/\
 aA pg (aD .shl 5 aG aG i2 i7) (dr w) λi8 w_=>w_=(dr w)/\
 aA pg (aD .or 5 aG aG f6 i8) (dr w) λi9 w_=>w_=(dr w)/\
 aA pg (aO 22 e9 f4) (dr w) λj0 w_=>w_=(dr w)/\
 aA pg (aM 5 j0 i9) (dr w) λ_u25 aKa=>
 aA pg (dS D3) aKa λj2 w=>
 aA pg (aJ 201 j2 1) w λj3 w=>
 aA pg (aH 3 j3) w λj4 w=>
 aA pg (aD .add 3 aG aG j4 (aOo 1)) w λj5 w=>
 aA pg (dS D3) w λj6 w=>
 aA pg (aJ 201 j6 1) w λj7 w=>
 aA pg (aM 3 j7 j5) w λ_u w=>
 kn D3 O5 c7 c8 w
def yD(kn:K5) D3 O5 c7 c8 w:=
 aA pg (dS D3) w λd2 w=>
 aA pg (aJ 201 d2 1) w λd3 w=>
 aA pg (aH 3 d3) w λd4 w=>
 aA pg (aD .rem 3 aG aG d4 (aOo 8)) w λd5 w=>
 aA pg (aD .eql 3 (.tmp 25) (.const (aOo 0)) d5 (aOo 0)) w λd6 w=>
 bQ d6
  (aA pg (dS D3) w λd9 w=>
  aA pg (aJ 201 d9 0) w λe0 w=>
  aA pg (aH 22 e0) w λe1 w=>
  aA pg (bT 22 1 [(0,(.int .u8 0))]) w λe2 w=>
  aA pg (dD .append #[22,22] 22 [e1,e2]) w λe3 w=>
  aA pg (dS D3) w λe4 w=>
  aA pg (aJ 201 e4 0) w λe5 w=>
  aA pg (aM 22 e5 e3) w λ_u w=>
  kn D3 O5 c8 c7 c8 w)
  (kn D3 O5 c8 c7 c8 w)
def eX(kn:K4) D3 O5 c7 c8 w:=
 yD (iK kn) D3 O5 c7 c8 w
def pY(kn:K4) D3 O5 c7 c8 w:=
 eX (pX kn) D3 O5 c7 c8 w
theorem No(kn:K4)(hn:N4 Q kn 0 1 17 18)(h:eX kn (g 0) (g 1) (g 17) (g 18) w):cP pg vW (aQ 1 (aI 2 (bI (bI (aI 2 tQ))))) Q g w:=
 qU 1 (bZ 2 (eM (O9 (iK kn) 0 1 6 17 18) h (λg w h=>aE (eM _ h hn))))
def yE(kn:K4)(k0:K0) D3 O5 c7 c8 w:=
 aA pg (aD .lss 3 aG aG c8 c7) w λc9 w=>
 bQ c9
  (kn D3 O5 c7 c8 w)
  (k0 w)
def pZ(kn:K4)(k0:K0) D3 O5 c7 c8 w:=
 yE (pY kn) k0 D3 O5 c7 c8 w
def kY(k0:K0) D3 O5 c7 c8 w:=
 aX (λ(X:aOn->K0) (t:aOn) (w:aOm)=>pZ (λ_ _ _ c8 w=>X c8 w) k0 D3 O5 c7 t w) c8 w
theorem Np(k0:K0)(h0:E0 Q k0 0)(h:kY k0 (g 0) (g 1) (g 17) (g 18) w):cP pg vW (bI (aI 2 tQ)) Q g w:=by
 refine AR (λg:Env=>g 18) (λX t w=>pZ (λ_ _ _ c8 w=>X c8 w) k0 (g 0) (g 1) (g 17) t w) h (λX g1 w1 ha hL=> ?_)
 rw[<-cI 0 ha,<-cI 1 ha,<-cI 17 ha]at hL
 exact(bZ 2 (zO [(0,(Mq0 k0))] (kr:=no) (AQ (pY (λ_ _ _ c8 w=>X c8 w)) 0 1 17 18) hL (λg w h=>aE (bZ 1 (No _ g w (pX (λ_ _ _ c8 w=>X c8 w)) (λg w h=>aE (eM (AQ (λ_ _ _ c8 w=>X c8 w) 0 1 17 18) h cO)) h))) D1 ⟨h0,trivial⟩))
def vY(kn:K4)(R:K1) D3 O5 UG w:=
 aA pg (aD .eql 170 (.tmp 7) (.const (.pointer none)) D3 (.pointer none)) w λb8 w=>
 Gd (bK b8 false) (λK=>K UG w) w λc0 w=>
 Gd (bK b8 false) (λK=>aA pg (aD .lss 3 aG aG c0 (aOo 1)) w K) w λc1 w=>
 aA pg (cD b8 (.bool true) c1) w λc2 w=>
 Gd (bK c2 false) (λK=>K UG w) w λc4 w=>
 Gd (bK c2 false) (λK=>aA pg (aD .gtr 3 aG aG c4 (aOo 56)) w K) w λc5 w=>
 aA pg (cD c2 (.bool true) c5) w λc6 w=>
 bQ c6
  (R (.tuple #[]) w)
  (kn D3 O5 UG (aOo 0) w)
def vZ(kn:K0)(R:K1) D3 O5 UG w:=
 vY (kY kn) R D3 O5 UG w
def CN a0 a1 a2 w(R:K1):=
 vZ (λw=>R (.tuple #[]) w) R a0 a1 a2 w
theorem CO{a0 a1 a2 w R}(h:CN a0 a1 a2 w R):aK pg bX #[a0,a1,a2] w R:=
 lC (ann:=vW) Tryz.f100 tQ [a0,a1,a2] TM 69 TryzM.mixed Tryz.func100 (bZ 2 (Mn (AQ (kY (λw=>R (.tuple #[]) w)) 0 1 17 18) h (λg w h=>aE (qU 0 (Np _ g w (λw=>R (.tuple #[]) w) cO h))) cO))
def IX:FA:=⟨It,λi=>match Nat.beq i 17 with|true=> .leaf ([],[]) (fz 10 [])|false=> .leaf ([],[]) []⟩
def alM:List ResultVar:=[.tmp 4,.tmp 5,.tmp 6]
noncomputable def He:Code:=aY Tryz.f101
def Ma(R:K1) nK zS mI zP w:=
 (dr w)=(dr w)/\
 (dr w)=(dr w)/\
 (dr w)=(dr w)/\
 (dr w)=(dr w)/\
 aA pg (aD .sub 3 aG aG nK zS) (dr w) λj8 w_=>w_=(dr w)/\
 aA pg (aO 117 zP j8) (dr w) λj9 w_=>w_=(dr w)/\
 aA pg (aH 3 j9) (dr w) λl0 w_=>w_=(dr w)/\
 (dr w)=(dr w)/\
 (dr w)=(dr w)/\
 (dr w)=(dr w)/\
 R (.tuple #[mI,l0,(aOo 0)]) (dr w)
def Mb(kn:K7)(k1:K4) nK zS mI zP i3 i4 i5 w:=
 aA pg (aD .lss 3 aG aG i5 i4) w λi6 w=>
 bQ i6
  (aA pg (aO 117 i3 i5) w λi7 w=>
  aA pg (aH 3 i7) w λi8 w=>
  aA pg (aD .shl 38 aG aG (.int .u32 1) i8) w λj1 w=>
  aA pg (aD .add 38 aG aG mI j1) w λj2 w=>
  aA pg (aD .add 3 aG aG i5 (aOo 1)) w λj3 w=>
  kn nK zS j2 zP i3 i4 j3 w)
  (k1 nK zS mI zP w)
def FW(k1:K4) nK zS mI zP i3 i4 i5 w:=
 aX (λ(X:(aOn×aOn)->K0) (t:aOn×aOn) (w:aOm)=>Mb (λ_ _ mI _ _ _ i5 w=>X (mI,i5) w) k1 nK zS t.1 zP i3 i4 t.2 w) (mI,i5) w
theorem aaN(k1:K4)(h1:E4 Q k1 1 1 8 9 10)(h:FW k1 (g 1) (g 8) (g 9) (g 10) (g 53) (g 54) (g 55) w):cP pg IX (bI (aI 1 (aQ 1 (aI 5 He)))) Q g w:=by
 refine AR (λg:Env=>(g 9,g 55)) (λX t w=>Mb (λ_ _ mI _ _ _ i5 w=>X (mI,i5) w) k1 (g 1) (g 8) t.1 (g 10) (g 53) (g 54) t.2 w) h (λX g1 w1 ha hL=> ?_)
 rw[<-cI 1 ha,<-cI 8 ha,<-cI 10 ha,<-cI 53 ha,<-cI 54 ha]at hL
 exact(zO [(1,(AQ k1 1 8 9 10))] (kr:=no) (KQ (λ_ _ mI _ _ _ i5 w=>X (mI,i5) w) 1 8 9 10 53 54 55) hL cO D1 ⟨h1,trivial⟩)
def VI(kn:K7) nK zS mI zP w:=
 aA pg (aD .sub 3 aG aG nK zS) w λi2 w=>
 aA pg (bP 117 zP none (some i2) none) w λi3 w=>
 aA pg (dD .len #[117] 3 [i3]) w λi4 w=>
 kn nK zS mI zP i3 i4 (aOo 0) w
def Mc(kn:K4) nK zS mI zP w:=
 VI (FW kn) nK zS mI zP w
def Md(R:K1) nK zS mI zP w:=
 Mc (Ma R) nK zS mI zP w
theorem aaO(kn:K4)(hn:N4 Q kn 1 8 9 10)(h:Mc kn (g 1) (g 8) (g 9) (g 10) w):cP pg IX (aQ 1 (aI 5 He)) Q g w:=
 bZ 1 (eM (KQ (FW kn) 1 8 9 10 53 54 55) h (λg w h=>aE (qU 1 (aaN _ g w kn hn h))))
def VJ(kn:K4)(R:K1) bF nK w:=
 aK pg zB #[bF] w λc4 w=>
 aA pg (aD .lss 3 aG aG c4 (aOo 0)) w λc7 w=>
 bQ c7
  (R (.tuple #[(.int .u32 0),(aOo 0),(aOo 1)]) w)
  (aA pg (aD .lss 3 aG aG nK (aOo 0)) w λd0 w=>
  Gd (bK d0 false) (λK=>K nK w) w λd2 w=>
  Gd (bK d0 false) (λK=>K c4 w) w λd3 w=>
  Gd (bK d0 false) (λK=>aA pg (aD .gtr 3 aG aG d2 d3) w K) w λd4 w=>
  aA pg (cD d0 (.bool true) d4) w λd5 w=>
  bQ d5
   (R (.tuple #[(.int .u32 0),(aOo 0),(aOo 17)]) w)
   (aA pg (aD .eql 3 (.tmp 27) (.const (aOo 1)) bF (aOo 1)) w λd8 w=>
   bQ d8
    (aA pg (aD .shl 38 aG aG (.int .u32 1) nK) w λe0 w=>
    R (.tuple #[e0,nK,(aOo 0)]) w)
    (aK pg B5 #[bF] w λe4 w=>
    aA pg (aV e4 0) w λe5 w=>
    aA pg (aV e4 1) w λe6 w=>
    aA pg (aV e4 2) w λe7 w=>
    aA pg (aD .lss 3 aG aG nK e5) w λf0 w=>
    bQ f0
     (aA pg (cH 3 38 nK) w λf3 w=>
     aA pg (aD .add 38 aG aG e6 f3) w λf4 w=>
     R (.tuple #[f4,(aOo 0),(aOo 0)]) w)
     (aA pg (cH 3 38 e5) w λf7 w=>
     aA pg (aD .add 38 aG aG e6 f7) w λf8 w=>
     kn nK e5 f8 e7 w))))
def VK(R:K1) bF nK w:=
 VJ (Md R) R bF nK w
def ahI a0 a1 w(R:K1):=
 VK R a0 a1 w
theorem aeU{a0 a1 w R}(h:ahI a0 a1 w R):aK pg It #[a0,a1] w R:=
 lC (ann:=IX) Tryz.f101 He [a0,a1] alM 71 TryzM.mixed Tryz.func101 (bZ 5 (Mn (AQ (Md R) 1 8 9 10) h (λg w h=>aE (bZ 1 (aaO _ g w (Ma R) (λg w h=>aE (lX h cO)) h))) cO))
def Pc:FA:=⟨kS,λi=>match Nat.beq i 3 with|true=> .leaf ([4,10],[(4,6),(4,7),(4,8)]) (fz 4 (ft [] (fz 1 (fu [1] (fu [2] (fu [3] (fz 1 (ft [] (fz 1 [])))))))))|false=> .leaf ([],[]) []⟩
def RK:List ResultVar:=[.tmp 2]
noncomputable def Ns:Code:=aY Tryz.f102
def Eb(R:K1) D3 w:=
 aA pg (aD .eql 170 (.tmp 4) (.const (.pointer none)) D3 (.pointer none)) w λb5 w=>
 bQ b5
  (R (.slice none 0 0) w)
  ((dr w)=(dr w)/\
  aA pg (dS D3) (dr w) λb7 w_=>w_=(dr w)/\
  aA pg (aJ 201 b7 0) (dr w) λb8 w_=>w_=(dr w)/\
  aA pg (aH 22 b8) (dr w) λb9 w_=>w_=(dr w)/\
  aK pg gG #[b9] (dr w) λc0 Ug=>
  Ug=Ug/\
  aA pg (dS D3) Ug λc2 w_=>w_=Ug/\
  (dT pg (dS D3) c2 (dr w)/\True)/\
  aA pg (aJ 201 c2 1) Ug λc3 w_=>w_=Ug/\
  (dT pg (aJ 201 c2 1) c3 (dr w)/\True)/\
  aA pg (aH 3 c3) Ug λc4 w_=>w_=Ug/\
  (dT pg (aH 3 c3) c4 (dr w)/\True)/\
  aA pg (bH 201 [(0,c0),(1,c4)]) Ug λc5 w_=>w_=Ug/\
  aA pg (Ba 201 c5) Ug λc6 aFh=>
  aFh=aFh/\
  aK pg bX #[c6,(.int .u64 1),(aOo 1)] aFh λc8 w=>
  aA pg (dS c6) w λd0 w=>
  aA pg (aJ 201 d0 0) w λd1 w=>
  aA pg (aH 22 d1) w λd2 w=>
  R d2 w)
def I7 a0 w(R:K1):=
 Eb R a0 w
theorem Nn{a0 w R}(h:I7 a0 w R):aK pg kS #[a0] w R:=
 lC (ann:=Pc) Tryz.f102 Ns [a0] RK 23 TryzM.mixed Tryz.func102 (lX h cO)
def X7:FA:=⟨Bj,λi=> .leaf ([],[]) []⟩
def acM:List ResultVar:=[.tmp 4,.tmp 5]
noncomputable def Xa:Code:=aY Tryz.f103
def Ol(R:K1) fY y_1 w:=
 bQ (.bool false)
  (aA pg (cH 50 38 fY) w λc2 w=>
  aA pg (cH 50 38 y_1) w λc4 w=>
  aK pg XZ #[c2,c4] w λc5 w=>
  aA pg (aV c5 0) w λc6 w=>
  aA pg (aV c5 1) w λc7 w=>
  aA pg (cH 38 50 c6) w λc9 w=>
  aA pg (cH 38 50 c7) w λd1 w=>
  R (.tuple #[c9,d1]) w)
  (aK pg wV #[fY,y_1] w λd5 w=>
  aA pg (aV d5 0) w λd6 w=>
  aA pg (aV d5 1) w λd7 w=>
  R (.tuple #[d6,d7]) w)
def Wo a0 a1 w(R:K1):=
 Ol R a0 a1 w
theorem Xq{a0 a1 w R}(h:Wo a0 a1 w R):aK pg Bj #[a0,a1] w R:=
 lC (ann:=X7) Tryz.f103 Xa [a0,a1] acM 30 TryzM.mixed Tryz.func103 (lX h cO)
def UY:FA:=⟨pR,λi=> .leaf ([],[]) []⟩
def XC:List ResultVar:=[.tmp 2]
noncomputable def Sw:Code:=aY Tryz.f107
def uA(R:K1) fY UG w:=
 aA pg (cH 32 5 fY) w λd1 w=>
 aA pg (IJ 9 (.string ⟨#[0,1,2,2,3,3,3,3,4,4,4,4,4,4,4,4,5,5,5,5,5,5,5,5,5,5,5,5,5,5,5,5,6,6,6,6,6,6,6,6,6,6,6,6,6,6,6,6,6,6,6,6,6,6,6,6,6,6,6,6,6,6,6,6,7,7,7,7,7,7,7,7,7,7,7,7,7,7,7,7,7,7,7,7,7,7,7,7,7,7,7,7,7,7,7,7,7,7,7,7,7,7,7,7,7,7,7,7,7,7,7,7,7,7,7,7,7,7,7,7,7,7,7,7,7,7,7,7,8,8,8,8,8,8,8,8,8,8,8,8,8,8,8,8,8,8,8,8,8,8,8,8,8,8,8,8,8,8,8,8,8,8,8,8,8,8,8,8,8,8,8,8,8,8,8,8,8,8,8,8,8,8,8,8,8,8,8,8,8,8,8,8,8,8,8,8,8,8,8,8,8,8,8,8,8,8,8,8,8,8,8,8,8,8,8,8,8,8,8,8,8,8,8,8,8,8,8,8,8,8,8,8,8,8,8,8,8,8,8,8,8,8,8,8,8,8,8,8,8,8,8,8,8,8,8,8]⟩) d1) w λd2 w=>
 aA pg (cH 5 3 d2) w λd3 w=>
 aA pg (aD .add 3 aG aG UG d3) w λd4 w=>
 R d4 w
def J4 (kn:K2) fY UG w:=
 aA pg (aD .geq 32 aG aG fY (.int .u64 256)) w λc4 w=>
 bQ c4
  (aA pg (aD .shr 32 aG aG fY (.int .u64 8)) w λc6 w=>
  aA pg (aD .add 3 aG aG UG (aOo 8)) w λc8 w=>
  kn c6 c8 w)
  (kn fY UG w)
def uB(R:K1) fY UG w:=
 J4 (uA R) fY UG w
def J5 (kn:K2) fY UG w:=
 aA pg (aD .geq 32 aG aG fY (.int .u64 65536)) w λb8 w=>
 bQ b8
  (aA pg (aD .shr 32 aG aG fY (.int .u64 16)) w λc0 w=>
  aA pg (aD .add 3 aG aG UG (aOo 16)) w λc2 w=>
  kn c0 c2 w)
  (kn fY UG w)
def uC(R:K1) fY UG w:=
 J5 (uB R) fY UG w
def J6 (kn:K2) fY w:=
 aA pg (aD .geq 32 aG aG fY (.int .u64 4294967296)) w λb4 w=>
 bQ b4
  (aA pg (aD .shr 32 aG aG fY (.int .u64 32)) w λb6 w=>
  kn b6 (aOo 32) w)
  (kn fY (aOo 0) w)
def J7 (R:K1) fY w:=
 J6 (uC R) fY w
def Q2 a0 w(R:K1):=
 J7 R a0 w
theorem Tz{a0 w R}(h:Q2 a0 w R):aK pg pR #[a0] w R:=
 lC (ann:=UY) Tryz.f107 Sw [a0] XC 25 TryzM.mixed Tryz.func107 (bZ 2 (eM (Lg (uC R) 0 2) h (λg w h=>aE (bZ 1 (eM (Lg (uB R) 0 2) h (λg w h=>aE (bZ 1 (eM (Lg (uA R) 0 2) h (λg w h=>aE (lX h cO))))))))))
def X8:FA:=⟨vA,λi=> .leaf ([],[]) []⟩
def acP:List ResultVar:=[.tmp 2]
noncomputable def Xb:Code:=aY Tryz.f108
def O2 (R:K1) dB w:=
 aK pg Bk #[dB] w λb8 w=>
 aA pg (aV b8 0) w λb9 w=>
 aA pg (aV b8 1) w λc0 w=>
 aA pg (sUn .not c0) w λc2 w=>
 Gd (bK c2 false) (λK=>K dB w) w λc4 w=>
 Gd (bK c2 false) (λK=>aA pg (dD .len #[22] 3 [c4]) w K) w λc5 w=>
 Gd (bK c2 false) (λK=>aA pg (aD .lss 3 aG aG c5 (aOo 2)) w K) w λc6 w=>
 aA pg (cD c2 (.bool true) c6) w λc7 w=>
 Gd (bK c7 false) (λK=>K dB w) w λc9 w=>
 Gd (bK c7 false) (λK=>aA pg (dD .len #[22] 3 [c9]) w K) w λd0 w=>
 Gd (bK c7 false) (λK=>aA pg (aD .gtr 3 aG aG d0 (aOo 256)) w K) w λd1 w=>
 aA pg (cD c7 (.bool true) d1) w λd2 w=>
 Gd (bK d2 false) (λK=>K dB w) w λd4 w=>
 Gd (bK d2 false) (λK=>K dB w) w λd5 w=>
 Gd (bK d2 false) (λK=>aA pg (dD .len #[22] 3 [d5]) w K) w λd6 w=>
 Gd (bK d2 false) (λK=>aA pg (aD .sub 3 aG aG d6 (aOo 1)) w K) w λd7 w=>
 Gd (bK d2 false) (λK=>aA pg (aO 22 d4 d7) w K) w λd8 w=>
 Gd (bK d2 false) (λK=>aA pg (aH 5 d8) w K) w λd9 w=>
 Gd (bK d2 false) (λK=>aA pg (aD .eql 5 (.tmp 29) (.const (.int .u8 0)) d9 (.int .u8 0)) w K) w λe0 w=>
 aA pg (cD d2 (.bool true) e0) w λe1 w=>
 Gd (bK e1 false) (λK=>K b9 w) w λe3 w=>
 Gd (bK e1 false) (λK=>K b9 w) w λe4 w=>
 Gd (bK e1 false) (λK=>aA pg (aD .sub 3 aG aG e4 (aOo 1)) w K) w λe5 w=>
 Gd (bK e1 false) (λK=>aA pg (aD .and 3 aG aG e3 e5) w K) w λe6 w=>
 Gd (bK e1 false) (λK=>aA pg (aD .neq 3 (.tmp 36) (.const (aOo 0)) e6 (aOo 0)) w K) w λe7 w=>
 aA pg (cD e1 (.bool true) e7) w λe8 w=>
 bQ e8
  (R (aOo 0) w)
  (aA pg (cH 3 50 b9) w λf0 w=>
  aK pg pK #[f0] w λf1 w=>
  aA pg (aD .sub 3 aG aG f1 (aOo 1)) w λf2 w=>
  aA pg (aD .gtr 3 aG aG f2 (aOo 11)) w λf4 w=>
  Gd (bK f4 false) (λK=>K dB w) w λf6 w=>
  Gd (bK f4 false) (λK=>aK pg oI #[f6] w K) w λf7 w=>
  Gd (bK f4 false) (λK=>aA pg (cH 5 3 f7) w K) w λf8 w=>
  Gd (bK f4 false) (λK=>K f2 w) w λf9 w=>
  Gd (bK f4 false) (λK=>aA pg (aD .gtr 3 aG aG f8 f9) w K) w λi0 w=>
  aA pg (cD f4 (.bool true) i0) w λi1 w=>
  bQ i1
   (R (aOo 0) w)
   (R f2 w))
def WK a0 w(R:K1):=
 O2 R a0 w
theorem XP{a0 w R}(h:WK a0 w R):aK pg vA #[a0] w R:=
 lC (ann:=X8) Tryz.f108 Xb [a0] acP 53 TryzM.mixed Tryz.func108 (lX h cO)
def aeO:FA:=⟨FR,λi=> .leaf ([],[]) []⟩
def ajP:List ResultVar:=[.tmp 4,.tmp 5]
noncomputable def aaL:Code:=aY Tryz.f109
def Td(R:K1) dB bN w:=
 aK pg pL #[dB] w λc0 w=>
 aA pg (aV c0 0) w λc1 w=>
 aA pg (aV c0 1) w λc2 w=>
 aA pg (aD .neq 24 (.tmp 14) (.const (aOo 0)) c2 (aOo 0)) w λc5 w=>
 bQ c5
  (R (.tuple #[(.slice none 0 0),c2]) w)
  (aA pg (dD .len #[22] 3 [bN]) w λc9 w=>
  aA pg (aD .gtr 3 aG aG c9 (aOo 131072)) w λd0 w=>
  bQ d0
   (R (.tuple #[(.slice none 0 0),(aOo 1)]) w)
   (aK pg eN #[c1,bN] w λd3 w=>
   aA pg (aV d3 0) w λd4 w=>
   aA pg (aV d3 1) w λd5 w=>
   R (.tuple #[d4,d5]) w))
def adR a0 a1 w(R:K1):=
 Td R a0 a1 w
theorem abG{a0 a1 w R}(h:adR a0 a1 w R):aK pg FR #[a0,a1] w R:=
 lC (ann:=aeO) Tryz.f109 aaL [a0,a1] ajP 26 TryzM.mixed Tryz.func109 (lX h cO)
def zH:FA:=⟨Cx,λi=> .leaf ([],[]) []⟩
def By:List ResultVar:=[.tmp 4,.tmp 5]
noncomputable def xD:Code:=aY Tryz.f110
def Bp(R:K1) DI fF w:=
 aK pg fE #[DI,fF] w λl3 w=>
 aK pg eJ #[DI] w λl5 w=>
 R (.tuple #[l5,(aOo 0)]) w
def Bq(kn:K6) bN jL DI fF e8 e9 w:=
 aA pg (aD .add 3 aG aG e9 (aOo 1)) w λl0 w=>
 kn bN jL DI fF e8 l0 w
def Br(kn:K6) bN jL DI fF aKN e8 e9 w:=
 aA pg (dD .append #[22,22] 22 [fF,aKN]) w λj9 w=>
 kn bN jL DI j9 e8 e9 w
def QQ(kn:K7)(R:K1) bN jL DI fF e8 e9 w:=
 aA pg (IJ 139 e8 e9) w λf2 w=>
 aA pg (bP 22 bN none (some f2) none) w λf7 w=>
 aK pg eN #[jL,f7] w λf8 w=>
 aA pg (aV f8 0) w λf9 w=>
 aA pg (aV f8 1) w λi0 w=>
 aA pg (aD .neq 24 (.tmp 51) (.const (aOo 0)) i0 (aOo 0)) w λi2 w=>
 bQ i2
  (R (.tuple #[(.slice none 0 0),i0]) w)
  (aA pg (bP 22 bN (some f2) none none) w λi6 w=>
  aA pg (aD .lss 3 aG aG e9 (aOo 3)) w λi8 w=>
  bQ i8
   (aA pg (dD .len #[22] 3 [f9]) w λj0 w=>
   aA pg (aD .geq 3 aG aG j0 (aOo 65536)) w λj1 w=>
   bQ j1
    (R (.tuple #[(.slice none 0 0),(aOo 1)]) w)
    (aA pg (dD .len #[22] 3 [f9]) w λj4 w=>
    aA pg (cH 3 32 j4) w λj5 w=>
    aK pg bA #[DI,j5,(aOo 2)] w λj6 w=>
    kn i6 jL DI fF f9 e8 e9 w))
   (kn i6 jL DI fF f9 e8 e9 w))
def Hn(kn:K6)(R:K1) bN jL DI fF e8 e9 w:=
 QQ (Br kn) R bN jL DI fF e8 e9 w
def Ho(kn:K6)(R:K1) bN jL DI fF e8 e9 w:=
 Hn (Bq kn) R bN jL DI fF e8 e9 w
theorem Xj(kn:K6)(R:K1)(hn:N6 Q kn 1 6 10 11 38 39)(hr:HR By R Q)(h:Hn kn R (g 1) (g 6) (g 10) (g 11) (g 38) (g 39) w):cP pg zH (aQ 1 (aI 2 (bI (bI (aI 1 (aQ 1 (aI 7 xD))))))) Q g w:=
 qU 1 (bZ 5 (Mn (KQ (Br kn) 1 6 10 11 14 38 39) h (λg w h=>aE (eM _ h hn)) hr))
def QR(kn:K6)(k0:K2) bN jL DI fF e8 e9 w:=
 aA pg (aD .lss 3 aG aG e9 (aOo 4)) w λf0 w=>
 bQ f0
  (kn bN jL DI fF e8 e9 w)
  (k0 DI fF w)
def Hp(kn:K6)(k0:K2)(R:K1) bN jL DI fF e8 e9 w:=
 QR (Ho kn R) k0 bN jL DI fF e8 e9 w
def sS(k0:K2)(R:K1) bN jL DI fF e8 e9 w:=
 aX (λ(X:(aOn×aOn×aOn)->K0) (t:aOn×aOn×aOn) (w:aOm)=>Hp (λbN _ _ fF _ e9 w=>X (bN,fF,e9) w) k0 R t.1 jL DI t.2.1 e8 t.2.2 w) (bN,fF,e9) w
theorem Vd(k0:K2)(R:K1)(h0:E2 Q k0 0 10 11)(hr:HR By R Q)(h:sS k0 R (g 1) (g 6) (g 10) (g 11) (g 38) (g 39) w):cP pg zH (bI (aI 1 (aQ 1 (aI 7 xD)))) Q g w:=by
 refine AR (λg:Env=>(g 1,g 11,g 39)) (λX t w=>Hp (λbN _ _ fF _ e9 w=>X (bN,fF,e9) w) k0 R t.1 (g 6) (g 10) t.2.1 (g 38) t.2.2 w) h (λX g1 w1 ha hL=> ?_)
 rw[<-cI 6 ha,<-cI 10 ha,<-cI 38 ha]at hL
 exact(bZ 2 (zO [(0,(Lg k0 10 11))] (kr:=no) (UP (Ho (λbN _ _ fF _ e9 w=>X (bN,fF,e9) w) R) 1 6 10 11 38 39) hL (λg w h=>aE (bZ 1 (Xj _ g w (Bq (λbN _ _ fF _ e9 w=>X (bN,fF,e9) w)) R (λg w h=>aE (eM (UP (λbN _ _ fF _ e9 w=>X (bN,fF,e9) w) 1 6 10 11 38 39) h cO)) hr h))) D1 ⟨h0,trivial⟩))
def Oc(kn:K6) bN jL SJ DI fF w:=
 aA pg (aH 139 SJ) w λe8 w=>
 kn bN jL DI fF e8 (aOo 0) w
def ET(kn:K2)(R:K1) bN jL SJ DI fF w:=
 Oc (sS kn R) bN jL SJ DI fF w
def EU(R:K1) bN jL SJ DI fF w:=
 ET (Bp R) R bN jL SJ DI fF w
theorem Ve(kn:K2)(R:K1)(hn:N2 Q kn 10 11)(hr:HR By R Q)(h:ET kn R (g 1) (g 6) (g 8) (g 10) (g 11) w):cP pg zH (aQ 1 (aI 7 xD)) Q g w:=
 bZ 1 (eM (UP (sS kn R) 1 6 10 11 38 39) h (λg w h=>aE (qU 0 (Vd _ g w kn R hn hr h))))
def Od(kn:K5)(R:K1) dB bN w:=
 aK pg pL #[dB] w λc8 w=>
 aA pg (aV c8 0) w λc9 w=>
 aA pg (aV c8 1) w λd0 w=>
 aA pg (aD .neq 24 (.tmp 21) (.const (aOo 0)) d0 (aOo 0)) w λd2 w=>
 bQ d2
  (R (.tuple #[(.slice none 0 0),d0]) w)
  (aA pg (dD .len #[22] 3 [bN]) w λd6 w=>
  aK pg Ix #[d6] w λd7 w=>
  aA pg (aV d7 0) w λd8 w=>
  aA pg (aV d7 1) w λd9 w=>
  aA pg (bG 139) w λSJ w=>
  aA pg (aM 139 SJ d8) w λ_u w=>
  aA pg (sUn .not d9) w λe1 w=>
  Gd (bK e1 false) (λK=>K bN w) w λe3 w=>
  Gd (bK e1 false) (λK=>aA pg (dD .len #[22] 3 [e3]) w K) w λe4 w=>
  Gd (bK e1 false) (λK=>aA pg (aD .gtr 3 aG aG e4 (aOo 131072)) w K) w λe5 w=>
  aA pg (cD e1 (.bool true) e5) w λe6 w=>
  bQ e6
   (R (.tuple #[(.slice none 0 0),(aOo 1)]) w)
   (aK pg eZ #[] w λe7 w=>
   kn bN c9 SJ e7 (.slice none 0 0) w))
def Oe(R:K1) dB bN w:=
 Od (EU R) R dB bN w
def YN a0 a1 w(R:K1):=
 Oe R a0 a1 w
theorem YO{a0 a1 w R}(h:YN a0 a1 w R):aK pg Cx #[a0,a1] w R:=
 lC (ann:=zH) Tryz.f110 xD [a0,a1] By 76 TryzM.mixed Tryz.func110 (bZ 7 (Mn (O9 (EU R) 1 6 8 10 11) h (λg w h=>aE (bZ 1 (Ve _ g w (Bp R) R (λg w h=>aE (lX h cO)) cO h))) cO))
def akV:FA:=⟨B5,λi=>match Nat.beq i 4 with|true=> .leaf ([],[]) (fz 4 [])|false=>match Nat.beq i 7 with|true=> .leaf ([],[]) (fz 4 [])|false=> .leaf ([],[]) []⟩
def aqO:List ResultVar:=[.tmp 2,.tmp 3,.tmp 4]
noncomputable def ahG:Code:=aY Tryz.f111
def Ym(R:K1) bF w:=
 aA pg (aD .eql 3 (.tmp 7) (.const (aOo 0)) bF (aOo 0)) w λb9 w=>
 bQ b9
  (aA pg (aH 231 (.pointer (some ⟨3,0,none⟩))) w λc0 w=>
  aA pg (bG 231) w λl_5 w=>
  aA pg (aM 231 l_5 c0) w λ_u w=>
  aA pg (bP 231 l_5 none none none) (dr w) λc1 w_=>w_=(dr w)/\
  (dr w)=(dr w)/\
  (dr w)=(dr w)/\
  (dr w)=(dr w)/\
  R (.tuple #[(aOo 16),(.int .u32 0),c1]) (dr w))
  (aA pg (aD .eql 3 (.tmp 7) (.const (aOo 2)) bF (aOo 2)) w λc3 w=>
  bQ c3
   (aA pg (aH 232 (.pointer (some ⟨4,0,none⟩))) w λc4 w=>
   aA pg (bG 232) w λl_6 w=>
   aA pg (aM 232 l_6 c4) w λ_u w=>
   aA pg (bP 232 l_6 none none none) (dr w) λc5 w_=>w_=(dr w)/\
   (dr w)=(dr w)/\
   (dr w)=(dr w)/\
   (dr w)=(dr w)/\
   R (.tuple #[(aOo 32),(.int .u32 3),c5]) (dr w))
   (R (.tuple #[(aOo 0),(.int .u32 0),(.slice none 0 0)]) w))
def amK a0 w(R:K1):=
 Ym R a0 w
theorem ahM{a0 w R}(h:amK a0 w R):aK pg B5 #[a0] w R:=
 lC (ann:=akV) Tryz.f111 ahG [a0] aqO 16 TryzM.mixed Tryz.func111 (lX h cO)
def UX:FA:=⟨pQ,λi=> .leaf ([],[]) []⟩
def XB:List ResultVar:=[.tmp 2]
noncomputable def Sv:Code:=aY Tryz.f112
def tY(R:K1) fY UG w:=
 aA pg (cH 38 5 fY) w λc5 w=>
 aA pg (IJ 9 (.string ⟨#[0,1,2,2,3,3,3,3,4,4,4,4,4,4,4,4,5,5,5,5,5,5,5,5,5,5,5,5,5,5,5,5,6,6,6,6,6,6,6,6,6,6,6,6,6,6,6,6,6,6,6,6,6,6,6,6,6,6,6,6,6,6,6,6,7,7,7,7,7,7,7,7,7,7,7,7,7,7,7,7,7,7,7,7,7,7,7,7,7,7,7,7,7,7,7,7,7,7,7,7,7,7,7,7,7,7,7,7,7,7,7,7,7,7,7,7,7,7,7,7,7,7,7,7,7,7,7,7,8,8,8,8,8,8,8,8,8,8,8,8,8,8,8,8,8,8,8,8,8,8,8,8,8,8,8,8,8,8,8,8,8,8,8,8,8,8,8,8,8,8,8,8,8,8,8,8,8,8,8,8,8,8,8,8,8,8,8,8,8,8,8,8,8,8,8,8,8,8,8,8,8,8,8,8,8,8,8,8,8,8,8,8,8,8,8,8,8,8,8,8,8,8,8,8,8,8,8,8,8,8,8,8,8,8,8,8,8,8,8,8,8,8,8,8,8,8,8,8,8,8,8,8,8,8,8,8]⟩) c5) w λc6 w=>
 aA pg (cH 5 3 c6) w λc7 w=>
 aA pg (aD .add 3 aG aG UG c7) w λc8 w=>
 R c8 w
def J1 (kn:K2) fY UG w:=
 aA pg (aD .geq 38 aG aG fY (.int .u32 256)) w λb8 w=>
 bQ b8
  (aA pg (aD .shr 38 aG aG fY (.int .u64 8)) w λc0 w=>
  aA pg (aD .add 3 aG aG UG (aOo 8)) w λc2 w=>
  kn c0 c2 w)
  (kn fY UG w)
def tZ(R:K1) fY UG w:=
 J1 (tY R) fY UG w
def J2 (kn:K2) fY w:=
 aA pg (aD .geq 38 aG aG fY (.int .u32 65536)) w λb4 w=>
 bQ b4
  (aA pg (aD .shr 38 aG aG fY (.int .u64 16)) w λb6 w=>
  kn b6 (aOo 16) w)
  (kn fY (aOo 0) w)
def J3 (R:K1) fY w:=
 J2 (tZ R) fY w
def Q1 a0 w(R:K1):=
 J3 R a0 w
theorem Ty{a0 w R}(h:Q1 a0 w R):aK pg pQ #[a0] w R:=
 lC (ann:=UX) Tryz.f112 Sv [a0] XB 19 TryzM.mixed Tryz.func112 (bZ 2 (eM (Lg (tZ R) 0 2) h (λg w h=>aE (bZ 1 (eM (Lg (tY R) 0 2) h (λg w h=>aE (lX h cO)))))))
def aaE:FA:=⟨CA,λi=> .leaf ([],[]) []⟩
def afV:List ResultVar:=[.tmp 4]
noncomputable def Yi:Code:=aY Tryz.f113
def Q4 (R:K1) c_0 aIn w:=
 aA pg (Ba 162 c_0) w λc_2 w=>
 aA pg (aH 162 c_2) w λb6 w=>
 aK pg CC #[b6] w λb7 w=>
 aA pg (sUn .not b7) w λb8 w=>
 bQ b8
  (R (aOo 1) w)
  (aA pg (aJ 162 c_2 0) w λc0 w=>
  aA pg (aH 3 c0) w λc1 w=>
  aA pg (aD .gtr 3 aG aG c1 aIn) w λc3 w=>
  bQ c3
   (R (aOo 12) w)
   (R (aOo 0) w))
def Zb a0 a1 w(R:K1):=
 Q4 R a0 a1 w
theorem Zc{a0 a1 w R}(h:Zb a0 a1 w R):aK pg CA #[a0,a1] w R:=
 lC (ann:=aaE) Tryz.f113 Yi [a0,a1] afV 14 TryzM.mixed Tryz.func113 (lX h cO)
def jJ:FA:=⟨Cv,λi=> .leaf ([],[]) []⟩
def alP:List ResultVar:=[.tmp 2]
noncomputable def gW:Code:=aY Tryz.f114
def Mx(R:K1) bE w:=
 R bE w
def My(kn:K7) AS bE bR fZ e7 e8 e9 w:=
 aA pg (aD .add 3 aG aG e9 (aOo 1)) w λj8 w=>
 kn AS bE bR fZ e7 e8 j8 w
def Mz(kn:Z3) AS bE bR fZ s_9 e7 e8 e9 f5 f6 w:=
 aA pg (aD .add 3 aG aG f6 (aOo 1)) w λj7 w=>
 kn AS bE bR fZ s_9 e7 e8 e9 f5 j7 w
def MA(kn:Z3)(k5:Z3) AS bE bR fZ s_9 e7 e8 e9 f5 f6 w:=
 aA pg (aD .shr 3 aG aG AS (.int .u64 1)) w λi6 w=>
 aA pg (aD .add 3 aG aG fZ i6) w λi7 w=>
 aA pg (aD .shr 3 aG aG AS (.int .u64 3)) w λi9 w=>
 aA pg (aD .add 3 aG aG i7 i9) w λj0 w=>
 aA pg (aD .add 3 aG aG j0 (aOo 3)) w λj1 w=>
 aA pg (aD .rem 3 aG aG j1 AS) w λj3 w=>
 aA pg (aD .lss 3 aG aG j3 bR) w λj6 w=>
 bQ j6
  (k5 AS bE bR j3 s_9 e7 e8 e9 f5 f6 w)
  (kn AS bE bR j3 s_9 e7 e8 e9 f5 f6 w)
def vN(k5:Z3) AS bE bR fZ s_9 e7 e8 e9 f5 f6 w:=
 aX (λ(X:aOn->K0) (t:aOn) (w:aOm)=>MA (λ_ _ _ fZ _ _ _ _ _ _ w=>X fZ w) k5 AS bE bR t s_9 e7 e8 e9 f5 f6 w) fZ w
theorem abD(k5:Z3)(h5:E10 Q k5 5 3 4 5 8 9 37 38 39 45 46)(h:vN k5 (g 3) (g 4) (g 5) (g 8) (g 9) (g 37) (g 38) (g 39) (g 45) (g 46) w):cP pg jJ (bI (aI 1 (bI (aQ 1 (aI 2 (bI (bI (aI 2 (bI (aI 1 (bI (aQ 1 (aI 2 (bI (bI (aI 1 (aQ 1 (aI 1 (aI 1 (aI 4 gW)))))))))))))))))))) Q g w:=by
 refine AR (λg:Env=>g 8) (λX t w=>MA (λ_ _ _ fZ _ _ _ _ _ _ w=>X fZ w) k5 (g 3) (g 4) (g 5) t (g 9) (g 37) (g 38) (g 39) (g 45) (g 46) w) h (λX g1 w1 ha hL=> ?_)
 rw[<-cI 3 ha,<-cI 4 ha,<-cI 5 ha,<-cI 9 ha,<-cI 37 ha,<-cI 38 ha,<-cI 39 ha,<-cI 45 ha,<-cI 46 ha]at hL
 exact(zO [(5,(X1 k5 3 4 5 8 9 37 38 39 45 46))] (kr:=no) (X1 (λ_ _ _ fZ _ _ _ _ _ _ w=>X fZ w) 3 4 5 8 9 37 38 39 45 46) hL cO D1 ⟨h5,trivial⟩)
def V9 (kn:Z3) AS bE bR fZ s_9 e7 e8 e9 f5 f6 w:=
 aA pg (cH 3 5 s_9) w λi1 w=>
 aA pg (aO 104 bE fZ) w λi2 w=>
 aA pg (aJ 194 i2 0) w λi3 w=>
 aA pg (aM 5 i3 i1) w λ_u w=>
 kn AS bE bR fZ s_9 e7 e8 e9 f5 f6 w
def MB(k5:Z3) AS bE bR fZ s_9 e7 e8 e9 f5 f6 w:=
 V9 (vN k5) AS bE bR fZ s_9 e7 e8 e9 f5 f6 w
def Jw(kn:Z3) AS bE bR fZ s_9 e7 e8 e9 f5 f6 w:=
 MB (Mz kn) AS bE bR fZ s_9 e7 e8 e9 f5 f6 w
theorem abE(kn:Z3)(hn:N10 Q kn 3 4 5 8 9 37 38 39 45 46)(h:MB kn (g 3) (g 4) (g 5) (g 8) (g 9) (g 37) (g 38) (g 39) (g 45) (g 46) w):cP pg jJ (aQ 1 (aI 2 (bI (bI (aI 2 (bI (aI 1 (bI (aQ 1 (aI 2 (bI (bI (aI 1 (aQ 1 (aI 1 (aI 1 (aI 4 gW))))))))))))))))) Q g w:=
 qU 5 (bZ 1 (eM (X1 (vN kn) 3 4 5 8 9 37 38 39 45 46) h (λg w h=>aE (qU 6 (abD _ g w kn hn h)))))
def Jx(kn:Z3)(k4:K7) AS bE bR fZ s_9 e7 e8 e9 f5 f6 w:=
 aA pg (aD .lss 3 aG aG f6 f5) w λf7 w=>
 bQ f7
  (kn AS bE bR fZ s_9 e7 e8 e9 f5 f6 w)
  (k4 AS bE bR fZ e7 e8 e9 w)
def C9 (kn:Z3)(k4:K7) AS bE bR fZ s_9 e7 e8 e9 f5 f6 w:=
 Jx (Jw kn) k4 AS bE bR fZ s_9 e7 e8 e9 f5 f6 w
def Da(k4:K7) AS bE bR fZ s_9 e7 e8 e9 f5 f6 w:=
 aX (λ(X:(aOn×aOn)->K0) (t:aOn×aOn) (w:aOm)=>C9 (λ_ _ _ fZ _ _ _ _ _ f6 w=>X (fZ,f6) w) k4 AS bE bR t.1 s_9 e7 e8 e9 f5 t.2 w) (fZ,f6) w
theorem YF(k4:K7)(h4:E7 Q k4 4 3 4 5 8 37 38 39)(h:Da k4 (g 3) (g 4) (g 5) (g 8) (g 9) (g 37) (g 38) (g 39) (g 45) (g 46) w):cP pg jJ (bI (aI 2 (bI (aI 1 (bI (aQ 1 (aI 2 (bI (bI (aI 1 (aQ 1 (aI 1 (aI 1 (aI 4 gW)))))))))))))) Q g w:=by
 refine AR (λg:Env=>(g 8,g 46)) (λX t w=>C9 (λ_ _ _ fZ _ _ _ _ _ f6 w=>X (fZ,f6) w) k4 (g 3) (g 4) (g 5) t.1 (g 9) (g 37) (g 38) (g 39) (g 45) t.2 w) h (λX g1 w1 ha hL=> ?_)
 rw[<-cI 3 ha,<-cI 4 ha,<-cI 5 ha,<-cI 9 ha,<-cI 37 ha,<-cI 38 ha,<-cI 39 ha,<-cI 45 ha]at hL
 exact(bZ 2 (zO [(4,(KQ k4 3 4 5 8 37 38 39))] (kr:=no) (X1 (Jw (λ_ _ _ fZ _ _ _ _ _ f6 w=>X (fZ,f6) w)) 3 4 5 8 9 37 38 39 45 46) hL (λg w h=>aE (bZ 1 (abE _ g w (Mz (λ_ _ _ fZ _ _ _ _ _ f6 w=>X (fZ,f6) w)) (λg w h=>aE (eM (X1 (λ_ _ _ fZ _ _ _ _ _ f6 w=>X (fZ,f6) w) 3 4 5 8 9 37 38 39 45 46) h cO)) h))) D1 ⟨h4,trivial⟩))
def S1 (kn:Z3) AS bE bR fZ s_9 aIv e7 e8 e9 w:=
 aA pg (dD .max #[3,3] 3 [aIv,(aOo 0)]) w λf5 w=>
 kn AS bE bR fZ s_9 e7 e8 e9 f5 (aOo 0) w
def Jy(kn:K7) AS bE bR fZ s_9 aIv e7 e8 e9 w:=
 S1 (Da kn) AS bE bR fZ s_9 aIv e7 e8 e9 w
def S3 (kn:K9) AS bE bR fZ e7 e8 e9 w:=
 aA pg (aO 117 e7 e9) w λf2 w=>
 aA pg (aH 3 f2) w λf3 w=>
 kn AS bE bR fZ e9 f3 e7 e8 e9 w
def Jz(kn:K7) AS bE bR fZ e7 e8 e9 w:=
 S3 (Jy kn) AS bE bR fZ e7 e8 e9 w
def JA(kn:K7) AS bE bR fZ e7 e8 e9 w:=
 Jz (My kn) AS bE bR fZ e7 e8 e9 w
theorem YG(kn:K7)(hn:N7 Q kn 3 4 5 8 37 38 39)(h:Jz kn (g 3) (g 4) (g 5) (g 8) (g 37) (g 38) (g 39) w):cP pg jJ (aQ 1 (aI 2 (bI (bI (aI 1 (aQ 1 (aI 1 (aI 1 (aI 4 gW))))))))) Q g w:=
 qU 3 (bZ 1 (eM (Mq9 (Jy kn) 3 4 5 8 9 10 37 38 39) h (λg w h=>aE (scD (bZ 2 (eM (X1 (Da kn) 3 4 5 8 9 37 38 39 45 46) h (λg w h=>aE (qU 4 (YF _ g w kn hn h)))))))))
def JB(kn:K7)(k2:K1) AS bE bR fZ e7 e8 e9 w:=
 aA pg (aD .lss 3 aG aG e9 e8) w λf0 w=>
 bQ f0
  (kn AS bE bR fZ e7 e8 e9 w)
  (k2 bE w)
def Db(kn:K7)(k2:K1) AS bE bR fZ e7 e8 e9 w:=
 JB (JA kn) k2 AS bE bR fZ e7 e8 e9 w
def Dc(k2:K1) AS bE bR fZ e7 e8 e9 w:=
 aX (λ(X:(aOn×aOn)->K0) (t:aOn×aOn) (w:aOm)=>Db (λ_ _ _ fZ _ _ e9 w=>X (fZ,e9) w) k2 AS bE bR t.1 e7 e8 t.2 w) (fZ,e9) w
theorem YH(k2:K1)(h2:E1 Q k2 2 4)(h:Dc k2 (g 3) (g 4) (g 5) (g 8) (g 37) (g 38) (g 39) w):cP pg jJ (bI (aI 1 (aQ 1 (aI 1 (aI 1 (aI 4 gW)))))) Q g w:=by
 refine AR (λg:Env=>(g 8,g 39)) (λX t w=>Db (λ_ _ _ fZ _ _ e9 w=>X (fZ,e9) w) k2 (g 3) (g 4) (g 5) t.1 (g 37) (g 38) t.2 w) h (λX g1 w1 ha hL=> ?_)
 rw[<-cI 3 ha,<-cI 4 ha,<-cI 5 ha,<-cI 37 ha,<-cI 38 ha]at hL
 exact(bZ 2 (zO [(2,(UO k2 4))] (kr:=no) (KQ (JA (λ_ _ _ fZ _ _ e9 w=>X (fZ,e9) w)) 3 4 5 8 37 38 39) hL (λg w h=>aE (bZ 1 (YG _ g w (My (λ_ _ _ fZ _ _ e9 w=>X (fZ,e9) w)) (λg w h=>aE (eM (KQ (λ_ _ _ fZ _ _ e9 w=>X (fZ,e9) w) 3 4 5 8 37 38 39) h cO)) h))) D1 ⟨h2,trivial⟩))
def S5 (kn:K7) fA AS bE bR fZ w:=
 aA pg (aJ 162 fA 1) w λe6 w=>
 aA pg (aH 117 e6) w λe7 w=>
 aA pg (dD .len #[117] 3 [e7]) w λe8 w=>
 kn AS bE bR fZ e7 e8 (aOo 0) w
def JC(kn:K1) fA AS bE bR fZ w:=
 S5 (Dc kn) fA AS bE bR fZ w
def JD(R:K1) fA AS bE bR fZ w:=
 JC (Mx R) fA AS bE bR fZ w
theorem YI(kn:K1)(hn:N1 Q kn 4)(h:JC kn (g 1) (g 3) (g 4) (g 5) (g 8) w):cP pg jJ (aQ 1 (aI 1 (aI 1 (aI 4 gW)))) Q g w:=
 bZ 1 (eM (KQ (Dc kn) 3 4 5 8 37 38 39) h (λg w h=>aE (qU 2 (YH _ g w kn hn h))))
def S6 (kn:K5) fA AS bE bR w:=
 kn fA AS bE bR (aOo 0) w
def JE(R:K1) fA AS bE bR w:=
 S6 (JD R) fA AS bE bR w
def JF(kn:K7) fA AS bE bR c8 c9 d0 w:=
 aA pg (aD .add 3 aG aG d0 (aOo 1)) w λe5 w=>
 kn fA AS bE bR c8 c9 e5 w
def JG(kn:K7)(k0:K4) fA AS bE bR c8 c9 d0 w:=
 aA pg (aD .lss 3 aG aG d0 c9) w λd1 w=>
 bQ d1
  (aA pg (aO 117 c8 d0) w λd3 w=>
  aA pg (aH 3 d3) w λd4 w=>
  aA pg (aD .eql 3 (.tmp 25) (.const (aOo (-1))) d4 (aOo (-1))) w λd6 w=>
  bQ d6
   (aA pg (aD .sub 3 aG aG bR (aOo 1)) w λd8 w=>
   aA pg (cH 3 5 d0) w λe2 w=>
   aA pg (aO 104 bE d8) w λe3 w=>
   aA pg (aJ 194 e3 0) w λe4 w=>
   aA pg (aM 5 e4 e2) w λ_u w=>
   kn fA AS bE d8 c8 c9 d0 w)
   (kn fA AS bE bR c8 c9 d0 w))
  (k0 fA AS bE bR w)
def Dd(kn:K7)(k0:K4) fA AS bE bR c8 c9 d0 w:=
 JG (JF kn) k0 fA AS bE bR c8 c9 d0 w
def De(k0:K4) fA AS bE bR c8 c9 d0 w:=
 aX (λ(X:(aOn×aOn)->K0) (t:aOn×aOn) (w:aOm)=>Dd (λ_ _ _ bR _ _ d0 w=>X (bR,d0) w) k0 fA AS bE t.1 c8 c9 t.2 w) (bR,d0) w
theorem YJ(k0:K4)(h0:E4 Q k0 0 1 3 4 5)(h:De k0 (g 1) (g 3) (g 4) (g 5) (g 18) (g 19) (g 20) w):cP pg jJ (bI (aI 1 (aQ 1 (aI 4 gW)))) Q g w:=by
 refine AR (λg:Env=>(g 5,g 20)) (λX t w=>Dd (λ_ _ _ bR _ _ d0 w=>X (bR,d0) w) k0 (g 1) (g 3) (g 4) t.1 (g 18) (g 19) t.2 w) h (λX g1 w1 ha hL=> ?_)
 rw[<-cI 1 ha,<-cI 3 ha,<-cI 4 ha,<-cI 18 ha,<-cI 19 ha]at hL
 exact(bZ 3 (zO [(0,(AQ k0 1 3 4 5))] (kr:=no) (KQ (JF (λ_ _ _ bR _ _ d0 w=>X (bR,d0) w)) 1 3 4 5 18 19 20) hL (λg w h=>aE (eM (KQ (λ_ _ _ bR _ _ d0 w=>X (bR,d0) w) 1 3 4 5 18 19 20) h cO)) D1 ⟨h0,trivial⟩))
def S8 (kn:K7) fA AS bE bR w:=
 aA pg (aJ 162 fA 1) w λc7 w=>
 aA pg (aH 117 c7) w λc8 w=>
 aA pg (dD .len #[117] 3 [c8]) w λc9 w=>
 kn fA AS bE bR c8 c9 (aOo 0) w
def JH(kn:K4) fA AS bE bR w:=
 S8 (De kn) fA AS bE bR w
def JI(R:K1) fA AS bE bR w:=
 JH (JE R) fA AS bE bR w
theorem YK(kn:K4)(hn:N4 Q kn 1 3 4 5)(h:JH kn (g 1) (g 3) (g 4) (g 5) w):cP pg jJ (aQ 1 (aI 4 gW)) Q g w:=
 bZ 1 (eM (KQ (De kn) 1 3 4 5 18 19 20) h (λg w h=>aE (qU 0 (YJ _ g w kn hn h))))
def S9 (kn:K4) c_0 w:=
 aA pg (Ba 162 c_0) w λfA w=>
 aA pg (aJ 162 fA 0) w λc1 w=>
 aA pg (aH 3 c1) w λc2 w=>
 aA pg (aD .shl 3 aG aG (aOo 1) c2) w λc3 w=>
 aA pg (iX 104 c3 c3) w λc5 w=>
 kn fA c3 c5 c3 w
def Ta(R:K1) c_0 w:=
 S9 (JI R) c_0 w
def aiA a0 w(R:K1):=
 Ta R a0 w
theorem afD{a0 w R}(h:aiA a0 w R):aK pg Cv #[a0] w R:=
 lC (ann:=jJ) Tryz.f114 gW [a0] alP 70 TryzM.mixed Tryz.func114 (bZ 4 (eM (AQ (JI R) 1 3 4 5) h (λg w h=>aE (bZ 1 (YK _ g w (JE R) (λg w h=>aE (bZ 1 (eM (O9 (JD R) 1 3 4 5 8) h (λg w h=>aE (bZ 1 (YI _ g w (Mx R) (λg w h=>aE (lX h cO)) h)))))) h)))))
def X6:FA:=⟨pK,λi=> .leaf ([],[]) []⟩
def acL:List ResultVar:=[.tmp 2]
noncomputable def W9:Code:=aY Tryz.f115
def Ok(R:K1) fY w:=
 bQ (.bool false)
  (aA pg (cH 50 38 fY) w λb4 w=>
  aK pg pQ #[b4] w λb5 w=>
  R b5 w)
  (aK pg pR #[fY] w λb7 w=>
  R b7 w)
def Wn a0 w(R:K1):=
 Ok R a0 w
theorem Xp{a0 w R}(h:Wn a0 w R):aK pg pK #[a0] w R:=
 lC (ann:=X6) Tryz.f115 W9 [a0] acL 8 TryzM.mixed Tryz.func115 (lX h cO)
def I1:FA:=⟨CC,λi=> .leaf ([],[]) []⟩
def MT:List ResultVar:=[.tmp 2]
noncomputable def Hh:Code:=aY Tryz.f116
def MM(R:K1) tW w:=
 aA pg (aD .eql 3 (.tmp 60) (.const (aOo 0)) tW (aOo 0)) w λj1 w=>
 R j1 w
def A7 (kn:K4)(k0:K1)(R:K1) tW f1 f2 f3 w:=
 aA pg (aD .lss 3 aG aG f3 f2) w λf4 w=>
 bQ f4
  (aA pg (aO 117 f1 f3) w λf5 w=>
  aA pg (aH 3 f5) w λf6 w=>
  aA pg (aD .lss 3 aG aG f6 (aOo (-1))) w λf8 w=>
  Gd (bK f8 false) (λK=>K f6 w) w λi0 w=>
  Gd (bK f8 false) (λK=>aK pg sC #[i0] w K) w λi1 w=>
  Gd (bK f8 false) (λK=>K tW w) w λi2 w=>
  Gd (bK f8 false) (λK=>aA pg (aD .gtr 3 aG aG i1 i2) w K) w λi3 w=>
  aA pg (cD f8 (.bool true) i3) w λi4 w=>
  bQ i4
   (R (.bool false) w)
   (aK pg sC #[f6] w λi7 w=>
   aA pg (aD .sub 3 aG aG tW i7) w λi8 w=>
   aA pg (aD .add 3 aG aG f3 (aOo 1)) w λi9 w=>
   kn i8 f1 f2 i9 w))
  (k0 tW w)
def Gh(k0:K1)(R:K1) tW f1 f2 f3 w:=
 aX (λ(X:(aOn×aOn)->K0) (t:aOn×aOn) (w:aOm)=>A7 (λtW _ _ f3 w=>X (tW,f3) w) k0 R t.1 f1 f2 t.2 w) (tW,f3) w
theorem abX(k0:K1)(R:K1)(h0:E1 Q k0 0 3)(hr:HR MT R Q)(h:Gh k0 R (g 3) (g 41) (g 42) (g 43) w):cP pg I1 (bI (aI 1 (aQ 1 (aI 3 Hh)))) Q g w:=by
 refine AR (λg:Env=>(g 3,g 43)) (λX t w=>A7 (λtW _ _ f3 w=>X (tW,f3) w) k0 R t.1 (g 41) (g 42) t.2 w) h (λX g1 w1 ha hL=> ?_)
 rw[<-cI 41 ha,<-cI 42 ha]at hL
 exact(zO [(0,(UO k0 3))] (AQ (λtW _ _ f3 w=>X (tW,f3) w) 3 41 42 43) hL cO hr ⟨h0,trivial⟩)
def Ww(kn:K4) fA tW w:=
 aA pg (aJ 162 fA 1) w λf0 w=>
 aA pg (aH 117 f0) w λf1 w=>
 aA pg (dD .len #[117] 3 [f1]) w λf2 w=>
 kn tW f1 f2 (aOo 0) w
def MN(kn:K1)(R:K1) fA tW w:=
 Ww (Gh kn R) fA tW w
def MO(R:K1) fA tW w:=
 MN (MM R) R fA tW w
theorem abY(kn:K1)(R:K1)(hn:N1 Q kn 3)(hr:HR MT R Q)(h:MN kn R (g 1) (g 3) w):cP pg I1 (aQ 1 (aI 3 Hh)) Q g w:=
 bZ 1 (eM (AQ (Gh kn R) 3 41 42 43) h (λg w h=>aE (qU 0 (abX _ g w kn R hn hr h))))
def Wx(kn:K2)(R:K1) c_0 w:=
 aA pg (Ba 162 c_0) w λfA w=>
 aA pg (aJ 162 fA 0) w λb6 w=>
 aA pg (aH 3 b6) w λb7 w=>
 aA pg (aD .lss 3 aG aG b7 (aOo 5)) w λb8 w=>
 Gd (bK b8 false) (λK=>aA pg (aJ 162 fA 0) w K) w λc0 w=>
 Gd (bK b8 false) (λK=>aA pg (aH 3 c0) w K) w λc1 w=>
 Gd (bK b8 false) (λK=>aA pg (aD .gtr 3 aG aG c1 (aOo 15)) w K) w λc2 w=>
 aA pg (cD b8 (.bool true) c2) w λc3 w=>
 Gd (bK c3 false) (λK=>aA pg (aJ 162 fA 1) w K) w λc5 w=>
 Gd (bK c3 false) (λK=>aA pg (aH 117 c5) w K) w λc6 w=>
 Gd (bK c3 false) (λK=>aA pg (dD .len #[117] 3 [c6]) w K) w λc7 w=>
 Gd (bK c3 false) (λK=>aA pg (aD .lss 3 aG aG c7 (aOo 1)) w K) w λc8 w=>
 aA pg (cD c3 (.bool true) c8) w λc9 w=>
 Gd (bK c9 false) (λK=>aA pg (aJ 162 fA 1) w K) w λd1 w=>
 Gd (bK c9 false) (λK=>aA pg (aH 117 d1) w K) w λd2 w=>
 Gd (bK c9 false) (λK=>aA pg (dD .len #[117] 3 [d2]) w K) w λd3 w=>
 Gd (bK c9 false) (λK=>aA pg (aD .gtr 3 aG aG d3 (aOo 256)) w K) w λd4 w=>
 aA pg (cD c9 (.bool true) d4) w λd5 w=>
 Gd (bK d5 false) (λK=>aA pg (aJ 162 fA 1) w K) w λd7 w=>
 Gd (bK d5 false) (λK=>aA pg (aH 117 d7) w K) w λd8 w=>
 Gd (bK d5 false) (λK=>aA pg (aJ 162 fA 1) w K) w λd9 w=>
 Gd (bK d5 false) (λK=>aA pg (aH 117 d9) w K) w λe0 w=>
 Gd (bK d5 false) (λK=>aA pg (dD .len #[117] 3 [e0]) w K) w λe1 w=>
 Gd (bK d5 false) (λK=>aA pg (aD .sub 3 aG aG e1 (aOo 1)) w K) w λe2 w=>
 Gd (bK d5 false) (λK=>aA pg (aO 117 d8 e2) w K) w λe3 w=>
 Gd (bK d5 false) (λK=>aA pg (aH 3 e3) w K) w λe4 w=>
 Gd (bK d5 false) (λK=>aA pg (aD .eql 3 (.tmp 34) (.const (aOo 0)) e4 (aOo 0)) w K) w λe5 w=>
 aA pg (cD d5 (.bool true) e5) w λe6 w=>
 bQ e6
  (R (.bool false) w)
  (aA pg (aJ 162 fA 0) w λe7 w=>
  aA pg (aH 3 e7) w λe8 w=>
  aA pg (aD .shl 3 aG aG (aOo 1) e8) w λe9 w=>
  kn fA e9 w)
def Wy(R:K1) c_0 w:=
 Wx (MO R) R c_0 w
def aiY a0 w(R:K1):=
 Wy R a0 w
theorem afN{a0 w R}(h:aiY a0 w R):aK pg CC #[a0] w R:=
 lC (ann:=I1) Tryz.f116 Hh [a0] MT 62 TryzM.mixed Tryz.func116 (bZ 3 (Mn (Lg (MO R) 1 3) h (λg w h=>aE (bZ 1 (abY _ g w (MM R) R (λg w h=>aE (lX h cO)) cO h))) cO))
def aaF:FA:=⟨sC,λi=> .leaf ([],[]) []⟩
def afX:List ResultVar:=[.tmp 2]
noncomputable def Yj:Code:=aY Tryz.f117
def Hu(R:K1) p_0 w:=
 aA pg (aD .lss 3 aG aG p_0 (aOo 0)) w λb4 w=>
 bQ b4
  (R (aOo 1) w)
  (R p_0 w)
def PV a0 w(R:K1):=
 Hu R a0 w
theorem Zh{a0 w R}(h:PV a0 w R):aK pg sC #[a0] w R:=
 lC (ann:=aaF) Tryz.f117 Yj [a0] afX 6 TryzM.mixed Tryz.func117 (lX h cO)
def US:FA:=⟨wR,λi=> .leaf ([],[]) []⟩
def Xx:List ResultVar:=[.tmp 2]
noncomputable def Sp:Code:=aY Tryz.f118
def I8 (R:K1) D3 w:=
 aA pg (aD .eql 170 (.tmp 3) (.const (.pointer none)) D3 (.pointer none)) w λb4 w=>
 bQ b4
  (R (.slice none 0 0) w)
  (aA pg (dS D3) w λb6 w=>
  aA pg (aJ 201 b6 0) w λb7 w=>
  aA pg (aH 22 b7) w λb8 w=>
  aK pg gG #[b8] w λb9 w=>
  R b9 w)
def Qw a0 w(R:K1):=
 I8 R a0 w
theorem Sj{a0 w R}(h:Qw a0 w R):aK pg wR #[a0] w R:=
 lC (ann:=US) Tryz.f118 Sp [a0] Xx 10 TryzM.mixed Tryz.func118 (lX h cO)
def UZ:FA:=⟨wV,λi=> .leaf ([],[]) []⟩
def XD:List ResultVar:=[.tmp 4,.tmp 5]
noncomputable def Sx:Code:=aY Tryz.f120
def J8 (R:K1) fY y_1 w:=
 aA pg (aD .and 32 aG aG fY (.int .u64 4294967295)) w λc5 w=>
 aA pg (aD .shr 32 aG aG fY (.int .u64 32)) w λc7 w=>
 aA pg (aD .and 32 aG aG y_1 (.int .u64 4294967295)) w λc9 w=>
 aA pg (aD .shr 32 aG aG y_1 (.int .u64 32)) w λd1 w=>
 aA pg (aD .mul 32 aG aG c5 c9) w λd4 w=>
 aA pg (aD .mul 32 aG aG c7 c9) w λd7 w=>
 aA pg (aD .shr 32 aG aG d4 (.int .u64 32)) w λd9 w=>
 aA pg (aD .add 32 aG aG d7 d9) w λe0 w=>
 aA pg (aD .and 32 aG aG e0 (.int .u64 4294967295)) w λe2 w=>
 aA pg (aD .shr 32 aG aG e0 (.int .u64 32)) w λe4 w=>
 aA pg (aD .mul 32 aG aG c5 d1) w λe8 w=>
 aA pg (aD .add 32 aG aG e2 e8) w λe9 w=>
 aA pg (aD .mul 32 aG aG c7 d1) w λf2 w=>
 aA pg (aD .add 32 aG aG f2 e4) w λf4 w=>
 aA pg (aD .shr 32 aG aG e9 (.int .u64 32)) w λf6 w=>
 aA pg (aD .add 32 aG aG f4 f6) w λf7 w=>
 aA pg (aD .mul 32 aG aG fY y_1) w λi0 w=>
 R (.tuple #[f7,i0]) w
def Q3 a0 a1 w(R:K1):=
 J8 R a0 a1 w
theorem TA{a0 a1 w R}(h:Q3 a0 a1 w R):aK pg wV #[a0,a1] w R:=
 lC (ann:=UZ) Tryz.f120 Sx [a0,a1] XD 51 TryzM.mixed Tryz.func120 (lX h cO)
def CK:FA:=⟨Bk,λi=> .leaf ([],[]) []⟩
def Fj:List ResultVar:=[.tmp 2,.tmp 3]
noncomputable def BI:Code:=aY Tryz.f132
def FK(R:K1) eY w:=
 R (.tuple #[eY,(.bool true)]) w
def FL(kn:K4) eY b7 b8 b9 w:=
 aA pg (aD .add 3 aG aG b9 (aOo 1)) w λd2 w=>
 kn eY b7 b8 d2 w
def O3 (kn:K4)(k0:K1)(R:K1) eY b7 b8 b9 w:=
 aA pg (aD .lss 3 aG aG b9 b8) w λc0 w=>
 bQ c0
  (aA pg (aO 22 b7 b9) w λc1 w=>
  aA pg (aH 5 c1) w λc2 w=>
  aA pg (aD .gtr 5 aG aG c2 (.int .u8 11)) w λc4 w=>
  bQ c4
   (R (.tuple #[(aOo 0),(.bool false)]) w)
   (aA pg (aD .gtr 5 aG aG c2 (.int .u8 0)) w λc6 w=>
   bQ c6
    (aA pg (aD .sub 5 aG aG c2 (.int .u8 1)) w λc9 w=>
    aA pg (aD .shl 3 aG aG (aOo 1) c9) w λd0 w=>
    aA pg (aD .add 3 aG aG eY d0) w λd1 w=>
    kn d1 b7 b8 b9 w)
    (kn eY b7 b8 b9 w)))
  (k0 eY w)
def FM(kn:K4)(k0:K1)(R:K1) eY b7 b8 b9 w:=
 O3 (FL kn) k0 R eY b7 b8 b9 w
def Aa(k0:K1)(R:K1) eY b7 b8 b9 w:=
 aX (λ(X:(aOn×aOn)->K0) (t:aOn×aOn) (w:aOm)=>FM (λeY _ _ b9 w=>X (eY,b9) w) k0 R t.1 b7 b8 t.2 w) (eY,b9) w
theorem Vz(k0:K1)(R:K1)(h0:E1 Q k0 0 4)(hr:HR Fj R Q)(h:Aa k0 R (g 4) (g 7) (g 8) (g 9) w):cP pg CK (bI (aI 1 (aQ 1 (aI 2 BI)))) Q g w:=by
 refine AR (λg:Env=>(g 4,g 9)) (λX t w=>FM (λeY _ _ b9 w=>X (eY,b9) w) k0 R t.1 (g 7) (g 8) t.2 w) h (λX g1 w1 ha hL=> ?_)
 rw[<-cI 7 ha,<-cI 8 ha]at hL
 exact(bZ 3 (zO [(0,(UO k0 4))] (AQ (FL (λeY _ _ b9 w=>X (eY,b9) w)) 4 7 8 9) hL (λg w h=>aE (eM (AQ (λeY _ _ b9 w=>X (eY,b9) w) 4 7 8 9) h cO)) hr ⟨h0,trivial⟩))
def O4 (kn:K4) dB eY w:=
 aA pg (dD .len #[22] 3 [dB]) w λb8 w=>
 kn eY dB b8 (aOo 0) w
def FN(kn:K1)(R:K1) dB eY w:=
 O4 (Aa kn R) dB eY w
def FO(R:K1) dB eY w:=
 FN (FK R) R dB eY w
theorem VA(kn:K1)(R:K1)(hn:N1 Q kn 4)(hr:HR Fj R Q)(h:FN kn R (g 0) (g 4) w):cP pg CK (aQ 1 (aI 2 BI)) Q g w:=
 bZ 1 (eM (AQ (Aa kn R) 4 7 8 9) h (λg w h=>aE (qU 0 (Vz _ g w kn R hn hr h))))
def LW(kn:K2) dB w:=
 kn dB (aOo 0) w
def LX(R:K1) dB w:=
 LW (FO R) dB w
def WL a0 w(R:K1):=
 LX R a0 w
theorem XQ{a0 w R}(h:WL a0 w R):aK pg Bk #[a0] w R:=
 lC (ann:=CK) Tryz.f132 BI [a0] Fj 24 TryzM.mixed Tryz.func132 (bZ 2 (eM (Lg (FO R) 0 4) h (λg w h=>aE (bZ 1 (VA _ g w (FK R) R (λg w h=>aE (lX h cO)) cO h)))))
def sE:FA:=⟨oI,λi=> .leaf ([],[]) []⟩
def P6:List ResultVar:=[.tmp 2]
noncomputable def qV:Code:=aY Tryz.f133
def uH(R:K1) RH w:=
 R RH w
def uI(kn:K3)(k0:K1) fY RH UD w:=
 aA pg (dD .len #[22] 3 [fY]) w λc4 w=>
 aA pg (aD .lss 3 aG aG UD c4) w λc5 w=>
 bQ c5
  (aA pg (aO 22 fY UD) w λd1 w=>
  aA pg (aH 5 d1) w λd2 w=>
  aA pg (dD .max #[5,5] 5 [RH,d2]) w λd3 w=>
  aA pg (aD .add 3 aG aG UD (aOo 1)) w λc7 w=>
  kn fY d3 c7 w)
  (k0 RH w)
def mT(k0:K1) fY RH UD w:=
 aX (λ(X:(aOn×aOn)->K0) (t:aOn×aOn) (w:aOm)=>uI (λ_ RH UD w=>X (RH,UD) w) k0 fY t.1 t.2 w) (RH,UD) w
theorem La(k0:K1)(h0:E1 Q k0 0 3)(h:mT k0 (g 0) (g 3) (g 4) w):cP pg sE (bI (aI 1 (aQ 1 (aI 1 (aI 2 qV))))) Q g w:=by
 refine AR (λg:Env=>(g 3,g 4)) (λX t w=>uI (λ_ RH UD w=>X (RH,UD) w) k0 (g 0) t.1 t.2 w) h (λX g1 w1 ha hL=> ?_)
 rw[<-cI 0 ha]at hL
 exact(zO [(0,(UO k0 3))] (kr:=no) (UB (λ_ RH UD w=>X (RH,UD) w) 0 3 4) hL cO D1 ⟨h0,trivial⟩)
def Dy(kn:K3) fY RH w:=
 kn fY RH (aOo 1) w
def uJ(kn:K1) fY RH w:=
 Dy (mT kn) fY RH w
def uK(R:K1) fY RH w:=
 uJ (uH R) fY RH w
theorem Lb(kn:K1)(hn:N1 Q kn 3)(h:uJ kn (g 0) (g 3) w):cP pg sE (aQ 1 (aI 1 (aI 2 qV))) Q g w:=
 bZ 1 (eM (UB (mT kn) 0 3 4) h (λg w h=>aE (qU 0 (La _ g w kn hn h))))
def Dz(kn:K2) fY w:=
 aA pg (aO 22 fY (aOo 0)) w λc0 w=>
 aA pg (aH 5 c0) w λc1 w=>
 kn fY c1 w
def uL(R:K1) fY w:=
 Dz (uK R) fY w
def Ci(kn:K1) fY w:=
 aA pg (dD .len #[22] 3 [fY]) w λb6 w=>
 aA pg (aD .lss 3 aG aG b6 (aOo 1)) w λb7 w=>
 bQ b7
  (aA pg (XH 9 (.string ⟨#[115,108,105,99,101,115,46,77,97,120,58,32,101,109,112,116,121,32,108,105,115,116]⟩)) w λb8 w=>
  aA pg (V (Instr.panic b8)) w λ_u w=>
  kn fY w)
  (kn fY w)
def Cj(R:K1) fY w:=
 Ci (uL R) fY w
def Ic a0 w(R:K1):=
 Cj R a0 w
theorem MX{a0 w R}(h:Ic a0 w R):aK pg oI #[a0] w R:=
 lC (ann:=sE) Tryz.f133 qV [a0] P6 25 TryzM.mixed Tryz.func133 (bZ 2 (eM (UO (uL R) 0) h (λg w h=>aE (bZ 1 (eM (Lg (uK R) 0 3) h (λg w h=>aE (bZ 1 (Lb _ g w (uH R) (λg w h=>aE (lX h cO)) h))))))))
def pV:FA:=⟨pL,λi=> .leaf ([],[]) []⟩
def acN:List ResultVar:=[.tmp 2,.tmp 3]
noncomputable def nN:Code:=aY Tryz.f134
def Fz(R:K1) aS w:=
 R (.tuple #[aS,(aOo 0)]) w
def FB(kn:K5) dB Xd aS mY Rh w:=
 aA pg (aD .add 3 aG aG Rh (aOo 1)) w λd0 w=>
 kn dB Xd aS mY d0 w
def FC(kn:K7) dB Xd aS mY Rh d2 d3 w:=
 aA pg (aD .add 3 aG aG d3 (aOo 1)) w λi0 w=>
 kn dB Xd aS mY Rh d2 i0 w
def OY(kn:K7)(k2:K5) dB Xd aS mY Rh d2 d3 w:=
 aA pg (aD .lss 3 aG aG d3 d2) w λd4 w=>
 bQ d4
  (aA pg (aO 22 dB d3) w λd8 w=>
  aA pg (aH 5 d8) w λd9 w=>
  aA pg (cH 5 3 d9) w λe0 w=>
  aA pg (aD .neq 3 (.tmp 30) (.tmp 31) e0 Rh) w λe2 w=>
  bQ e2
   (kn dB Xd aS mY Rh d2 d3 w)
   (aA pg (aD .add 3 aG aG Xd (aOo 1)) w λe6 w=>
   aA pg (aD .sub 3 aG aG e6 Rh) w λe8 w=>
   aA pg (aD .sub 3 aG aG Rh (aOo 1)) w λf1 w=>
   aA pg (aD .shr 3 aG aG mY f1) w λf2 w=>
   aA pg (bH 241 [(0,e8),(1,f2)]) w λf3 w=>
   aA pg (aO 225 aS d3) w λf4 w=>
   aA pg (aM 241 f4 f3) w λ_u w=>
   aA pg (aD .sub 3 aG aG Rh (aOo 1)) w λf7 w=>
   aA pg (aD .shl 3 aG aG (aOo 1) f7) w λf8 w=>
   aA pg (aD .add 3 aG aG mY f8) w λf9 w=>
   kn dB Xd aS f9 Rh d2 d3 w))
  (k2 dB Xd aS mY Rh w)
def FD(kn:K7)(k2:K5) dB Xd aS mY Rh d2 d3 w:=
 OY (FC kn) k2 dB Xd aS mY Rh d2 d3 w
def zX(k2:K5) dB Xd aS mY Rh d2 d3 w:=
 aX (λ(X:(aOn×aOn)->K0) (t:aOn×aOn) (w:aOm)=>FD (λ_ _ _ mY _ _ d3 w=>X (mY,d3) w) k2 dB Xd aS t.1 Rh d2 t.2 w) (mY,d3) w
theorem Vx(k2:K5)(h2:E5 Q k2 2 0 4 5 6 7)(h:zX k2 (g 0) (g 4) (g 5) (g 6) (g 7) (g 22) (g 23) w):cP pg pV (bI (aI 1 (bI (aQ 1 (aI 1 (bI (bI (aI 1 (aQ 1 (aI 5 nN)))))))))) Q g w:=by
 refine AR (λg:Env=>(g 6,g 23)) (λX t w=>FD (λ_ _ _ mY _ _ d3 w=>X (mY,d3) w) k2 (g 0) (g 4) (g 5) t.1 (g 7) (g 22) t.2 w) h (λX g1 w1 ha hL=> ?_)
 rw[<-cI 0 ha,<-cI 4 ha,<-cI 5 ha,<-cI 7 ha,<-cI 22 ha]at hL
 exact(bZ 3 (zO [(2,(O9 k2 0 4 5 6 7))] (kr:=no) (KQ (FC (λ_ _ _ mY _ _ d3 w=>X (mY,d3) w)) 0 4 5 6 7 22 23) hL (λg w h=>aE (eM (KQ (λ_ _ _ mY _ _ d3 w=>X (mY,d3) w) 0 4 5 6 7 22 23) h cO)) D1 ⟨h2,trivial⟩))
def OZ(kn:K7) dB Xd aS mY Rh w:=
 aA pg (dD .len #[22] 3 [dB]) w λd2 w=>
 kn dB Xd aS mY Rh d2 (aOo 0) w
def FE(kn:K5) dB Xd aS mY Rh w:=
 OZ (zX kn) dB Xd aS mY Rh w
def DJ(kn:K5) dB Xd aS mY Rh w:=
 FE (FB kn) dB Xd aS mY Rh w
theorem Uh(kn:K5)(hn:N5 Q kn 0 4 5 6 7)(h:FE kn (g 0) (g 4) (g 5) (g 6) (g 7) w):cP pg pV (aQ 1 (aI 1 (bI (bI (aI 1 (aQ 1 (aI 5 nN))))))) Q g w:=
 qU 1 (bZ 1 (eM (KQ (zX kn) 0 4 5 6 7 22 23) h (λg w h=>aE (qU 2 (Vx _ g w kn hn h)))))
def LS(kn:K5)(k0:K1) dB Xd aS mY Rh w:=
 aA pg (aD .leq 3 aG aG Rh Xd) w λc8 w=>
 bQ c8
  (kn dB Xd aS mY Rh w)
  (k0 aS w)
def DK(kn:K5)(k0:K1) dB Xd aS mY Rh w:=
 LS (DJ kn) k0 dB Xd aS mY Rh w
def xP(k0:K1) dB Xd aS mY Rh w:=
 aX (λ(X:(aOn×aOn)->K0) (t:aOn×aOn) (w:aOm)=>DK (λ_ _ _ mY Rh w=>X (mY,Rh) w) k0 dB Xd aS t.1 t.2 w) (mY,Rh) w
theorem Ui(k0:K1)(h0:E1 Q k0 0 5)(h:xP k0 (g 0) (g 4) (g 5) (g 6) (g 7) w):cP pg pV (bI (aI 1 (aQ 1 (aI 5 nN)))) Q g w:=by
 refine AR (λg:Env=>(g 6,g 7)) (λX t w=>DK (λ_ _ _ mY Rh w=>X (mY,Rh) w) k0 (g 0) (g 4) (g 5) t.1 t.2 w) h (λX g1 w1 ha hL=> ?_)
 rw[<-cI 0 ha,<-cI 4 ha,<-cI 5 ha]at hL
 exact(bZ 1 (zO [(0,(UO k0 5))] (kr:=no) (O9 (DJ (λ_ _ _ mY Rh w=>X (mY,Rh) w)) 0 4 5 6 7) hL (λg w h=>aE (bZ 1 (Uh _ g w (FB (λ_ _ _ mY Rh w=>X (mY,Rh) w)) (λg w h=>aE (eM (O9 (λ_ _ _ mY Rh w=>X (mY,Rh) w) 0 4 5 6 7) h cO)) h))) D1 ⟨h0,trivial⟩))
def LU(kn:K5) dB Xd aS mY w:=
 kn dB Xd aS mY (aOo 1) w
def DL(kn:K1) dB Xd aS mY w:=
 LU (xP kn) dB Xd aS mY w
def DN(R:K1) dB Xd aS mY w:=
 DL (Fz R) dB Xd aS mY w
theorem Uj(kn:K1)(hn:N1 Q kn 5)(h:DL kn (g 0) (g 4) (g 5) (g 6) w):cP pg pV (aQ 1 (aI 5 nN)) Q g w:=
 bZ 1 (eM (O9 (xP kn) 0 4 5 6 7) h (λg w h=>aE (qU 0 (Ui _ g w kn hn h))))
def DO(kn:K4)(R:K1) dB w:=
 aK pg vA #[dB] w λc0 w=>
 aA pg (aD .eql 3 (.tmp 11) (.const (aOo 0)) c0 (aOo 0)) w λc2 w=>
 bQ c2
  (R (.tuple #[(.slice none 0 0),(aOo 1)]) w)
  (aA pg (dD .len #[22] 3 [dB]) w λc4 w=>
  aA pg (iX 225 c4 c4) w λc5 w=>
  kn dB c0 c5 (aOo 0) w)
def DP(R:K1) dB w:=
 DO (DN R) R dB w
def M1 a0 w(R:K1):=
 DP R a0 w
theorem KE{a0 w R}(h:M1 a0 w R):aK pg pL #[a0] w R:=
 lC (ann:=pV) Tryz.f134 nN [a0] acN 52 TryzM.mixed Tryz.func134 (bZ 5 (Mn (AQ (DN R) 0 4 5 6) h (λg w h=>aE (bZ 1 (Uj _ g w (Fz R) (λg w h=>aE (lX h cO)) h))) cO))
def lQ:FA:=⟨eN,λi=>match Nat.beq i 6 with|true=> .leaf ([12],[]) (fz 12 (ft [] []))|false=> .leaf ([],[]) []⟩
def Ki:List ResultVar:=[.cell 4 22,.cell 5 24]
noncomputable def bO:Code:=aY Tryz.f135
def xG(kn:K0)(R:K1) jY b4 b5 w_6 G8 w:=
 aA pg (cH 5 3 G8) w λc5 w=>
 aA pg (aH 225 jY) w λc6 w=>
 aA pg (dD .len #[225] 3 [c6]) w λc7 w=>
 aA pg (aD .geq 3 aG aG c5 c7) w λc8 w=>
 Gd (bK c8 false) (λK=>aA pg (aH 225 jY) w K) w λd0 w=>
 Gd (bK c8 false) (λK=>K G8 w) w λd1 w=>
 Gd (bK c8 false) (λK=>aA pg (aO 225 d0 d1) w K) w λd2 w=>
 Gd (bK c8 false) (λK=>aA pg (aJ 241 d2 0) w K) w λd3 w=>
 Gd (bK c8 false) (λK=>aA pg (aH 3 d3) w K) w λd4 w=>
 Gd (bK c8 false) (λK=>aA pg (aD .eql 3 (.tmp 24) (.const (aOo 0)) d4 (aOo 0)) w K) w λd5 w=>
 aA pg (cD c8 (.bool true) d5) w λd6 w=>
 bQ d6
  (aA pg (aM 22 b4 (.slice none 0 0)) w λ_u w=>
  aA pg (aM 24 b5 (aOo 1)) w λ_u w=>
  R (.tuple #[]) w)
  (aA pg (aH 170 w_6) (dr w) λd7 w_=>w_=(dr w)/\
  aA pg (aH 225 jY) (dr w) λd8 w_=>w_=(dr w)/\
  (dr w)=(dr w)/\
  aA pg (aO 225 d8 G8) (dr w) λe0 w_=>w_=(dr w)/\
  aA pg (aJ 241 e0 1) (dr w) λe1 w_=>w_=(dr w)/\
  aA pg (aH 3 e1) (dr w) λe2 w_=>w_=(dr w)/\
  aA pg (cH 3 32 e2) (dr w) λe3 w_=>w_=(dr w)/\
  aA pg (aH 225 jY) (dr w) λe4 w_=>w_=(dr w)/\
  (dr w)=(dr w)/\
  aA pg (aO 225 e4 G8) (dr w) λe6 w_=>w_=(dr w)/\
  aA pg (aJ 241 e6 0) (dr w) λe7 w_=>w_=(dr w)/\
  aA pg (aH 3 e7) (dr w) λe8 w_=>w_=(dr w)/\
  aK pg bX #[d7,e3,e8] (dr w) λe9 aJ9=>
  kn aJ9)
theorem Tf(kn:K0)(R:K1)(hn:N0 Q kn)(hr:HR aIG R Q)(h:xG kn R (g 2) (g 4) (g 5) (g 6) (g 8) w):cP pg lQ (azG bO) Q g w:=
 Mn _ h hn hr
def Dg(kn:K5) jY b4 b5 w_6 c3 w:=
 kn jY b4 b5 w_6 c3 w
theorem Te(kn:K5)(hn:N5 Q kn 2 4 5 6 8)(h:Dg kn (g 2) (g 4) (g 5) (g 6) (g 13) w):cP pg lQ (aCu bO) Q g w:=
 eM _ h hn
def QS(l:Nat)(R:K1)(jY b4 b5 w_6 c3:aOn)(w:aOm):Prop:=
 Dg (λjY b4 b5 w_6 G8 w=>Rdy l w λw=>xG (λw=>arV l none R w) (λ_ w=>arV l (some .ret) R w) jY b4 b5 w_6 G8 w) jY b4 b5 w_6 c3 w
theorem YR{l:Nat}{tmps:Array aOn}{w:aOm}{R:K1}(hsz:tmps.size=42)(h:QS l R (RE tmps 2) (RE tmps 4) (RE tmps 5) (RE tmps 6) (RE tmps 13) w):amA pg l eN tmps (aCu bO) (azG bO) w R:=
 dsR (ann:=lQ) 42 TryzM.mixed hsz (Te (asQ pg lQ l (azG bO) R) (RE tmps) w (λjY b4 b5 w_6 G8 w=>Rdy l w λw=>xG (arV l none R) (λ_ w=>arV l (some .ret) R w) jY b4 b5 w_6 G8 w) (λg w h=>let⟨r,h1,h2,h3⟩:=h;⟨r,h1,h2,(Tf (aqM l R) g _ (arV l none R) (λ_ w=>arV l (some .ret) R w) (λ_ _ h=>h) (λ_ _ h=>h) h3)⟩) h) (by kernel_rfl) (by kernel_rfl) (by kernel_rfl)
def Dh(R:K1) b4 b5 w_6 t1000003 w:=
 aA pg (aH 170 w_6) w λf0 w=>
 aK pg kS #[f0] w λf1 w=>
 aA pg (aM 22 b4 f1) w λ_u w=>
 aA pg (aM 24 b5 (aOo 0)) w λ_u w=>
 EB t1000003 w λw=>vV pg 22 b4 w λr0=>vV pg 24 b5 w λr1=>R (.tuple #[r0,r1]) w
def Di(kn:K4)(R:K1) jY b4 b5 w_6 c1 t1000003 w:=
 ∀g:Env,g 2=jY->g 4=b4->g 5=b5->g 6=w_6->g 11=c1->g 1000003=t1000003->RF pg eN (.tmp 11) (aEO bO) (aCu bO) (azG bO) (exQ (λg w=>kn (g 4) (g 5) (g 6) (g 1000003) w) (λg w=>EB (g 1000003) w λw=>vV pg 22 (g 4) w λr0=>vV pg 24 (g 5) w λr1=>R (.tuple #[r0,r1]) w) []) g w
theorem YP(kn:K4)(R:K1)(hn:N4 Q kn 4 5 6 1000003)(hr:HRF Ki R Q)(h:Di kn R (g 2) (g 4) (g 5) (g 6) (g 11) (g 1000003) w):cP pg lQ (bI (aI 1 (aQ 1 (aI 2 bO)))) Q g w:=
 exD (l:=[]) (h g rfl rfl rfl rfl rfl rfl) hn hr trivial
def Tg(kn:K6) tV jY b4 b5 w_6 t1000003 w:=
 aK pg tK #[tV] w λc1 w=>
 kn jY b4 b5 w_6 c1 t1000003 w
def JK(kn:K4)(R:K1) tV jY b4 b5 w_6 t1000003 w:=
 Tg (Di kn R) tV jY b4 b5 w_6 t1000003 w
def JL(R:K1) tV jY b4 b5 w_6 t1000003 w:=
 JK (Dh R) R tV jY b4 b5 w_6 t1000003 w
theorem YQ(kn:K4)(R:K1)(hn:N4 Q kn 4 5 6 1000003)(hr:HRF Ki R Q)(h:JK kn R (g 1) (g 2) (g 4) (g 5) (g 6) (g 1000003) w):cP pg lQ (aQ 1 (aI 2 bO)) Q g w:=
 bZ 1 (eM (UP (Di kn R) 2 4 5 6 11 1000003) h (λg w h=>aE (qU 0 (YP _ g w kn R hn hr h))))
def Th(kn:K6) aoR tV t1000003 w:=
 aA pg (Ba 225 aoR) w λjY w=>
 aA pg (bG 22) w λb4 w=>
 aA pg (bG 24) w λb5 w=>
 aK pg kJ #[] w λb9 w=>
 aA pg (bG 170) w λw_6 w=>
 aA pg (aM 170 w_6 b9) w λ_u w=>
 kn tV jY b4 b5 w_6 t1000003 w
def Ti(R:K1) aoR tV t1000003 w:=
 Th (JL R) aoR tV t1000003 w
def adS a0 a1 w(R:K1):=
 Ti R a0 a1 undef w
theorem abH{a0 a1 w R}(h:adS a0 a1 w R):aK pg eN #[a0,a1] w R:=
 dsF (ann:=lQ) Tryz.f135 bO [a0,a1] Ki 42 TryzM.mixed Tryz.func135 (bZ 2 (eM (UP (JL R) 1 2 4 5 6 1000003) h (λg w h=>aE (bZ 1 (YQ _ g w (Dh R) R (λg w h=>aE (lX h cO)) cO h)))))
def agY:FA:=⟨Ix,λi=> .leaf ([],[]) []⟩
def alQ:List ResultVar:=[.cell 2 139,.tmp 3]
noncomputable def aeT:Code:=aY Tryz.f136
def Wa(R:K1) n_0 w:=
 aA pg (bG 139) w λb2 w=>
 aA pg (aD .add 3 aG aG n_0 (aOo 4)) w λb6 w=>
 aA pg (aD .sub 3 aG aG b6 (aOo 1)) w λb7 w=>
 aA pg (aD .quo 3 aG aG b7 (aOo 4)) w λb8 w=>
 aA pg (aD .mul 3 aG aG (aOo 3) b8) w λc4 w=>
 aA pg (aD .sub 3 aG aG n_0 c4) w λc5 w=>
 aA pg (bH 139 [(0,b8),(1,b8),(2,b8),(3,c5)]) w λc6 w=>
 aA pg (aD .mul 3 aG aG (aOo 3) b8) w λc9 w=>
 aA pg (aD .geq 3 aG aG n_0 c9) w λd0 w=>
 aA pg (aM 139 b2 c6) w λ_u w=>
 vV pg 139 b2 w λr0=>R (.tuple #[r0,d0]) w
def aiG a0 w(R:K1):=
 Wa R a0 w
theorem afH{a0 w R}(h:aiG a0 w R):aK pg Ix #[a0] w R:=
 lC (ann:=agY) Tryz.f136 aeT [a0] alQ 21 TryzM.mixed Tryz.func136 (lX h cO)
def L4:FA:=⟨tK,λi=> .leaf ([],[]) []⟩
def OD:List ResultVar:=[.tmp 2]
noncomputable def KS:Code:=aY Tryz.f145
def Ch(R:K1) lY w:=
 aA pg (Ba 22 lY) w λs_1 w=>
 aA pg (ajT (.func 151) [] [s_1]) w λb3 w=>
 R b3 w
def G1 a0 w(R:K1):=
 Ch R a0 w
theorem KX{a0 w R}(h:G1 a0 w R):aK pg tK #[a0] w R:=
 lC (ann:=L4) Tryz.f145 KS [a0] OD 4 TryzM.mixed Tryz.func145 (lX h cO)
def vB:FA:=⟨fO,λi=> .leaf ([],[]) []⟩
def xL:List ResultVar:=[]
noncomputable def tF:Code:=aY Tryz.f151
def mP(kn:K3)(k0:K0)(R:K1) LZ b1 i_3 w:=
 aA pg (aD .geq 3 aG aG i_3 (aOo 0)) w λb8 w=>
 bQ b8
  (aA pg (aH 22 b1) w λc3 w=>
  aA pg (aO 22 c3 i_3) w λc5 w=>
  aA pg (aH 5 c5) w λc6 w=>
  aA pg (BL LZ [i_3,c6]) w λc7 w=>
  aA pg (sUn .not c7) w λc8 w=>
  bQ c8
   (R (.tuple #[]) w)
   (aA pg (aD .sub 3 aG aG i_3 (aOo 1)) w λc0 w=>
   kn LZ b1 c0 w))
  (k0 w)
def jG(k0:K0)(R:K1) LZ b1 i_3 w:=
 aX (λ(X:aOn->K0) (t:aOn) (w:aOm)=>mP (λ_ _ i_3 w=>X i_3 w) k0 R LZ b1 t w) i_3 w
theorem Fk(k0:K0)(R:K1)(h0:E0 Q k0 0)(hr:HR xL R Q)(h:jG k0 R (g 0) (g 1) (g 3) w):cP pg vB (bI (aI 1 tF)) Q g w:=by
 refine AR (λg:Env=>g 3) (λX t w=>mP (λ_ _ i_3 w=>X i_3 w) k0 R (g 0) (g 1) t w) h (λX g1 w1 ha hL=> ?_)
 rw[<-cI 0 ha,<-cI 1 ha]at hL
 exact(zO [(0,(Mq0 k0))] (UB (λ_ _ i_3 w=>X i_3 w) 0 1 3) hL cO hr ⟨h0,trivial⟩)
def xM(kn:K3) LZ b1 w:=
 aA pg (aH 22 b1) w λb4 w=>
 aA pg (dD .len #[22] 3 [b4]) w λb5 w=>
 aA pg (aD .sub 3 aG aG b5 (aOo 1)) w λb6 w=>
 kn LZ b1 b6 w
def xN(kn:K0)(R:K1) LZ b1 w:=
 xM (jG kn R) LZ b1 w
def Bb a0 a1 w(R:K1):=
 xN (λw=>R (.tuple #[]) w) R a0 a1 w
theorem G3 {a0 a1 w R}(h:Bb a0 a1 w R):aK pg fO #[a0,a1] w R:=
 lC (ann:=vB) Tryz.f151 tF [a0,a1] xL 19 TryzM.mixed Tryz.func151 (bZ 1 (eM (UB (jG (λw=>R (.tuple #[]) w) R) 0 1 3) h (λg w h=>aE (qU 0 (Fk _ g w (λw=>R (.tuple #[]) w) R cO cO h)))))
end Go.Proofs.YtoecppploooloaaGreatDoor
namespace Go.En
open Go
section
variable{P:Program}{w:aOm}{t:TypeId}{ox oy:Operand}{k:IntKind}{a b:Int}
theorem mE(s:Sem aOn):(V s).run P w=(s.run P w).andThen λv w=> .ok (.value v) w:=by
 unfold V;rw[Sem.run_bind]<;>rfl
theorem aJX(s:Sem Unit):(U s).run P w=(s.run P w).andThen λ_ w=> .ok .skip w:=by
 unfold U;rw[Sem.run_bind]<;>rfl
theorem gN:(aD .add t ox oy (.int k a) (.int k b)).run P w= .ok (.value (.int k (k.wrap (a+b)))) w:=by
 simp[aD,KV,mE,binOp,Op.intArith]
theorem A8:(aD .sub t ox oy (.int k a) (.int k b)).run P w= .ok (.value (.int k (k.wrap (a-b)))) w:=by
 simp[aD,KV,mE,binOp,Op.intArith]
theorem TH:(aD .mul t ox oy (.int k a) (.int k b)).run P w= .ok (.value (.int k (k.wrap (a*b)))) w:=by
 simp[aD,KV,mE,binOp,Op.intArith]
theorem WC(h:b≠0):(aD .quo t ox oy (.int k a) (.int k b)).run P w= .ok (.value (.int k (k.wrap (a.tdiv b)))) w:=by
 simp[aD,KV,mE,binOp,Op.intDiv,h]
theorem Zu(h:b≠0):(aD .rem t ox oy (.int k a) (.int k b)).run P w= .ok (.value (.int k (a.tmod b))) w:=by
 simp[aD,KV,mE,binOp,Op.intDiv,h]
def Cq(k:IntKind)(a b:Int):Int:=k.wrap (BitVec.ofInt k.bits a&&&BitVec.ofInt k.bits b).toNat
def orI(k:IntKind)(a b:Int):Int:=k.wrap (BitVec.ofInt k.bits a|||BitVec.ofInt k.bits b).toNat
def XR(k:IntKind)(a b:Int):Int:=k.wrap (BitVec.ofInt k.bits a^^^BitVec.ofInt k.bits b).toNat
def aAq(k:IntKind)(a b:Int):Int:=k.wrap (BitVec.ofInt k.bits a&&& ~~~BitVec.ofInt k.bits b).toNat
theorem Cg:(aD .and t ox oy (.int k a) (.int k b)).run P w= .ok (.value (.int k (Cq k a b))) w:=by
 simp[aD,KV,mE,binOp,Op.intBits,Cq]
theorem aqI:(aD .or t ox oy (.int k a) (.int k b)).run P w= .ok (.value (.int k (orI k a b))) w:=by
 simp[aD,KV,mE,binOp,Op.intBits,orI]
theorem Zv:(aD .xor t ox oy (.int k a) (.int k b)).run P w= .ok (.value (.int k (XR k a b))) w:=by
 simp[aD,KV,mE,binOp,Op.intBits,XR]
theorem Dq:(aD .andNot t ox oy (.int k a) (.int k b)).run P w= .ok (.value (.int k (aAq k a b))) w:=by
 simp[aD,KV,mE,binOp,Op.intBits,aAq]
theorem HY{k':IntKind}(h:0<=b):(aD .shl t ox oy (.int k a) (.int k' b)).run P w= .ok (.value (.int k (k.wrap (a*2^(min b.toNat k.bits))))) w:=by
 simp[aD,KV,mE,binOp,Op.shift,Int.not_lt.2 h]
theorem nZ{k':IntKind}(h:0<=b):(aD .shr t ox oy (.int k a) (.int k' b)).run P w= .ok (.value (.int k (a.fdiv (2^(min b.toNat k.bits))))) w:=by
 simp[aD,KV,mE,binOp,Op.shift,Int.not_lt.2 h]
theorem mD:(aD .eql t ox oy (.int k a) (.int k b)).run P w= .ok (.value (.bool (a==b))) w:=by
 simp[aD,KV,mE,binOp,Op.intCmp,eqGuard]
theorem Dr:(aD .neq t ox oy (.int k a) (.int k b)).run P w= .ok (.value (.bool (a !=b))) w:=by
 simp[aD,KV,mE,binOp,Op.intCmp,eqGuard]
theorem fM:(aD .lss t ox oy (.int k a) (.int k b)).run P w= .ok (.value (.bool (decide (a<b)))) w:=by
 simp[aD,KV,mE,binOp,Op.intCmp]
theorem TG:(aD .leq t ox oy (.int k a) (.int k b)).run P w= .ok (.value (.bool (decide (a<=b)))) w:=by
 simp[aD,KV,mE,binOp,Op.intCmp]
theorem tA:(aD .gtr t ox oy (.int k a) (.int k b)).run P w= .ok (.value (.bool (decide (b<a)))) w:=by
 simp[aD,KV,mE,binOp,Op.intCmp]
theorem Af:(aD .geq t ox oy (.int k a) (.int k b)).run P w= .ok (.value (.bool (decide (b<=a)))) w:=by
 simp[aD,KV,mE,binOp,Op.intCmp]
theorem WA:(sUn .neg (.int k a)).run P w= .ok (.value (.int k (k.wrap (0-a)))) w:=by
 simp[sUn,mE,Op.unary,Op.intArith]
theorem Zq:(sUn .xor (.int k a)).run P w= .ok (.value (.int k (XR k (if k.signed then-1 else k.max) a))) w:=by
 simp[sUn,mE,Op.unary,Op.intBits,XR]
theorem WB(c:Bool):(sUn .not (.bool c)).run P w= .ok (.value (.bool !c)) w:=by
 simp[sUn,mE,Op.unary]
theorem jX(c:Bool)(x y:aOn):(cD (.bool c) x y).run P w= .ok (.value (if c then x else y)) w:=by
 simp[cD,asBool]
theorem avK{x y:aOn}{r:Bool}(hg:eqGuard .eql t ox oy x y=pure ())(hb:binOp .eql t x y=(do pure (.bool (<-Op.equal t x y))))(he:(Op.equal t x y).run P w= .ok r w):
 (aD .eql t ox oy x y).run P w= .ok (.value (.bool r)) w:=by
 unfold aD
 simp only[KV,mE,hg,hb,pure_bind]
 rw[Sem.run_bind,he]<;>rfl
theorem aET{x y:aOn}{r:Bool}(hg:eqGuard .neq t ox oy x y=pure ())(hb:binOp .neq t x y=(do pure (.bool (!(<-Op.equal t x y)))))(he:(Op.equal t x y).run P w= .ok r w):
 (aD .neq t ox oy x y).run P w= .ok (.value (.bool (!r))) w:=by
 unfold aD
 simp only[KV,mE,hg,hb,pure_bind]
 rw[Sem.run_bind,he]<;>rfl
theorem cX{n:Int}(h0: -9223372036854775808<=n)(h1:n<=9223372036854775807):IntKind.i64.wrap n=n:=by
 unfold IntKind.wrap;simp[IntKind.bits,IntKind.signed];split<;>omega
theorem gP{n:Int}(h0:0<=n)(h1:n<=18446744073709551615):IntKind.u64.wrap n=n:=by
 unfold IntKind.wrap;simp[IntKind.bits,IntKind.signed];omega
theorem ZQ{n:Int}(h0: -2147483648<=n)(h1:n<=2147483647):IntKind.i32.wrap n=n:=by
 unfold IntKind.wrap;simp[IntKind.bits,IntKind.signed];split<;>omega
theorem LR{n:Int}(h0:0<=n)(h1:n<=4294967295):IntKind.u32.wrap n=n:=by
 unfold IntKind.wrap;simp[IntKind.bits,IntKind.signed];omega
theorem ZR{n:Int}(h0:0<=n)(h1:n<=65535):IntKind.u16.wrap n=n:=by
 unfold IntKind.wrap;simp[IntKind.bits,IntKind.signed];omega
theorem Qg{n:Int}(h0:0<=n)(h1:n<=255):IntKind.u8.wrap n=n:=by
 unfold IntKind.wrap;simp[IntKind.bits,IntKind.signed];omega
theorem wu8 (n:Int):IntKind.u8.wrap n=n%256:=by
 unfold IntKind.wrap;simp[IntKind.bits,IntKind.signed]
theorem aIC(x y:ByteArray):(aD .eql t ox oy (.string x) (.string y)).run P w= .ok (.value (.bool (x.toList==y.toList))) w:=by
 simp[aD,KV,mE,binOp,Op.stringOp,eqGuard]
theorem aDV(n:Nat){e:TypeId}(hu:P.underlying t=some (.pointer e))(x:Option Addr):(Op.equalIn (n+1) t (.pointer x) (.pointer none)).run P w= .ok x.isNone w:=by
 simp only[Op.equalIn,underlying]
 cases x<;>simp[hu]
theorem aDW{e:TypeId}(hu:P.underlying t=some (.pointer e))(x:Option Addr):(Op.equal t (.pointer x) (.pointer none)).run P w= .ok x.isNone w:=aDV 9999 hu x
theorem aGd(m:Nat){e:TypeId}(hu:P.underlying t=some (.slice e))(x:Option Addr)(n c:Nat):(Op.equalIn (m+1) t (.slice x n c) (.slice none 0 0)).run P w= .ok x.isNone w:=by
 simp only[Op.equalIn,underlying]
 cases x<;>simp[hu]
theorem aJE{e:TypeId}(hu:P.underlying t=some (.slice e))(x:Option Addr)(n c:Nat):(Op.equal t (.slice x n c) (.slice none 0 0)).run P w= .ok x.isNone w:=aGd 9999 hu x n c
theorem aqJ{e:TypeId}(hu:P.underlying t=some (.pointer e))(x:Option Addr):(aD .eql t ox oy (.pointer x) (.pointer none)).run P w= .ok (.value (.bool x.isNone)) w:=
 avK rfl rfl (aDW hu x)
theorem aIB{e:TypeId}(hu:P.underlying t=some (.pointer e))(x:Option Addr):(aD .neq t ox oy (.pointer x) (.pointer none)).run P w= .ok (.value (.bool (!x.isNone))) w:=
 aET rfl rfl (aDW hu x)
theorem aGI{e:TypeId}(hu:P.underlying t=some (.slice e))(x:Option Addr)(n c:Nat):(aD .eql t ox oy (.slice x n c) (.slice none 0 0)).run P w= .ok (.value (.bool x.isNone)) w:=
 avK rfl rfl (aJE hu x n c)
theorem Ap{s:TypeId}{d:TypeDesc}{kd:IntKind}(hs:P.underlying s=some d)(hu:P.underlying t=some (.int kd)):(cH s t (.int k a)).run P w= .ok (.value (.int kd (kd.wrap a))) w:=by
 cases d<;>simp[cH,mE,convert,underlying,hs,hu,Conv.intToInt]
theorem Xv{ty:TypeId}{e:TypeId}(hu:P.underlying t=some (.slice e))(x:Option Addr)(n c:Nat):(dD .len #[t] ty [.slice x n c]).run P w= .ok (.value (.int .i64 n)) w:=by
 simp[dD,builtin,Builtin.len_,underlying,hu,goInt]
theorem Zs{ats:Array TypeId}{ty:TypeId}:(dD .min ats ty [.int k a,.int k b]).run P w= .ok (.value (.int k (if b<a then b else a))) w:=by
 simp[dD,builtin,Builtin.min_,Builtin.min2]
theorem Zr{ats:Array TypeId}{ty:TypeId}:(dD .max ats ty [.int k a,.int k b]).run P w= .ok (.value (.int k (if b>a then b else a))) w:=by
 simp[dD,builtin,Builtin.max_,Builtin.max2]
theorem x20 (a b:aOn):(aV (.tuple #[a,b]) 0).run P w= .ok (.value a) w:=Eq.trans rfl rfl
theorem x21 (a b:aOn):(aV (.tuple #[a,b]) 1).run P w= .ok (.value b) w:=Eq.trans rfl rfl
theorem x30 (a b c:aOn):(aV (.tuple #[a,b,c]) 0).run P w= .ok (.value a) w:=Eq.trans rfl rfl
theorem x31 (a b c:aOn):(aV (.tuple #[a,b,c]) 1).run P w= .ok (.value b) w:=Eq.trans rfl rfl
theorem x32 (a b c:aOn):(aV (.tuple #[a,b,c]) 2).run P w= .ok (.value c) w:=Eq.trans rfl rfl
theorem x40 (a b c d:aOn):(aV (.tuple #[a,b,c,d]) 0).run P w= .ok (.value a) w:=Eq.trans rfl rfl
theorem x41 (a b c d:aOn):(aV (.tuple #[a,b,c,d]) 1).run P w= .ok (.value b) w:=Eq.trans rfl rfl
theorem x42 (a b c d:aOn):(aV (.tuple #[a,b,c,d]) 2).run P w= .ok (.value c) w:=Eq.trans rfl rfl
theorem x43 (a b c d:aOn):(aV (.tuple #[a,b,c,d]) 3).run P w= .ok (.value d) w:=Eq.trans rfl rfl
theorem Zt(x:Addr):(dS (.pointer (some x))).run P w= .ok (.value (.pointer (some x))) w:=Eq.trans rfl rfl
theorem dE{fs:Array Field}{f:Field}{i:Nat}{inf:TypeInfo}(hu:P.underlying t=some (.struct fs))(hf:fs[i]?=some f)
 (hi:P.info? f.type=some inf) (hz:inf.size≠0) (x:Addr):(aJ t (.pointer (some x)) i).run P w= .ok (.value (.pointer (some (x.add f.offset)))) w:=by
 simp[aJ,mE,Instr.fieldAt,underlying,hu,hf,Instr.sureAddr,fieldPlace,sizeOf,typeInfo,hi,hz]
theorem auY{e:TypeId}{inf:TypeInfo}(hu:P.underlying t=some (.slice e))(hi:P.info? e=some inf)(x:Addr)(n c:Nat)(h0:0<=a)(h1:a<n):
 (aO t (.slice (some x) n c) (.int k a)).run P w= .ok (.value (.pointer (some (x.add (a.toNat*inf.size))))) w:=by
 simp[aO,mE,Instr.indexAt,asIntOf,underlying,hu,h0,h1,sizeOf,typeInfo,hi]
theorem auX{e:TypeId}{len:Nat}{inf:TypeInfo}(hu:P.underlying t=some (.array len e))(hi:P.info? e=some inf)(x:Addr)(h0:0<=a)(h1:a<len):
 (aO t (.pointer (some x)) (.int k a)).run P w= .ok (.value (.pointer (some (x.add (a.toNat*inf.size))))) w:=by
 simp[aO,mE,Instr.indexAt,asIntOf,underlying,hu,h0,h1,sizeOf,typeInfo,hi,Instr.sureAddr]
theorem aIz(hu:P.underlying t=some .string)(x:ByteArray)(h0:0<=a)(h1:a.toNat<x.size):
 (IJ t (.string x) (.int k a)).run P w= .ok (.value (.int .u8 (x[a.toNat]'h1).toNat)) w:=by
 simp[IJ,mE,Instr.index,asIntOf,underlying,hu,h0,h1]
end
def aZ(w:aOm)(b:Nat)(cs:List aOn):Prop:=
 ∃T lo hi,w.heap[b]?=some (.cells cs.toArray T (lo,hi))/\(cs.length<=lo∨hi=lo)
structure aN(w w':aOm)(M:Nat->Prop):Prop where
 os:w'.os=w.os
 tape:w'.tape=w.tape
 output:w'.output=w.output
 size:w.heap.size<=w'.heap.size
 keep:∀b,b<w.heap.size->¬M b->w'.heap[b]?=w.heap[b]?
def bJ:Nat->Prop:=λ_=>False
theorem aN.refl (w:aOm)(M:Nat->Prop):aN w w M:=⟨rfl,rfl,rfl,aLA _,λ_ _ _=>rfl⟩
theorem aN.mono {w w':aOm}{M N:Nat->Prop}(h:aN w w' M)(hm:∀b,b<w.heap.size->M b->N b):aN w w' N:=
 ⟨h.os,h.tape,h.output,h.size,λb hb hn=>h.keep b hb λhM=>hn (hm b hb hM)⟩
theorem aN.trans {a b c:aOm}{M N:Nat->Prop}(h:aN a b M)(k:aN b c N)(hn:∀x,x<a.heap.size->N x->M x):aN a c M:=
 ⟨k.os.trans h.os,k.tape.trans h.tape,k.output.trans h.output,aMu h.size k.size,
   λx hx hM=>(k.keep x (aNr hx h.size) λh=>hM (hn x hx h)).trans (h.keep x hx hM)⟩
theorem aN.seq {a b c:aOm}{M:Nat->Prop}(h:aN a b M)(k:aN b c M):aN a c M:=h.trans k λ_ _ h=>h
theorem aN.new {a b c:aOm}{M:Nat->Prop}{x:Nat}(h:aN a b M)(k:aN b c (λy=>y=x))(hx:a.heap.size<=x):aN a c M:=
 h.trans k λy hy e=>absurd hy (by subst e;omega)
theorem aN.more {a b c:aOm}{M:Nat->Prop}(h:aN a b M)(k:aN b c (λ_=>False)):aN a c M:=h.trans k λ_ _ h=>h.elim
theorem aN.below {w w':aOm}(h:aN w w' bJ):Go.RowKit.Below w.heap.size w w':=
 ⟨h.os,h.tape,h.output,h.size,λk hk=>h.keep k hk λh=>h⟩
theorem aN.dr (w:aOm)(M:Nat->Prop):aN w (dr w) M:=⟨rfl,rfl,rfl,aLA _,λ_ _ _=>rfl⟩
theorem aN.alloc (w:aOm)(o:Obj)(M:Nat->Prop):aN w (w.alloc o) M:=
 ⟨rfl,rfl,rfl,by simp,λb hb _=>by show(w.heap.push o)[b]?=_;rw[Array.getElem?_push,if_neg (by omega)]⟩
theorem afF(w:aOm)(a:Addr)(v:aOn)(b:Nat)(h:b≠a.block):(w.setCell a v).heap[b]?=w.heap[b]?:=Go.RowKit.Below.heap_setCell w a v b h
theorem aN.setCell (w:aOm)(a:Addr)(v:aOn){M:Nat->Prop}(h:a.block<w.heap.size->M a.block):aN w (w.setCell a v) M:=
 ⟨rfl,rfl,rfl,by simp,λb hb hM=>afF w a v b λe=>hM (e▸h (e▸hb))⟩
theorem aZ.lt {w:aOm}{b:Nat}{cs:List aOn}(h:aZ w b cs):b<w.heap.size:=by
 obtain⟨T,lo,hi,h,_⟩:=h
 rcases aLL b w.heap.size with h'|h'
 .exact h'
 .rw [aMH h']at h;cases h
theorem aZ.ext {w w':aOm}{b:Nat}{cs:List aOn}{M:Nat->Prop}(h:aZ w b cs)(hx:aN w w' M)(hM:¬M b):aZ w' b cs:=by
 have:=h.lt
 obtain⟨T,lo,hi,h,k⟩:=h
 exact⟨T,lo,hi,by rw[hx.keep b this hM];exact h,k⟩
theorem aZ.cell {w:aOm}{b off:Nat}{cs:List aOn}(h:aZ w b cs):w.cell? ⟨b,off,none⟩=cs[off]?:=by
 obtain⟨T,lo,hi,h,_⟩:=h
 simp[World.cell?,h]
theorem aZ.free {w:aOm}{b off:Nat}{cs:List aOn}{s:Option Nat}(h:aZ w b cs)(ho:off<cs.length):w.frozen? ⟨b,off,s⟩=false:=by
 obtain⟨T,lo,hi,h,k⟩:=h
 simp only[World.frozen?,h]
 rcases k with k|k<;>(simp;omega)
theorem aZ.setCell {w:aOm}{b off:Nat}{cs:List aOn}(h:aZ w b cs)(v:aOn):aZ (w.setCell ⟨b,off,none⟩ v) b (cs.set off v):=by
 have hb:=h.lt
 obtain⟨T,lo,hi,h,k⟩:=h
 refine⟨T,lo,hi, ?_,by simpa using k⟩
 simp only[World.setCell,aNp,h]
 simp
theorem aZ.alloc (w:aOm)(cs:List aOn)(T:TypeId):aZ (w.alloc (.cells cs.toArray T)) w.heap.size cs:=
 ⟨T,0,0,by show(w.heap.push _)[w.heap.size]?=_;simp,.inr rfl⟩
theorem asK{w w':aOm}{M:Nat->Prop}{a:Addr}{v:aOn}(h:w.cell? a=some v)(hx:aN w w' M)(hM:¬M a.block):w'.cell? a=some v:=by
 have hb:=World.block_lt_of_cell? w a h
 have e:=hx.keep _ hb hM
 unfold World.cell? at h⊢
 rw[e];exact h
section
variable{P:Program}{w:aOm}{t:TypeId}
def akU(d:TypeDesc):Bool:=match d with| .struct _| .array _ _=>true|_=>false
theorem EV{d:TypeDesc}(hu:P.underlying t=some d):(isAgg t).run P w= .ok (akU d) w:=by
 cases d<;>simp[isAgg,underlying,hu,akU]
theorem cG{i:TypeInfo}(hi:P.info? t=some i):(sizeOf t).run P w= .ok i.size w:=by simp[sizeOf,typeInfo,hi]
theorem Y0 {b off:Nat}{cs:List aOn}(ho:aZ w b cs):∀(n i:Nat) (acc:Array aOn),off+i+n<=cs.length→
 (loadCellsFrom ⟨b,off,none⟩ i n acc).run P w= .ok (acc++((cs.drop (off+i)).take n).toArray) w:=by
 intro n
 induction n with
 |zero=>intro i acc _;simp[loadCellsFrom]
 |succ n ih=>
  intro i acc h
  have hc:w.cell? ((⟨b,off,none⟩:Addr).add i)=some cs[off+i]:=by
   unfold Addr.add
   split
   .rename_i hi;subst hi;rw[ho.cell];simp
   .show w.cell? ⟨b,off+i,none⟩=_;rw[ho.cell];simp
  simp only[loadCellsFrom,Sem.run_bind,run_load,hc,Result.andThen_ok]
  rw[ih (i+1) _ (by omega)]
  congr 1
  rw[aL8 (by omega:off+i<cs.length)]
  simp[aMM]
theorem Wk{b off n:Nat}{cs:List aOn}(ho:aZ w b cs)(h:off+n<=cs.length):
 (loadCells ⟨b,off,none⟩ n).run P w= .ok ((cs.drop off).take n).toArray w:=by
 unfold loadCells
 rw[Y0 ho n 0 #[] (by omega)]
 simp
theorem zT{d:TypeDesc}{i:TypeInfo}(hu:P.underlying t=some d)(hd:akU d=true)(hi:P.info? t=some i){b off:Nat}{cs:List aOn}(ho:aZ w b cs)(h:off+i.size<=cs.length):
 (aH t (.pointer (some ⟨b,off,none⟩))).run P w= .ok (.value (.agg ((cs.drop off).take i.size).toArray)) w:=by
 unfold aH
 rw[mE]
 simp only[Instr.loadAt,Instr.sureAddr,loadVar,pure_bind,Sem.run_bind,EV hu,hd,Result.andThen_ok,if_true,cG hi,Wk ho h,Sem.run_pure]
def one(v:aOn):Bool:=match v with| .agg _| .tuple _=>false|_=>true
theorem azM{a:Addr}{v x:aOn}(hv:one v=true)(hc:w.cell? a=some x)(hf:w.frozen? a=false):(store a v).run P w= .ok () (w.setCell a v):=by
 unfold store
 cases v<;>simp[one]at hv<;>simp[Sem.run,hc,hf]
def aT(cs:List aOn)(off:Nat):List aOn->List aOn
 |[]=>cs
 |v::vs=>aT (cs.set off v) (off+1) vs
theorem WE(vs:List aOn):∀(cs:List aOn) (off:Nat),(aT cs off vs).length=cs.length:=by
 induction vs with
 |nil=>intro cs off;rfl
 |cons v vs ih=>intro cs off;simp[aT,ih]
theorem DD{b:Nat}{M:Nat->Prop}(hM:M b):∀(vs:List aOn) (w:aOm) (off i:Nat) (cs:List aOn),aZ w b cs->off+i+vs.length<=cs.length->(∀v∈vs,one v=true)→
 ∃w',(storeCells ⟨b,off,none⟩ vs i).run P w= .ok () w'/\aZ w' b (aT cs (off+i) vs)/\aN w w' M/\w'.heap.size=w.heap.size/\w'.drawn=w.drawn:=by
 intro vs
 induction vs with
 |nil=>intro w off i cs ho _ _;exact⟨w,by simp[storeCells],ho,aN.refl _ _,rfl,rfl⟩
 |cons v vs ih=>
  intro w off i cs ho h hv
  simp only[aLS]at h
  have ha:(⟨b,off,none⟩:Addr).add i=⟨b,off+i,none⟩:=by
   unfold Addr.add;split
   .rename_i hi;subst hi;rfl
   .rfl
  have hlt:off+i<cs.length:=by omega
  have hc:w.cell? ⟨b,off+i,none⟩=some cs[off+i]:=by rw[ho.cell];simp
  have hs:=azM (P:=P) (hv v (by simp)) hc (ho.free hlt)
  obtain⟨w',h1,h2,h3,h4,h5⟩:=ih (w.setCell ⟨b,off+i,none⟩ v) off (i+1) (cs.set (off+i) v) (ho.setCell v) (by simp;omega) (λx hx=>hv x (aLN _ hx))
  refine⟨w', ?_,h2,(aN.setCell w _ v λ_=>hM).trans h3 (λ_ _ h=>h),by rw[h4];simp,by rw[h5]<;>rfl⟩
  simp only[storeCells,Sem.run_bind,ha,hs,Result.andThen_ok]
  exact h1
theorem gD{i:TypeInfo}(hi:P.info? t=some i){b off:Nat}{cs:List aOn}(ho:aZ w b cs){v:aOn}(hs:v.cells.size=i.size)
 (hv:∀x∈v.cells.toList,one x=true) (h:off+i.size<=cs.length) {K:aOn->aOm->Prop}
 (hk:∀w',aZ w' b (aT cs off v.cells.toList)->aN w w' (λx=>x=b)->w'.heap.size=w.heap.size->K undef w'):aA P (aM t (.pointer (some ⟨b,off,none⟩)) v) w K:=by
 obtain⟨w',h1,h2,h3,h4,_⟩:=DD (P:=P) (M:=λx=>x=b) rfl v.cells.toList w off 0 cs ho (by simp[hs];omega) hv
 have:(aM t (.pointer (some ⟨b,off,none⟩)) v).run P w= .ok .skip w':=by
  unfold aM
  rw[aJX]
  simp only[Instr.storeAt,Instr.sureAddr,storeVar,pure_bind,Sem.run_bind,cG hi,Result.andThen_ok,hs]
  simp[h1]
 unfold aA
 rw[this]
 exact hk w' h2 h3 h4
theorem anH{v:aOn}(hv:one v=true):v.cells= #[v]:=by cases v<;>simp[one]at hv<;>rfl
theorem rG{i:TypeInfo}(hi:P.info? t=some i)(h1:i.size=1){b off:Nat}{cs:List aOn}(ho:aZ w b cs){v:aOn}(hv:one v=true)(h:off<cs.length){K:aOn->aOm->Prop}
 (hk:∀w',aZ w' b (cs.set off v)->aN w w' (λx=>x=b)->w'.heap.size=w.heap.size->K undef w'):aA P (aM t (.pointer (some ⟨b,off,none⟩)) v) w K:=by
 have e:=anH hv
 refine gD hi ho (by rw[e,h1]<;>rfl) (by rw[e];simpa using hv) (by omega) λw' a b c=>hk w' ?_ b c
 rw[e]at a;exact a
def ldC(c:Option aOn)(w:aOm)(far:Result Next):Result Next:=match c with|some v=> .ok (.value v) w|none=>far
def far(P:Program)(t:TypeId)(x:Addr)(w:aOm):Result Next:=(aH t (.pointer (some x))).run P w
theorem cQ(v:aOn)(w:aOm)(f:Result Next):ldC (some v) w f= .ok (.value v) w:=rfl
theorem acD{d:TypeDesc}(hu:P.underlying t=some d)(hd:akU d=false)(x:Addr)(w:aOm):
 (aH t (.pointer (some x))).run P w=ldC (w.cell? x) w (far P t x w):=by
 cases h:w.cell? x with
 |none=>rfl
 |some v=>
  unfold aH
  rw[mE]
  simp only[Instr.loadAt,Instr.sureAddr,loadVar,pure_bind,Sem.run_bind,EV hu,hd,Result.andThen_ok,aLF,if_false,run_load,h,ldC]
theorem F9 {d:TypeDesc}{i:TypeInfo}(hu:P.underlying t=some d)(hd:akU d=true)(hi:P.info? t=some i){b off:Nat}{cs:List aOn}(ho:aZ w b cs)(h:off+i.size<=cs.length){K:aOn->Prop}
 (hk:K (.agg ((cs.drop off).take i.size).toArray)):vV P t (.pointer (some ⟨b,off,none⟩)) w K:=by
 refine⟨_, ?_,hk⟩
 simp only[asAddr,loadVar,pure_bind,Sem.run_bind,EV hu,hd,Result.andThen_ok,if_true,cG hi,Wk ho h,Sem.run_pure]
theorem aAT{d:TypeDesc}(hu:P.underlying t=some d)(hd:akU d=false){b off:Nat}{cs:List aOn}(ho:aZ w b cs){v:aOn}(h:cs[off]?=some v){K:aOn->Prop}
 (hk:K v):vV P t (.pointer (some ⟨b,off,none⟩)) w K:=by
 refine⟨_, ?_,hk⟩
 simp only[asAddr,loadVar,pure_bind,Sem.run_bind,EV hu,hd,Result.andThen_ok,aLF,if_false,run_load,ho.cell,h]
theorem fC{v:aOn}{K:aOn->aOm->Prop}(hk:∀w',aZ w' w.heap.size v.cells.toList->aN w w' bJ->w'.heap.size=w.heap.size+1->K (.pointer (some ⟨w.heap.size,0,none⟩)) w'):
 aA P (Ba t v) w K:=by
 have:(Ba t v).run P w= .ok (.value (.pointer (some ⟨w.heap.size,0,none⟩))) (w.alloc (.cells v.cells.toList.toArray t)):=by
  unfold Ba;rw[mE]
  simp[Instr.box,newVar,newRow]
 unfold aA
 rw[this]
 exact hk _ (aZ.alloc _ _ _) (aN.alloc _ _ _) (by simp)
theorem eL{i:TypeInfo}{z:aOn}(hi:P.info? t=some i)(hz:i.zero=some z){K:aOn->aOm->Prop}
 (hk:∀w',aZ w' w.heap.size z.cells.toList->aN w w' bJ->w'.heap.size=w.heap.size+1->K (.pointer (some ⟨w.heap.size,0,none⟩)) w'):
 aA P (bG t) w K:=by
 have:(bG t).run P w= .ok (.value (.pointer (some ⟨w.heap.size,0,none⟩))) (w.alloc (.cells z.cells.toList.toArray t)):=by
  unfold bG;rw[mE]
  simp[Instr.alloc,zeroValue,typeInfo,hi,hz,newVar,newRow]
 unfold aA
 rw[this]
 exact hk _ (aZ.alloc _ _ _) (aN.alloc _ _ _) (by simp)
end
theorem vM{P:Program}{w:aOm}{k:IntKind}{a:Int}{y:Nat}{code:BoundsCode}(h0:0<=a)(h1:a<=y):(Instr.sliceBound (.int k a) y code).run P w= .ok a.toNat w:=by
 simp[Instr.sliceBound,asIntOf,h0,h1]
section
variable{P:Program}{w:aOm}{t e:TypeId}{k k':IntKind}{lo hi:Int}{i:TypeInfo}
def cW(x:Option Addr)(m l sz:Nat):Option Addr:=if m=l then x else x.map (·.add (l*sz))
theorem azC(hu:P.underlying t=some (.slice e))(hi':P.info? e=some i)(x:Option Addr)(n c:Nat)(h0:0<=lo)(h1:lo<=n):
 (bP t (.slice x n c) (some (.int k lo)) none none).run P w= .ok (.value (.slice (cW x c lo.toNat i.size) (n-lo.toNat) (c-lo.toNat))) w:=by
 simp only[bP,mE,Instr.sliceAt,underlying,hu,Sem.run_bind,run_program,Result.andThen_ok,Sem.run_pure,Instr.slice,Instr.sliceBounds,pure_bind,vM h0 h1,cG hi',cW]
theorem Xw(hu:P.underlying t=some (.slice e))(hi':P.info? e=some i)(x:Option Addr)(n c:Nat)(h0:0<=hi)(h1:hi<=c):
 (bP t (.slice x n c) none (some (.int k hi)) none).run P w= .ok (.value (.slice (cW x c 0 i.size) (hi.toNat-0) (c-0))) w:=by
 simp only[bP,mE,Instr.sliceAt,underlying,hu,Sem.run_bind,run_program,Result.andThen_ok,Sem.run_pure,Instr.slice,Instr.sliceBounds,pure_bind,vM h0 h1,cG hi',cW]
theorem aqK(hu:P.underlying t=some (.slice e))(hi':P.info? e=some i)(x:Option Addr)(n c:Nat)(h0:0<=lo)(h1:lo<=hi)(h2:hi<=c):
 (bP t (.slice x n c) (some (.int k lo)) (some (.int k' hi)) none).run P w= .ok (.value (.slice (cW x c lo.toNat i.size) (hi.toNat-lo.toNat) (c-lo.toNat))) w:=by
 have h3:(0:Int)<=hi:=by omega
 have h4:lo<=(hi.toNat:Int):=by omega
 simp only[bP,mE,Instr.sliceAt,underlying,hu,Sem.run_bind,run_program,Result.andThen_ok,Sem.run_pure,Instr.slice,Instr.sliceBounds,pure_bind,vM h3 h2,vM h0 h4,cG hi',cW]
def iD(a:Addr)(m l sz:Nat):Addr:=if m=l then a else a.add (l*sz)
theorem auZ{n:Nat}(hu:P.underlying t=some (.array n e))(hi':P.info? e=some i)(x:Addr)(h0:0<=lo)(h1:lo<=n):
 (bP t (.pointer (some x)) (some (.int k lo)) none none).run P w= .ok (.value (.slice (some (iD x n lo.toNat i.size)) (n-lo.toNat) (n-lo.toNat))) w:=by
 simp only[bP,mE,Instr.sliceAt,Instr.sureAddr,underlying,hu,Sem.run_bind,run_program,Result.andThen_ok,Sem.run_pure,Instr.sliceBounds,pure_bind,vM h0 h1,cG hi',iD]
theorem TI{n:Nat}(hu:P.underlying t=some (.array n e))(hi':P.info? e=some i)(x:Addr)(h0:0<=hi)(h1:hi<=n):
 (bP t (.pointer (some x)) none (some (.int k hi)) none).run P w= .ok (.value (.slice (some (iD x n 0 i.size)) (hi.toNat-0) (n-0))) w:=by
 simp only[bP,mE,Instr.sliceAt,Instr.sureAddr,underlying,hu,Sem.run_bind,run_program,Result.andThen_ok,Sem.run_pure,Instr.sliceBounds,pure_bind,vM h0 h1,cG hi',iD]
theorem Ds{n:Nat}(hu:P.underlying t=some (.array n e))(hi':P.info? e=some i)(x:Addr):
 (bP t (.pointer (some x)) none none none).run P w= .ok (.value (.slice (some (iD x n 0 i.size)) (n-0) (n-0))) w:=by
 simp only[bP,mE,Instr.sliceAt,Instr.sureAddr,underlying,hu,Sem.run_bind,run_program,Result.andThen_ok,Sem.run_pure,Instr.sliceBounds,pure_bind,cG hi',iD]
theorem WD{n:Nat}(hu:P.underlying t=some (.array n e))(hi':P.info? e=some i)(x:Addr)(h0:0<=lo)(h1:lo<=hi)(h2:hi<=n):
 (bP t (.pointer (some x)) (some (.int k lo)) (some (.int k' hi)) none).run P w= .ok (.value (.slice (some (iD x n lo.toNat i.size)) (hi.toNat-lo.toNat) (n-lo.toNat))) w:=by
 have h3:(0:Int)<=hi:=by omega
 have h4:lo<=(hi.toNat:Int):=by omega
 simp only[bP,mE,Instr.sliceAt,Instr.sureAddr,underlying,hu,Sem.run_bind,run_program,Result.andThen_ok,Sem.run_pure,Instr.sliceBounds,pure_bind,vM h3 h2,vM h0 h4,cG hi',iD]
end
def Sl(w:aOm)(v:aOn)(l:List aOn):Prop:=
 ∃a n c,v= .slice a n c/\n=l.length/\n<=c/\(0<n->∃b off,a=some ⟨b,off,none⟩/\∀i,i<n->w.cell? ⟨b,off+i,none⟩=l[i]?)
def JN(v:aOn)(M:Nat->Prop):Prop:=match v with| .slice (some a) (_+1) _=>M a.block|_=>False
theorem Sl.ext {w w':aOm}{v:aOn}{l:List aOn}{M:Nat->Prop}(h:Sl w v l)(hx:aN w w' M)(hM:¬JN v M):Sl w' v l:=by
 obtain⟨a,n,c,rfl,hn,hc,h⟩:=h
 refine⟨a,n,c,rfl,hn,hc,λh0=> ?_⟩
 obtain⟨b,off,rfl,h2⟩:=h h0
 refine⟨b,off,rfl,λi hi=> ?_⟩
 have h1:=h2 i hi
 obtain⟨v,hv⟩:∃v,l[i]?=some v:=⟨l[i],by simp⟩
 rw[hv]at h1⊢
 refine asK h1 hx ?_
 obtain⟨m,rfl⟩:∃m,n=m+1:=⟨n-1,by omega⟩
 exact hM
theorem Sl.old {w:aOm}{v:aOn}{l:List aOn}(h:Sl w v l):¬JN v (λb=>w.heap.size<=b):=by
 obtain⟨a,n,c,rfl,hn,hc,h⟩:=h
 unfold JN
 split
 .rename_i x m _ e
  obtain⟨rfl,rfl,rfl⟩:a=some x/\n=m+1/\c=_:=by simpa using e
  obtain⟨b,off,e,h2⟩:=h (by omega)
  have e:=aLW e;subst e
  have h1:=h2 0 (by omega)
  obtain⟨v,hv⟩:∃v,l[0]?=some v:=⟨l[0],by simp⟩
  rw[hv]at h1
  have:=World.block_lt_of_cell? _ _ h1
  simp at this⊢;omega
 .simp
def dR(x:UInt8):aOn:= .int .u8 x.toNat
abbrev Bs(w:aOm)(v:aOn)(l:List UInt8):Prop:=Sl w v (l.map dR)
theorem CG(b o n:Nat):(⟨b,o,none⟩:Addr).add n=⟨b,o+n,none⟩:=by
 unfold Addr.add;split
 .rename_i h;subst h;rfl
 .rfl
section
variable{P:Program}{w:aOm}{t e:TypeId}{k:IntKind}{a:Int}
theorem acC{inf:TypeInfo}{sz:Nat}(hz:inf.size=sz)(hu:P.underlying t=some (.slice e))(hi:P.info? e=some inf)(b o n c:Nat)(h0:0<=a)(h1:a<n):
 (aO t (.slice (some ⟨b,o,none⟩) n c) (.int k a)).run P w= .ok (.value (.pointer (some ⟨b,o+a.toNat*sz,none⟩))) w:=by
 rw[auY hu hi _ n c h0 h1,CG,hz]
theorem UK{inf:TypeInfo}(hz:inf.size=1)(hu:P.underlying t=some (.slice e))(hi:P.info? e=some inf)(b o n c:Nat)(h0:0<=a)(h1:a<n):
 (aO t (.slice (some ⟨b,o,none⟩) n c) (.int k a)).run P w= .ok (.value (.pointer (some ⟨b,o+a.toNat,none⟩))) w:=by
 rw[auY hu hi _ n c h0 h1,CG,hz,aM6]
theorem aCo{inf:TypeInfo}{sz len:Nat}(hz:inf.size=sz)(hu:P.underlying t=some (.array len e))(hi:P.info? e=some inf)(b o:Nat)(h0:0<=a)(h1:a<(len:Int)):
 (aO t (.pointer (some ⟨b,o,none⟩)) (.int k a)).run P w= .ok (.value (.pointer (some ⟨b,o+a.toNat*sz,none⟩))) w:=by
 rw[auX hu hi _ h0 h1,CG,hz]
theorem IS{inf:TypeInfo}{len:Nat}(hz:inf.size=1)(hu:P.underlying t=some (.array len e))(hi:P.info? e=some inf)(b o:Nat)(h0:0<=a)(h1:a<(len:Int)):
 (aO t (.pointer (some ⟨b,o,none⟩)) (.int k a)).run P w= .ok (.value (.pointer (some ⟨b,o+a.toNat,none⟩))) w:=by
 rw[auX hu hi _ h0 h1,CG,hz,aM6]
end
section
variable{P:Program}{w:aOm}{s d e:TypeId}
theorem aEI(hs:P.underlying s=some (.slice e))(hd:P.underlying d=some .string)(he:P.underlying e=some (.int .u8)){l:List UInt8}{v:aOn}(h:Bs w v l):
 (cH s d v).run P w= .ok (.value (.string ⟨l.toArray⟩)) w:=by
 obtain⟨a,n,c,rfl,hn,hc,h⟩:=h
 simp only[aLv]at hn
 unfold cH
 rw[mE]
 have key:(convert s d (.slice a n c)).run P w= .ok (.string ⟨l.toArray⟩) w:=by
  cases a with
  |none=>
   have hl:l=[]:=by
    cases l with
    |nil=>rfl
    |cons x l=>obtain⟨b,off,e,_⟩:=h (by rw[hn];simp);cases e
   subst hl
   rw[run_convert_bytes_string w s d e none n c hs he hd]
   rfl
  |some x=>
   subst hn
   refine run_convert_bytes_back w s d e x c l hs he hd λj hj=> ?_
   obtain⟨b,off,hx,h2⟩:=h (by omega)
   have hx:=aLW hx
   subst hx
   rw[CG,h2 j hj]
   simp[dR,hj]
 rw[key]<;>rfl
end
theorem BF(l:List UInt8):∀x∈l.map dR,one x=true:=by
 intro x hx
 obtain⟨c,_,rfl⟩:=aL5.1 hx
 rfl
theorem aCD{b o m l sz:Nat}(h:l≠m):iD ⟨b,o,none⟩ m l sz=⟨b,o+l*sz,none⟩:=by
 unfold iD;rw[if_neg (λe=>h e.symm),CG]
theorem oC{b o m l:Nat}(h:l≠m):iD ⟨b,o,none⟩ m l 1=⟨b,o+l,none⟩:=by rw[aCD h,aM6]
theorem Sl.drop {w:aOm}{b o n c:Nat}{l:List aOn}(h:Sl w (.slice (some ⟨b,o,none⟩) n c) l){k:Nat}(hk:k<=n):
 Sl w (.slice (cW (some ⟨b,o,none⟩) c k 1) (n-k) (c-k)) (l.drop k):=by
 obtain⟨x,m,c',e,hm,hc,hh⟩:=h
 cases e
 refine⟨_,_,_,rfl,by rw[aLP];omega,by omega,λh0=> ?_⟩
 obtain⟨b',o',e,h2⟩:=hh (by omega)
 cases e
 have hne:¬c=k:=by omega
 refine⟨b,o+k,by unfold cW;rw[if_neg hne,aL6,CG,aM6],λi hi=> ?_⟩
 rw[aMM,h2 (k+i) (by omega),aMA]
theorem Sl.take {w:aOm}{b o n c:Nat}{l:List aOn}(h:Sl w (.slice (some ⟨b,o,none⟩) n c) l){k:Nat}(hk:k<=n):
 Sl w (.slice (cW (some ⟨b,o,none⟩) c 0 1) (k-0) (c-0)) (l.take k):=by
 obtain⟨x,m,c',e,hm,hc,hh⟩:=h
 cases e
 refine⟨_,_,_,rfl,by rw[aLD];omega,by omega,λh0=> ?_⟩
 obtain⟨b',o',e,h2⟩:=hh (by omega)
 cases e
 have hne:¬c=0:=by omega
 refine⟨b,o,by unfold cW;rw[if_neg hne,aL6,CG]<;>rfl,λi hi=> ?_⟩
 rw[h2 i (by omega),aLX (by omega)]
theorem aBX{b o n c k:Nat}{M:Nat->Prop}(h:¬JN (.slice (some ⟨b,o,none⟩) n c) M)(hn:0<n)(m:Nat):¬JN (.slice (cW (some ⟨b,o,none⟩) c k 1) m (c-k)) M:=by
 have hb:¬M b:=by
  obtain⟨n',rfl⟩:∃n',n=n'+1:=⟨n-1,by omega⟩
  exact h
 unfold JN cW
 split
 .rename_i x q _ e
  simp only[Value.slice.injEq]at e
  obtain⟨e,_,_⟩:=e
  split at e
  .cases e;exact hb
  .rw [aL6,CG]at e;cases e;exact hb
 .simp
theorem aZ.bs {w:aOm}{b off c:Nat}{cs:List aOn}{l:List UInt8}(h:aZ w b cs)(hc:l.length<=c)(hl:∀i (hi:i<l.length),cs[off+i]?=some (dR l[i])):Bs w (.slice (some ⟨b,off,none⟩) l.length c) l:=
 ⟨_,_,_,rfl,by simp,hc,λ_=>⟨b,off,rfl,λi hi=>by rw[h.cell,hl i hi];simp[hi]⟩⟩
section
variable{P:Program}{w:aOm}{t e:TypeId}{k:IntKind}{a:Int}
theorem aIy{len:Nat}{d:TypeDesc}{i:TypeInfo}(hu:P.underlying t=some (.array len e))(hd:P.underlying e=some d)(ha:akU d=false)(hi:P.info? e=some i)(h1:i.size=1)
 (cs:Array aOn) (h0:0<=a) (hl:a<(len:Int)) {v:aOn} (hv:cs[a.toNat]?=some v):(IJ t (.agg cs) (.int k a)).run P w= .ok (.value v) w:=by
 unfold IJ
 rw[mE]
 simp only[Instr.index,asIntOf,pure_bind,underlying,hu,Sem.run_bind,run_program,Result.andThen_ok,Sem.run_pure,h0,hl,and_self,if_true,cG hi,h1,aM6,part,EV hd,ha,aLF,if_false,hv]
def aD1 (P:Program)(t:TypeId)(cs:Array aOn)(k:IntKind)(a:Int)(w:aOm):Result Next:=(IJ t (.agg cs) (.int k a)).run P w
theorem aqH{len:Nat}{d:TypeDesc}{i:TypeInfo}(hu:P.underlying t=some (.array len e))(hd:P.underlying e=some d)(ha:akU d=false)(hi:P.info? e=some i)(h1:i.size=1)
 (cs:Array aOn) (h0:0<=a) (hl:a<(len:Int)):(IJ t (.agg cs) (.int k a)).run P w=ldC cs[a.toNat]? w (aD1 P t cs k a w):=by
 cases hv:cs[a.toNat]? with
 |none=>rfl
 |some v=>exact aIy hu hd ha hi h1 cs h0 hl hv
theorem Y2 {b off:Nat}{l:List aOn}(h:∀i,i<l.length->w.cell? ⟨b,off+i,none⟩=l[i]?)(n:Nat)(hn:n<=l.length):
 (loadCells ⟨b,off,none⟩ n).run P w= .ok (l.take n).toArray w:=by
 have key:∀(m i:Nat) (acc:Array aOn),i+m<=l.length->(loadCellsFrom ⟨b,off,none⟩ i m acc).run P w= .ok (acc++((l.drop i).take m).toArray) w:=by
  intro m
  induction m with
  |zero=>intro i acc _;simp[loadCellsFrom]
  |succ m ih=>
   intro i acc hm
   have hc:=h i (by omega)
   rw[aLt (by omega)]at hc
   simp only[loadCellsFrom,Sem.run_bind,run_load,CG,hc,Result.andThen_ok]
   rw[ih (i+1) _ (by omega),aL8 (by omega:i<l.length),aLC]
   simp
 unfold loadCells
 rw[key n 0 #[] (by omega)]
 simp
theorem alE{sz n:Nat}{v:aOn}{l:List aOn}(h1:sz=1)(h:Sl w v l)(hn:n<=l.length):(Builtin.firstCells sz n v).run P w= .ok (l.take n).toArray w:=by
 subst h1
 obtain⟨x,m,c,rfl,hm,hc,hh⟩:=h
 cases x with
 |none=>
  have:l=[]:=by
   cases l with
   |nil=>rfl
   |cons y l=>obtain⟨b,off,e,_⟩:=hh (by rw[hm];simp);cases e
  subst this
  simp[Builtin.firstCells]
 |some x=>
  simp only[Builtin.firstCells,aM6]
  by_cases h0:0<m
  .obtain ⟨b,off,e,h2⟩:=hh h0
   have e:=aLW e;subst e
   exact Y2 (λi hi=>h2 i (by omega)) n hn
  .have h00:n=0:=by omega
   subst h00
   simp[loadCells,loadCellsFrom]
theorem aIL{v:aOn}{l:List aOn}(h:Sl w v l):(Builtin.lenOf v).run P w= .ok l.length w:=by
 obtain⟨x,m,c,rfl,hm,hc,hh⟩:=h
 simp[Builtin.lenOf,hm]
theorem avU{ty t2:TypeId}{i:TypeInfo}(hu:P.underlying t=some (.slice e))(hi:P.info? e=some i)(h1:i.size=1){b off dl c:Nat}{cs:List aOn}(ho:aZ w b cs)(hl:off+dl<=cs.length)
 {v:aOn} {l:List aOn} (h:Sl w v l) (hv:∀x∈l,one x=true) {K:aOn->aOm->Prop}
 (hk:∀w',aZ w' b (aT cs off (l.take (min l.length dl)))->aN w w' (λx=>x=b)->w'.heap.size=w.heap.size->K (.int .i64 (min l.length dl:Nat)) w'):
 aA P (dD .copy #[t,t2] ty [.slice (some ⟨b,off,none⟩) dl c,v]) w K:=by
 have hlen:(l.take (min l.length dl)).length=min l.length dl:=by rw[aLD];omega
 obtain⟨w',s1,s2,s3,s4,_⟩:=DD (P:=P) (M:=λx=>x=b) rfl (l.take (min l.length dl)) w off 0 cs ho (by rw[hlen];omega) (λx hx=>hv x (aMx hx))
 have:(dD .copy #[t,t2] ty [.slice (some ⟨b,off,none⟩) dl c,v]).run P w= .ok (.value (.int .i64 (min l.length dl:Nat))) w':=by
  unfold dD builtin
  simp only[Builtin.copy_,aMN,aLu,aLw]
  simp only[underlying,Sem.run_bind,run_program,Result.andThen_ok,hu,Sem.run_pure,aIL h,cG hi,h1]
  have:=alE (P:=P) (n:=min l.length dl) rfl h (Nat.min_le_left _ _)
  rw[show(Nat.min l.length dl)=min l.length dl from rfl,this]
  simp only[Result.andThen_ok,s1,goInt]
 unfold aA
 rw[this]
 exact hk w' (by simpa using s2) s3 s4
theorem akA{i:TypeInfo}{z:aOn}(hu:P.underlying t=some (.slice e))(hi:P.info? e=some i)(h1:i.size=1)(hz:i.zero=some z)(hz1:one z=true){n:Int}(h0:0<=n)(hn:i.bytes*n<=2^48)(hn2:n<=9223372036854775807)
 {K:aOn->aOm->Prop}
 (hk:∀w',aZ w' w.heap.size (List.replicate n.toNat z)->aN w w' bJ->w'.heap.size=w.heap.size+1->K (.slice (some ⟨w.heap.size,0,none⟩) n.toNat n.toNat) w'):
 aA P (iX t (.int k n) (.int k n)) w K:=by
 have hw:IntKind.i64.wrap n=n:=cX (by omega) hn2
 have hcells:z.cells= #[z]:=anH hz1
 have harr:(Array.range n.toNat).map (λj=>(#[z]:Array aOn)[j%(#[z]:Array aOn).size]!)=(List.replicate n.toNat z).toArray:=by
  apply Array.ext
  .simp
  .intro j h1 h2;simp[Nat.mod_one]
 have hz':(zeroValue e).run P w= .ok z w:=by simp[zeroValue,typeInfo,hi,hz]
 have:(iX t (.int k n) (.int k n)).run P w= .ok (.value (.slice (some ⟨w.heap.size,0,none⟩) n.toNat n.toNat)) (w.alloc (.cells (List.replicate n.toNat z).toArray e)):=by
  unfold iX
  rw[mE]
  have t1:(decide (n<0)||decide ((i.bytes:Int)*n>2^48)||decide (n<0)||decide (n>n))=false:=by
   simp only[aNV,decide_eq_false_iff_not];omega
  by_cases hn0:n.toNat=0
  .simp only[Instr.makeSlice,underlying,typeInfo,asInt,asIntOf,pure_bind,Sem.run_bind,run_program,Result.andThen_ok,hu,hi,Sem.run_pure,hw,t1,aLF,if_false,run_askRoom,cG hi,h1,aM6,hn0,if_true,newRow,run_newObj]
   have:(Array.range 0).map (λx=>(#[]:Array aOn)[x%(#[]:Array aOn).size]!)=(List.replicate 0 z).toArray:=by simp
   rw[this]
   rfl
  .simp only[Instr.makeSlice,underlying,typeInfo,asInt,asIntOf,pure_bind,Sem.run_bind,run_program,Result.andThen_ok,hu,hi,Sem.run_pure,hw,t1,aLF,if_false,run_askRoom,cG hi,h1,aM6,hn0,hz',hcells,newRow,run_newObj,harr]
   rfl
 unfold aA
 rw[this]
 exact hk _ (aZ.alloc _ _ _) (aN.alloc _ _ _) (by simp)
end
def Cl(w:aOm)(sz:Nat)(v:aOn)(n:Nat)(l:List aOn):Prop:=
 ∃a c,v= .slice a n c/\l.length=n*sz/\(0<n->∃b off,a=some ⟨b,off,none⟩/\∀i,i<l.length->w.cell? ⟨b,off+i,none⟩=l[i]?)
def pC(w:aOm)(base sz:Nat)(v:aOn)(n:Nat)(l:List aOn):Prop:=
 l.length=n*sz/\((v= .slice none 0 0/\n=0)∨
   ∃b c rest,v= .slice (some ⟨b,0,none⟩) n c/\base<=b/\aZ w b (l++rest)/\(l++rest).length=c*sz/\n<=c)
def Ah(w:aOm)(S:Nat->Prop)(sz:Nat)(v:aOn)(n:Nat)(l:List aOn):Prop:=
 l.length=n*sz/\((v= .slice none 0 0/\n=0)∨
   ∃b c rest,v= .slice (some ⟨b,0,none⟩) n c/\S b/\aZ w b (l++rest)/\(l++rest).length=c*sz/\n<=c)
theorem Sl.cl {w:aOm}{v:aOn}{l:List aOn}(h:Sl w v l):Cl w 1 v l.length l:=by
 obtain⟨a,n,c,rfl,rfl,hc,h⟩:=h
 exact⟨a,c,rfl,by omega,λh0=>h h0⟩
theorem aZ.cl {w:aOm}{b sz n c off:Nat}{cs l:List aOn}(h:aZ w b cs)(hl:l.length=n*sz)(hcs:∀i,i<l.length->cs[off+i]?=l[i]?):Cl w sz (.slice (some ⟨b,off,none⟩) n c) n l:=
 ⟨_,_,rfl,hl,λ_=>⟨b,off,rfl,λi hi=>by rw[h.cell,hcs i hi]⟩⟩
theorem pC.nil (w:aOm)(base sz:Nat):pC w base sz (.slice none 0 0) 0 []:=⟨by simp,.inl ⟨rfl,rfl⟩⟩
theorem pC.ext {w w':aOm}{base sz n:Nat}{v:aOn}{l:List aOn}{M:Nat->Prop}(h:pC w base sz v n l)(hx:aN w w' M)(hM:∀b,base<=b->¬M b):pC w' base sz v n l:=by
 refine⟨h.1, ?_⟩
 rcases h.2 with h2|⟨b,c,rest,h1,h2,h3,h4,h5⟩
 .exact .inl h2
 .exact .inr ⟨b,c,rest,h1,h2,h3.ext hx (hM b h2),h4,h5⟩
theorem pC.cl {w:aOm}{base sz n:Nat}{v:aOn}{l:List aOn}(h:pC w base sz v n l):Cl w sz v n l:=by
 rcases h.2 with⟨rfl,rfl⟩|⟨b,c,rest,rfl,h2,h3,h4,h5⟩
 .exact ⟨_,_,rfl,h.1,λh=>by omega⟩
 .refine ⟨_,_,rfl,h.1,λ_=>⟨b,0,rfl,λi hi=> ?_⟩⟩
  rw[h3.cell,aLI,aLU hi]
theorem pC.sl {w:aOm}{base n:Nat}{v:aOn}{l:List aOn}(h:pC w base 1 v n l):Sl w v l:=by
 have hl:=h.1
 rcases h.2 with⟨rfl,rfl⟩|⟨b,c,rest,rfl,h2,h3,h4,h5⟩
 .exact ⟨_,_,_,rfl,by omega,by omega,λh=>by omega⟩
 .refine ⟨_,_,_,rfl,by omega,h5,λ_=>⟨b,0,rfl,λi hi=> ?_⟩⟩
  rw[h3.cell,aLI,aLU (by omega)]
section
variable{P:Program}{w:aOm}{t e:TypeId}
theorem Y1 {b off:Nat}{l:List aOn}(h:∀i,i<l.length->w.cell? ⟨b,off+i,none⟩=l[i]?):(loadCells ⟨b,off,none⟩ l.length).run P w= .ok l.toArray w:=by
 have:=Y2 (P:=P) h l.length (aLA _)
 rwa [aNv]at this
theorem A0 {sz n:Nat}{v:aOn}{l:List aOn}(h:Cl w sz v n l):(Builtin.firstCells sz n v).run P w= .ok l.toArray w:=by
 obtain⟨x,c,rfl,hl,hh⟩:=h
 cases x with
 |none=>
  have:n=0:=by
   rcases aMC n with h|h
   .exact h
   .obtain ⟨b,off,e,_⟩:=hh h;cases e
  subst this
  have:l=[]:=aMc.1 (by omega)
  subst this
  simp[Builtin.firstCells]
 |some x=>
  simp only[Builtin.firstCells]
  rw[<-hl]
  by_cases h0:0<n
  .obtain ⟨b,off,e,h2⟩:=hh h0
   have e:=aLW e;subst e
   exact Y1 h2
  .have:n=0:=by omega
   subst this
   have:l=[]:=aMc.1 (by omega)
   subst this
   simp[loadCells,loadCellsFrom]
theorem tE(zs:Array aOn)(n:Nat):(Builtin.zeroCells zs n).size=n*zs.size:=by simp[Builtin.zeroCells]
theorem MU(vs:List aOn):∀(aLr rest:List aOn),vs.length<=rest.length->aT (aLr++rest) aLr.length vs=aLr++vs++rest.drop vs.length:=by
 induction vs with
 |nil=>intro aLr rest _;simp[aT]
 |cons v vs ih=>
  intro aLr rest h
  cases rest with
  |nil=>simp at h
  |cons r rest=>
   have:=ih (aLr++[v]) rest (by simpa using h)
   simp only[aT,aLs,aLS,aOg,aLJ,aMo,aL9]at this⊢
   rw[aNE,<-this,aMt _ _ (aLA _),aNl,aLy,aLI]
theorem avR{S:Nat->Prop}{sz n m:Nat}{i:TypeInfo}{z:aOn}{ty t2 e2:TypeId}(hu:P.underlying t=some (.slice e))(hu2:P.underlying t2=some (.slice e2))(hi:P.info? e=some i)(hsz:i.size=sz)(hz:i.zero=some z)(hzs:z.cells.size=sz)
 {v x:aOn} {l news:List aOn} (h:Ah w S sz v n l) (hx:Cl w sz x m news) (hone:∀y∈news,one y=true) (hb:∀b,w.heap.size<=b->S b)
 (hn:n+m<=9223372036854775807) (hbytes:(n+m)*i.bytes<=140737488355328) (_hpos:i.bytes≠0)
 {K:aOn->aOm->Prop} (hk:∀v' w',Ah w' S sz v' (n+m) (l++news)->aN w w' S->Cl w' sz v n l->K v' w'):aA P (dD .append #[t,t2] ty [v,x]) w K:=by
 have hlx:(Builtin.lenOf x).run P w= .ok m w:=by
  obtain⟨a,c,rfl,_⟩:=hx;simp[Builtin.lenOf]
 have hnl:=hx.choose_spec.choose_spec.2.1
 have hfx:=A0 (P:=P) hx
 have hmax:IntKind.i64.max=9223372036854775807:=by decide
 have hnot:¬(((n+m:Nat):Int)>IntKind.i64.max/\(False∨i.bytes=0)):=by rw[hmax];omega
 have hz':∀w,(zeroValue e).run P w= .ok z w:=λw=>by simp[zeroValue,typeInfo,hi,hz]
 have hlen:=h.1
 rcases h.2 with⟨rfl,rfl⟩|⟨b,c,rest,rfl,h2,h3,h4,h5⟩
 .
  have hl0:l=[]:=aMc.1 (by omega)
  subst hl0
  by_cases hm:m=0
  .subst hm
   have hn0:news=[]:=aMc.1 (by omega)
   subst hn0
   have:(dD .append #[t,t2] ty [.slice none 0 0,x]).run P w= .ok (.value (.slice none 0 0)) w:=by
    unfold dD builtin
    simp only[Builtin.append_,aMN,aLu,aLw]
    simp only[underlying,Sem.run_bind,run_program,Result.andThen_ok,hu,hu2,Sem.run_pure,cG hi,hsz,aLF,if_false,hlx,aLA,aL3,if_true,aMD,hfx]
   unfold aA
   rw[this]
   exact hk _ _ ⟨by simp,.inl ⟨rfl,by omega⟩⟩ (aN.refl _ _) ⟨none,0,rfl,hlen,λh=>absurd h (by omega)⟩
  .have hfit:=growslice_fits (need:=0+m) (old:=0) (bytes:=i.bytes) (by omega) (by omega)
   have hfit':¬(Builtin.nextslicecap (0+m) 0*i.bytes>2^48):=by omega
   have hle:¬(0+m<=0):=by omega
   have hq:(Question.appendCap (0+m) 0 e).forced=false:=rfl
   obtain⟨r,hr⟩:∃r,(Question.appendCap (0+m) 0 e).cut (w.tape w.drawn (.appendCap (0+m) 0 e))=m+r:=
    ⟨(w.tape w.drawn (.appendCap (0+m) 0 e))%(2^63-(0+m)),by simp only[Question.cut];omega⟩
   have:(dD .append #[t,t2] ty [.slice none 0 0,x]).run P w= .ok (.value (.slice (some ⟨w.heap.size,0,none⟩) (0+m) (m+r))) ((dr w).alloc (.cells (news++(Builtin.zeroCells z.cells (m+r-(0+m))).toList).toArray e)):=by
    have hfx':=A0 (P:=P) (w:=dr w) hx
    unfold dD builtin
    simp only[Builtin.append_,aMN,aLu,aLw]
    simp only[underlying,typeInfo,Sem.run_bind,run_program,Result.andThen_ok,hu,hu2,hi,Sem.run_pure,cG hi,hsz,aLF,if_false,hlx,hle,aMD,if_true,hnot,hfit',run_choose,hq,hr,run_askRoom]
    change((Sem.run P _ (dr w)).andThen _).andThen _=_
    simp only[Sem.run_bind,hfx',run_firstCells_none,Result.andThen_ok,hz',Sem.run_pure,newRow,run_newObj]
    have e1:(#[]++news.toArray++Builtin.zeroCells z.cells (m+r-(0+m)):Array aOn)=(news++(Builtin.zeroCells z.cells (m+r-(0+m))).toList).toArray:=by
     apply Array.ext';simp
    rw[e1]
    rfl
   unfold aA
   rw[this]
   refine hk _ _ ⟨by simp only[aL9];rw[hnl,aLI],.inr ⟨w.heap.size,m+r,(Builtin.zeroCells z.cells (m+r-(0+m))).toList,by rw[aLI],hb _ (aLA _),aZ.alloc (dr w) _ _, ?_,by omega⟩⟩ ((aN.dr w _).seq (aN.alloc _ _ _)) ⟨none,0,rfl,hlen,λh=>absurd h (by omega)⟩
   simp only[aL9,aLs,aNu,tE,hzs,hnl]
   rw[show m+r-(0+m)=r from by omega,aMl]
 .by_cases hc:n+m<=c
  .
   have hroom:news.length<=rest.length:=by
    rw[aLs,hlen]at h4
    have:(n+m)*sz<=c*sz:=aL1 _ hc
    rw[aMl]at this;omega
   obtain⟨w',s1,s2,s3,s4,_⟩:=DD (P:=P) (M:=S) h2 news w (n*sz) 0 (l++rest) h3 (by rw[aLs,hlen];omega) hone
   have:(dD .append #[t,t2] ty [.slice (some ⟨b,0,none⟩) n c,x]).run P w= .ok (.value (.slice (some ⟨b,0,none⟩) (n+m) c)) w':=by
    unfold dD builtin
    simp only[Builtin.append_,aMN,aLu,aLw]
    simp only[underlying,Sem.run_bind,run_program,Result.andThen_ok,hu,hu2,Sem.run_pure,cG hi,hsz,aLF,if_false,hlx,hc,if_true,aMD,hfx,CG,aLI,s1]
   unfold aA
   rw[this]
   rw[aL3,<-hlen,MU _ _ _ hroom]at s2
   refine hk _ _ ⟨by rw[aLs,hlen,hnl,aMl],.inr ⟨b,c,rest.drop news.length,rfl,h2,s2, ?_,hc⟩⟩ s3 ⟨_,_,rfl,hlen,λ_=>⟨b,0,rfl,λi hi=>by
    rw[s2.cell,aLI,aLJ,aLU hi]⟩⟩
   rw[<-h4];simp;omega
  .
   have hfit:=growslice_fits (need:=n+m) (old:=c) (bytes:=i.bytes) (by omega) hbytes
   have hfit':¬(Builtin.nextslicecap (n+m) c*i.bytes>2^48):=by omega
   have hq:(Question.appendCap (n+m) c e).forced=false:=rfl
   obtain⟨r,hr⟩:∃r,(Question.appendCap (n+m) c e).cut (w.tape w.drawn (.appendCap (n+m) c e))=n+m+r:=
    ⟨(w.tape w.drawn (.appendCap (n+m) c e))%(2^63-(n+m)),by simp only[Question.cut]⟩
   have hold:Cl (dr w) sz (.slice (some ⟨b,0,none⟩) n c) n l:=⟨_,_,rfl,hlen,λ_=>⟨b,0,rfl,λi hi=>by
    show w.cell? _=_
    rw[h3.cell,aLI,aLU hi]⟩⟩
   have:(dD .append #[t,t2] ty [.slice (some ⟨b,0,none⟩) n c,x]).run P w= .ok (.value (.slice (some ⟨w.heap.size,0,none⟩) (n+m) (n+m+r))) ((dr w).alloc (.cells (l++news++(Builtin.zeroCells z.cells (n+m+r-(n+m))).toList).toArray e)):=by
    have hfx':=A0 (P:=P) (w:=dr w) hx
    have hfo:=A0 (P:=P) hold
    unfold dD builtin
    simp only[Builtin.append_,aMN,aLu,aLw]
    simp only[underlying,typeInfo,Sem.run_bind,run_program,Result.andThen_ok,hu,hu2,hi,Sem.run_pure,cG hi,hsz,aLF,if_false,hlx,hc,aMD,if_true,hnot,hfit',run_choose,hq,hr,run_askRoom]
    change((Sem.run P _ (dr w)).andThen _).andThen _=_
    simp only[Sem.run_bind,hfx',hfo,Result.andThen_ok,hz',Sem.run_pure,newRow,run_newObj]
    have e1:(l.toArray++news.toArray++Builtin.zeroCells z.cells (n+m+r-(n+m)):Array aOn)=(l++news++(Builtin.zeroCells z.cells (n+m+r-(n+m))).toList).toArray:=by
     apply Array.ext';simp
    rw[e1]
    rfl
   unfold aA
   rw[this]
   refine hk _ _ ⟨by rw[aLs,hlen,hnl,aMl],.inr ⟨w.heap.size,n+m+r,_,rfl,hb _ (aLA _),aZ.alloc (dr w) _ _, ?_,by omega⟩⟩ ((aN.dr w _).seq (aN.alloc _ _ _)) ⟨_,_,rfl,hlen,λ_=>⟨b,0,rfl,λi hi=>by
    have o9:=h3.ext ((aN.dr w bJ).seq (aN.alloc (dr w) (.cells (l++news++(Builtin.zeroCells z.cells (n+m+r-(n+m))).toList).toArray e) bJ)) (λh=>h)
    rw[o9.cell,aLI,aLU hi]⟩⟩
   simp only[aLs,aNu,tE,hzs,hnl,hlen]
   rw[show n+m+r-(n+m)=r from by omega,aMl,aMl]
theorem qN{S:Nat->Prop}{sz n m:Nat}{i:TypeInfo}{z:aOn}{ty t2 e2:TypeId}(hu:P.underlying t=some (.slice e))(hu2:P.underlying t2=some (.slice e2))(hi:P.info? e=some i)(hsz:i.size=sz)(hz:i.zero=some z)(hzs:z.cells.size=sz)
 {v x:aOn} {l news:List aOn} (h:Ah w S sz v n l) (hx:Cl w sz x m news) (hone:∀y∈news,one y=true) (hb:∀b,w.heap.size<=b->S b)
 (hn:n+m<=9223372036854775807) (hbytes:(n+m)*i.bytes<=140737488355328) (_hpos:i.bytes≠0)
 {K:aOn->aOm->Prop} (hk:∀v' w',Ah w' S sz v' (n+m) (l++news)->aN w w' S->K v' w'):aA P (dD .append #[t,t2] ty [v,x]) w K:=
 avR hu hu2 hi hsz hz hzs h hx hone hb hn hbytes _hpos λv' w' a b _=>hk v' w' a b
theorem ajZ{base sz n m:Nat}{i:TypeInfo}{z:aOn}{ty t2 e2:TypeId}(hu:P.underlying t=some (.slice e))(hu2:P.underlying t2=some (.slice e2))(hi:P.info? e=some i)(hsz:i.size=sz)(hz:i.zero=some z)(hzs:z.cells.size=sz)
 {v x:aOn} {l news:List aOn} (h:pC w base sz v n l) (hx:Cl w sz x m news) (hone:∀y∈news,one y=true) (hb:base<=w.heap.size)
 (hn:n+m<=9223372036854775807) (hbytes:(n+m)*i.bytes<=140737488355328) (_hpos:i.bytes≠0)
 {K:aOn->aOm->Prop} (hk:∀v' w',pC w' base sz v' (n+m) (l++news)->aN w w' (λy=>base<=y)->K v' w'):aA P (dD .append #[t,t2] ty [v,x]) w K:=
 qN (S:=λy=>base<=y) hu hu2 hi hsz hz hzs h hx hone (λ_ h=>aMu hb h) hn hbytes _hpos hk
end
section
variable{P:Program}{w:aOm}{t e:TypeId}
theorem Kx{i:TypeInfo}{z:aOn}{n:Nat}{ps:List (Nat×aOn)}{cells:Array aOn}(hu:P.underlying t=some (.slice e))(hi:P.info? e=some i)(hz:i.zero=some z)
 (h1:¬n*i.size>2^24) (h0:¬n*i.size=0) (hf:Instr.fill (λj=>some (j*i.size,i.size)) ((Array.range (n*i.size)).map (z.cells[·%z.cells.size]!)) ps=some cells)
 {K:aOn->aOm->Prop} (hk:∀w',aZ w' w.heap.size cells.toList->aN w w' bJ->w'.heap.size=w.heap.size+1->K (.slice (some ⟨w.heap.size,0,none⟩) n n) w'):
 aA P (bT t n ps) w K:=by
 have hz':(zeroValue e).run P w= .ok z w:=by simp[zeroValue,typeInfo,hi,hz]
 have:(bT t n ps).run P w= .ok (.value (.slice (some ⟨w.heap.size,0,none⟩) n n)) (w.alloc (.cells cells.toList.toArray e)):=by
  unfold bT;rw[mE]
  simp only[Instr.buildSlice,underlying,pure_bind,Sem.run_bind,run_program,Result.andThen_ok,hu,Sem.run_pure,cG hi,h1,h0,if_false,hz',hf,newRow,run_newObj]
  rfl
 unfold aA
 rw[this]
 exact hk _ (aZ.alloc _ _ _) (aN.alloc _ _ _) (by simp)
theorem aZ.mark {b:Nat}{cs:List aOn}(h:aZ w b cs):aZ (w.freeze ⟨b,cs.length,none⟩ 1) b cs:=by
 have hb:=h.lt
 obtain⟨T,lo,hi,h,k⟩:=h
 by_cases hlh:(lo==hi)=true
 .refine ⟨T,cs.length,cs.length+1, ?_,.inl (aLA _)⟩
  show(w.heap.modify b _)[b]?=_
  rw[aNp,if_pos rfl,h]
  have hlh:lo=hi:=by simpa using hlh
  simp[hlh]
 .refine ⟨T,min lo cs.length,max hi (cs.length+1), ?_,.inl ?_⟩
  .show (w.heap.modify b _)[b]?=_
   rw[aNp,if_pos rfl,h]
   have hlh:¬lo=hi:=by simpa using hlh
   simp[hlh]
  .rcases k with k|k
   .omega
   .exfalso;apply hlh;rw[k];simp
theorem aN.mark (w:aOm)(a:Addr):aN w (w.freeze a 1) (λy=>y=a.block):=
 ⟨rfl,rfl,rfl,by show _<=(w.heap.modify _ _).size;simp,λb hb hn=>by
  show(w.heap.modify a.block _)[b]?=_
  rw[aNp]
  rw[if_neg (λh=>hn h.symm)]⟩
end
section
variable{P:Program}{w:aOm}{t e:TypeId}
theorem ajF{d:TypeDesc}(he:P.underlying e=some d)(hd:akU d=false){cs:Array aOn}{k:Nat}{v:aOn}(h:cs[k]?=some v):(part e cs k).run P w= .ok v w:=by
 unfold part
 simp only[Sem.run_bind,EV he,hd,Result.andThen_ok,aLF,if_false,h,Sem.run_pure]
theorem aAs{a b:UInt8}:(((a.toNat:Int))==(b.toNat:Int))=decide (a=b):=by
 rw[Bool.eq_iff_iff]
 simp only[<-UInt8.toNat_inj,beq_iff_eq,decide_eq_true_eq]
 omega
theorem axQ{i:TypeInfo}(m n:Nat)(hu:P.underlying t=some (.array n e))(he:P.underlying e=some (.int .u8))(hi:P.info? e=some i)(h1:i.size=1)(l l':List UInt8)(hl:l.length=n)(hl':l'.length=n):
 (Op.equalIn (m+2) t (.agg (l.map dR).toArray) (.agg (l'.map dR).toArray)).run P w= .ok (decide (l=l')) w:=by
 unfold Op.equalIn
 simp only[underlying,Sem.run_bind,run_program,Result.andThen_ok,hu,Sem.run_pure,cG hi,Std.Legacy.Range.forIn_eq_forIn_range',Std.Legacy.Range.size,aM0,Nat.add_one_sub_one,Nat.div_one,h1,aM6]
 have key:∀(c k:Nat),k+c=n->l.take k=l'.take k→
     ∃r,(forIn (List.range' k c) (none,()) λ(i:Nat) (_:Option Bool×Unit)=>(do
         let a<-part e (List.map dR l).toArray i
         let b<-part e (List.map dR l').toArray i
         let c<-Op.equalIn (m+1) e a b
         if(!c)=true then pure (ForInStep.done (some false,()))else pure (ForInStep.yield (none,())):Sem (ForInStep (Option Bool×Unit)))).run P w= .ok (r,()) w/\r.getD true=decide (l=l'):=by
  intro c
  induction c with
  |zero=>
   intro k hk ht
   refine⟨none,by simp, ?_⟩
   have:l=l':=by
    rw[aLO (by omega),aLO (by omega)]at ht;exact ht
   simp[this]
  |succ c ih=>
   intro k hk ht
   have g:∀(q:List UInt8) (h:k<q.length),(q.map dR).toArray[k]?=some (dR q[k]):=λq h=>by simp[h]
   have hv:(Op.equalIn (m+1) e (dR (l[k]'(by omega))) (dR (l'[k]'(by omega)))).run P w= .ok (decide (l[k]'(by omega)=l'[k]'(by omega))) w:=by
    unfold Op.equalIn dR
    simp only[underlying,Sem.run_bind,run_program,Result.andThen_ok,he,Sem.run_pure,if_true,aAs]
   rw[aOd]
   simp only[List.forIn_cons,Sem.run_bind,ajF he rfl (g l (by omega)),ajF he rfl (g l' (by omega)),Result.andThen_ok,hv]
   by_cases hx:l[k]'(by omega)=l'[k]'(by omega)
   .simp only[hx,decide_true,aMy,aLF,if_false,Sem.run_pure,Result.andThen_ok]
    refine ih (k+1) (by omega) ?_
    rw[aMG,aMG,ht,aLt (by omega),aLt (by omega),hx]
   .simp only[hx,decide_false,aMD,if_true,Sem.run_pure,Result.andThen_ok]
    refine⟨some false,rfl, ?_⟩
    have:l≠l':=λh=>hx (by subst h;rfl)
    simp[this]
 obtain⟨r,h1,h2⟩:=key n 0 (by omega) (by simp)
 rw[h1,<-h2]
 cases r<;>simp
structure amB{κ:Type}[DecidableEq κ](P:Program)(t:TypeId)(enc:κ->aOn):Prop where
 eq:∀a b (w:aOm),(Op.equal t (enc a) (enc b)).run P w= .ok (decide (a=b)) w
 now:∃d,P.underlying t=some d/\∀a b,Instr.sameNow d (enc a) (enc b)=none∨Instr.sameNow d (enc a) (enc b)=some (decide (a=b))
 chk:∀(e:Bool) a (w:aOm),(Instr.checkKey e 10000 t (enc a)).run P w= .ok () w
 stay:∀a,Instr.sameBits 10000 (enc a) (enc a)=true
def assoc{κ:Type}[DecidableEq κ](k:κ):List (κ×aOn)->Option aOn
 |[]=>none
 |p::r=>if k=p.1 then some p.2 else assoc k r
def upd{κ:Type}[DecidableEq κ](k:κ)(v:aOn):List (κ×aOn)->List (κ×aOn)
 |[]=>[(k,v)]
 |p::r=>if k=p.1 then(k,v)::r else p::upd k v r
theorem aBp{κ:Type}[DecidableEq κ](k j:κ)(v:aOn):∀(l:List (κ×aOn)),assoc j (upd k v l)=if j=k then some v else assoc j l:=by
 intro l
 induction l with
 |nil=>simp only[upd,assoc]
 |cons p r ih=>
  simp only[upd]
  by_cases h:k=p.1
  .rw [if_pos h]
   simp only[assoc]
   by_cases hj:j=k
   .rw [if_pos hj,if_pos hj]
   .rw [if_neg hj,if_neg hj,if_neg (λe=>hj (e.trans h.symm))]
  .rw [if_neg h]
   simp only[assoc,ih]
   by_cases hj:j=p.1
   .rw [if_pos hj,if_pos hj,if_neg (λe=>h (e.symm.trans hj))]
   .rw [if_neg hj,if_neg hj]
theorem aA9 {κ:Type}[DecidableEq κ]{k:κ}{v:aOn}{l:List (κ×aOn)}{p:κ×aOn}(h:p∈upd k v l):p=(k,v)∨p∈l:=by
 induction l with
 |nil=>simp[upd]at h;exact .inl h
 |cons q r ih=>
  simp only[upd]at h
  split at h
  .rcases aMd.1 h with h|h
   .exact .inl h
   .exact .inr (aLN _ h)
  .rcases aMd.1 h with h|h
   .exact .inr (h▸aMa)
   .rcases ih h with h|h
    .exact .inl h
    .exact .inr (aLN _ h)
theorem aBo{κ:Type}[DecidableEq κ]{k:κ}{v:aOn}{l:List (κ×aOn)}(h:assoc k l=some v):(k,v)∈l:=by
 induction l with
 |nil=>simp[assoc]at h
 |cons q r ih=>
  simp only[assoc]at h
  split at h
  .rename_i e;cases h;rw[e];exact aMa
  .exact aLN _ (ih h)
def Grown(es:Array MapEntry)(clock:Nat):Prop:=(es.toList.map (·.born)).Pairwise (·<·)/\∀e∈es.toList,e.born<clock
def Mp{κ:Type}(w:aOm)(m:Nat)(enc:κ->aOn)(l:List (κ×aOn)):Prop:=
 ∃es clock,w.heap[m]?=some (.map es clock)/\es.toList.map (λe=>(e.key,e.val))=l.map (λp=>(enc p.1,p.2))/\Grown es clock/\(l.map (·.1)).Nodup
theorem axS{es:Array MapEntry}{c:Nat}(h:Grown es c)(k v:aOn):Grown (es.push ⟨k,v,c⟩) (c+1):=by
 obtain⟨h1,h2⟩:=h
 refine⟨?_, ?_⟩
 .rw [Array.toList_push,aL2,List.pairwise_append]
  refine⟨h1,by simp,λa ha b hb=> ?_⟩
  simp at hb
  subst hb
  obtain⟨e,he,rfl⟩:=aL5.1 ha
  exact h2 e he
 .intro e he
  rw[Array.toList_push]at he
  rcases aMq.1 he with he|he
  .have:=h2 e he;omega
  .simp at he;subst he;exact Nat.lt_succ_self c
theorem axT{es es':Array MapEntry}{c:Nat}(h:Grown es c)(he:es'.toList.map (·.born)=es.toList.map (·.born)):Grown es' c:=by
 refine⟨by rw[he];exact h.1,λe h'=> ?_⟩
 have:e.born∈es'.toList.map (·.born):=aL5.2 ⟨e,h',rfl⟩
 rw[he]at this
 obtain⟨x,hx,hxe⟩:=aL5.1 this
 rw[<-hxe];exact h.2 x hx
theorem awC{κ:Type}[DecidableEq κ]{k:κ}{v:aOn}:∀{l:List (κ×aOn)},(l.map (·.1)).Nodup->((upd k v l).map (·.1)).Nodup
 |[],_=>by simp[upd]
 |p::r,h=>by
  simp only[upd]
  have h':=h
  rw[aL7,aN1]at h
  split
  .rename_i e
   rw[aL7,aN1]
   exact⟨λhm=>h.1 (e▸hm),h.2⟩
  .rename_i e
   rw[aL7,aN1]
   refine⟨λhm=> ?_,awC h.2⟩
   obtain⟨q,hq,hqe⟩:=aL5.1 hm
   rcases aA9 hq with h1|h1
   .rw [h1]at hqe;exact e hqe
   .exact h.1 (aL5.2 ⟨q,h1,hqe⟩)
theorem Mp.lt {κ:Type}{m:Nat}{enc:κ->aOn}{l:List (κ×aOn)}(h:Mp w m enc l):m<w.heap.size:=by
 obtain⟨es,c,h,_⟩:=h
 rcases aLL m w.heap.size with h'|h'
 .exact h'
 .rw [aMH h']at h;cases h
theorem Mp.ext {κ:Type}{w w':aOm}{m:Nat}{enc:κ->aOn}{l:List (κ×aOn)}{M:Nat->Prop}(h:Mp w m enc l)(hx:aN w w' M)(hM:¬M m):Mp w' m enc l:=by
 have:=h.lt
 obtain⟨es,c,h,k⟩:=h
 exact⟨es,c,by rw[hx.keep m this hM];exact h,k⟩
theorem Mp.dr {κ:Type}{w:aOm}{m:Nat}{enc:κ->aOn}{l:List (κ×aOn)}(h:Mp w m enc l):Mp (dr w) m enc l:=h
def YS{κ:Type}[DecidableEq κ](k:κ):List (κ×aOn)->Nat->Option (Nat×aOn)
 |[],_=>none
 |p::r,i=>if k=p.1 then some (i,p.2)else YS k r (i+1)
theorem axW{κ:Type}[DecidableEq κ](k:κ):∀(l:List (κ×aOn)) (i:Nat),(YS k l i).map (·.2)=assoc k l:=by
 intro l
 induction l with
 |nil=>intro i;rfl
 |cons p r ih=>intro i;simp only[YS,assoc];split<;>simp[ih]
variable{κ:Type}[DecidableEq κ]{enc:κ->aOn}
theorem aiB{r:Nat}{es:Array MapEntry}{c:Nat}(hb:w.heap[r]?=some (.map es c)):(getObj r).run P w= .ok (.map es c) w:=by simp[getObj,Sem.run,hb]
theorem ajV{r:Nat}{es:Array MapEntry}{c:Nat}(o:Obj)(hb:w.heap[r]?=some (.map es c)):(setObj r o).run P w= .ok () {w with heap:=w.heap.setIfInBounds r o}:=by simp[setObj,Sem.run,hb]
theorem ahU(K:amB P t enc)(k:κ):∀(es:List MapEntry) (l:List (κ×aOn)) (i:Nat),es.map (λe=>(e.key,e.val))=l.map (λp=>(enc p.1,p.2))→
 (Instr.findAsking t (enc k) es i).run P w= .ok (YS k l i) w:=by
 intro es
 induction es with
 |nil=>intro l i h;cases l with
  |nil=>rfl
  |cons p r=>simp at h
 |cons x es ih=>
  intro l i h
  cases l with
  |nil=>simp at h
  |cons p r=>
   simp only[aL7,List.cons.injEq,aOc]at h
   obtain⟨⟨h1,h2⟩,h3⟩:=h
   simp only[Instr.findAsking,Sem.run_bind,h1,K.eq,Result.andThen_ok,YS]
   by_cases hx:k=p.1
   .simp [hx,h2]
   .simp only[hx,decide_false,aLF,if_false]
    exact ih r (i+1) h3
theorem apA{d:TypeDesc}(hn:∀a b,Instr.sameNow d (enc a) (enc b)=none∨Instr.sameNow d (enc a) (enc b)=some (decide (a=b)))(k:κ):∀(es:List MapEntry) (l:List (κ×aOn)) (i:Nat) (r:Option (Nat×aOn)),es.map (λe=>(e.key,e.val))=l.map (λp=>(enc p.1,p.2))→
 Instr.findNow d (enc k) es i=some r->r=YS k l i:=by
 intro es
 induction es with
 |nil=>intro l i r h hr;cases l with
  |nil=>simp[Instr.findNow]at hr;exact hr.symm
  |cons p r=>simp at h
 |cons x es ih=>
  intro l i r h hr
  cases l with
  |nil=>simp at h
  |cons p q=>
   simp only[aL7,List.cons.injEq,aOc]at h
   obtain⟨⟨h1,h2⟩,h3⟩:=h
   simp only[Instr.findNow,h1]at hr
   rcases hn k p.1 with hh|hh
   .rw [hh]at hr;cases hr
   .rw [hh]at hr
    simp only[YS]
    by_cases hx:k=p.1
    .simp only[hx,decide_true,aNR]at hr
     rw[if_pos hx,<-hr,h2]
    .simp only[hx,decide_false]at hr
     rw[if_neg hx]
     exact ih q (i+1) r h3 hr
theorem adO(K:amB P t enc)(k:κ)(es:List MapEntry)(l:List (κ×aOn))(h:es.map (λe=>(e.key,e.val))=l.map (λp=>(enc p.1,p.2))):
 (Instr.findKey t (enc k) es).run P w= .ok (YS k l 0) w:=by
 obtain⟨d,hd,hn⟩:=K.now
 unfold Instr.findKey
 simp only[underlying,Sem.run_bind,run_program,Result.andThen_ok,hd,Sem.run_pure]
 cases hr:Instr.findNow d (enc k) es 0 with
 |none=>exact ahU K k es l 0 h
 |some r=>rw[apA hn k es l 0 r h hr]<;>rfl
theorem aIA{kt et:TypeId}{i:TypeInfo}{z:aOn}(hu:P.underlying t=some (.map kt et))(hi:P.info? et=some i)(hz:i.zero=some z)(K:amB P kt enc){m:Nat}{l:List (κ×aOn)}(hm:Mp w m enc l)(k:κ):
 (avL t (.map (some m)) (enc k) true).run P w= .ok (.value (.tuple #[(assoc k l).getD z,.bool (assoc k l).isSome])) w:=by
 obtain⟨es,c,hb,he,_⟩:=hm
 unfold avL;rw[mE]
 unfold Instr.lookup
 simp only[underlying,Sem.run_bind,run_program,Result.andThen_ok,hu,Sem.run_pure,aiB hb,K.chk,adO K k es.toList l he,<-axW k l 0]
 cases YS k l 0 with
 |none=>simp[zeroValue,typeInfo,hi,hz]
 |some p=>simp
omit [DecidableEq κ]in
theorem aCJ{K:aOn->aOm->Prop}(enc:κ->aOn)(hk:∀w',Mp w' w.heap.size enc ([]:List (κ×aOn))->aN w w' bJ->w'.heap.size=w.heap.size+1->K (.map (some w.heap.size)) w'):aA P (acQ t none) w K:=by
 have:(acQ t none).run P w= .ok (.value (.map (some w.heap.size))) (w.alloc (.map #[] 0)):=by
  unfold acQ;rw[mE]
  simp[Instr.makeMap]
 unfold aA
 rw[this]
 exact hk _ ⟨#[],0,by show(w.heap.push _)[w.heap.size]?=_;simp,rfl,⟨by simp,by simp⟩,by simp⟩ (aN.alloc _ _ _) (by simp)
theorem aCI{kt et:TypeId}(hu:P.underlying t=some (.map kt et))(Ke:amB P kt enc){m:Nat}{l:List (κ×aOn)}(hm:Mp w m enc l)(k:κ)(v:aOn){K:aOn->aOm->Prop}
 (hk:∀w',Mp w' m enc (upd k v l)->aN w w' (λy=>y=m)->w'.heap.size=w.heap.size->K undef w'):aA P (ajS t (.map (some m)) (enc k) v) w K:=by
 have hlt:=hm.lt
 obtain⟨es,c,hb,he,hgr,hnd⟩:=hm
 have hext:∀o,aN w {w with heap:=w.heap.setIfInBounds m o} (λy=>y=m):=λo=>
  ⟨rfl,rfl,rfl,by simp,λb hb hn=>by
   show(w.heap.setIfInBounds m o)[b]?=_
   rw[aMv (λe=>hn e.symm)]⟩
 have key:∃es' c',(ajS t (.map (some m)) (enc k) v).run P w= .ok .skip {w with heap:=w.heap.setIfInBounds m (.map es' c')}/\es'.toList.map (λe=>(e.key,e.val))=((upd k v l).map λp=>(enc p.1,p.2))/\Grown es' c':=by
  have gen:∀(es:List MapEntry) (l:List (κ×aOn)) (i:Nat),es.map (λe=>(e.key,e.val))=l.map (λp=>(enc p.1,p.2))→
      (YS k l i=none->∀b,(es++[(⟨enc k,v,b⟩:MapEntry)]).map (λe=>(e.key,e.val))=(upd k v l).map λp=>(enc p.1,p.2))/\
      (∀j x,YS k l i=some (j,x)->i<=j/\∃old,es[j-i]?=some old/\old.key=enc k/\(es.set (j-i) ({old with key:=enc k,val:=v}:MapEntry)).map (λe=>(e.key,e.val))=(upd k v l).map λp=>(enc p.1,p.2)):=by
   intro es
   induction es with
   |nil=>
    intro l i h
    cases l with
    |nil=>exact⟨λ_ b=>rfl,λj x h=>by simp[YS]at h⟩
    |cons p r=>simp at h
   |cons x es ih=>
    intro l i h
    cases l with
    |nil=>simp at h
    |cons p r=>
     simp only[aL7,List.cons.injEq,aOc]at h
     obtain⟨⟨h1,h2⟩,h3⟩:=h
     simp only[YS,upd]
     by_cases hx:k=p.1
     .rw [if_pos hx,if_pos hx]
      refine⟨λh=>by(cases h),λj y h=> ?_⟩
      cases h
      refine⟨aLA _,x,by simp,by rw[h1,hx], ?_⟩
      simp[h3]
     .rw [if_neg hx,if_neg hx]
      obtain⟨a,b⟩:=ih r (i+1) h3
      refine⟨λh q=> ?_,λj y h=> ?_⟩
      .simp only[aMo,aL7,a h q,h1,h2]
      .obtain ⟨hj,old,o1,o2,o3⟩:=b j y h
       refine⟨by omega,old, ?_,o2, ?_⟩
       .rw [show j-i=(j-(i+1))+1 from by omega,aLw];exact o1
       .rw [show j-i=(j-(i+1))+1 from by omega,aLB]
        simp only[aL7,o3,h1,h2]
  obtain⟨g1,g2⟩:=gen es.toList l 0 he
  unfold ajS
  rw[aJX]
  unfold Instr.mapUpdate
  simp only[underlying,Sem.run_bind,run_program,Result.andThen_ok,hu,Sem.run_pure,aiB hb,Ke.chk,adO Ke k es.toList l he]
  cases hi:YS k l 0 with
  |none=>
   refine⟨es.push ⟨enc k,v,c⟩,c+1, ?_,by simpa using g1 hi c,axS hgr _ _⟩
   simp only[ajV _ hb,Result.andThen_ok]
  |some q=>
   obtain⟨j,x⟩:=q
   obtain⟨_,old,o1,o2,o3⟩:=g2 j x hi
   rw[aM0]at o1 o3
   have o1':es[j]?=some old:=by simpa using o1
   refine⟨es.modify j λe=>{e with key:=enc k,val:=v},c, ?_, ?_,axT hgr ?_⟩
   .simp only[o1',aL6,aNw,o2,Instr.keyThatStays,Ke.stay,if_true,Sem.run_pure,Result.andThen_ok,ajV _ hb,Sem.run_bind]
   .have hj:j<es.toList.length:=by
     rcases aLL j es.toList.length with h|h
     .exact h
     .rw [aLH h]at o1;cases o1
    rw[<-o3]
    congr 1
    apply aMP
    intro y
    rw[aNS,aNp,aN8]
    by_cases hy:j=y
    .subst hy
     have hj':j<es.size:=by simpa using hj
     have e1:es[j]=old:=by rw[aL4 hj']at o1';exact aLW o1'
     simp[hj',e1]
    .simp [hy]
   .apply aMP
    intro y
    rw[aLR,aLR,aNS,aNS,aNp]
    split
    .rename_i h;subst h
     cases es[j]?<;>rfl
    .rfl
 obtain⟨es',c',h1,h2,h3⟩:=key
 unfold aA
 rw[h1]
 refine hk _ ⟨es',c',by show(w.heap.setIfInBounds m _)[m]?=_;rw[aMi hlt],h2,h3,awC hnd⟩ (hext _) (by simp)
theorem atQ{κ:Type}[DecidableEq κ]{i:TypeInfo}{n:Nat}(hu:P.underlying t=some (.array n e))(he:P.underlying e=some (.int .u8))(hi:P.info? e=some i)(h1:i.size=1)
 (bs:κ->List UInt8) (hb:∀k,(bs k).length=n) (hinj:∀a b,bs a=bs b->a=b):amB P t (λk=> .agg ((bs k).map dR).toArray):=by
 refine⟨λa b w=> ?_,⟨_,hu,λa b=> .inl rfl⟩,λc a w=> ?_,λa=> ?_⟩
 .unfold Op.equal Op.maxDepth
  rw[axQ 9998 n hu he hi h1 _ _ (hb a) (hb b)]
  congr 1
  rw[decide_eq_decide]
  exact⟨hinj a b,λh=>h▸rfl⟩
 .unfold Instr.checkKey
  simp only[underlying,Sem.run_bind,run_program,Result.andThen_ok,hu,Sem.run_pure,Std.Legacy.Range.forIn_eq_forIn_range',Std.Legacy.Range.size,aM0,Nat.add_one_sub_one,Nat.div_one]
  have key:∀(q k:Nat),k+q=n->(forIn (List.range' k q) () λ(i:Nat) (_:Unit)=>(do
      let z<-sizeOf e
      let x<-part e (List.map dR (bs a)).toArray (i*z)
      Instr.checkKey c 9999 e x
      pure (ForInStep.yield ()):Sem (ForInStep Unit))).run P w= .ok () w:=by
   intro q
   induction q with
   |zero=>intro k _;simp
   |succ q ih=>
    intro k hk
    have g:((bs a).map dR).toArray[k]?=some (dR ((bs a)[k]'(by rw[hb];omega))):=by
     have:k<(bs a).length:=by rw[hb];omega
     simp[this]
    have hc:∀x:UInt8,(Instr.checkKey c 9999 e (dR x)).run P w= .ok () w:=λx=>by
     unfold Instr.checkKey dR
     simp only[underlying,Sem.run_bind,run_program,Result.andThen_ok,he,Sem.run_pure]
    rw[aOd]
    simp only[List.forIn_cons,Sem.run_bind,cG hi,h1,aM6,ajF he rfl g,Result.andThen_ok,hc,Sem.run_pure]
    exact ih (k+1) (by omega)
  have:=key n 0 (by omega)
  rw[this]<;>rfl
 .unfold Instr.sameBits
  simp only[beq_self_eq_true,Bool.true_and,aMn]
  intro x hx
  have:∀l:List aOn,∀x∈l.zip l,x.1=x.2:=by
   intro l
   induction l with
   |nil=>simp
   |cons a r ih=>intro x hx;simp at hx;rcases hx with rfl|hx;·rfl
                 .exact ih x hx
  have e1:=this _ x hx
  have hm:=(List.of_mem_zip hx).1
  obtain⟨x1,x2⟩:=x
  simp only at e1 hm⊢
  subst e1
  simp at hm
  obtain⟨u,_,rfl⟩:=hm
  simp[dR,Instr.sameBits]
abbrev Rk(n:Nat):={l:List UInt8//l.length=n}
def Yp{n:Nat}(k:Rk n):aOn:= .agg (k.1.map dR).toArray
theorem amW{i:TypeInfo}{n:Nat}(hu:P.underlying t=some (.array n e))(he:P.underlying e=some (.int .u8))(hi:P.info? e=some i)(h1:i.size=1):amB P t (Yp (n:=n)):=
 atQ (κ:=Rk n) hu he hi h1 (λk=>k.1) (λk=>k.2) (λ_ _ h=>Subtype.ext h)
theorem aJU{n:Nat}(hu:P.underlying t=some (.array n e))(x:Option Addr)(m c:Nat)(h:n<=m):(aGN t (.slice x m c)).run P w= .ok (.value (.pointer x)) w:=by
 unfold aGN;rw[mE]
 simp only[Instr.arrayAt,underlying,Sem.run_bind,run_program,Result.andThen_ok,hu,Sem.run_pure,if_neg (Nat.not_lt.2 h)]
theorem P1 {d:TypeDesc}{i:TypeInfo}(hu:P.underlying t=some d)(hd:akU d=true)(hi:P.info? t=some i){b off:Nat}{l:List aOn}(hl:i.size=l.length)(h:∀j,j<l.length->w.cell? ⟨b,off+j,none⟩=l[j]?):
 (aH t (.pointer (some ⟨b,off,none⟩))).run P w= .ok (.value (.agg l.toArray)) w:=by
 unfold aH
 rw[mE]
 simp only[Instr.loadAt,Instr.sureAddr,loadVar,pure_bind,Sem.run_bind,EV hu,hd,Result.andThen_ok,if_true,cG hi,hl,Y1 h,Sem.run_pure]
end
theorem bV{w:aOm}{b:Nat}{cs:List aOn}(h:aZ w b cs):aZ (dr w) b cs:=h.ext (aN.dr w bJ) (λh=>h)
theorem Sl.dr {w:aOm}{v:aOn}{l:List aOn}(h:Sl w v l):Sl (dr w) v l:=h
theorem Sl.open {w:aOm}{v:aOn}{l:List UInt8}(h:Bs w v l)(h0:0<l.length):∃b off c,v= .slice (some ⟨b,off,none⟩) l.length c/\l.length<=c/\∀i,(h:i<l.length)->w.cell? ⟨b,off+i,none⟩=some (dR l[i]):=by
 obtain⟨a,n,c,rfl,hn,hc,h⟩:=h
 simp only[aLv]at hn
 subst hn
 obtain⟨b,off,rfl,hh⟩:=h h0
 exact⟨b,off,c,rfl,hc,λi hi=>by rw[hh i hi];simp[hi]⟩
theorem Sl.len {w:aOm}{v:aOn}{l:List aOn}(h:Sl w v l):∃a c,v= .slice a l.length c/\l.length<=c:=by
 obtain⟨a,n,c,rfl,rfl,hc,_⟩:=h
 exact⟨a,c,rfl,hc⟩
theorem aU(v:aOn):¬JN v bJ:=by unfold JN bJ;split<;>simp
theorem Kn{b o m l:Nat}(h:l≠m):cW (some ⟨b,o,none⟩) m l 1=some ⟨b,o+l,none⟩:=by
 unfold cW;rw[if_neg (λe=>h e.symm)];simp[CG]
theorem vE{v:aOn}{M N:Nat->Prop}(h:JN v M)(hm:∀b,M b->N b):JN v N:=by
 unfold JN at*
 split at h
 .exact hm _ h
 .exact h
theorem pC.len {w:aOm}{b sz n:Nat}{v:aOn}{l:List aOn}(h:pC w b sz v n l):∃a c,v= .slice a n c:=by
 rcases h.2 with⟨rfl,rfl⟩|⟨x,c,r,rfl,_⟩
 .exact ⟨_,_,rfl⟩
 .exact ⟨_,_,rfl⟩
theorem pC.lower {w:aOm}{a b sz n:Nat}{v:aOn}{l:List aOn}(h:pC w b sz v n l)(hab:a<=b):pC w a sz v n l:=by
 refine⟨h.1, ?_⟩
 rcases h.2 with h|⟨x,c,r,h1,h2,h3⟩
 .exact .inl h
 .exact .inr ⟨x,c,r,h1,by omega,h3⟩
theorem Sl.nil (w:aOm):Sl w (.slice none 0 0) []:=⟨none,0,0,rfl,rfl,aLA _,λh=>absurd h (by simp)⟩
theorem Sl.take' {w:aOm}{a:Option Addr}{n c:Nat}{l:List aOn}(h:Sl w (.slice a n c) l){k:Nat}(hk:k<=n):Sl w (.slice (cW a c 0 1) (k-0) (c-0)) (l.take k):=by
 have h':=h
 obtain⟨a',n',c',e,hn,hc,hh⟩:=h'
 cases e
 by_cases h0:k=0
 .subst h0
  exact⟨_,_,_,rfl,by simp,by omega,λh=>by simp at h⟩
 .obtain ⟨b,off,rfl,_⟩:=hh (by omega)
  exact h.take hk
theorem Sl.drop' {w:aOm}{a:Option Addr}{n c:Nat}{l:List aOn}(h:Sl w (.slice a n c) l){k:Nat}(hk:k<=n):Sl w (.slice (cW a c k 1) (n-k) (c-k)) (l.drop k):=by
 have h':=h
 obtain⟨a',n',c',e,hn,hc,hh⟩:=h'
 cases e
 by_cases h0:n=0
 .exact ⟨_,_,_,rfl,by rw[aLP];omega,by omega,λh=>by omega⟩
 .obtain ⟨b,off,rfl,_⟩:=hh (by omega)
  exact h.drop hk
theorem Sl.mid {w:aOm}{a:Option Addr}{n c:Nat}{l:List aOn}(h:Sl w (.slice a n c) l){i j:Nat}(hij:i<=j)(hj:j<=n):Sl w (.slice (cW a c i 1) (j-i) (c-i)) ((l.drop i).take (j-i)):=by
 have h':=h
 obtain⟨a',n',c',e,hn,hc,hh⟩:=h'
 cases e
 by_cases h0:j-i=0
 .rw [h0]
  exact⟨_,_,_,rfl,by simp,by omega,λh=>by omega⟩
 .obtain ⟨b,off,rfl,_⟩:=hh (by omega)
  have hd:=h.drop (k:=i) (by omega)
  obtain⟨a',n',c',e,hn',hc',hh'⟩:=hd
  obtain⟨b',off',e',h2⟩:=hh' (by have:=(Value.slice.inj e).2.1;omega)
  injection e with e1 e2 e3
  subst e3
  refine⟨_,_,_,rfl,by rw[aLD,aLP];omega,by omega,λ_=>⟨b',off',by rw[e1];exact e',λx hx=> ?_⟩⟩
  rw[h2 x (by omega),aLX hx]
theorem Sl.openV {w:aOm}{v:aOn}{l:List aOn}(h:Sl w v l)(h0:0<l.length):∃b off c,v= .slice (some ⟨b,off,none⟩) l.length c/\l.length<=c/\∀i,(h:i<l.length)->w.cell? ⟨b,off+i,none⟩=some l[i]:=by
 obtain⟨a,n,c,rfl,hn,hc,h⟩:=h
 subst hn
 obtain⟨b,off,rfl,hh⟩:=h h0
 exact⟨b,off,c,rfl,hc,λi hi=>by rw[hh i hi];simp[hi]⟩
theorem Sl.openI {w:aOm}{v:aOn}{k:IntKind}{l:List Int}(h:Sl w v (l.map (Value.int k)))(h0:0<l.length):∃b off c,v= .slice (some ⟨b,off,none⟩) l.length c/\l.length<=c/\∀i,(h:i<l.length)->w.cell? ⟨b,off+i,none⟩=some (.int k l[i]):=by
 obtain⟨b,off,c,e,hc,hh⟩:=h.openV (by simpa using h0)
 simp only[aLv]at e hc hh
 exact⟨b,off,c,e,hc,λi hi=>by rw[hh i hi];simp⟩
theorem Sl.lenI {w:aOm}{v:aOn}{k:IntKind}{l:List Int}(h:Sl w v (l.map (Value.int k))):∃a c,v= .slice a l.length c/\l.length<=c:=by
 obtain⟨a,c,e,hc⟩:=h.len
 simp only[aLv]at e hc
 exact⟨a,c,e,hc⟩
def HZ(n:Nat)(l:List aOn):List aOn:=(List.replicate n l).flatten
theorem Zy(n:Nat)(l:List aOn):(HZ n l).length=n*l.length:=by
 unfold HZ;rw[List.length_flatten];simp
theorem aCs:∀(n:Nat) (l:List aOn) (j:Nat) (_:j<n*l.length) (h0:0<l.length),(HZ n l)[j]?=some (l[j%l.length]'(aNM _ h0)):=by
 intro n
 induction n with
 |zero=>intro l j h;simp at h
 |succ n ih=>
  intro l j h h0
  unfold HZ
  rw[aMw,aNP]
  by_cases hj:j<l.length
  .rw [aLU hj,aLt hj]
   simp only[aLV hj]
  .rw [aL0 (by omega)]
   have:=ih l (j-l.length) (by rw[aN5]at h;omega) h0
   unfold HZ at this
   rw[this]
   simp only[<-Nat.mod_eq_sub_mod (show j≥l.length by omega)]
theorem anU{P:Program}{w:aOm}{t e:TypeId}{k:IntKind}{i:TypeInfo}{z:aOn}{sz:Nat}(hu:P.underlying t=some (.slice e))(hi:P.info? e=some i)(h1:i.size=sz)(hsz:0<sz)(hz:i.zero=some z)(hz1:z.cells.size=sz){n:Int}(h0:0<=n)(hn:i.bytes*n<=2^48)(hn2:n<=9223372036854775807)
 {K:aOn->aOm->Prop}
 (hk:∀w',aZ w' w.heap.size (HZ n.toNat z.cells.toList)->aN w w' bJ->w'.heap.size=w.heap.size+1->K (.slice (some ⟨w.heap.size,0,none⟩) n.toNat n.toNat) w'):
 aA P (iX t (.int k n) (.int k n)) w K:=by
 have hw:IntKind.i64.wrap n=n:=cX (by omega) hn2
 have hl:z.cells.toList.length=sz:=by simpa using hz1
 have harr:(Array.range (n.toNat*sz)).map (λj=>z.cells[j%z.cells.size]!)=(HZ n.toNat z.cells.toList).toArray:=by
  apply Array.ext
  .simp [Zy,hz1]
  .intro j h1 h2
   have hj:j<n.toNat*sz:=by simpa using h1
   have:=aCs n.toNat z.cells.toList j (by rw[hl];exact hj) (by rw[hl];exact hsz)
   have hm:j%z.cells.size<z.cells.size:=aNM _ (by omega)
   simp only[Array.getElem_map,Array.getElem_range,List.getElem_toArray]
   rw[getElem!_pos z.cells _ hm]
   rw[aLt (by rw[Zy,hl];exact hj)]at this
   have:=aLW this
   rw[this]
   simp
 have hz':(zeroValue e).run P w= .ok z w:=by simp[zeroValue,typeInfo,hi,hz]
 have:(iX t (.int k n) (.int k n)).run P w= .ok (.value (.slice (some ⟨w.heap.size,0,none⟩) n.toNat n.toNat)) (w.alloc (.cells (HZ n.toNat z.cells.toList).toArray e)):=by
  unfold iX
  rw[mE]
  have t1:(decide (n<0)||decide ((i.bytes:Int)*n>2^48)||decide (n<0)||decide (n>n))=false:=by
   simp only[aNV,decide_eq_false_iff_not];omega
  by_cases hn0:n.toNat*sz=0
  .simp only[Instr.makeSlice,underlying,typeInfo,asInt,asIntOf,pure_bind,Sem.run_bind,run_program,Result.andThen_ok,hu,hi,Sem.run_pure,hw,t1,aLF,if_false,run_askRoom,cG hi,h1,hn0,if_true,newRow,run_newObj]
   have hn:n.toNat=0:=by rcases Nat.mul_eq_zero.1 hn0 with h|h<;>omega
   have:(Array.range 0).map (λx=>(#[]:Array aOn)[x%(#[]:Array aOn).size]!)=(HZ n.toNat z.cells.toList).toArray:=by rw[hn];simp[HZ]
   rw[this]
   rfl
  .simp only[Instr.makeSlice,underlying,typeInfo,asInt,asIntOf,pure_bind,Sem.run_bind,run_program,Result.andThen_ok,hu,hi,Sem.run_pure,hw,t1,aLF,if_false,run_askRoom,cG hi,h1,hn0,hz',newRow,run_newObj,harr]
   rfl
 unfold aA
 rw[this]
 exact hk _ (aZ.alloc _ _ _) (aN.alloc _ _ _) (by simp)
abbrev T3:=Int×Int×Int
def fe(k:IntKind):List T3->List aOn
 |[]=>[]
 |e::r=> .int k e.1:: .int .i64 e.2.1:: .int .i64 e.2.2::fe k r
theorem ES(k:IntKind):∀L:List T3,(fe k L).length=L.length*3
 |[]=>rfl
 |e::r=>by simp[fe,ES k r];omega
theorem ahT(k:IntKind):∀(L:List T3) (i:Nat) (h:i<L.length),(fe k L)[i*3]?=some (.int k L[i].1)/\(fe k L)[i*3+1]?=some (.int .i64 L[i].2.1)/\(fe k L)[i*3+2]?=some (.int .i64 L[i].2.2)
 |[],i,h=>by simp at h
 |e::r,0,_=>⟨rfl,rfl,rfl⟩
 |e::r,i+1,h=>by
  have:=ahT k r i (by simpa using h)
  rw[aMl]
  exact this
theorem aoZ(k:IntKind):∀(L:List T3) (i:Nat) (h:i<L.length) (x:Int),(fe k L).set (i*3) (.int k x)=fe k (L.set i (x,L[i].2))/\(fe k L).set (i*3+1) (.int .i64 x)=fe k (L.set i (L[i].1,x,L[i].2.2))/\(fe k L).set (i*3+2) (.int .i64 x)=fe k (L.set i (L[i].1,L[i].2.1,x))
 |[],i,h,_=>by simp at h
 |e::r,0,_,x=>⟨rfl,rfl,rfl⟩
 |e::r,i+1,h,x=>by
  have:=aoZ k r i (by simpa using h) x
  rw[aMl]
  obtain⟨h1,h2,h3⟩:=this
  refine⟨?_, ?_, ?_⟩
  .show (_::_::_::(fe k r).set (i*3) _)=_;rw[h1]<;>rfl
  .show (_::_::_::(fe k r).set (i*3+1) _)=_;rw[h2]<;>rfl
  .show (_::_::_::(fe k r).set (i*3+2) _)=_;rw[h3]<;>rfl
theorem aAF(k:IntKind)(x:Int):∀n:Nat,HZ n [.int k x,.int .i64 0,.int .i64 0]=fe k (List.replicate n (x,0,0))
 |0=>rfl
 |n+1=>by
  have:=aAF k x n
  unfold HZ at this⊢
  rw[aMw,aNP,this,aMw]<;>rfl
theorem azB{P:Program}{w:aOm}{t e:TypeId}{k k':IntKind}{hi mx:Int}{i:TypeInfo}(hu:P.underlying t=some (.slice e))(hi':P.info? e=some i)(x:Option Addr)(n c:Nat)(h0:0<=hi)(h1:hi<=mx)(h2:mx<=c):
 (bP t (.slice x n c) none (some (.int k hi)) (some (.int k' mx))).run P w= .ok (.value (.slice (cW x mx.toNat 0 i.size) (hi.toNat-0) (mx.toNat-0))) w:=by
 have h3:(0:Int)<=mx:=by omega
 have h4:hi<=(mx.toNat:Int):=by omega
 simp only[bP,mE,Instr.sliceAt,underlying,hu,Sem.run_bind,run_program,Result.andThen_ok,Sem.run_pure,Instr.slice,Instr.sliceBounds,pure_bind,vM h3 h2,vM h0 h4,cG hi',cW]
section
variable{P:Program}{w:aOm}{t e:TypeId}
variable{κ:Type}[DecidableEq κ]{enc:κ->aOn}
def Itr{κ:Type}(w:aOm)(it m:Nat)(enc:κ->aOn)(rest:List (κ×aOn)):Prop:=
 ∃es clock seen,w.heap[m]?=some (.map es clock)/\w.heap[it]?=some (.mapIter (some m) clock seen clock)/\Grown es clock/\
  (es.toList.filter λe=> !seen.contains e.born).map (λe=>(e.key,e.val))=rest.map λp=>(enc p.1,p.2)
theorem Itr.ext {κ:Type}{w w':aOm}{it m:Nat}{enc:κ->aOn}{rest:List (κ×aOn)}{M:Nat->Prop}(h:Itr w it m enc rest)(hx:aN w w' M)(hm:¬M m)(hi:¬M it):Itr w' it m enc rest:=by
 obtain⟨es,c,seen,h1,h2,h3⟩:=h
 have lt:∀{b:Nat} {o:Obj},w.heap[b]?=some o->b<w.heap.size:=λ{b o} h=>by
  rcases aLL b w.heap.size with h'|h'
  .exact h'
  .rw [aMH h']at h;cases h
 exact⟨es,c,seen,by rw[hx.keep m (lt h1) hm];exact h1,by rw[hx.keep it (lt h2) hi];exact h2,h3⟩
def Cur{κ:Type}(w:aOm)(it m:Nat)(enc:κ->aOn)(p:κ×aOn):Prop:=
 ∃es clock c0 seen e,w.heap[m]?=some (.map es clock)/\w.heap[it]?=some (.mapIter (some m) c0 seen clock)/\seen.back?=some e.born/\es.find? (λx=>x.born==e.born)=some e/\e.key=enc p.1/\e.val=p.2
omit [DecidableEq κ]in
theorem Cur.ext {w w':aOm}{it m:Nat}{p:κ×aOn}{M:Nat->Prop}(h:Cur w it m enc p)(hx:aN w w' M)(hm:¬M m)(hi:¬M it):Cur w' it m enc p:=by
 obtain⟨es,c,c0,seen,e,h1,h2,h3⟩:=h
 have lt:∀{b:Nat} {o:Obj},w.heap[b]?=some o->b<w.heap.size:=λ{b o} h=>by
  rcases aLL b w.heap.size with h'|h'
  .exact h'
  .rw [aMH h']at h;cases h
 exact⟨es,c,c0,seen,e,by rw[hx.keep m (lt h1) hm];exact h1,by rw[hx.keep it (lt h2) hi];exact h2,h3⟩
omit [DecidableEq κ]in
end
end Go.En

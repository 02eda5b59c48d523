/- Parts of the proof of DecodeBytes: merged and given short names by a program of ours. -/
import Derived.Laws.IdiomStrings
import Derived.WalkKit
import Derived.ProofKit
import Derived.OpenShut
import Derived.Test.YthohephggmkeeaaGreatDoorZpA
set_option linter.unusedVariables false
set_option linter.unusedSimpArgs false
open Array renaming length_toList → a4B, getElem?_eq_none → a6A, getElem?_modify → a6C, ext' → a6V
open Bool renaming and_eq_true → a1S, false_eq_true → a2A, not_true → a3P, not_false → a4Z, or_eq_false_iff → a5P
open Int renaming toNat_natCast → a1H, fdiv_eq_ediv_of_nonneg → a3A
open List renaming getElem?_cons_zero → a1A, getElem?_cons_succ → a1B, take_succ_cons → a1C, set_cons_zero → a1E, getElem?_eq_getElem → a1I, length_drop → a1L, length_map → a1M, length_take → a1N, length_append → a1O, getD_eq_getElem?_getD → a1P, length_cons → a1U, getElem?_append_left → a1V, getElem?_eq_none → a1X, length_replicate → a2C, mem_cons_of_mem → a2E, getElem?_map → a2F, drop_succ_cons → a2H, drop_eq_getElem_cons → a2J, length_eq_zero_iff → a2K, getElem?_take_of_lt → a2L, getElem_mem → a2P, append_assoc → a2R, replicate_succ → a2S, mem_range → a2U, mem_append → a2X, map_congr_left → a2Y, mem_cons → a3C, getElem?_append_right → a3G, set_append_right → a3H, drop_of_length_le → a3N, getElem_map → a3R, getElem?_toArray → a3T, ext_getElem → a3Y, getElem_cons_zero → a3Z, ext_getElem? → a4C, map_cons → a4D, nil_append → a4F, getElem?_drop → a4I, mem_map → a4J, getElem_of_mem → a4K, append_nil → a4M, cons_append → a4P, take_length → a4Q, count_append → a4U, count_cons → a4V, getElem_range → a5A, mem_append_left → a5B, getLast?_eq_getElem? → a5Q, filter_cons → a5S, range_succ → a5Y, getElem_cons_succ → a6B, getElem_set_self → a6D, mem_append_right → a6F, mem_of_mem_take → a6I, mem_filter → a6K, length_erase_of_mem → a6L, flatten_cons → a6N, length_range → a6O, take_append_drop → a6U
open Nat renaming le_refl → a1J, pow_le_pow_right → a1K, zero_add → a1Q, lt_or_ge → a1Y, two_pow_pos → a2G, mul_comm → a2N, pow_succ → a2O, mul_le_mul_right → a2V, mul_one → a2Z, mod_eq_of_lt → a3B, add_mul → a3D, add_zero → a3I, eq_zero_or_pos → a3J, le_trans → a3K, add_sub_cancel → a3X, pow_add → a4A, add_assoc → a4E, mod_lt → a4X, one_mul → a5J, lt_of_lt_of_le → a5M, sub_self → a5N, div_lt_iff_lt_mul → a5O, sub_zero → a6M, mul_add → a6Q, succ_mul → a7A
open Option renaming map_some → a2Q
open Option.some renaming inj → a1Z
namespace Go.Proofs.YthohephggmkeeaaGreatDoor
open Go Go.En
set_option maxRecDepth 20000
attribute [local irreducible] Go.En.bQ
variable (Q : Exit -> Env -> a7B -> Prop) (g : Env) (w : a7B)
def dR:FA:=⟨U7,λi=>match Nat.beq i 30 with|true=>lf (fz 2 (ft [1] (ft [] (fz 2 []))))|false=> .leaf ([],[]) []⟩
def gG:List ResultVar:=[.cell 6 166,.tmp 7,.tmp 8]
noncomputable def kL:Code:=aO Tryz.f71
def D71:DT:=bP pg dR kL Tryz.f71 (gP gG)
def Sx(R:K1) b6 Dy iZ w:=
 (?X:PT (type_of%(tt (D71 (λc=>(aA 1 (aA 7 c))) no [] R (El [6,9,12] [b6,Dy,iZ]) w= ?X) (by unfold D71 Tryz.f71 gG dR;exact ev))))
def Sy(kn:K5)(R:K1) aU b6 Dy iZ aW w:=
 (?X:PT (type_of%(tt (D71 (λc=>(aA 1 (aA 1 (aA 5 (bI (aA 1 (bI (bI (aD 1 (aA 7 c)))))))))) (nY kn 2 6 9 12 13) [] R (El [2,6,9,12,13] [aU,b6,Dy,iZ,aW]) w= ?X) (by unfold D71 Tryz.f71 gG dR;exact ev))))
def Sz(kn:K6) aU b6 Dy aAx iZ aW w:=
 bF pg (bZ .eql 36 (.tmp 99) (.const (.int .u64 3)) aAx (.int .u64 3)) w λo0 w=>
 kn aU b6 Dy iZ aW o0 w
def ajY(kn:K7)(k4:K6) aU b6 Dy aAx iZ aW BC w:=
 (?X:PT (type_of%(tt (D71 (λc=>(bI (bI (aA 1 (aD 1 (aA 2 (bI (aA 1 (bI (bI (aD 1 (aA 1 (aA 5 (bI (aA 1 (bI (bI (aD 1 (aA 7 c))))))))))))))))))) (DZ kn 2 6 9 10 12 13 16) [(4,(Aj k4 2 6 9 10 12 13))] nG (El [2,6,9,10,12,13,16] [aU,b6,Dy,aAx,iZ,aW,BC]) w= ?X) (by unfold D71 Tryz.f71 gG dR;exact ev))))
def IJ(k4:K6) aU b6 Dy aAx iZ aW BC w:=
 aN (λ(X:a7C->K0) (t:a7C) (w:a7B)=>ajY (λ_ _ _ _ _ _ BC w=>X BC w) k4 aU b6 Dy aAx iZ aW t w) BC w
theorem azM(k4:K6)(h4:E6 Q k4 4 2 6 9 10 12 13)(h:IJ k4 (g 2) (g 6) (g 9) (g 10) (g 12) (g 13) (g 16) w):bQ pg dR (bI (aA 1 (aD 1 (aA 2 (bI (aA 1 (bI (bI (aD 1 (aA 1 (aA 5 (bI (aA 1 (bI (bI (aD 1 (aA 7 kL))))))))))))))))) Q g w:=by
 refine qO (λg:Env=>g 16) _ h (λX g1 w1 ha hL=> ?_);rw[<-bG 2 ha,<-bG 6 ha,<-bG 9 ha,<-bG 10 ha,<-bG 12 ha,<-bG 13 ha]at hL;exact(pV [(4,(Aj k4 2 6 9 10 12 13))] (kr:=no) (DZ (λ_ _ _ _ _ _ BC w=>X BC w) 2 6 9 10 12 13 16) hL bH sL ⟨h4,trivial⟩)
def ajZ(kn:K7) aU b6 Dy aAx iZ aW w:=
 kn aU b6 Dy aAx iZ aW (a7D 0) w
def SA(kn:K6) aU b6 Dy aAx iZ aW w:=
 ajZ (IJ kn) aU b6 Dy aAx iZ aW w
def IK(kn:K6) aU b6 Dy aAx iZ aW w:=
 SA (Sz kn) aU b6 Dy aAx iZ aW w
theorem azN(kn:K6)(hn:N6 Q kn 2 6 9 10 12 13)(h:SA kn (g 2) (g 6) (g 9) (g 10) (g 12) (g 13) w):bQ pg dR (aD 1 (aA 2 (bI (aA 1 (bI (bI (aD 1 (aA 1 (aA 5 (bI (aA 1 (bI (bI (aD 1 (aA 7 kL))))))))))))))) Q g w:=
 bC 1 (dP (DZ (IJ kn) 2 6 9 10 12 13 16) h (λg w h=>aC (jP 4 (azM _ g w kn hn h))))
def abO(kn:K6)(R:K1) aU b6 Dy iZ aW w:=
 (?X:PT (type_of%(tt (D71 (λc=>(aD 2 (bI (aA 1 (bI (bI (aD 1 (aA 1 (aA 5 (bI (aA 1 (bI (bI (aD 1 (aA 7 c))))))))))))))) (Aj kn 2 6 9 10 12 13) [] R (El [2,6,9,12,13] [aU,b6,Dy,iZ,aW]) w= ?X) (by unfold D71 Tryz.f71 gG dR;exact ev))))
def OL(kn:K6)(R:K1) aU b6 Dy iZ aW w:=
 abO (IK kn) R aU b6 Dy iZ aW w
def abP(kn:K5)(k2:K5) aU b6 Dy iZ aW c5 w:=
 JJ c5
  (kn aU b6 Dy iZ aW w)
  (k2 aU b6 Dy iZ aW w)
def abQ(kn:K6)(k2:K5)(R:K1) aU b6 Dy iZ aW c5 w:=
 abP (OL kn R) k2 aU b6 Dy iZ aW c5 w
def FM(k2:K5)(R:K1) aU b6 Dy iZ aW c5 w:=
 aN (λ(X:a7C->K0) (t:a7C) (w:a7B)=>abQ (λ_ _ _ _ _ c5 w=>X c5 w) k2 R aU b6 Dy iZ aW t w) c5 w
theorem atZ(k2:K5)(R:K1)(h2:E5 Q k2 2 2 6 9 12 13)(hr:HR gG R Q)(h:FM k2 R (g 2) (g 6) (g 9) (g 12) (g 13) (g 15) w):bQ pg dR (bI (aD 1 (aA 1 (aA 5 (bI (aA 1 (bI (bI (aD 1 (aA 7 kL)))))))))) Q g w:=by
 refine qO (λg:Env=>g 15) _ h (λX g1 w1 ha hL=> ?_);rw[<-bG 2 ha,<-bG 6 ha,<-bG 9 ha,<-bG 12 ha,<-bG 13 ha]at hL;exact(bC 1 (pV [(2,(nY k2 2 6 9 12 13))] (kr:=no) (nY (OL (λ_ _ _ _ _ c5 w=>X c5 w) R) 2 6 9 12 13) hL (λg w h=>aC (jP 3 (bC 2 (vT (Aj (IK (λ_ _ _ _ _ c5 w=>X c5 w)) 2 6 9 10 12 13) h (λg w h=>aC (bC 1 (azN _ g w (Sz (λ_ _ _ _ _ c5 w=>X c5 w)) (λg w h=>aC (dP (Aj (λ_ _ _ _ _ c5 w=>X c5 w) 2 6 9 12 13 15) h bH)) h))) hr)))) sL ⟨h2,trivial⟩))
def OM(kn:K5)(R:K1) aU b6 Dy iZ aW c5 w:=
 FM (Sy kn R) R aU b6 Dy iZ aW c5 w
theorem auA(kn:K5)(R:K1)(hn:N5 Q kn 2 6 9 12 13)(hr:HR gG R Q)(h:FM kn R (g 2) (g 6) (g 9) (g 12) (g 13) (g 15) w):bQ pg dR (aD 1 (aA 1 (aA 5 (bI (aA 1 (bI (bI (aD 1 (aA 7 kL))))))))) Q g w:=
 jP 2 (atZ _ g w kn R hn hr h)
def abR(kn:K6) aU b6 Dy iZ aW aWm w:=
 bF pg (bZ .eql 3 (.tmp 75) (.const (a7D 1)) aWm (a7D 1)) w λl6 w=>
 kn aU b6 Dy iZ aW l6 w
def zT(kn:K5)(R:K1) aU b6 Dy iZ aW aWm w:=
 abR (OM kn R) aU b6 Dy iZ aW aWm w
def abS(kn:K6)(R:K1) aU b6 Dy iZ aW w:=
 (?X:PT (type_of%(tt (D71 (λc=>(aD 5 (bI (aA 1 (bI (bI (aD 1 (aA 7 c)))))))) (Aj kn 2 6 9 12 13 14) [] R (El [2,6,9,12,13] [aU,b6,Dy,iZ,aW]) w= ?X) (by unfold D71 Tryz.f71 gG dR;exact ev))))
def ON(kn:K5)(R:K1) aU b6 Dy iZ aW w:=
 abS (zT kn R) R aU b6 Dy iZ aW w
def abT(kn:K5)(k0:K3) aU b6 Dy iZ aW w:=
 bF pg (bZ .gtr 3 iB iB aW (a7D 0)) w λf8 w=>
 JJ f8
  (kn aU b6 Dy iZ aW w)
  (k0 b6 Dy iZ w)
def abU(kn:K5)(k0:K3)(R:K1) aU b6 Dy iZ aW w:=
 abT (ON kn R) k0 aU b6 Dy iZ aW w
def FN(k0:K3)(R:K1) aU b6 Dy iZ aW w:=
 aN (λ(X:a7C->K0) (t:a7C) (w:a7B)=>abU (λ_ _ _ _ aW w=>X aW w) k0 R aU b6 Dy iZ t w) aW w
theorem auB(k0:K3)(R:K1)(h0:E3 Q k0 0 6 9 12)(hr:HR gG R Q)(h:FN k0 R (g 2) (g 6) (g 9) (g 12) (g 13) w):bQ pg dR (bI (aD 1 (aA 7 kL))) Q g w:=by
 refine qO (λg:Env=>g 13) _ h (λX g1 w1 ha hL=> ?_);rw[<-bG 2 ha,<-bG 6 ha,<-bG 9 ha,<-bG 12 ha]at hL;exact(bC 1 (pV [(0,(kC k0 6 9 12))] (kr:=no) (nY (ON (λ_ _ _ _ aW w=>X aW w) R) 2 6 9 12 13) hL (λg w h=>aC (jP 1 (bC 5 (vT (Aj (zT (λ_ _ _ _ aW w=>X aW w) R) 2 6 9 12 13 14) h (λg w h=>aC (bC 1 (dP (Aj (OM (λ_ _ _ _ aW w=>X aW w) R) 2 6 9 12 13 15) h (λg w h=>aC (bC 1 (auA _ g w (Sy (λ_ _ _ _ aW w=>X aW w) R) R (λg w h=>aC (vT (nY (λ_ _ _ _ aW w=>X aW w) 2 6 9 12 13) h bH hr)) hr h)))))) hr)))) sL ⟨h0,trivial⟩))
def FO(R:K1) aU b6 Dy iZ aW w:=
 FN (Sx R) R aU b6 Dy iZ aW w
theorem auC(kn:K3)(R:K1)(hn:N3 Q kn 6 9 12)(hr:HR gG R Q)(h:FN kn R (g 2) (g 6) (g 9) (g 12) (g 13) w):bQ pg dR (aD 1 (aA 7 kL)) Q g w:=
 jP 0 (auB _ g w kn R hn hr h)
def abV(kn:K5)(R:K1) bJ Ou aU w:=
 (?X:PT (type_of%(tt (D71 (λc=>(aD 7 c)) (nY kn 2 6 9 12 13) [] R (El [0,1,2] [bJ,Ou,aU]) w= ?X) (by unfold D71 Tryz.f71 gG dR;exact ev))))
def abW(R:K1) bJ Ou aU w:=
 abV (FO R) R bJ Ou aU w
def aEo a0 a1 a2 w(R:K1):=
 abW R a0 a1 a2 w
theorem aB3 {a0 a1 a2 w R}(h:aEo a0 a1 a2 w R):aL pg U7 #[a0,a1,a2] w R:=
 gF (ann:=dR) Tryz.f71 kL [a0,a1,a2] gG 114 TryzM.mixed Tryz.func71 (bC 7 (vT (nY (FO R) 2 6 9 12 13) h (λg w h=>aC (bC 1 (auC _ g w (Sx R) R (λg w h=>aC (gI h bH)) bH h))) bH))
def MZ:FA:=nA Ve
def S0:List ResultVar:=[.tmp 2]
noncomputable def WO:Code:=aO Tryz.f72
def D72:DT:=bP pg MZ WO Tryz.f72 (gP S0)
def akX(R:K1) bU w:=
 (?X:PT (type_of%(tt (D72 (λc=>c) no [] R (El [0] [bU]) w= ?X) (by unfold D72 Tryz.f72 S0 MZ;exact ev))))
def aEz a0 w(R:K1):=
 akX R a0 w
theorem aCf{a0 w R}(h:aEz a0 w R):aL pg Ve #[a0] w R:=
 gF (ann:=MZ) Tryz.f72 WO [a0] S0 11 TryzM.mixed Tryz.func72 (gI h bH)
def aZ:FA:=⟨Rw,λi=>match Nat.beq i 46 with|true=>lf (fz 5 (ft [3,4] (fz 5 (ft [] []))))|false=> .leaf ([],[]) []⟩
def dH:List ResultVar:=[.cell 2 59,.tmp 3]
noncomputable def cB:Code:=aO Tryz.f73
def D73:DT:=bP pg aZ cB Tryz.f73 (gP dH)
def OQ(R:K1) b2 b6 w:=
 bF pg (cK 59 b6) w λz4 w=>
 bF pg (dL 59 b2 z4) w λ_u w=>
 LdR pg 59 b2 w λr0=>R (.tuple #[r0,(a7D 0)]) w
def FQ(kn:K6) cO b2 iU b6 cW tW w:=
 bF pg (bZ .add 3 iB iB tW (a7D 1)) w λq1 w=>
 kn cO b2 iU b6 cW q1 w
def OR(kn:K6) cO b2 iU b6 cW tW aLv Ev w:=
 (?X:PT (type_of%(tt (D73 (λc=>(aA 1 (aA 3 (aA 2 (aA 2 (bI (aD 1 (aA 1 (bI (bI (aA 1 (aD 1 (aA 1 (aA 1 (aA 1 (aA 1 (aA 1 (aA 1 (aA 5 c))))))))))))))))))) (Aj kn 1 2 5 6 14 15) [] nG (El [1,2,5,6,14,15,18,19] [cO,b2,iU,b6,cW,tW,aLv,Ev]) w= ?X) (by unfold D73 Tryz.f73 dH aZ;exact ev))))
def acA(kn:K8)(k12:K8) cO b2 iU b6 cW tW aLv Ev w:=
 (?X:PT (type_of%(tt (D73 (λc=>(bI (bI (aD 1 (aA 3 (aA 2 (aA 2 (bI (aD 1 (aA 1 (bI (bI (aA 1 (aD 1 (aA 1 (aA 1 (aA 1 (aA 1 (aA 1 (aA 1 (aA 5 c))))))))))))))))))))) (Mq8 kn 1 2 5 6 14 15 18 19) [(12,(Mq8 k12 1 2 5 6 14 15 18 19))] nG (El [1,2,5,6,14,15,18,19] [cO,b2,iU,b6,cW,tW,aLv,Ev]) w= ?X) (by unfold D73 Tryz.f73 dH aZ;exact ev))))
def tM(k12:K8) cO b2 iU b6 cW tW aLv Ev w:=
 aN (λ(X:a7C->K0) (t:a7C) (w:a7B)=>acA (λ_ _ _ _ _ _ _ Ev w=>X Ev w) k12 cO b2 iU b6 cW tW aLv t w) Ev w
theorem auF(k12:K8)(h12:E8 Q k12 12 1 2 5 6 14 15 18 19)(h:tM k12 (g 1) (g 2) (g 5) (g 6) (g 14) (g 15) (g 18) (g 19) w):bQ pg aZ (bI (aD 1 (aA 3 (aA 2 (aA 2 (bI (aD 1 (aA 1 (bI (bI (aA 1 (aD 1 (aA 1 (aA 1 (aA 1 (aA 1 (aA 1 (aA 1 (aA 5 cB))))))))))))))))))) Q g w:=by
 refine qO (λg:Env=>g 19) _ h (λX g1 w1 ha hL=> ?_);rw[<-bG 1 ha,<-bG 2 ha,<-bG 5 ha,<-bG 6 ha,<-bG 14 ha,<-bG 15 ha,<-bG 18 ha]at hL;exact(pV [(12,(Mq8 k12 1 2 5 6 14 15 18 19))] (kr:=no) (Mq8 (λ_ _ _ _ _ _ _ Ev w=>X Ev w) 1 2 5 6 14 15 18 19) hL bH sL ⟨h12,trivial⟩)
def OS(kn:K6) cO b2 iU b6 cW tW aLv Ev w:=
 tM (OR kn) cO b2 iU b6 cW tW aLv Ev w
theorem auG(kn:K8)(hn:N8 Q kn 1 2 5 6 14 15 18 19)(h:tM kn (g 1) (g 2) (g 5) (g 6) (g 14) (g 15) (g 18) (g 19) w):bQ pg aZ (aD 1 (aA 3 (aA 2 (aA 2 (bI (aD 1 (aA 1 (bI (bI (aA 1 (aD 1 (aA 1 (aA 1 (aA 1 (aA 1 (aA 1 (aA 1 (aA 5 cB)))))))))))))))))) Q g w:=
 jP 12 (auF _ g w kn hn h)
def acB(kn:K8) cO b2 iU b6 cW tW aL5 aVZ w:=
 (?X:PT (type_of%(tt (D73 (λc=>(aD 3 (aA 2 (aA 2 (bI (aD 1 (aA 1 (bI (bI (aA 1 (aD 1 (aA 1 (aA 1 (aA 1 (aA 1 (aA 1 (aA 1 (aA 5 c)))))))))))))))))) (Mq8 kn 1 2 5 6 14 15 18 19) [] nG (El [1,2,5,6,14,15,16,17] [cO,b2,iU,b6,cW,tW,aL5,aVZ]) w= ?X) (by unfold D73 Tryz.f73 dH aZ;exact ev))))
def FR(kn:K6) cO b2 iU b6 cW tW aL5 aVZ w:=
 acB (OS kn) cO b2 iU b6 cW tW aL5 aVZ w
def Xy(kn:K8) cO b2 iU b6 cW tW aL5 w:=
 (?X:PT (type_of%(tt (D73 (λc=>(aD 2 (aA 2 (bI (aD 1 (aA 1 (bI (bI (aA 1 (aD 1 (aA 1 (aA 1 (aA 1 (aA 1 (aA 1 (aA 1 (aA 5 c))))))))))))))))) (Mq8 kn 1 2 5 6 14 15 16 17) [] nG (El [1,2,5,6,14,15,16] [cO,b2,iU,b6,cW,tW,aL5]) w= ?X) (by unfold D73 Tryz.f73 dH aZ;exact ev))))
def Ks(kn:K6) cO b2 iU b6 cW tW aL5 w:=
 Xy (FR kn) cO b2 iU b6 cW tW aL5 w
def Xz(kn:K7)(R:K1) cO b2 iU b6 cW tW w:=
 (?X:PT (type_of%(tt (D73 (λc=>(aD 2 (bI (aD 1 (aA 1 (bI (bI (aA 1 (aD 1 (aA 1 (aA 1 (aA 1 (aA 1 (aA 1 (aA 1 (aA 5 c)))))))))))))))) (DZ kn 1 2 5 6 14 15 16) [] R (El [1,2,5,6,14,15] [cO,b2,iU,b6,cW,tW]) w= ?X) (by unfold D73 Tryz.f73 dH aZ;exact ev))))
def Kt(kn:K6)(R:K1) cO b2 iU b6 cW tW w:=
 Xz (Ks kn) R cO b2 iU b6 cW tW w
def Cb(kn:K6)(R:K1) cO b2 iU b6 cW tW w:=
 Kt (FQ kn) R cO b2 iU b6 cW tW w
theorem anT(kn:K6)(R:K1)(hn:N6 Q kn 1 2 5 6 14 15)(hr:HR dH R Q)(h:Kt kn R (g 1) (g 2) (g 5) (g 6) (g 14) (g 15) w):bQ pg aZ (aD 1 (aA 1 (bI (bI (aA 1 (aD 1 (aA 1 (aA 1 (aA 1 (aA 1 (aA 1 (aA 1 (aA 5 cB))))))))))))) Q g w:=
 jP 11 (bC 2 (vT (DZ (Ks kn) 1 2 5 6 14 15 16) h (λg w h=>aC (bC 2 (dP (Mq8 (FR kn) 1 2 5 6 14 15 16 17) h (λg w h=>aC (bC 3 (dP (Mq8 (OS kn) 1 2 5 6 14 15 18 19) h (λg w h=>aC (bC 1 (auG _ g w (OR kn) (λg w h=>aC (dP _ h hn)) h))))))))) hr))
def XA(kn:K6)(k10:K2) cO b2 iU b6 cW tW w:=
 bF pg (bZ .lss 3 iB iB tW iU) w λp9 w=>
 JJ p9
  (kn cO b2 iU b6 cW tW w)
  (k10 b2 b6 w)
def XB(kn:K6)(k10:K2)(R:K1) cO b2 iU b6 cW tW w:=
 XA (Cb kn R) k10 cO b2 iU b6 cW tW w
def Cc(k10:K2)(R:K1) cO b2 iU b6 cW tW w:=
 aN (λ(X:a7C->K0) (t:a7C) (w:a7B)=>XB (λ_ _ _ _ _ tW w=>X tW w) k10 R cO b2 iU b6 cW t w) tW w
theorem anU(k10:K2)(R:K1)(h10:E2 Q k10 10 2 6)(hr:HR dH R Q)(h:Cc k10 R (g 1) (g 2) (g 5) (g 6) (g 14) (g 15) w):bQ pg aZ (bI (aA 1 (aD 1 (aA 1 (aA 1 (aA 1 (aA 1 (aA 1 (aA 1 (aA 5 cB)))))))))) Q g w:=by
 refine qO (λg:Env=>g 15) _ h (λX g1 w1 ha hL=> ?_);rw[<-bG 1 ha,<-bG 2 ha,<-bG 5 ha,<-bG 6 ha,<-bG 14 ha]at hL;exact(bC 1 (pV [(10,(vJ k10 2 6))] (kr:=no) (Aj (Cb (λ_ _ _ _ _ tW w=>X tW w) R) 1 2 5 6 14 15) hL (λg w h=>aC (bC 1 (anT _ g w (FQ (λ_ _ _ _ _ tW w=>X tW w)) R (λg w h=>aC (dP (Aj (λ_ _ _ _ _ tW w=>X tW w) 1 2 5 6 14 15) h bH)) hr h))) sL ⟨h10,trivial⟩))
def XC(kn:K6) cO b2 iU b6 cW w:=
 kn cO b2 iU b6 cW (a7D 0) w
def Ku(kn:K2)(R:K1) cO b2 iU b6 cW w:=
 XC (Cc kn R) cO b2 iU b6 cW w
def Kv(R:K1) cO b2 iU b6 cW w:=
 Ku (OQ R) R cO b2 iU b6 cW w
theorem anV(kn:K2)(R:K1)(hn:N2 Q kn 2 6)(hr:HR dH R Q)(h:Ku kn R (g 1) (g 2) (g 5) (g 6) (g 14) w):bQ pg aZ (aD 1 (aA 1 (aA 1 (aA 1 (aA 1 (aA 1 (aA 1 (aA 5 cB)))))))) Q g w:=
 bC 1 (dP (Aj (Cc kn R) 1 2 5 6 14 15) h (λg w h=>aC (jP 10 (anU _ g w kn R hn hr h))))
def XD(kn:K5) cO b2 iU b6 w:=
 bF pg (Gc 220) w λcW w=>
 kn cO b2 iU b6 cW w
def Cd(R:K1) cO b2 iU b6 w:=
 XD (Kv R) cO b2 iU b6 w
def Kw(kn:K7) cO b2 iU b6 b8 dU sM w:=
 bF pg (bZ .add 3 iB iB sM (a7D 1)) w λl1 w=>
 kn cO b2 iU b6 b8 dU l1 w
def Kx(kn:K8) cO b2 iU b6 b8 dU sM Jz w:=
 bF pg (bZ .add 3 iB iB Jz (a7D 1)) w λm0 w=>
 kn cO b2 iU b6 b8 dU sM m0 w
def XE(kn:K9)(k8:K8) cO b2 iU b6 b8 dU sM Jz aLu w:=
 (?X:PT (type_of%(tt (D73 (λc=>(bI (bI (aA 3 (bI (aD 1 (aA 1 (bI (bI (aA 1 (bI (aD 1 (aA 1 (bI (bI (aA 1 (aD 1 (aA 1 (aA 1 (aA 1 (aA 1 (aA 5 c)))))))))))))))))))))) (Mq9 kn 1 2 5 6 8 10 11 12 13) [(8,(Mq8 k8 1 2 5 6 8 10 11 12))] nG (El [1,2,5,6,8,10,11,12,13] [cO,b2,iU,b6,b8,dU,sM,Jz,aLu]) w= ?X) (by unfold D73 Tryz.f73 dH aZ;exact ev))))
def qV(k8:K8) cO b2 iU b6 b8 dU sM Jz aLu w:=
 aN (λ(X:(a7C×a7C)->K0) (t:a7C×a7C) (w:a7B)=>XE (λ_ _ _ _ _ dU _ _ aLu w=>X (dU,aLu) w) k8 cO b2 iU b6 b8 t.1 sM Jz t.2 w) (dU,aLu) w
theorem anW(k8:K8)(h8:E8 Q k8 8 1 2 5 6 8 10 11 12)(h:qV k8 (g 1) (g 2) (g 5) (g 6) (g 8) (g 10) (g 11) (g 12) (g 13) w):bQ pg aZ (bI (aA 3 (bI (aD 1 (aA 1 (bI (bI (aA 1 (bI (aD 1 (aA 1 (bI (bI (aA 1 (aD 1 (aA 1 (aA 1 (aA 1 (aA 1 (aA 5 cB)))))))))))))))))))) Q g w:=by
 refine qO (λg:Env=>(g 10,g 13)) _ h (λX g1 w1 ha hL=> ?_);rw[<-bG 1 ha,<-bG 2 ha,<-bG 5 ha,<-bG 6 ha,<-bG 8 ha,<-bG 11 ha,<-bG 12 ha]at hL;exact(pV [(8,(Mq8 k8 1 2 5 6 8 10 11 12))] (kr:=no) (Mq9 (λ_ _ _ _ _ dU _ _ aLu w=>X (dU,aLu) w) 1 2 5 6 8 10 11 12 13) hL bH sL ⟨h8,trivial⟩)
def XF(kn:K9) cO b2 iU b6 b8 dU sM Jz w:=
 (?X:PT (type_of%(tt (D73 (λc=>(aD 3 (bI (aD 1 (aA 1 (bI (bI (aA 1 (bI (aD 1 (aA 1 (bI (bI (aA 1 (aD 1 (aA 1 (aA 1 (aA 1 (aA 1 (aA 5 c)))))))))))))))))))) (Mq9 kn 1 2 5 6 8 10 11 12 13) [] nG (El [1,2,5,6,8,10,11,12] [cO,b2,iU,b6,b8,dU,sM,Jz]) w= ?X) (by unfold D73 Tryz.f73 dH aZ;exact ev))))
def Ky(kn:K8) cO b2 iU b6 b8 dU sM Jz w:=
 XF (qV kn) cO b2 iU b6 b8 dU sM Jz w
def Kz(kn:K8) cO b2 iU b6 b8 dU sM Jz w:=
 Ky (Kx kn) cO b2 iU b6 b8 dU sM Jz w
theorem anX(kn:K8)(hn:N8 Q kn 1 2 5 6 8 10 11 12)(h:Ky kn (g 1) (g 2) (g 5) (g 6) (g 8) (g 10) (g 11) (g 12) w):bQ pg aZ (aD 1 (aA 1 (bI (bI (aA 1 (bI (aD 1 (aA 1 (bI (bI (aA 1 (aD 1 (aA 1 (aA 1 (aA 1 (aA 1 (aA 5 cB))))))))))))))))) Q g w:=
 jP 7 (bC 3 (dP (Mq9 (qV kn) 1 2 5 6 8 10 11 12 13) h (λg w h=>aC (jP 8 (anW _ g w kn hn h)))))
def XG(kn:K8)(k6:K7) cO b2 iU b6 b8 dU sM Jz w:=
 bF pg (pZ 166 cO 1) w λl3 w=>
 bF pg (cK 88 l3) w λl4 w=>
 bF pg (uY 88 l4 sM) w λl6 w=>
 bF pg (cK 3 l6) w λl7 w=>
 bF pg (bZ .lss 3 iB iB Jz l7) w λl8 w=>
 JJ l8
  (kn cO b2 iU b6 b8 dU sM Jz w)
  (k6 cO b2 iU b6 b8 dU sM w)
def XH(kn:K8)(k6:K7) cO b2 iU b6 b8 dU sM Jz w:=
 XG (Kz kn) k6 cO b2 iU b6 b8 dU sM Jz w
def Ce(k6:K7) cO b2 iU b6 b8 dU sM Jz w:=
 aN (λ(X:(a7C×a7C)->K0) (t:a7C×a7C) (w:a7B)=>XH (λ_ _ _ _ _ dU _ Jz w=>X (dU,Jz) w) k6 cO b2 iU b6 b8 t.1 sM t.2 w) (dU,Jz) w
theorem anY(k6:K7)(h6:E7 Q k6 6 1 2 5 6 8 10 11)(h:Ce k6 (g 1) (g 2) (g 5) (g 6) (g 8) (g 10) (g 11) (g 12) w):bQ pg aZ (bI (aA 1 (bI (aD 1 (aA 1 (bI (bI (aA 1 (aD 1 (aA 1 (aA 1 (aA 1 (aA 1 (aA 5 cB)))))))))))))) Q g w:=by
 refine qO (λg:Env=>(g 10,g 12)) _ h (λX g1 w1 ha hL=> ?_);rw[<-bG 1 ha,<-bG 2 ha,<-bG 5 ha,<-bG 6 ha,<-bG 8 ha,<-bG 11 ha]at hL;exact(bC 1 (pV [(6,(DZ k6 1 2 5 6 8 10 11))] (kr:=no) (Mq8 (Kz (λ_ _ _ _ _ dU _ Jz w=>X (dU,Jz) w)) 1 2 5 6 8 10 11 12) hL (λg w h=>aC (bC 1 (anX _ g w (Kx (λ_ _ _ _ _ dU _ Jz w=>X (dU,Jz) w)) (λg w h=>aC (dP (Mq8 (λ_ _ _ _ _ dU _ Jz w=>X (dU,Jz) w) 1 2 5 6 8 10 11 12) h bH)) h))) sL ⟨h6,trivial⟩))
def XI(kn:K8) cO b2 iU b6 b8 dU sM w:=
 kn cO b2 iU b6 b8 dU sM (a7D 0) w
def KA(kn:K7) cO b2 iU b6 b8 dU sM w:=
 XI (Ce kn) cO b2 iU b6 b8 dU sM w
def KB(kn:K7) cO b2 iU b6 b8 dU sM w:=
 KA (Kw kn) cO b2 iU b6 b8 dU sM w
theorem anZ(kn:K7)(hn:N7 Q kn 1 2 5 6 8 10 11)(h:KA kn (g 1) (g 2) (g 5) (g 6) (g 8) (g 10) (g 11) w):bQ pg aZ (aD 1 (aA 1 (bI (bI (aA 1 (aD 1 (aA 1 (aA 1 (aA 1 (aA 1 (aA 5 cB))))))))))) Q g w:=
 jP 5 (bC 1 (dP (Mq8 (Ce kn) 1 2 5 6 8 10 11 12) h (λg w h=>aC (jP 6 (anY _ g w kn hn h)))))
def XJ(kn:K7)(k4:K4) cO b2 iU b6 b8 dU sM w:=
 bF pg (pZ 166 cO 1) w λj6 w=>
 bF pg (cK 88 j6) w λj7 w=>
 bF pg (yM .len #[88] 3 [j7]) w λj8 w=>
 bF pg (bZ .lss 3 iB iB sM j8) w λj9 w=>
 JJ j9
  (kn cO b2 iU b6 b8 dU sM w)
  (k4 cO b2 iU b6 w)
def XK(kn:K7)(k4:K4) cO b2 iU b6 b8 dU sM w:=
 XJ (KB kn) k4 cO b2 iU b6 b8 dU sM w
def qW(k4:K4) cO b2 iU b6 b8 dU sM w:=
 aN (λ(X:(a7C×a7C)->K0) (t:a7C×a7C) (w:a7B)=>XK (λ_ _ _ _ _ dU sM w=>X (dU,sM) w) k4 cO b2 iU b6 b8 t.1 t.2 w) (dU,sM) w
theorem aoA(k4:K4)(h4:E4 Q k4 4 1 2 5 6)(h:qW k4 (g 1) (g 2) (g 5) (g 6) (g 8) (g 10) (g 11) w):bQ pg aZ (bI (aA 1 (aD 1 (aA 1 (aA 1 (aA 1 (aA 1 (aA 5 cB)))))))) Q g w:=by
 refine qO (λg:Env=>(g 10,g 11)) _ h (λX g1 w1 ha hL=> ?_);rw[<-bG 1 ha,<-bG 2 ha,<-bG 5 ha,<-bG 6 ha,<-bG 8 ha]at hL;exact(bC 1 (pV [(4,(lX k4 1 2 5 6))] (kr:=no) (DZ (KB (λ_ _ _ _ _ dU sM w=>X (dU,sM) w)) 1 2 5 6 8 10 11) hL (λg w h=>aC (bC 1 (anZ _ g w (Kw (λ_ _ _ _ _ dU sM w=>X (dU,sM) w)) (λg w h=>aC (dP (DZ (λ_ _ _ _ _ dU sM w=>X (dU,sM) w) 1 2 5 6 8 10 11) h bH)) h))) sL ⟨h4,trivial⟩))
def XL(kn:K7) cO b2 iU b6 b8 dU w:=
 kn cO b2 iU b6 b8 dU (a7D 0) w
def KC(kn:K4) cO b2 iU b6 b8 dU w:=
 XL (qW kn) cO b2 iU b6 b8 dU w
def KD(R:K1) cO b2 iU b6 b8 dU w:=
 KC (Cd R) cO b2 iU b6 b8 dU w
theorem aoB(kn:K4)(hn:N4 Q kn 1 2 5 6)(h:KC kn (g 1) (g 2) (g 5) (g 6) (g 8) (g 10) w):bQ pg aZ (aD 1 (aA 1 (aA 1 (aA 1 (aA 1 (aA 5 cB)))))) Q g w:=
 bC 1 (dP (DZ (qW kn) 1 2 5 6 8 10 11) h (λg w h=>aC (jP 4 (aoA _ g w kn hn h))))
def XM(kn:K6) cO b2 iU b6 b8 w:=
 kn cO b2 iU b6 b8 (a7D 0) w
def KE(R:K1) cO b2 iU b6 b8 w:=
 XM (KD R) cO b2 iU b6 b8 w
def Cf(kn:K6) cO b2 iU b6 b8 UR w:=
 bF pg (bZ .add 3 iB iB UR (a7D 1)) w λi0 w=>
 kn cO b2 iU b6 b8 i0 w
def XO(kn:K6)(k2:K5) cO b2 iU b6 b8 UR w:=
 (?X:PT (type_of%(tt (D73 (λc=>(aD 2 (bI (bI (aA 1 (aD 1 (aA 1 (aA 1 (aA 5 c))))))))) (Aj kn 1 2 5 6 8 9) [(2,(nY k2 1 2 5 6 8))] nG (El [1,2,5,6,8,9] [cO,b2,iU,b6,b8,UR]) w= ?X) (by unfold D73 Tryz.f73 dH aZ;exact ev))))
def XP(kn:K6)(k2:K5) cO b2 iU b6 b8 UR w:=
 XO (Cf kn) k2 cO b2 iU b6 b8 UR w
def qX(k2:K5) cO b2 iU b6 b8 UR w:=
 aN (λ(X:(a7C×a7C)->K0) (t:a7C×a7C) (w:a7B)=>XP (λ_ _ _ _ b8 UR w=>X (b8,UR) w) k2 cO b2 iU b6 t.1 t.2 w) (b8,UR) w
theorem aoC(k2:K5)(h2:E5 Q k2 2 1 2 5 6 8)(h:qX k2 (g 1) (g 2) (g 5) (g 6) (g 8) (g 9) w):bQ pg aZ (bI (aA 1 (aD 1 (aA 1 (aA 1 (aA 5 cB)))))) Q g w:=by
 refine qO (λg:Env=>(g 8,g 9)) _ h (λX g1 w1 ha hL=> ?_);rw[<-bG 1 ha,<-bG 2 ha,<-bG 5 ha,<-bG 6 ha]at hL;exact(bC 2 (pV [(2,(nY k2 1 2 5 6 8))] (kr:=no) (Aj (Cf (λ_ _ _ _ b8 UR w=>X (b8,UR) w)) 1 2 5 6 8 9) hL (λg w h=>aC (dP (Aj (λ_ _ _ _ b8 UR w=>X (b8,UR) w) 1 2 5 6 8 9) h bH)) sL ⟨h2,trivial⟩))
def XQ(kn:K6) cO b2 iU b6 b8 w:=
 kn cO b2 iU b6 b8 (a7D 0) w
def KF(kn:K5) cO b2 iU b6 b8 w:=
 XQ (qX kn) cO b2 iU b6 b8 w
def KG(R:K1) cO b2 iU b6 b8 w:=
 KF (KE R) cO b2 iU b6 b8 w
theorem aoD(kn:K5)(hn:N5 Q kn 1 2 5 6 8)(h:KF kn (g 1) (g 2) (g 5) (g 6) (g 8) w):bQ pg aZ (aD 1 (aA 1 (aA 1 (aA 5 cB)))) Q g w:=
 bC 1 (dP (Aj (qX kn) 1 2 5 6 8 9) h (λg w h=>aC (jP 2 (aoC _ g w kn hn h))))
def XR(kn:K5) cO b2 iU b6 w:=
 bF pg (bZ .sub 3 iB iB iU (a7D 1)) w λf3 w=>
 kn cO b2 iU b6 f3 w
def KH(R:K1) cO b2 iU b6 w:=
 XR (KG R) cO b2 iU b6 w
def XS(kn:K5)(k0:K4) cO b2 iU b6 i_7 w:=
 (?X:PT (type_of%(tt (D73 (λc=>(bI (bI (aA 1 (aD 1 (aA 5 c)))))) (nY kn 1 2 5 6 7) [(0,(lX k0 1 2 5 6))] nG (El [1,2,5,6,7] [cO,b2,iU,b6,i_7]) w= ?X) (by unfold D73 Tryz.f73 dH aZ;exact ev))))
def qY(k0:K4) cO b2 iU b6 i_7 w:=
 aN (λ(X:a7C->K0) (t:a7C) (w:a7B)=>XS (λ_ _ _ _ i_7 w=>X i_7 w) k0 cO b2 iU b6 t w) i_7 w
theorem aoE(k0:K4)(h0:E4 Q k0 0 1 2 5 6)(h:qY k0 (g 1) (g 2) (g 5) (g 6) (g 7) w):bQ pg aZ (bI (aA 1 (aD 1 (aA 5 cB)))) Q g w:=by
 refine qO (λg:Env=>g 7) _ h (λX g1 w1 ha hL=> ?_);rw[<-bG 1 ha,<-bG 2 ha,<-bG 5 ha,<-bG 6 ha]at hL;exact(pV [(0,(lX k0 1 2 5 6))] (kr:=no) (nY (λ_ _ _ _ i_7 w=>X i_7 w) 1 2 5 6 7) hL bH sL ⟨h0,trivial⟩)
def XT(kn:K5) cO b2 iU b6 w:=
 kn cO b2 iU b6 (a7D 0) w
def KI(kn:K4) cO b2 iU b6 w:=
 XT (qY kn) cO b2 iU b6 w
def KJ(R:K1) cO b2 iU b6 w:=
 KI (KH R) cO b2 iU b6 w
theorem aoF(kn:K4)(hn:N4 Q kn 1 2 5 6)(h:KI kn (g 1) (g 2) (g 5) (g 6) w):bQ pg aZ (aD 1 (aA 5 cB)) Q g w:=
 bC 1 (dP (nY (qY kn) 1 2 5 6 7) h (λg w h=>aC (jP 0 (aoE _ g w kn hn h))))
def XU(kn:K4)(R:K1) YJ w:=
 (?X:PT (type_of%(tt (D73 (λc=>(aD 5 c)) (lX kn 1 2 5 6) [] R (El [0] [YJ]) w= ?X) (by unfold D73 Tryz.f73 dH aZ;exact ev))))
def XV(R:K1) YJ w:=
 XU (KJ R) R YJ w
def aA8 a0 w(R:K1):=
 XV R a0 w
theorem azP{a0 w R}(h:aA8 a0 w R):aL pg Rw #[a0] w R:=
 gF (ann:=aZ) Tryz.f73 cB [a0] dH 185 TryzM.mixed Tryz.func73 (bC 5 (vT (lX (KJ R) 1 2 5 6) h (λg w h=>aC (bC 1 (aoF _ g w (KH R) (λg w h=>aC (bC 1 (dP (nY (KG R) 1 2 5 6 8) h (λg w h=>aC (bC 1 (aoD _ g w (KE R) (λg w h=>aC (bC 1 (dP (Aj (KD R) 1 2 5 6 8 10) h (λg w h=>aC (bC 1 (aoB _ g w (Cd R) (λg w h=>aC (bC 1 (dP (nY (Kv R) 1 2 5 6 14) h (λg w h=>aC (bC 1 (anV _ g w (OQ R) R (λg w h=>aC (gI h bH)) bH h)))))) h)))))) h)))))) h))) bH))
def pQ:FA:=nA U4
def SR:List ResultVar:=[.tmp 2]
noncomputable def qU:Code:=aO Tryz.f74
def D74:DT:=bP pg pQ qU Tryz.f74 (gP SR)
def Sn(R:K1) cN w:=
 R cN w
def So(kn:K3) eQ cN cV w:=
 bF pg (bZ .add 3 iB iB cV (a7D 1)) w λc2 w=>
 kn eQ cN c2 w
def ajN(kn:K5)(k2:K3) eQ cN cV c_5 k_6 w:=
 (?X:PT (type_of%(tt (D74 (λc=>(bI (bI (aA 2 (bI (aD 1 (aA 1 (bI (bI (aA 1 (aD 1 (aA 2 c)))))))))))) (nY kn 0 3 4 5 6) [(2,(kC k2 0 3 4))] nG (El [0,3,4,5,6] [eQ,cN,cV,c_5,k_6]) w= ?X) (by unfold D74 Tryz.f74 SR pQ;exact ev))))
def IF(k2:K3) eQ cN cV c_5 k_6 w:=
 aN (λ(X:(a7C×a7C×a7C)->K0) (t:a7C×a7C×a7C) (w:a7B)=>ajN (λ_ cN _ c_5 k_6 w=>X (cN,c_5,k_6) w) k2 eQ t.1 cV t.2.1 t.2.2 w) (cN,c_5,k_6) w
theorem azD(k2:K3)(h2:E3 Q k2 2 0 3 4)(h:IF k2 (g 0) (g 3) (g 4) (g 5) (g 6) w):bQ pg pQ (bI (aA 2 (bI (aD 1 (aA 1 (bI (bI (aA 1 (aD 1 (aA 2 qU)))))))))) Q g w:=by
 refine qO (λg:Env=>(g 3,g 5,g 6)) _ h (λX g1 w1 ha hL=> ?_);rw[<-bG 0 ha,<-bG 4 ha]at hL;exact(pV [(2,(kC k2 0 3 4))] (kr:=no) (nY (λ_ cN _ c_5 k_6 w=>X (cN,c_5,k_6) w) 0 3 4 5 6) hL bH sL ⟨h2,trivial⟩)
def ajO(kn:K5) eQ cN cV w:=
 bF pg (aAk 9 eQ cV) w λc5 w=>
 kn eQ cN cV c5 (a7D 0) w
def Sp(kn:K3) eQ cN cV w:=
 ajO (IF kn) eQ cN cV w
def Sr(kn:K3) eQ cN cV w:=
 Sp (So kn) eQ cN cV w
theorem azE(kn:K3)(hn:N3 Q kn 0 3 4)(h:Sp kn (g 0) (g 3) (g 4) w):bQ pg pQ (aD 1 (aA 1 (bI (bI (aA 1 (aD 1 (aA 2 qU))))))) Q g w:=
 jP 1 (bC 2 (dP (nY (IF kn) 0 3 4 5 6) h (λg w h=>aC (jP 2 (azD _ g w kn hn h)))))
def abE(kn:K3)(k0:K1) eQ cN cV w:=
 bF pg (yM .len #[9] 3 [eQ]) w λb9 w=>
 bF pg (bZ .lss 3 iB iB cV b9) w λc0 w=>
 JJ c0
  (kn eQ cN cV w)
  (k0 cN w)
def abF(kn:K3)(k0:K1) eQ cN cV w:=
 abE (Sr kn) k0 eQ cN cV w
def FJ(k0:K1) eQ cN cV w:=
 aN (λ(X:(a7C×a7C)->K0) (t:a7C×a7C) (w:a7B)=>abF (λ_ cN cV w=>X (cN,cV) w) k0 eQ t.1 t.2 w) (cN,cV) w
theorem atS(k0:K1)(h0:E1 Q k0 0 3)(h:FJ k0 (g 0) (g 3) (g 4) w):bQ pg pQ (bI (aA 1 (aD 1 (aA 2 qU)))) Q g w:=by
 refine qO (λg:Env=>(g 3,g 4)) _ h (λX g1 w1 ha hL=> ?_);rw[<-bG 0 ha]at hL;exact(bC 1 (pV [(0,(AN k0 3))] (kr:=no) (kC (Sr (λ_ cN cV w=>X (cN,cV) w)) 0 3 4) hL (λg w h=>aC (bC 1 (azE _ g w (So (λ_ cN cV w=>X (cN,cV) w)) (λg w h=>aC (dP (kC (λ_ cN cV w=>X (cN,cV) w) 0 3 4) h bH)) h))) sL ⟨h0,trivial⟩))
def abG(kn:K3) eQ cN w:=
 kn eQ cN (a7D 0) w
def OE(kn:K1) eQ cN w:=
 abG (FJ kn) eQ cN w
def OF(R:K1) eQ cN w:=
 OE (Sn R) eQ cN w
theorem atT(kn:K1)(hn:N1 Q kn 3)(h:OE kn (g 0) (g 3) w):bQ pg pQ (aD 1 (aA 2 qU)) Q g w:=
 bC 1 (dP (kC (FJ kn) 0 3 4) h (λg w h=>aC (jP 0 (atS _ g w kn hn h))))
def abH(kn:K2) eQ w:=
 kn eQ (.slice none 0 0) w
def abI(R:K1) eQ w:=
 abH (OF R) eQ w
def aEi a0 w(R:K1):=
 abI R a0 w
theorem aBV{a0 w R}(h:aEi a0 w R):aL pg U4 #[a0] w R:=
 gF (ann:=pQ) Tryz.f74 qU [a0] SR 29 TryzM.mixed Tryz.func74 (bC 2 (dP (vJ (OF R) 0 3) h (λg w h=>aC (bC 1 (atT _ g w (Sn R) (λg w h=>aC (gI h bH)) h)))))
def mK:FA:=nA DQ
def wH:List ResultVar:=[.cell 4 128,.tmp 5]
noncomputable def BX:Code:=aO Tryz.f75
def D75:DT:=bP pg mK BX Tryz.f75 (gP wH)
def Ss(R:K1) b_2 b4 k_6 P5 w:=
 (?X:PT (type_of%(tt (D75 (λc=>(aA 1 (aA 1 (aA 4 c)))) no [] R (El [2,4,6,7] [b_2,b4,k_6,P5]) w= ?X) (by unfold D75 Tryz.f75 wH mK;exact ev))))
def ajP(kn:K6)(k0:K4) lL b_2 b4 k_6 P5 i_8 w:=
 (?X:PT (type_of%(tt (D75 (λc=>(bI (bI (aA 1 (aD 1 (aA 1 (aA 4 c))))))) (Aj kn 1 2 4 6 7 8) [(0,(lX k0 2 4 6 7))] nG (El [1,2,4,6,7,8] [lL,b_2,b4,k_6,P5,i_8]) w= ?X) (by unfold D75 Tryz.f75 wH mK;exact ev))))
def IG(k0:K4) lL b_2 b4 k_6 P5 i_8 w:=
 aN (λ(X:(a7C×a7C)->K0) (t:a7C×a7C) (w:a7B)=>ajP (λ_ _ _ _ P5 i_8 w=>X (P5,i_8) w) k0 lL b_2 b4 k_6 t.1 t.2 w) (P5,i_8) w
theorem azF(k0:K4)(h0:E4 Q k0 0 2 4 6 7)(h:IG k0 (g 1) (g 2) (g 4) (g 6) (g 7) (g 8) w):bQ pg mK (bI (aA 1 (aD 1 (aA 1 (aA 4 BX))))) Q g w:=by
 refine qO (λg:Env=>(g 7,g 8)) _ h (λX g1 w1 ha hL=> ?_);rw[<-bG 1 ha,<-bG 2 ha,<-bG 4 ha,<-bG 6 ha]at hL;exact(pV [(0,(lX k0 2 4 6 7))] (kr:=no) (Aj (λ_ _ _ _ P5 i_8 w=>X (P5,i_8) w) 1 2 4 6 7 8) hL bH sL ⟨h0,trivial⟩)
def ajQ(kn:K6) lL b_2 b4 k_6 P5 w:=
 kn lL b_2 b4 k_6 P5 k_6 w
def St(kn:K4) lL b_2 b4 k_6 P5 w:=
 ajQ (IG kn) lL b_2 b4 k_6 P5 w
def Su(R:K1) lL b_2 b4 k_6 P5 w:=
 St (Ss R) lL b_2 b4 k_6 P5 w
theorem azG(kn:K4)(hn:N4 Q kn 2 4 6 7)(h:St kn (g 1) (g 2) (g 4) (g 6) (g 7) w):bQ pg mK (aD 1 (aA 1 (aA 4 BX))) Q g w:=
 bC 1 (dP (Aj (IG kn) 1 2 4 6 7 8) h (λg w h=>aC (jP 0 (azF _ g w kn hn h))))
def ajR(kn:K5) lL b_2 b4 k_6 w:=
 (?X:PT (type_of%(tt (D75 (λc=>(aD 1 (aA 4 c))) (nY kn 1 2 4 6 7) [] nG (El [1,2,4,6] [lL,b_2,b4,k_6]) w= ?X) (by unfold D75 Tryz.f75 wH mK;exact ev))))
def IH(R:K1) lL b_2 b4 k_6 w:=
 ajR (Su R) lL b_2 b4 k_6 w
def abJ(kn:K4)(R:K1) bJ lL w:=
 (?X:PT (type_of%(tt (D75 (λc=>(aD 4 c)) (lX kn 1 2 4 6) [] R (El [0,1] [bJ,lL]) w= ?X) (by unfold D75 Tryz.f75 wH mK;exact ev))))
def abK(R:K1) bJ lL w:=
 abJ (IH R) R bJ lL w
def aEj a0 a1 w(R:K1):=
 abK R a0 a1 w
theorem aBW{a0 a1 w R}(h:aEj a0 a1 w R):aL pg DQ #[a0,a1] w R:=
 gF (ann:=mK) Tryz.f75 BX [a0,a1] wH 57 TryzM.mixed Tryz.func75 (bC 4 (vT (lX (IH R) 1 2 4 6) h (λg w h=>aC (bC 1 (dP (nY (Su R) 1 2 4 6 7) h (λg w h=>aC (bC 1 (azG _ g w (Ss R) (λg w h=>aC (gI h bH)) h)))))) bH))
def MY:FA:=⟨Vd,λi=>match Nat.beq i 6 with|true=>lf (fz 5 (ft [1,2] (fz 6 [])))|false=> .leaf ([],[]) []⟩
def SZ:List ResultVar:=[.tmp 4,.tmp 5,.tmp 6]
noncomputable def WN:Code:=aO Tryz.f76
def D76:DT:=bP pg MY WN Tryz.f76 (gP SZ)
def akV(R:K1) bU zC w:=
 (?X:PT (type_of%(tt (D76 (λc=>c) no [] R (El [0,1] [bU,zC]) w= ?X) (by unfold D76 Tryz.f76 SZ MY;exact ev))))
def aEy a0 a1 w(R:K1):=
 akV R a0 a1 w
theorem aCe{a0 a1 w R}(h:aEy a0 a1 w R):aL pg Vd #[a0,a1] w R:=
 gF (ann:=MY) Tryz.f76 WN [a0,a1] SZ 30 TryzM.mixed Tryz.func76 (gI h bH)
def Bc:FA:=nA DP
def CV:List ResultVar:=[.tmp 4,.tmp 5]
noncomputable def Jf:Code:=aO Tryz.f78
def D78:DT:=bP pg Bc Jf Tryz.f78 (gP CV)
def Ot(R:K1) sQ y_1 w:=
 (?X:PT (type_of%(tt (D78 (λc=>c) no [] R (El [0,1] [sQ,y_1]) w= ?X) (by unfold D78 Tryz.f78 CV Bc;exact ev))))
def Xm a0 a1 w(R:K1):=
 Ot R a0 a1 w
theorem aaK{a0 a1 w R}(h:Xm a0 a1 w R):aL pg DP #[a0,a1] w R:=
 gF (ann:=Bc) Tryz.f78 Jf [a0,a1] CV 51 TryzM.mixed Tryz.func78 (gI h bH)
def gS:FA:=⟨DN,λi=>match Nat.beq i 3 with|true=>lf (fz 12 (ft [0,1,2,3,4,5,7,8,9,10] (ft [] [])))|false=> .leaf ([],[]) []⟩
def lM:List ResultVar:=[.cell 2 183,.tmp 3]
noncomputable def zD:Code:=aO Tryz.f79
def D79:DT:=bP pg gS zD Tryz.f79 (gP lM)
def lK(R:K1) bJ b2 h_4 CM CK w:=
 (?X:PT (type_of%(tt (D79 (λc=>(aA 1 (aA 4 c))) no [] R (El [0,2,4,5,6] [bJ,b2,h_4,CM,CK]) w= ?X) (by unfold D79 Tryz.f79 lM gS;exact ev))))
def dG(kn:K5) bJ b2 h_4 CM CK e6 w:=
 (?X:PT (type_of%(tt (D79 (λc=>(aA 1 (bI (aA 1 (aD 1 (aA 4 c)))))) (nY kn 0 2 4 5 6) [] nG (El [0,2,4,5,6,36] [bJ,b2,h_4,CM,CK,e6]) w= ?X) (by unfold D79 Tryz.f79 lM gS;exact ev))))
def Oh(kn:K6) bJ b2 h_4 CM CK d6 w:=
 (?X:PT (type_of%(tt (D79 (λc=>(aD 1 (bI (aA 1 (aD 1 (aA 4 c)))))) (Aj kn 0 2 4 5 6 36) [] nG (El [0,2,4,5,6,26] [bJ,b2,h_4,CM,CK,d6]) w= ?X) (by unfold D79 Tryz.f79 lM gS;exact ev))))
def CO(kn:K5) bJ b2 h_4 CM CK d6 w:=
 Oh (dG kn) bJ b2 h_4 CM CK d6 w
def Oi(kn:K6) bJ b2 h_4 CM CK w:=
 bF pg (pZ 183 h_4 0) w λd5 w=>
 bF pg (cK 3 d5) w λd6 w=>
 kn bJ b2 h_4 CM CK d6 w
def CP(kn:K5) bJ b2 h_4 CM CK w:=
 Oi (CO kn) bJ b2 h_4 CM CK w
def CQ(R:K1) bJ b2 h_4 CM CK w:=
 CP (lK R) bJ b2 h_4 CM CK w
theorem YR(kn:K5)(hn:N5 Q kn 0 2 4 5 6)(h:CP kn (g 0) (g 2) (g 4) (g 5) (g 6) w):bQ pg gS (aD 1 (aA 4 zD)) Q g w:=
 bC 1 (dP (Aj (CO kn) 0 2 4 5 6 26) h (λg w h=>aC (jP 0 (bC 1 (dP (Aj (dG kn) 0 2 4 5 6 36) h (λg w h=>aC (dP _ h hn)))))))
def Oj(kn:K5)(R:K1) bJ w:=
 (?X:PT (type_of%(tt (D79 (λc=>(aD 4 c)) (nY kn 0 2 4 5 6) [] R (El [0] [bJ]) w= ?X) (by unfold D79 Tryz.f79 lM gS;exact ev))))
def LM(R:K1) bJ w:=
 Oj (CQ R) R bJ w
def Xj a0 w(R:K1):=
 LM R a0 w
theorem aaG{a0 w R}(h:Xj a0 w R):aL pg DN #[a0] w R:=
 gF (ann:=gS) Tryz.f79 zD [a0] lM 78 TryzM.mixed Tryz.func79 (bC 4 (vT (nY (CQ R) 0 2 4 5 6) h (λg w h=>aC (bC 1 (YR _ g w (lK R) (λg w h=>aC (gI h bH)) h))) bH))
def Al:FA:=nA DW
def CA:List ResultVar:=[.tmp 2,.tmp 3,.tmp 4]
noncomputable def Qu:Code:=aO Tryz.f80
def D80:DT:=bP pg Al Qu Tryz.f80 (gP CA)
def kO(R:K1) l_6 n_7 e_8 w:=
 (?X:PT (type_of%(tt (D80 (λc=>(aA 8 c)) no [] R (El [6,7,8] [l_6,n_7,e_8]) w= ?X) (by unfold D80 Tryz.f80 CA Al;exact ev))))
def CD(kn:K3)(R:K1) bJ w:=
 (?X:PT (type_of%(tt (D80 (λc=>(aD 8 c)) (kC kn 6 7 8) [] R (El [0] [bJ]) w= ?X) (by unfold D80 Tryz.f80 CA Al;exact ev))))
def CE(R:K1) bJ w:=
 CD (kO R) R bJ w
def Mm a0 w(R:K1):=
 CE R a0 w
theorem Gy{a0 w R}(h:Mm a0 w R):aL pg DW #[a0] w R:=
 gF (ann:=Al) Tryz.f80 Qu [a0] CA 61 TryzM.mixed Tryz.func80 (bC 8 (vT (kC (kO R) 6 7 8) h (λg w h=>aC (gI h bH)) bH))
def yX:FA:=nA CG
def Bh:List ResultVar:=[.tmp 6,.tmp 7]
noncomputable def G1:Code:=aO Tryz.f81
def D81:DT:=bP pg yX G1 Tryz.f81 (gP Bh)
def LL(R:K1) GG l_1 b_2 w:=
 (?X:PT (type_of%(tt (D81 (λc=>c) no [] R (El [0,1,2] [GG,l_1,b_2]) w= ?X) (by unfold D81 Tryz.f81 Bh yX;exact ev))))
def Ub a0 a1 a2 w(R:K1):=
 LL R a0 a1 a2 w
theorem YQ{a0 a1 a2 w R}(h:Ub a0 a1 a2 w R):aL pg CG #[a0,a1,a2] w R:=
 gF (ann:=yX) Tryz.f81 G1 [a0,a1,a2] Bh 25 TryzM.mixed Tryz.func81 (gI h bH)
def yZ:FA:=nA CH
def Bi:List ResultVar:=[.tmp 2]
noncomputable def G2:Code:=aO Tryz.f82
def D82:DT:=bP pg yZ G2 Tryz.f82 (gP Bi)
def LP(R:K1) Ah w:=
 (?X:PT (type_of%(tt (D82 (λc=>c) no [] R (El [0] [Ah]) w= ?X) (by unfold D82 Tryz.f82 Bi yZ;exact ev))))
def Ux a0 w(R:K1):=
 LP R a0 w
theorem YW{a0 w R}(h:Ux a0 w R):aL pg CH #[a0] w R:=
 gF (ann:=yZ) Tryz.f82 G2 [a0] Bi 25 TryzM.mixed Tryz.func82 (gI h bH)
def eU:FA:=⟨Ht,λi=>match Nat.beq i 11 with|true=> .split 11 16 (pm [0,1,2,3,4,5,6,7,8,9,10,11,12,13,14,15,16,17,18,19] [(11,16)] (fz 11 (ft [] (fz 4 (ft [0,1,2] (ft [1,2] (fz 2 []))))))) (pm [0,1,2,3,4,5,6,7,8,9,10,16,11,12,13,14,15,17,18,19] [(16,11)] (fz 11 (ft [0,1,4,5,6,7] (ft [] (fz 4 (ft [0,1] (fz 2 [])))))))|false=>match Nat.beq i 14 with|true=>lf (fz 6 (ft [1] (fz 1 [])))|false=> .leaf ([],[]) []⟩
def fQ:List ResultVar:=[.cell 4 81,.tmp 5]
noncomputable def nU:Code:=aO Tryz.f83
def D83:DT:=bP pg eU nU Tryz.f83 (gP fQ)
def Gj(R:K1) Ah b4 b_7 b8 w:=
 (?X:PT (type_of%(tt (D83 (λc=>(aA 1 (aA 5 c))) no [] R (El [0,4,7,8] [Ah,b4,b_7,b8]) w= ?X) (by unfold D83 Tryz.f83 fQ eU;exact ev))))
def xZ(kn:K7) Ah fW b4 mC b_7 b8 e3 w:=
 bF pg (bZ .add 3 iB iB e3 (a7D 1)) w λj2 w=>
 kn Ah fW b4 mC b_7 b8 j2 w
def nJ(kn:K7)(R:K1) Ah fW b4 mC b_7 b8 aVG aAx aHs aVo e3 w:=
 (?X:PT (type_of%(tt (D83 (λc=>(aA 2 (bI (aD 1 (aA 2 (bI (bI (aA 1 (aD 1 (aA 5 c)))))))))) (DZ kn 0 3 4 6 7 8 33) [] R (El [0,3,4,6,7,8,9,10,11,12,33] [Ah,fW,b4,mC,b_7,b8,aVG,aAx,aHs,aVo,e3]) w= ?X) (by unfold D83 Tryz.f83 fQ eU;exact ev))))
def Q5 (kn:K11) Ah fW b4 mC b_7 b8 e3 w:=
 (?X:PT (type_of%(tt (D83 (λc=>(aD 2 (bI (aD 1 (aA 2 (bI (bI (aA 1 (aD 1 (aA 5 c)))))))))) (aGM kn 0 3 4 6 7 8 9 10 11 12 33) [] nG (El [0,3,4,6,7,8,33] [Ah,fW,b4,mC,b_7,b8,e3]) w= ?X) (by unfold D83 Tryz.f83 fQ eU;exact ev))))
def Gk(kn:K7)(R:K1) Ah fW b4 mC b_7 b8 e3 w:=
 Q5 (nJ kn R) Ah fW b4 mC b_7 b8 e3 w
def Gl(kn:K7)(R:K1) Ah fW b4 mC b_7 b8 e3 w:=
 Gk (xZ kn) R Ah fW b4 mC b_7 b8 e3 w
theorem adY(kn:K7)(R:K1)(hn:N7 Q kn 0 3 4 6 7 8 33)(hr:HR fQ R Q)(h:Gk kn R (g 0) (g 3) (g 4) (g 6) (g 7) (g 8) (g 33) w):bQ pg eU (aD 1 (aA 2 (bI (bI (aA 1 (aD 1 (aA 5 nU))))))) Q g w:=
 jP 2 (bC 2 (dP (aGM (nJ kn R) 0 3 4 6 7 8 9 10 11 12 33) h (λg w h=>aC (vT _ h hn hr))))
def Q6 (kn:K7)(k1:K4) Ah fW b4 mC b_7 b8 e3 w:=
 bF pg (bZ .lss 3 iB iB e3 (a7D 3)) w λe4 w=>
 JJ e4
  (kn Ah fW b4 mC b_7 b8 e3 w)
  (k1 Ah b4 b_7 b8 w)
def Q7 (kn:K7)(k1:K4)(R:K1) Ah fW b4 mC b_7 b8 e3 w:=
 Q6 (Gl kn R) k1 Ah fW b4 mC b_7 b8 e3 w
def uZ(k1:K4)(R:K1) Ah fW b4 mC b_7 b8 e3 w:=
 aN (λ(X:(a7C×a7C)->K0) (t:a7C×a7C) (w:a7B)=>Q7 (λ_ _ _ _ b_7 _ e3 w=>X (b_7,e3) w) k1 R Ah fW b4 mC t.1 b8 t.2 w) (b_7,e3) w
theorem YX(k1:K4)(R:K1)(h1:E4 Q k1 1 0 4 7 8)(hr:HR fQ R Q)(h:uZ k1 R (g 0) (g 3) (g 4) (g 6) (g 7) (g 8) (g 33) w):bQ pg eU (bI (aA 1 (aD 1 (aA 5 nU)))) Q g w:=by
 refine qO (λg:Env=>(g 7,g 33)) _ h (λX g1 w1 ha hL=> ?_);rw[<-bG 0 ha,<-bG 3 ha,<-bG 4 ha,<-bG 6 ha,<-bG 8 ha]at hL;exact(bC 2 (pV [(1,(lX k1 0 4 7 8))] (kr:=no) (DZ (Gl (λ_ _ _ _ b_7 _ e3 w=>X (b_7,e3) w) R) 0 3 4 6 7 8 33) hL (λg w h=>aC (bC 1 (adY _ g w (xZ (λ_ _ _ _ b_7 _ e3 w=>X (b_7,e3) w)) R (λg w h=>aC (dP (DZ (λ_ _ _ _ b_7 _ e3 w=>X (b_7,e3) w) 0 3 4 6 7 8 33) h bH)) hr h))) sL ⟨h1,trivial⟩))
def PC(kn:K7) Ah fW b4 mC b_7 b8 w:=
 kn Ah fW b4 mC b_7 b8 (a7D 0) w
def C3 (kn:K4)(R:K1) Ah fW b4 mC b_7 b8 w:=
 PC (uZ kn R) Ah fW b4 mC b_7 b8 w
def C4 (R:K1) Ah fW b4 mC b_7 b8 w:=
 C3 (Gj R) R Ah fW b4 mC b_7 b8 w
theorem YY(kn:K4)(R:K1)(hn:N4 Q kn 0 4 7 8)(hr:HR fQ R Q)(h:C3 kn R (g 0) (g 3) (g 4) (g 6) (g 7) (g 8) w):bQ pg eU (aD 1 (aA 5 nU)) Q g w:=
 bC 1 (dP (DZ (uZ kn R) 0 3 4 6 7 8 33) h (λg w h=>aC (jP 1 (YX _ g w kn R hn hr h))))
def PD(kn:K6)(R:K1) Ah jF w:=
 (?X:PT (type_of%(tt (D83 (λc=>(aD 5 c)) (Aj kn 0 3 4 6 7 8) [] R (El [0,1] [Ah,jF]) w= ?X) (by unfold D83 Tryz.f83 fQ eU;exact ev))))
def PE(R:K1) Ah jF w:=
 PD (C4 R) R Ah jF w
def adX a0 a1 w(R:K1):=
 PE R a0 a1 w
theorem agU{a0 a1 w R}(h:adX a0 a1 w R):aL pg Ht #[a0,a1] w R:=
 gF (ann:=eU) Tryz.f83 nU [a0,a1] fQ 70 TryzM.mixed Tryz.func83 (bC 5 (vT (Aj (C4 R) 0 3 4 6 7 8) h (λg w h=>aC (bC 1 (YY _ g w (Gj R) R (λg w h=>aC (gI h bH)) bH h))) bH))
def yW:FA:=⟨uC,λi=>match Nat.beq i 3 with|true=>lf (fz 1 (ft [] (fz 1 (fu [1] (fu [2] (fu [3] (fz 2 (fu [6] (fu [7] (fu [8] (fu [9] (ft [6,7,8] (fz 3 (ft [] (fz 2 [])))))))))))))))|false=> .leaf ([],[]) []⟩
def Bg:List ResultVar:=[.tmp 2,.tmp 3]
noncomputable def G0:Code:=aO Tryz.f84
def D84:DT:=bP pg yW G0 Tryz.f84 (gP Bg)
def Bf(R:K1) bJ w:=
 (?X:PT (type_of%(tt (D84 (λc=>c) no [] R (El [0] [bJ]) w= ?X) (by unfold D84 Tryz.f84 Bg yW;exact ev))))
def HE a0 w(R:K1):=
 Bf R a0 w
theorem GZ{a0 w R}(h:HE a0 w R):aL pg uC #[a0] w R:=
 gF (ann:=yW) Tryz.f84 G0 [a0] Bg 33 TryzM.mixed Tryz.func84 (gI h bH)
def RL:FA:=nA Zd
def Wm:List ResultVar:=[.tmp 4]
noncomputable def ZD:Code:=aO Tryz.f85
def D85:DT:=bP pg RL ZD Tryz.f85 (gP Wm)
def arI(R:K1) b0 r_1 w:=
 (?X:PT (type_of%(tt (D85 (λc=>c) no [] R (El [0,1] [b0,r_1]) w= ?X) (by unfold D85 Tryz.f85 Wm RL;exact ev))))
def aF3 a0 a1 w(R:K1):=
 arI R a0 a1 w
theorem aDs{a0 a1 w R}(h:aF3 a0 a1 w R):aL pg Zd #[a0,a1] w R:=
 gF (ann:=RL) Tryz.f85 ZD [a0,a1] Wm 10 TryzM.mixed Tryz.func85 (gI h bH)
def Be:FA:=nA DU
def CX:List ResultVar:=[.tmp 8]
noncomputable def Jh:Code:=aO Tryz.f86
def D86:DT:=bP pg Be Jh Tryz.f86 (gP CX)
def PF(R:K1) bU b1 aHX r_3 w:=
 (?X:PT (type_of%(tt (D86 (λc=>c) no [] R (El [0,1,2,3] [bU,b1,aHX,r_3]) w= ?X) (by unfold D86 Tryz.f86 CX Be;exact ev))))
def Yy a0 a1 a2 a3 w(R:K1):=
 PF R a0 a1 a2 a3 w
theorem adZ{a0 a1 a2 a3 w R}(h:Yy a0 a1 a2 a3 w R):aL pg DU #[a0,a1,a2,a3] w R:=
 gF (ann:=Be) Tryz.f86 Jh [a0,a1,a2,a3] CX 40 TryzM.mixed Tryz.func86 (gI h bH)
def Vk:FA:=⟨amA,λi=>match Nat.beq i 4 with|true=>lf (fz 5 (ft [3,4] (fz 3 [])))|false=> .leaf ([],[]) []⟩
def adR:List ResultVar:=[.tmp 6]
noncomputable def ahN:Code:=aO Tryz.f87
def D87:DT:=bP pg Vk ahN Tryz.f87 (gP adR)
def aAR(R:K1) b0 aHW r_2 w:=
 (?X:PT (type_of%(tt (D87 (λc=>c) no [] R (El [0,1,2] [b0,aHW,r_2]) w= ?X) (by unfold D87 Tryz.f87 adR Vk;exact ev))))
def aI1 a0 a1 a2 w(R:K1):=
 aAR R a0 a1 a2 w
theorem aFm{a0 a1 a2 w R}(h:aI1 a0 a1 a2 w R):aL pg amA #[a0,a1,a2] w R:=
 gF (ann:=Vk) Tryz.f87 ahN [a0,a1,a2] adR 30 TryzM.mixed Tryz.func87 (gI h bH)
def uE:FA:=nA rB
def wU:List ResultVar:=[.tmp 2]
noncomputable def Dk:Code:=aO Tryz.f88
def D88:DT:=bP pg uE Dk Tryz.f88 (gP wU)
def GX(R:K1) Ah w:=
 (?X:PT (type_of%(tt (D88 (λc=>c) no [] R (El [0] [Ah]) w= ?X) (by unfold D88 Tryz.f88 wU uE;exact ev))))
def M6 a0 w(R:K1):=
 GX R a0 w
theorem Tm{a0 w R}(h:M6 a0 w R):aL pg rB #[a0] w R:=
 gF (ann:=uE) Tryz.f88 Dk [a0] wU 9 TryzM.mixed Tryz.func88 (gI h bH)
def Eb:FA:=nA kJ
def HY:List ResultVar:=[.tmp 5]
noncomputable def Ng:Code:=aO Tryz.f89
def D89:DT:=bP pg Eb Ng Tryz.f89 (gP HY)
def TP(R:K1) n_0 b1 b2 b3 w:=
 (?X:PT (type_of%(tt (D89 (λc=>c) no [] R (El [0,1,2,3] [n_0,b1,b2,b3]) w= ?X) (by unfold D89 Tryz.f89 HY Eb;exact ev))))
def aiG a0 a1 a2 a3 w(R:K1):=
 TP R a0 a1 a2 a3 w
theorem amQ{a0 a1 a2 a3 w R}(h:aiG a0 a1 a2 a3 w R):aL pg kJ #[a0,a1,a2,a3] w R:=
 gF (ann:=Eb) Tryz.f89 Ng [a0,a1,a2,a3] HY 15 TryzM.mixed Tryz.func89 (gI h bH)
def pN:FA:=⟨Hp,λi=>match Nat.beq i 5 with|true=>lf (fz 8 (ft [5,6,7] (fz 1 (ft [] (fz 1 [])))))|false=> .leaf ([],[]) []⟩
def rO:List ResultVar:=[.tmp 4,.cell 5 75,.tmp 6]
noncomputable def Lw:Code:=aO Tryz.f90
def D90:DT:=bP pg pN Lw Tryz.f90 (gP rO)
def xN(R:K1) r_2 b5 aDL k_8 aRq w:=
 (?X:PT (type_of%(tt (D90 (λc=>(aA 2 (aA 6 c))) no [] R (El [2,5,7,8,9] [r_2,b5,aDL,k_8,aRq]) w= ?X) (by unfold D90 Tryz.f90 rO pN;exact ev))))
def Qz(kn:K5) r_2 b5 aDL k_8 w:=
 (?X:PT (type_of%(tt (D90 (λc=>(aD 2 (aA 6 c))) (nY kn 2 5 7 8 9) [] nG (El [2,5,7,8] [r_2,b5,aDL,k_8]) w= ?X) (by unfold D90 Tryz.f90 rO pN;exact ev))))
def xO(R:K1) r_2 b5 aDL k_8 w:=
 Qz (xN R) r_2 b5 aDL k_8 w
def QB(kn:K4)(R:K1) Ah s_1 w:=
 (?X:PT (type_of%(tt (D90 (λc=>(aD 6 c)) (lX kn 2 5 7 8) [] R (El [0,1] [Ah,s_1]) w= ?X) (by unfold D90 Tryz.f90 rO pN;exact ev))))
def QC(R:K1) Ah s_1 w:=
 QB (xO R) R Ah s_1 w
def ZO a0 a1 w(R:K1):=
 QC R a0 a1 w
theorem agF{a0 a1 w R}(h:ZO a0 a1 w R):aL pg Hp #[a0,a1] w R:=
 gF (ann:=pN) Tryz.f90 Lw [a0,a1] rO 54 TryzM.mixed Tryz.func90 (bC 6 (vT (lX (xO R) 2 5 7 8) h (λg w h=>aC (bC 2 (dP (nY (xN R) 2 5 7 8 9) h (λg w h=>aC (gI h bH))))) bH))
def RN:FA:=nA Zk
def Wo:List ResultVar:=[.tmp 4]
noncomputable def ZF:Code:=aO Tryz.f91
def D91:DT:=bP pg RN ZF Tryz.f91 (gP Wo)
def axA(R:K1) v_0 x_1 w:=
 (?X:PT (type_of%(tt (D91 (λc=>c) no [] R (El [0,1] [v_0,x_1]) w= ?X) (by unfold D91 Tryz.f91 Wo RN;exact ev))))
def aGK a0 a1 w(R:K1):=
 axA R a0 a1 w
theorem aE9 {a0 a1 w R}(h:aGK a0 a1 w R):aL pg Zk #[a0,a1] w R:=
 gF (ann:=RN) Tryz.f91 ZF [a0,a1] Wo 11 TryzM.mixed Tryz.func91 (gI h bH)
def zA:FA:=nA Vi
def S2:List ResultVar:=[.tmp 2]
noncomputable def BZ:Code:=aO Tryz.f92
def D92:DT:=bP pg zA BZ Tryz.f92 (gP S2)
def I0 (R:K1) iP w:=
 R iP w
def Ta(kn:K4)(k0:K1) iP b6 b7 b8 w:=
 (?X:PT (type_of%(tt (D92 (λc=>(bI (bI (aA 1 (aD 1 (aA 2 c)))))) (lX kn 3 6 7 8) [(0,(AN k0 3))] nG (El [3,6,7,8] [iP,b6,b7,b8]) w= ?X) (by unfold D92 Tryz.f92 S2 zA;exact ev))))
def I1 (k0:K1) iP b6 b7 b8 w:=
 aN (λ(X:(a7C×a7C)->K0) (t:a7C×a7C) (w:a7B)=>Ta (λiP _ _ b8 w=>X (iP,b8) w) k0 t.1 b6 b7 t.2 w) (iP,b8) w
theorem aAz(k0:K1)(h0:E1 Q k0 0 3)(h:I1 k0 (g 3) (g 6) (g 7) (g 8) w):bQ pg zA (bI (aA 1 (aD 1 (aA 2 BZ)))) Q g w:=by
 refine qO (λg:Env=>(g 3,g 8)) _ h (λX g1 w1 ha hL=> ?_);rw[<-bG 6 ha,<-bG 7 ha]at hL;exact(pV [(0,(AN k0 3))] (kr:=no) (lX (λiP _ _ b8 w=>X (iP,b8) w) 3 6 7 8) hL bH sL ⟨h0,trivial⟩)
def alW(kn:K4) bJ iP w:=
 bF pg (yM .len #[22] 3 [bJ]) w λb7 w=>
 kn iP bJ b7 (a7D 0) w
def Tb(kn:K1) bJ iP w:=
 alW (I1 kn) bJ iP w
def Tc(R:K1) bJ iP w:=
 Tb (I0 R) bJ iP w
theorem aAA(kn:K1)(hn:N1 Q kn 3)(h:Tb kn (g 0) (g 3) w):bQ pg zA (aD 1 (aA 2 BZ)) Q g w:=
 bC 1 (dP (lX (I1 kn) 3 6 7 8) h (λg w h=>aC (jP 0 (aAz _ g w kn hn h))))
def alX(kn:K2) bJ w:=
 kn bJ (.int .u64 0) w
def alY(R:K1) bJ w:=
 alX (Tc R) bJ w
def aE8 a0 w(R:K1):=
 alY R a0 w
theorem aCr{a0 w R}(h:aE8 a0 w R):aL pg Vi #[a0] w R:=
 gF (ann:=zA) Tryz.f92 BZ [a0] S2 23 TryzM.mixed Tryz.func92 (bC 2 (dP (vJ (Tc R) 0 3) h (λg w h=>aC (bC 1 (aAA _ g w (I0 R) (λg w h=>aC (gI h bH)) h)))))
def eD:FA:=nA DY
def pY:List ResultVar:=[.tmp 2]
noncomputable def jD:Code:=aO Tryz.f93
def D93:DT:=bP pg eD jD Tryz.f93 (gP pY)
def iW(R:K1) iP w:=
 R iP w
def Df(kn:K3)(k2:K1) iP e2 e3 w:=
 (?X:PT (type_of%(tt (D93 (λc=>(bI (bI (aA 1 (aD 1 (aA 1 (aA 3 c))))))) (kC kn 3 32 33) [(2,(AN k2 3))] nG (El [3,32,33] [iP,e2,e3]) w= ?X) (by unfold D93 Tryz.f93 pY eD;exact ev))))
def fZ(k2:K1) iP e2 e3 w:=
 aN (λ(X:(a7C×a7C)->K0) (t:a7C×a7C) (w:a7B)=>Df (λiP _ e3 w=>X (iP,e3) w) k2 t.1 e2 t.2 w) (iP,e3) w
theorem Y8 (k2:K1)(h2:E1 Q k2 2 3)(h:fZ k2 (g 3) (g 32) (g 33) w):bQ pg eD (bI (aA 1 (aD 1 (aA 1 (aA 3 jD))))) Q g w:=by
 refine qO (λg:Env=>(g 3,g 33)) _ h (λX g1 w1 ha hL=> ?_);rw[<-bG 32 ha]at hL;exact(pV [(2,(AN k2 3))] (kr:=no) (kC (λiP _ e3 w=>X (iP,e3) w) 3 32 33) hL bH sL ⟨h2,trivial⟩)
def lW(kn:K3) GG iP w:=
 bF pg (aL4 GG) w λe0 w=>
 bF pg (pZ 204 e0 0) w λe1 w=>
 bF pg (cK 101 e1) w λe2 w=>
 kn iP e2 (a7D 0) w
def iX(kn:K1) GG iP w:=
 lW (fZ kn) GG iP w
def iY(R:K1) GG iP w:=
 iX (iW R) GG iP w
theorem Y9 (kn:K1)(hn:N1 Q kn 3)(h:iX kn (g 0) (g 3) w):bQ pg eD (aD 1 (aA 1 (aA 3 jD))) Q g w:=
 bC 1 (dP (kC (fZ kn) 3 32 33) h (λg w h=>aC (jP 2 (Y8 _ g w kn hn h))))
def Dg(kn:K4)(k0:K2) GG iP c3 c4 w:=
 (?X:PT (type_of%(tt (D93 (λc=>(bI (bI (aA 1 (aD 1 (aA 3 c)))))) (lX kn 0 3 13 14) [(0,(vJ k0 0 3))] nG (El [0,3,13,14] [GG,iP,c3,c4]) w= ?X) (by unfold D93 Tryz.f93 pY eD;exact ev))))
def gA(k0:K2) GG iP c3 c4 w:=
 aN (λ(X:(a7C×a7C)->K0) (t:a7C×a7C) (w:a7B)=>Dg (λ_ iP _ c4 w=>X (iP,c4) w) k0 GG t.1 c3 t.2 w) (iP,c4) w
theorem Za(k0:K2)(h0:E2 Q k0 0 0 3)(h:gA k0 (g 0) (g 3) (g 13) (g 14) w):bQ pg eD (bI (aA 1 (aD 1 (aA 3 jD)))) Q g w:=by
 refine qO (λg:Env=>(g 3,g 14)) _ h (λX g1 w1 ha hL=> ?_);rw[<-bG 0 ha,<-bG 13 ha]at hL;exact(pV [(0,(vJ k0 0 3))] (kr:=no) (lX (λ_ iP _ c4 w=>X (iP,c4) w) 0 3 13 14) hL bH sL ⟨h0,trivial⟩)
def kG(kn:K4) GG iP w:=
 bF pg (dK 105 [(0,(a7D 1)),(1,(a7D 7)),(2,(a7D 12)),(3,(a7D 18))]) w λc3 w=>
 kn GG iP c3 (a7D 0) w
def gT(kn:K2) GG iP w:=
 kG (gA kn) GG iP w
def gU(R:K1) GG iP w:=
 gT (iY R) GG iP w
theorem Wt(kn:K2)(hn:N2 Q kn 0 3)(h:gT kn (g 0) (g 3) w):bQ pg eD (aD 1 (aA 3 jD)) Q g w:=
 bC 1 (dP (lX (gA kn) 0 3 13 14) h (λg w h=>aC (jP 0 (Za _ g w kn hn h))))
def gV(kn:K2)(R:K1) GG w:=
 (?X:PT (type_of%(tt (D93 (λc=>(aD 3 c)) (vJ kn 0 3) [] R (El [0] [GG]) w= ?X) (by unfold D93 Tryz.f93 pY eD;exact ev))))
def gW(R:K1) GG w:=
 gV (gU R) R GG w
def Lt a0 w(R:K1):=
 gW R a0 w
theorem afG{a0 w R}(h:Lt a0 w R):aL pg DY #[a0] w R:=
 gF (ann:=eD) Tryz.f93 jD [a0] pY 44 TryzM.mixed Tryz.func93 (bC 3 (vT (vJ (gU R) 0 3) h (λg w h=>aC (bC 1 (Wt _ g w (iY R) (λg w h=>aC (bC 1 (Y9 _ g w (iW R) (λg w h=>aC (gI h bH)) h))) h))) bH))
def pO:FA:=nA sB
def qQ:List ResultVar:=[.tmp 4]
noncomputable def xF:Code:=aO Tryz.f94
def D94:DT:=bP pg pO xF Tryz.f94 (gP qQ)
def A4 (R:K1) sQ k_1 w:=
 (?X:PT (type_of%(tt (D94 (λc=>c) no [] R (El [0,1] [sQ,k_1]) w= ?X) (by unfold D94 Tryz.f94 qQ pO;exact ev))))
def Ft a0 a1 w(R:K1):=
 A4 R a0 a1 w
theorem L8 {a0 a1 w R}(h:Ft a0 a1 w R):aL pg sB #[a0,a1] w R:=
 gF (ann:=pO) Tryz.f94 xF [a0,a1] qQ 17 TryzM.mixed Tryz.func94 (gI h bH)
def vM:FA:=nA Rz
def Ae:List ResultVar:=[.tmp 2]
noncomputable def Ar:Code:=aO Tryz.f95
def D95:DT:=bP pg vM Ar Tryz.f95 (gP Ae)
def O0 (R:K1) eT w:=
 R eT w
def O1 (kn:K3) dJ eT cV w:=
 bF pg (bZ .add 3 iB iB cV (a7D 1)) w λc0 w=>
 kn dJ eT c0 w
def acN(kn:K3)(k0:K1)(R:K1) dJ eT cV w:=
 (?X:PT (type_of%(tt (D95 (λc=>(aD 2 (bI (bI (aA 1 (aD 1 (aA 2 c))))))) (kC kn 0 3 4) [(0,(AN k0 3))] R (El [0,3,4] [dJ,eT,cV]) w= ?X) (by unfold D95 Tryz.f95 Ae vM;exact ev))))
def acO(kn:K3)(k0:K1)(R:K1) dJ eT cV w:=
 acN (O1 kn) k0 R dJ eT cV w
def FX(k0:K1)(R:K1) dJ eT cV w:=
 aN (λ(X:(a7C×a7C)->K0) (t:a7C×a7C) (w:a7B)=>acO (λ_ eT cV w=>X (eT,cV) w) k0 R dJ t.1 t.2 w) (eT,cV) w
theorem auO(k0:K1)(R:K1)(h0:E1 Q k0 0 3)(hr:HR Ae R Q)(h:FX k0 R (g 0) (g 3) (g 4) w):bQ pg vM (bI (aA 1 (aD 1 (aA 2 Ar)))) Q g w:=by
 refine qO (λg:Env=>(g 3,g 4)) _ h (λX g1 w1 ha hL=> ?_);rw[<-bG 0 ha]at hL;exact(bC 2 (pV [(0,(AN k0 3))] (kC (O1 (λ_ eT cV w=>X (eT,cV) w)) 0 3 4) hL (λg w h=>aC (dP (kC (λ_ eT cV w=>X (eT,cV) w) 0 3 4) h bH)) hr ⟨h0,trivial⟩))
def acP(kn:K3) dJ eT w:=
 kn dJ eT (a7D 0) w
def O2 (kn:K1)(R:K1) dJ eT w:=
 acP (FX kn R) dJ eT w
def O3 (R:K1) dJ eT w:=
 O2 (O0 R) R dJ eT w
theorem auP(kn:K1)(R:K1)(hn:N1 Q kn 3)(hr:HR Ae R Q)(h:O2 kn R (g 0) (g 3) w):bQ pg vM (aD 1 (aA 2 Ar)) Q g w:=
 bC 1 (dP (kC (FX kn R) 0 3 4) h (λg w h=>aC (jP 0 (auO _ g w kn R hn hr h))))
def X6 (kn:K2) dJ w:=
 kn dJ (a7D 0) w
def X7 (R:K1) dJ w:=
 X6 (O3 R) dJ w
def aBc a0 w(R:K1):=
 X7 R a0 w
theorem azT{a0 w R}(h:aBc a0 w R):aL pg Rz #[a0] w R:=
 gF (ann:=vM) Tryz.f95 Ar [a0] Ae 28 TryzM.mixed Tryz.func95 (bC 2 (dP (vJ (O3 R) 0 3) h (λg w h=>aC (bC 1 (auP _ g w (O0 R) R (λg w h=>aC (gI h bH)) bH h)))))
def vK:FA:=nA Ip
def Pk:List ResultVar:=[.tmp 2]
noncomputable def An:Code:=aO Tryz.f96
def D96:DT:=bP pg vK An Tryz.f96 (gP Pk)
def OG(R:K1) iP w:=
 R iP w
def OH(kn:K3)(k0:K1) n_0 iP cV w:=
 (?X:PT (type_of%(tt (D96 (λc=>(bI (bI (aA 1 (aD 1 (aA 2 c)))))) (kC kn 0 3 4) [(0,(AN k0 3))] nG (El [0,3,4] [n_0,iP,cV]) w= ?X) (by unfold D96 Tryz.f96 Pk vK;exact ev))))
def zS(k0:K1) n_0 iP cV w:=
 aN (λ(X:(a7C×a7C)->K0) (t:a7C×a7C) (w:a7B)=>OH (λ_ iP cV w=>X (iP,cV) w) k0 n_0 t.1 t.2 w) (iP,cV) w
theorem atX(k0:K1)(h0:E1 Q k0 0 3)(h:zS k0 (g 0) (g 3) (g 4) w):bQ pg vK (bI (aA 1 (aD 1 (aA 2 An)))) Q g w:=by
 refine qO (λg:Env=>(g 3,g 4)) _ h (λX g1 w1 ha hL=> ?_);rw[<-bG 0 ha]at hL;exact(pV [(0,(AN k0 3))] (kr:=no) (kC (λ_ iP cV w=>X (iP,cV) w) 0 3 4) hL bH sL ⟨h0,trivial⟩)
def OI(kn:K3) n_0 iP w:=
 kn n_0 iP (a7D 0) w
def FK(kn:K1) n_0 iP w:=
 OI (zS kn) n_0 iP w
def FL(R:K1) n_0 iP w:=
 FK (OG R) n_0 iP w
theorem atY(kn:K1)(hn:N1 Q kn 3)(h:FK kn (g 0) (g 3) w):bQ pg vK (aD 1 (aA 2 An)) Q g w:=
 bC 1 (dP (kC (zS kn) 0 3 4) h (λg w h=>aC (jP 0 (atX _ g w kn hn h))))
def OJ(kn:K2) n_0 w:=
 kn n_0 (a7D 1) w
def OK(R:K1) n_0 w:=
 OJ (FL R) n_0 w
def abN a0 w(R:K1):=
 OK R a0 w
theorem azL{a0 w R}(h:abN a0 w R):aL pg Ip #[a0] w R:=
 gF (ann:=vK) Tryz.f96 An [a0] Pk 17 TryzM.mixed Tryz.func96 (bC 2 (dP (vJ (FL R) 0 3) h (λg w h=>aC (bC 1 (atY _ g w (OG R) (λg w h=>aC (gI h bH)) h)))))
def Bm:FA:=nA Zg
def F9:List ResultVar:=[.tmp 2]
noncomputable def EG:Code:=aO Tryz.f97
def D97:DT:=bP pg Bm EG Tryz.f97 (gP F9)
def Wb(R:K1) w:=
 R (a7D (-1)) w
def auS(kn:K2)(k0:K0)(R:K1) sQ d_3 w:=
 (?X:PT (type_of%(tt (D97 (λc=>(bI (bI (aA 1 (aD 1 (aA 1 c)))))) (vJ kn 0 3) [(0,(Mq0 k0))] R (El [0,3] [sQ,d_3]) w= ?X) (by unfold D97 Tryz.f97 F9 Bm;exact ev))))
def Mg(k0:K0)(R:K1) sQ d_3 w:=
 aN (λ(X:a7C->K0) (t:a7C) (w:a7B)=>auS (λ_ d_3 w=>X d_3 w) k0 R sQ t w) d_3 w
theorem aB7 (k0:K0)(R:K1)(h0:E0 Q k0 0)(hr:HR F9 R Q)(h:Mg k0 R (g 0) (g 3) w):bQ pg Bm (bI (aA 1 (aD 1 (aA 1 EG)))) Q g w:=by
 refine qO (λg:Env=>g 3) _ h (λX g1 w1 ha hL=> ?_);rw[<-bG 0 ha]at hL;exact(pV [(0,(Mq0 k0))] (vJ (λ_ d_3 w=>X d_3 w) 0 3) hL bH hr ⟨h0,trivial⟩)
def auT(kn:K2) sQ w:=
 kn sQ (a7D 0) w
def Wc(kn:K0)(R:K1) sQ w:=
 auT (Mg kn R) sQ w
def Wd(R:K1) sQ w:=
 Wc (Wb R) R sQ w
theorem aB8 (kn:K0)(R:K1)(hn:N0 Q kn)(hr:HR F9 R Q)(h:Wc kn R (g 0) w):bQ pg Bm (aD 1 (aA 1 EG)) Q g w:=
 bC 1 (dP (vJ (Mg kn R) 0 3) h (λg w h=>aC (jP 0 (aB7 _ g w kn R hn hr h))))
def auU(kn:K1) sQ w:=
 kn sQ w
def auV(R:K1) sQ w:=
 auU (Wd R) sQ w
def aGq a0 w(R:K1):=
 auV R a0 w
theorem aEt{a0 w R}(h:aGq a0 w R):aL pg Zg #[a0] w R:=
 gF (ann:=Bm) Tryz.f97 EG [a0] F9 13 TryzM.mixed Tryz.func97 (bC 1 (dP (AN (Wd R) 0) h (λg w h=>aC (bC 1 (aB8 _ g w (Wb R) R (λg w h=>aC (gI h bH)) bH h)))))
def qR:FA:=nA Rx
def tQ:List ResultVar:=[.tmp 2]
noncomputable def Ap:Code:=aO Tryz.f98
def D98:DT:=bP pg qR Ap Tryz.f98 (gP tQ)
def OV(R:K1) d_3 w:=
 R d_3 w
def acG(kn:K3)(k0:K1)(R:K1) dJ d_3 cV w:=
 (?X:PT (type_of%(tt (D98 (λc=>(bI (bI (aA 1 (aD 1 (aA 4 c)))))) (kC kn 0 3 4) [(0,(AN k0 3))] R (El [0,3,4] [dJ,d_3,cV]) w= ?X) (by unfold D98 Tryz.f98 tQ qR;exact ev))))
def FV(k0:K1)(R:K1) dJ d_3 cV w:=
 aN (λ(X:a7C->K0) (t:a7C) (w:a7B)=>acG (λ_ _ cV w=>X cV w) k0 R dJ d_3 t w) cV w
theorem auK(k0:K1)(R:K1)(h0:E1 Q k0 0 3)(hr:HR tQ R Q)(h:FV k0 R (g 0) (g 3) (g 4) w):bQ pg qR (bI (aA 1 (aD 1 (aA 4 Ap)))) Q g w:=by
 refine qO (λg:Env=>g 4) _ h (λX g1 w1 ha hL=> ?_);rw[<-bG 0 ha,<-bG 3 ha]at hL;exact(pV [(0,(AN k0 3))] (kC (λ_ _ cV w=>X cV w) 0 3 4) hL bH hr ⟨h0,trivial⟩)
def acH(kn:K3) dJ d_3 w:=
 kn dJ d_3 (a7D 0) w
def OW(kn:K1)(R:K1) dJ d_3 w:=
 acH (FV kn R) dJ d_3 w
def OX(R:K1) dJ d_3 w:=
 OW (OV R) R dJ d_3 w
theorem auL(kn:K1)(R:K1)(hn:N1 Q kn 3)(hr:HR tQ R Q)(h:OW kn R (g 0) (g 3) w):bQ pg qR (aD 1 (aA 4 Ap)) Q g w:=
 bC 1 (dP (kC (FV kn R) 0 3 4) h (λg w h=>aC (jP 0 (auK _ g w kn R hn hr h))))
def acI(kn:K2)(R:K1) dJ w:=
 (?X:PT (type_of%(tt (D98 (λc=>(aD 4 c)) (vJ kn 0 3) [] R (El [0] [dJ]) w= ?X) (by unfold D98 Tryz.f98 tQ qR;exact ev))))
def acJ(R:K1) dJ w:=
 acI (OX R) R dJ w
def aBa a0 w(R:K1):=
 acJ R a0 w
theorem azR{a0 w R}(h:aBa a0 w R):aL pg Rx #[a0] w R:=
 gF (ann:=qR) Tryz.f98 Ap [a0] tQ 43 TryzM.mixed Tryz.func98 (bC 4 (vT (vJ (OX R) 0 3) h (λg w h=>aC (bC 1 (auL _ g w (OV R) R (λg w h=>aC (gI h bH)) bH h))) bH))
def oK:FA:=nA Zh
def rS:List ResultVar:=[.cell 4 128,.tmp 5]
noncomputable def tC:Code:=aO Tryz.f99
def D99:DT:=bP pg oK tC Tryz.f99 (gP rS)
def avA(R:K1) b_3 b4 w:=
 bF pg (cK 128 b_3) w λi1 w=>
 bF pg (dL 128 b4 i1) w λ_u w=>
 LdR pg 128 b4 w λr0=>R (.tuple #[r0,(.int .u8 0)]) w
def We(kn:K5) cQ b_3 b4 iT mN w:=
 bF pg (bZ .add 3 iB iB mN (a7D 1)) w λc4 w=>
 kn cQ b_3 b4 iT c4 w
def avB(kn:K6)(k2:K5)(R:K1) cQ b_3 b4 iT mN qM w:=
 (?X:PT (type_of%(tt (D99 (λc=>(bI (bI (aA 4 (bI (aD 1 (aA 1 (bI (bI (aA 1 (aD 1 (aA 2 c)))))))))))) (Aj kn 0 3 4 6 7 10) [(2,(nY k2 0 3 4 6 7))] R (El [0,3,4,6,7,10] [cQ,b_3,b4,iT,mN,qM]) w= ?X) (by unfold D99 Tryz.f99 rS oK;exact ev))))
def Mh(k2:K5)(R:K1) cQ b_3 b4 iT mN qM w:=
 aN (λ(X:a7C->K0) (t:a7C) (w:a7B)=>avB (λ_ _ _ _ _ qM w=>X qM w) k2 R cQ b_3 b4 iT mN t w) qM w
theorem aB9 (k2:K5)(R:K1)(h2:E5 Q k2 2 0 3 4 6 7)(hr:HR rS R Q)(h:Mh k2 R (g 0) (g 3) (g 4) (g 6) (g 7) (g 10) w):bQ pg oK (bI (aA 4 (bI (aD 1 (aA 1 (bI (bI (aA 1 (aD 1 (aA 2 tC)))))))))) Q g w:=by
 refine qO (λg:Env=>g 10) _ h (λX g1 w1 ha hL=> ?_);rw[<-bG 0 ha,<-bG 3 ha,<-bG 4 ha,<-bG 6 ha,<-bG 7 ha]at hL;exact(pV [(2,(nY k2 0 3 4 6 7))] (Aj (λ_ _ _ _ _ qM w=>X qM w) 0 3 4 6 7 10) hL bH hr ⟨h2,trivial⟩)
def avC(kn:K6) cQ b_3 b4 iT mN w:=
 (?X:PT (type_of%(tt (D99 (λc=>(aD 4 (bI (aD 1 (aA 1 (bI (bI (aA 1 (aD 1 (aA 2 c)))))))))) (Aj kn 0 3 4 6 7 10) [] nG (El [0,3,4,6,7] [cQ,b_3,b4,iT,mN]) w= ?X) (by unfold D99 Tryz.f99 rS oK;exact ev))))
def Wf(kn:K5)(R:K1) cQ b_3 b4 iT mN w:=
 avC (Mh kn R) cQ b_3 b4 iT mN w
def Wg(kn:K5)(R:K1) cQ b_3 b4 iT mN w:=
 Wf (We kn) R cQ b_3 b4 iT mN w
theorem aCa(kn:K5)(R:K1)(hn:N5 Q kn 0 3 4 6 7)(hr:HR rS R Q)(h:Wf kn R (g 0) (g 3) (g 4) (g 6) (g 7) w):bQ pg oK (aD 1 (aA 1 (bI (bI (aA 1 (aD 1 (aA 2 tC))))))) Q g w:=
 jP 1 (bC 4 (dP (Aj (Mh kn R) 0 3 4 6 7 10) h (λg w h=>aC (jP 2 (aB9 _ g w kn R hn hr h)))))
def akF(kn:K5)(k0:K2) cQ b_3 b4 iT mN w:=
 bF pg (bZ .leq 3 iB iB mN (a7D 11)) w λc2 w=>
 JJ c2
  (kn cQ b_3 b4 iT mN w)
  (k0 b_3 b4 w)
def akG(kn:K5)(k0:K2)(R:K1) cQ b_3 b4 iT mN w:=
 akF (Wg kn R) k0 cQ b_3 b4 iT mN w
def IL(k0:K2)(R:K1) cQ b_3 b4 iT mN w:=
 aN (λ(X:(a7C×a7C)->K0) (t:a7C×a7C) (w:a7B)=>akG (λ_ _ _ iT mN w=>X (iT,mN) w) k0 R cQ b_3 b4 t.1 t.2 w) (iT,mN) w
theorem azU(k0:K2)(R:K1)(h0:E2 Q k0 0 3 4)(hr:HR rS R Q)(h:IL k0 R (g 0) (g 3) (g 4) (g 6) (g 7) w):bQ pg oK (bI (aA 1 (aD 1 (aA 2 tC)))) Q g w:=by
 refine qO (λg:Env=>(g 6,g 7)) _ h (λX g1 w1 ha hL=> ?_);rw[<-bG 0 ha,<-bG 3 ha,<-bG 4 ha]at hL;exact(bC 1 (pV [(0,(vJ k0 3 4))] (kr:=no) (nY (Wg (λ_ _ _ iT mN w=>X (iT,mN) w) R) 0 3 4 6 7) hL (λg w h=>aC (bC 1 (aCa _ g w (We (λ_ _ _ iT mN w=>X (iT,mN) w)) R (λg w h=>aC (dP (nY (λ_ _ _ iT mN w=>X (iT,mN) w) 0 3 4 6 7) h bH)) hr h))) sL ⟨h0,trivial⟩))
def akH(kn:K5) cQ b_3 b4 iT w:=
 kn cQ b_3 b4 iT (a7D 1) w
def SB(kn:K2)(R:K1) cQ b_3 b4 iT w:=
 akH (IL kn R) cQ b_3 b4 iT w
def SC(R:K1) cQ b_3 b4 iT w:=
 SB (avA R) R cQ b_3 b4 iT w
theorem azV(kn:K2)(R:K1)(hn:N2 Q kn 3 4)(hr:HR rS R Q)(h:SB kn R (g 0) (g 3) (g 4) (g 6) w):bQ pg oK (aD 1 (aA 2 tC)) Q g w:=
 bC 1 (dP (nY (IL kn R) 0 3 4 6 7) h (λg w h=>aC (jP 0 (azU _ g w kn R hn hr h))))
def akI(kn:K4) cQ Ei w:=
 bF pg (aKd 128 Ei) w λb_3 w=>
 bF pg (Gc 128) w λb4 w=>
 kn cQ b_3 b4 (a7D 0) w
def akJ(R:K1) cQ Ei w:=
 akI (SC R) cQ Ei w
def aGr a0 a1 w(R:K1):=
 akJ R a0 a1 w
theorem aEu{a0 a1 w R}(h:aGr a0 a1 w R):aL pg Zh #[a0,a1] w R:=
 gF (ann:=oK) Tryz.f99 tC [a0,a1] rS 52 TryzM.mixed Tryz.func99 (bC 2 (dP (lX (SC R) 0 3 4 6) h (λg w h=>aC (bC 1 (azV _ g w (avA R) R (λg w h=>aC (gI h bH)) bH h)))))
def J2:FA:=nA RC
def Po:List ResultVar:=[.cell 2 166]
noncomputable def Tv:Code:=aO Tryz.f100
def aWQ:DT:=bP pg J2 Tv Tryz.f100 (gP Po)
def acW(R:K1) bU w:=
 (?X:PT (type_of%(tt (aWQ (λc=>c) no [] R (El [0] [bU]) w= ?X) (by unfold aWQ Tryz.f100 Po J2;exact ev))))
def aBe a0 w(R:K1):=
 acW R a0 w
theorem azZ{a0 w R}(h:aBe a0 w R):aL pg RC #[a0] w R:=
 gF (ann:=J2) Tryz.f100 Tv [a0] Po 13 TryzM.mixed Tryz.func100 (gI h bH)
def MU:FA:=nA U5
def SU:List ResultVar:=[.cell 4 213,.tmp 5,.tmp 6]
noncomputable def WG:Code:=aO Tryz.f101
def aWR:DT:=bP pg MU WG Tryz.f101 (gP SU)
def ajT(R:K1) f_0 lL w:=
 (?X:PT (type_of%(tt (aWR (λc=>c) no [] R (El [0,1] [f_0,lL]) w= ?X) (by unfold aWR Tryz.f101 SU MU;exact ev))))
def aEl a0 a1 w(R:K1):=
 ajT R a0 a1 w
theorem aB0 {a0 a1 w R}(h:aEl a0 a1 w R):aL pg U5 #[a0,a1] w R:=
 gF (ann:=MU) Tryz.f101 WG [a0,a1] SU 41 TryzM.mixed Tryz.func101 (gI h bH)
def MW:FA:=nA U8
def SX:List ResultVar:=[.cell 4 213,.tmp 5,.tmp 6]
noncomputable def WI:Code:=aO Tryz.f102
def aWS:DT:=bP pg MW WI Tryz.f102 (gP SX)
def akA(R:K1) f_0 aLy w:=
 (?X:PT (type_of%(tt (aWS (λc=>c) no [] R (El [0,1] [f_0,aLy]) w= ?X) (by unfold aWS Tryz.f102 SX MW;exact ev))))
def aEp a0 a1 w(R:K1):=
 akA R a0 a1 w
theorem aB4 {a0 a1 w R}(h:aEp a0 a1 w R):aL pg U8 #[a0,a1] w R:=
 gF (ann:=MW) Tryz.f102 WI [a0,a1] SX 65 TryzM.mixed Tryz.func102 (gI h bH)
def MV:FA:=nA U6
def SW:List ResultVar:=[.tmp 2]
noncomputable def WH:Code:=aO Tryz.f103
def aWT:DT:=bP pg MV WH Tryz.f103 (gP SW)
def ajU(R:K1) f_0 w:=
 (?X:PT (type_of%(tt (aWT (λc=>c) no [] R (El [0] [f_0]) w= ?X) (by unfold aWT Tryz.f103 SW MV;exact ev))))
def aEm a0 w(R:K1):=
 ajU R a0 w
theorem aB1 {a0 w R}(h:aEm a0 w R):aL pg U6 #[a0] w R:=
 gF (ann:=MV) Tryz.f103 WH [a0] SW 7 TryzM.mixed Tryz.func103 (gI h bH)
def J0:FA:=nA Ru
def Pj:List ResultVar:=[.tmp 4]
noncomputable def Tt:Code:=aO Tryz.f104
def aWU:DT:=bP pg J0 Tt Tryz.f104 (gP Pj)
def abM(R:K1) YJ Ou w:=
 (?X:PT (type_of%(tt (aWU (λc=>c) no [] R (El [0,1] [YJ,Ou]) w= ?X) (by unfold aWU Tryz.f104 Pj J0;exact ev))))
def aA6 a0 a1 w(R:K1):=
 abM R a0 a1 w
theorem azI{a0 a1 w R}(h:aA6 a0 a1 w R):aL pg Ru #[a0,a1] w R:=
 gF (ann:=J0) Tryz.f104 Tt [a0,a1] Pj 14 TryzM.mixed Tryz.func104 (gI h bH)
def sV:FA:=nA Mz
def Ln:List ResultVar:=[.tmp 2]
noncomputable def xH:Code:=aO Tryz.f105
def aWV:DT:=bP pg sV xH Tryz.f105 (gP Ln)
def Kp(R:K1) iP w:=
 R iP w
def B9 (kn:K3) dJ iP cV w:=
 bF pg (bZ .sub 3 iB iB cV (a7D 1)) w λc1 w=>
 kn dJ iP c1 w
def Xv(kn:K3)(k0:K1) dJ iP cV w:=
 (?X:PT (type_of%(tt (aWV (λc=>(aD 2 (bI (bI (aA 1 (aD 1 (aA 2 c))))))) (kC kn 0 3 4) [(0,(AN k0 3))] nG (El [0,3,4] [dJ,iP,cV]) w= ?X) (by unfold aWV Tryz.f105 Ln sV;exact ev))))
def Xw(kn:K3)(k0:K1) dJ iP cV w:=
 Xv (B9 kn) k0 dJ iP cV w
def Ca(k0:K1) dJ iP cV w:=
 aN (λ(X:(a7C×a7C)->K0) (t:a7C×a7C) (w:a7B)=>Xw (λ_ iP cV w=>X (iP,cV) w) k0 dJ t.1 t.2 w) (iP,cV) w
theorem anR(k0:K1)(h0:E1 Q k0 0 3)(h:Ca k0 (g 0) (g 3) (g 4) w):bQ pg sV (bI (aA 1 (aD 1 (aA 2 xH)))) Q g w:=by
 refine qO (λg:Env=>(g 3,g 4)) _ h (λX g1 w1 ha hL=> ?_);rw[<-bG 0 ha]at hL;exact(bC 2 (pV [(0,(AN k0 3))] (kr:=no) (kC (B9 (λ_ iP cV w=>X (iP,cV) w)) 0 3 4) hL (λg w h=>aC (dP (kC (λ_ iP cV w=>X (iP,cV) w) 0 3 4) h bH)) sL ⟨h0,trivial⟩))
def Xx(kn:K3) dJ iP w:=
 bF pg (yM .len #[126] 3 [dJ]) w λb6 w=>
 bF pg (bZ .sub 3 iB iB b6 (a7D 1)) w λb7 w=>
 kn dJ iP b7 w
def Kq(kn:K1) dJ iP w:=
 Xx (Ca kn) dJ iP w
def Kr(R:K1) dJ iP w:=
 Kq (Kp R) dJ iP w
theorem anS(kn:K1)(hn:N1 Q kn 3)(h:Kq kn (g 0) (g 3) w):bQ pg sV (aD 1 (aA 2 xH)) Q g w:=
 bC 1 (dP (kC (Ca kn) 0 3 4) h (λg w h=>aC (jP 0 (anR _ g w kn hn h))))
def Uk(kn:K2) dJ w:=
 kn dJ (.int .u64 0) w
def Ul(R:K1) dJ w:=
 Uk (Kr R) dJ w
def atV a0 w(R:K1):=
 Ul R a0 w
theorem atW{a0 w R}(h:atV a0 w R):aL pg Mz #[a0] w R:=
 gF (ann:=sV) Tryz.f105 xH [a0] Ln 21 TryzM.mixed Tryz.func105 (bC 2 (dP (vJ (Kr R) 0 3) h (λg w h=>aC (bC 1 (anS _ g w (Kp R) (λg w h=>aC (gI h bH)) h)))))
def sW:FA:=nA Vc
def IY:List ResultVar:=[.tmp 2]
noncomputable def BY:Code:=aO Tryz.f106
def aSI:DT:=bP pg sW BY Tryz.f106 (gP IY)
def SD(R:K1) cN w:=
 R cN w
def akR(kn:K3)(k0:K1) bU cN cV w:=
 (?X:PT (type_of%(tt (aSI (λc=>(bI (bI (aA 1 (aD 1 (aA 4 c)))))) (kC kn 0 3 4) [(0,(AN k0 3))] nG (El [0,3,4] [bU,cN,cV]) w= ?X) (by unfold aSI Tryz.f106 IY sW;exact ev))))
def IQ(k0:K1) bU cN cV w:=
 aN (λ(X:(a7C×a7C)->K0) (t:a7C×a7C) (w:a7B)=>akR (λ_ cN cV w=>X (cN,cV) w) k0 bU t.1 t.2 w) (cN,cV) w
theorem azX(k0:K1)(h0:E1 Q k0 0 3)(h:IQ k0 (g 0) (g 3) (g 4) w):bQ pg sW (bI (aA 1 (aD 1 (aA 4 BY)))) Q g w:=by
 refine qO (λg:Env=>(g 3,g 4)) _ h (λX g1 w1 ha hL=> ?_);rw[<-bG 0 ha]at hL;exact(pV [(0,(AN k0 3))] (kr:=no) (kC (λ_ cN cV w=>X (cN,cV) w) 0 3 4) hL bH sL ⟨h0,trivial⟩)
def akS(kn:K3) bU cN w:=
 kn bU cN (a7D 0) w
def SE(kn:K1) bU cN w:=
 akS (IQ kn) bU cN w
def SF(R:K1) bU cN w:=
 SE (SD R) bU cN w
theorem azY(kn:K1)(hn:N1 Q kn 3)(h:SE kn (g 0) (g 3) w):bQ pg sW (aD 1 (aA 4 BY)) Q g w:=
 bC 1 (dP (kC (IQ kn) 0 3 4) h (λg w h=>aC (jP 0 (azX _ g w kn hn h))))
def akT(kn:K2)(R:K1) bU w:=
 (?X:PT (type_of%(tt (aSI (λc=>(aD 4 c)) (vJ kn 0 3) [] R (El [0] [bU]) w= ?X) (by unfold aSI Tryz.f106 IY sW;exact ev))))
def akU(R:K1) bU w:=
 akT (SF R) R bU w
def aEx a0 w(R:K1):=
 akU R a0 w
theorem aCd{a0 w R}(h:aEx a0 w R):aL pg Vc #[a0] w R:=
 gF (ann:=sW) Tryz.f106 BY [a0] IY 24 TryzM.mixed Tryz.func106 (bC 4 (vT (vJ (SF R) 0 3) h (λg w h=>aC (bC 1 (azY _ g w (SD R) (λg w h=>aC (gI h bH)) h))) bH))
def iR:FA:=nA Hv
def xY:List ResultVar:=[.tmp 4,.tmp 5]
noncomputable def nV:Code:=aO Tryz.f107
def aSJ:DT:=bP pg iR nV Tryz.f107 (gP xY)
def Gz(R:K1) eP w:=
 R (.tuple #[eP,(a7D 0)]) w
def yB(kn:K4) bJ eP c5 c6 w:=
 bF pg (bZ .add 3 iB iB c6 (a7D 1)) w λe4 w=>
 kn bJ eP c5 e4 w
def yC(kn:K4) bJ eP c_8 c5 c6 w:=
 bF pg (bZ .and 5 iB iB c_8 (.int .u8 15)) w λe1 w=>
 bF pg (fX 22 1 [(0,e1)]) w λe2 w=>
 bF pg (yM .append #[22,22] 22 [eP,e2]) w λe3 w=>
 kn bJ e3 c5 c6 w
def Re(kn:K5) bJ eP c5 c6 w:=
 (?X:PT (type_of%(tt (aSJ (λc=>(aD 3 (bI (aD 1 (aA 2 (bI (bI (aA 1 (aD 1 (aA 3 c)))))))))) (nY kn 0 6 8 15 16) [] nG (El [0,6,15,16] [bJ,eP,c5,c6]) w= ?X) (by unfold aSJ Tryz.f107 xY iR;exact ev))))
def GA(kn:K4) bJ eP c5 c6 w:=
 Re (yC kn) bJ eP c5 c6 w
def GB(kn:K4) bJ eP c5 c6 w:=
 GA (yB kn) bJ eP c5 c6 w
theorem aeY(kn:K4)(hn:N4 Q kn 0 6 15 16)(h:GA kn (g 0) (g 6) (g 15) (g 16) w):bQ pg iR (aD 1 (aA 2 (bI (bI (aA 1 (aD 1 (aA 3 nV))))))) Q g w:=
 jP 1 (bC 3 (dP (nY (yC kn) 0 6 8 15 16) h (λg w h=>aC (dP _ h hn))))
def Rf(kn:K4)(k0:K1) bJ eP c5 c6 w:=
 bF pg (bZ .lss 3 iB iB c6 c5) w λc7 w=>
 JJ c7
  (kn bJ eP c5 c6 w)
  (k0 eP w)
def Rg(kn:K4)(k0:K1) bJ eP c5 c6 w:=
 Rf (GB kn) k0 bJ eP c5 c6 w
def vD(k0:K1) bJ eP c5 c6 w:=
 aN (λ(X:(a7C×a7C)->K0) (t:a7C×a7C) (w:a7B)=>Rg (λ_ eP _ c6 w=>X (eP,c6) w) k0 bJ t.1 c5 t.2 w) (eP,c6) w
theorem Y3 (k0:K1)(h0:E1 Q k0 0 6)(h:vD k0 (g 0) (g 6) (g 15) (g 16) w):bQ pg iR (bI (aA 1 (aD 1 (aA 3 nV)))) Q g w:=by
 refine qO (λg:Env=>(g 6,g 16)) _ h (λX g1 w1 ha hL=> ?_);rw[<-bG 0 ha,<-bG 15 ha]at hL;exact(bC 2 (pV [(0,(AN k0 6))] (kr:=no) (lX (GB (λ_ eP _ c6 w=>X (eP,c6) w)) 0 6 15 16) hL (λg w h=>aC (bC 1 (aeY _ g w (yB (λ_ eP _ c6 w=>X (eP,c6) w)) (λg w h=>aC (dP (lX (λ_ eP _ c6 w=>X (eP,c6) w) 0 6 15 16) h bH)) h))) sL ⟨h0,trivial⟩))
def PW(kn:K4) bJ lL eP w:=
 kn bJ eP lL (a7D 0) w
def Db(kn:K1) bJ lL eP w:=
 PW (vD kn) bJ lL eP w
def Dc(R:K1) bJ lL eP w:=
 Db (Gz R) bJ lL eP w
theorem Y4 (kn:K1)(hn:N1 Q kn 6)(h:Db kn (g 0) (g 1) (g 6) w):bQ pg iR (aD 1 (aA 3 nV)) Q g w:=
 bC 1 (dP (lX (vD kn) 0 6 15 16) h (λg w h=>aC (jP 0 (Y3 _ g w kn hn h))))
def PX(kn:K3)(R:K1) bJ lL w:=
 (?X:PT (type_of%(tt (aSJ (λc=>(aD 3 c)) (kC kn 0 1 6) [] R (El [0,1] [bJ,lL]) w= ?X) (by unfold aSJ Tryz.f107 xY iR;exact ev))))
def PY(R:K1) bJ lL w:=
 PX (Dc R) R bJ lL w
def aeX a0 a1 w(R:K1):=
 PY R a0 a1 w
theorem agY{a0 a1 w R}(h:aeX a0 a1 w R):aL pg Hv #[a0,a1] w R:=
 gF (ann:=iR) Tryz.f107 nV [a0,a1] xY 36 TryzM.mixed Tryz.func107 (bC 3 (vT (kC (Dc R) 0 1 6) h (λg w h=>aC (bC 1 (Y4 _ g w (Gz R) (λg w h=>aC (gI h bH)) h))) bH))
def dW:FA:=⟨Hw,λi=>match Nat.beq i 22 with|true=>lf (fz 8 (ft [0,1,2,3,4,6,7] (ft [] [])))|false=>match Nat.beq i 24 with|true=>lf (fz 1 (ft [] (fu [0] (fu [1] (fz 1 [])))))|false=>match Nat.beq i 25 with|true=>lf (fz 11 (ft [] (ft [] (fz 1 []))))|false=>match Nat.beq i 26 with|true=>lf (fz 8 (ft [6] (fz 1 (ft [] []))))|false=> .leaf ([],[]) []⟩
def nH:List ResultVar:=[.tmp 2,.tmp 3]
noncomputable def kF:Code:=aO Tryz.f108
def aIf:DT:=bP pg dW kF Tryz.f108 (gP nH)
def yD(R:K1) nM w:=
 (?X:PT (type_of%(tt (aIf (λc=>(aA 1 (aA 3 (aA 1 (aA 7 (bI (aA 1 c))))))) no [] R (El [11] [nM]) w= ?X) (by unfold aIf Tryz.f108 nH dW;exact ev))))
def Rh(kn:K5)(k2:K1) r_7 b8 b9 nM i4 w:=
 (?X:PT (type_of%(tt (aIf (λc=>(bI (bI (aA 1 (aD 1 (aA 3 (aA 1 (aA 7 (bI (aA 1 c)))))))))) (nY kn 7 8 9 11 54) [(2,(AN k2 11))] nG (El [7,8,9,11,54] [r_7,b8,b9,nM,i4]) w= ?X) (by unfold aIf Tryz.f108 nH dW;exact ev))))
def yE(k2:K1) r_7 b8 b9 nM i4 w:=
 aN (λ(X:(a7C×a7C)->K0) (t:a7C×a7C) (w:a7B)=>Rh (λ_ _ _ nM i4 w=>X (nM,i4) w) k2 r_7 b8 b9 t.1 t.2 w) (nM,i4) w
theorem afA(k2:K1)(h2:E1 Q k2 2 11)(h:yE k2 (g 7) (g 8) (g 9) (g 11) (g 54) w):bQ pg dW (bI (aA 1 (aD 1 (aA 3 (aA 1 (aA 7 (bI (aA 1 kF)))))))) Q g w:=by
 refine qO (λg:Env=>(g 11,g 54)) _ h (λX g1 w1 ha hL=> ?_);rw[<-bG 7 ha,<-bG 8 ha,<-bG 9 ha]at hL;exact(pV [(2,(AN k2 11))] (kr:=no) (nY (λ_ _ _ nM i4 w=>X (nM,i4) w) 7 8 9 11 54) hL bH sL ⟨h2,trivial⟩)
def Ri(kn:K5) r_7 b8 b9 nM w:=
 kn r_7 b8 b9 nM (a7D 0) w
def GC(kn:K1) r_7 b8 b9 nM w:=
 Ri (yE kn) r_7 b8 b9 nM w
def yF(R:K1) r_7 b8 b9 nM w:=
 GC (yD R) r_7 b8 b9 nM w
theorem afB(kn:K1)(hn:N1 Q kn 11)(h:GC kn (g 7) (g 8) (g 9) (g 11) w):bQ pg dW (aD 1 (aA 3 (aA 1 (aA 7 (bI (aA 1 kF)))))) Q g w:=
 bC 1 (dP (nY (yE kn) 7 8 9 11 54) h (λg w h=>aC (jP 2 (afA _ g w kn hn h))))
def Rj(kn:K4)(R:K1) r_7 b8 b9 w:=
 aL pg rB #[r_7] w λi2 w=>
 bF pg (bZ .lss 3 iB iB i2 (a7D 0)) w λi3 w=>
 JJ i3
  (R (.tuple #[(.slice none 0 0),(a7D 11)]) w)
  (kn r_7 b8 b9 (.slice none 0 0) w)
def yG(R:K1) r_7 b8 b9 w:=
 Rj (yF R) R r_7 b8 b9 w
def PZ(kn:K4)(k0:K3) r_7 b8 b9 f2 w:=
 (?X:PT (type_of%(tt (aIf (λc=>(bI (bI (aA 1 (aD 1 (aA 7 (bI (aA 1 c)))))))) (lX kn 7 8 9 42) [(0,(kC k0 7 8 9))] nG (El [7,8,9,42] [r_7,b8,b9,f2]) w= ?X) (by unfold aIf Tryz.f108 nH dW;exact ev))))
def vE(k0:K3) r_7 b8 b9 f2 w:=
 aN (λ(X:a7C->K0) (t:a7C) (w:a7B)=>PZ (λ_ _ _ f2 w=>X f2 w) k0 r_7 b8 b9 t w) f2 w
theorem Y5 (k0:K3)(h0:E3 Q k0 0 7 8 9)(h:vE k0 (g 7) (g 8) (g 9) (g 42) w):bQ pg dW (bI (aA 1 (aD 1 (aA 7 (bI (aA 1 kF)))))) Q g w:=by
 refine qO (λg:Env=>g 42) _ h (λX g1 w1 ha hL=> ?_);rw[<-bG 7 ha,<-bG 8 ha,<-bG 9 ha]at hL;exact(pV [(0,(kC k0 7 8 9))] (kr:=no) (lX (λ_ _ _ f2 w=>X f2 w) 7 8 9 42) hL bH sL ⟨h0,trivial⟩)
def P0 (kn:K4) r_7 b8 b9 w:=
 kn r_7 b8 b9 (a7D 0) w
def Dd(kn:K3) r_7 b8 b9 w:=
 P0 (vE kn) r_7 b8 b9 w
def vF(R:K1) r_7 b8 b9 w:=
 Dd (yG R) r_7 b8 b9 w
theorem Y6 (kn:K3)(hn:N3 Q kn 7 8 9)(h:Dd kn (g 7) (g 8) (g 9) w):bQ pg dW (aD 1 (aA 7 (bI (aA 1 kF)))) Q g w:=
 bC 1 (dP (lX (vE kn) 7 8 9 42) h (λg w h=>aC (jP 0 (Y5 _ g w kn hn h))))
def P1 (kn:K3)(R:K1) bJ w:=
 (?X:PT (type_of%(tt (aIf (λc=>(aD 7 (bI (aA 1 c)))) (kC kn 7 8 9) [] R (El [0] [bJ]) w= ?X) (by unfold aIf Tryz.f108 nH dW;exact ev))))
def De(R:K1) bJ w:=
 P1 (vF R) R bJ w
def P3 (kn:K1) bJ w:=
 kn bJ w
def P4 (R:K1) bJ w:=
 P3 (De R) bJ w
def aeZ a0 w(R:K1):=
 P4 R a0 w
theorem agZ{a0 w R}(h:aeZ a0 w R):aL pg Hw #[a0] w R:=
 gF (ann:=dW) Tryz.f108 kF [a0] nH 103 TryzM.mixed Tryz.func108 (bC 1 (dP (AN (De R) 0) h (λg w h=>aC (scD (bC 7 (vT (kC (vF R) 7 8 9) h (λg w h=>aC (bC 1 (Y6 _ g w (yG R) (λg w h=>aC (bC 3 (vT (lX (yF R) 7 8 9 11) h (λg w h=>aC (bC 1 (afB _ g w (yD R) (λg w h=>aC (gI h bH)) h))) bH))) h))) bH))))))
def Eg:FA:=nA JS
def H3:List ResultVar:=[.tmp 2,.tmp 3]
noncomputable def Nk:Code:=aO Tryz.f109
def aWW:DT:=bP pg Eg Nk Tryz.f109 (gP H3)
def UJ(R:K1) dJ w:=
 (?X:PT (type_of%(tt (aWW (λc=>c) no [] R (El [0] [dJ]) w= ?X) (by unfold aWW Tryz.f109 H3 Eg;exact ev))))
def alT a0 w(R:K1):=
 UJ R a0 w
theorem apP{a0 w R}(h:alT a0 w R):aL pg JS #[a0] w R:=
 gF (ann:=Eg) Tryz.f109 Nk [a0] H3 53 TryzM.mixed Tryz.func109 (gI h bH)
def JX:FA:=nA Rq
def Pf:List ResultVar:=[.tmp 6,.tmp 7]
noncomputable def Tq:Code:=aO Tryz.f110
def aWX:DT:=bP pg JX Tq Tryz.f110 (gP Pf)
def Z6 (R:K1) dJ Ei uO w:=
 (?X:PT (type_of%(tt (aWX (λc=>c) no [] R (El [0,1,2] [dJ,Ei,uO]) w= ?X) (by unfold aWX Tryz.f110 Pf JX;exact ev))))
def aAU a0 a1 a2 w(R:K1):=
 Z6 R a0 a1 a2 w
theorem ayH{a0 a1 a2 w R}(h:aAU a0 a1 a2 w R):aL pg Rq #[a0,a1,a2] w R:=
 gF (ann:=JX) Tryz.f110 Tq [a0,a1,a2] Pf 32 TryzM.mixed Tryz.func110 (gI h bH)
def fF:FA:=⟨Mv,λi=>match Nat.beq i 16 with|true=>lf (fz 1 (ft [] (fu [0] (fu [1] (fz 1 (fu [3] (fu [4] (fz 1 (fu [6] (fu [7] (fz 2 (ft [] []))))))))))))|false=>match Nat.beq i 23 with|true=>lf (fz 5 (ft [4] (fz 1 (fu [1] (fu [2] (ft [] (fz 5 [])))))))|false=> .leaf ([],[]) []⟩
def kN:List ResultVar:=[.tmp 6,.tmp 7]
noncomputable def mX:Code:=aO Tryz.f111
def aIg:DT:=bP pg fF mX Tryz.f111 (gP kN)
def J9 (R:K1) dB w:=
 R (.tuple #[dB,(a7D 0)]) w
def W5 (kn:K6)(k2:K1)(R:K1) b8 jW OC jY dB l1 w:=
 (?X:PT (type_of%(tt (aIg (λc=>(bI (bI (aA 1 (aD 1 (aA 3 (aA 1 (aA 8 c)))))))) (Aj kn 8 10 12 13 15 71) [(2,(AN k2 15))] R (El [8,10,12,13,15,71] [b8,jW,OC,jY,dB,l1]) w= ?X) (by unfold aIg Tryz.f111 kN fF;exact ev))))
def B1 (k2:K1)(R:K1) b8 jW OC jY dB l1 w:=
 aN (λ(X:(a7C×a7C)->K0) (t:a7C×a7C) (w:a7B)=>W5 (λ_ _ _ _ dB l1 w=>X (dB,l1) w) k2 R b8 jW OC jY t.1 t.2 w) (dB,l1) w
theorem amW(k2:K1)(R:K1)(h2:E1 Q k2 2 15)(hr:HR kN R Q)(h:B1 k2 R (g 8) (g 10) (g 12) (g 13) (g 15) (g 71) w):bQ pg fF (bI (aA 1 (aD 1 (aA 3 (aA 1 (aA 8 mX)))))) Q g w:=by
 refine qO (λg:Env=>(g 15,g 71)) _ h (λX g1 w1 ha hL=> ?_);rw[<-bG 8 ha,<-bG 10 ha,<-bG 12 ha,<-bG 13 ha]at hL;exact(pV [(2,(AN k2 15))] (Aj (λ_ _ _ _ dB l1 w=>X (dB,l1) w) 8 10 12 13 15 71) hL bH hr ⟨h2,trivial⟩)
def W6 (kn:K6) b8 jW OC jY dB w:=
 kn b8 jW OC jY dB (a7D 0) w
def Ka(kn:K1)(R:K1) b8 jW OC jY dB w:=
 W6 (B1 kn R) b8 jW OC jY dB w
def Kb(R:K1) b8 jW OC jY dB w:=
 Ka (J9 R) R b8 jW OC jY dB w
theorem amX(kn:K1)(R:K1)(hn:N1 Q kn 15)(hr:HR kN R Q)(h:Ka kn R (g 8) (g 10) (g 12) (g 13) (g 15) w):bQ pg fF (aD 1 (aA 3 (aA 1 (aA 8 mX)))) Q g w:=
 bC 1 (dP (Aj (B1 kn R) 8 10 12 13 15 71) h (λg w h=>aC (jP 2 (amW _ g w kn R hn hr h))))
def W7 (kn:K5)(R:K1) b8 jW OC jY w:=
 (?X:PT (type_of%(tt (aIg (λc=>(aD 3 (aA 1 (aA 8 c)))) (nY kn 8 10 12 13 15) [] R (El [8,10,12,13] [b8,jW,OC,jY]) w= ?X) (by unfold aIg Tryz.f111 kN fF;exact ev))))
def Kc(R:K1) b8 jW OC jY w:=
 W7 (Kb R) R b8 jW OC jY w
def TU(kn:K5)(k0:K4) b8 jW OC jY f2 w:=
 (?X:PT (type_of%(tt (aIg (λc=>(bI (bI (aA 1 (aD 1 (aA 8 c)))))) (nY kn 8 10 12 13 42) [(0,(lX k0 8 10 12 13))] nG (El [8,10,12,13,42] [b8,jW,OC,jY,f2]) w= ?X) (by unfold aIg Tryz.f111 kN fF;exact ev))))
def Ay(k0:K4) b8 jW OC jY f2 w:=
 aN (λ(X:a7C->K0) (t:a7C) (w:a7B)=>TU (λ_ _ _ _ f2 w=>X f2 w) k0 b8 jW OC jY t w) f2 w
theorem agG(k0:K4)(h0:E4 Q k0 0 8 10 12 13)(h:Ay k0 (g 8) (g 10) (g 12) (g 13) (g 42) w):bQ pg fF (bI (aA 1 (aD 1 (aA 8 mX)))) Q g w:=by
 refine qO (λg:Env=>g 42) _ h (λX g1 w1 ha hL=> ?_);rw[<-bG 8 ha,<-bG 10 ha,<-bG 12 ha,<-bG 13 ha]at hL;exact(pV [(0,(lX k0 8 10 12 13))] (kr:=no) (nY (λ_ _ _ _ f2 w=>X f2 w) 8 10 12 13 42) hL bH sL ⟨h0,trivial⟩)
def TV(kn:K5) b8 jW OC jY w:=
 kn b8 jW OC jY (a7D 0) w
def HG(kn:K4) b8 jW OC jY w:=
 TV (Ay kn) b8 jW OC jY w
def HH(R:K1) b8 jW OC jY w:=
 HG (Kc R) b8 jW OC jY w
theorem agH(kn:K4)(hn:N4 Q kn 8 10 12 13)(h:HG kn (g 8) (g 10) (g 12) (g 13) w):bQ pg fF (aD 1 (aA 8 mX)) Q g w:=
 bC 1 (dP (nY (Ay kn) 8 10 12 13 42) h (λg w h=>aC (jP 0 (agG _ g w kn hn h))))
def TW(kn:K4)(R:K1) dJ Ei uO w:=
 (?X:PT (type_of%(tt (aIg (λc=>(aD 8 c)) (lX kn 8 10 12 13) [] R (El [0,1,2] [dJ,Ei,uO]) w= ?X) (by unfold aIg Tryz.f111 kN fF;exact ev))))
def TX(R:K1) dJ Ei uO w:=
 TW (HH R) R dJ Ei uO w
def arW a0 a1 a2 w(R:K1):=
 TX R a0 a1 a2 w
theorem arX{a0 a1 a2 w R}(h:arW a0 a1 a2 w R):aL pg Mv #[a0,a1,a2] w R:=
 gF (ann:=fF) Tryz.f111 mX [a0,a1,a2] kN 95 TryzM.mixed Tryz.func111 (bC 8 (vT (lX (HH R) 8 10 12 13) h (λg w h=>aC (bC 1 (agH _ g w (Kc R) (λg w h=>aC (bC 3 (vT (nY (Kb R) 8 10 12 13 15) h (λg w h=>aC (bC 1 (amX _ g w (J9 R) R (λg w h=>aC (gI h bH)) bH h))) bH))) h))) bH))
def J4:FA:=nA RI
def Pr:List ResultVar:=[.cell 8 79,.tmp 9,.tmp 10]
noncomputable def Ty:Code:=aO Tryz.f112
def aWY:DT:=bP pg J4 Ty Tryz.f112 (gP Pr)
def aeQ(R:K1) bU aLB b_2 fW w:=
 (?X:PT (type_of%(tt (aWY (λc=>c) no [] R (El [0,1,2,3] [bU,aLB,b_2,fW]) w= ?X) (by unfold aWY Tryz.f112 Pr J4;exact ev))))
def aBs a0 a1 a2 a3 w(R:K1):=
 aeQ R a0 a1 a2 a3 w
theorem aAv{a0 a1 a2 a3 w R}(h:aBs a0 a1 a2 a3 w R):aL pg RI #[a0,a1,a2,a3] w R:=
 gF (ann:=J4) Tryz.f112 Ty [a0,a1,a2,a3] Pr 93 TryzM.mixed Tryz.func112 (gI h bH)
def CI:FA:=nA Hq
def F6:List ResultVar:=[.tmp 2]
noncomputable def Lx:Code:=aO Tryz.f113
def aWZ:DT:=bP pg CI Lx Tryz.f113 (gP F6)
def QR(R:K1) sQ w:=
 (?X:PT (type_of%(tt (aWZ (λc=>c) no [] R (El [0] [sQ]) w= ?X) (by unfold aWZ Tryz.f113 F6 CI;exact ev))))
def aaJ a0 w(R:K1):=
 QR R a0 w
theorem agK{a0 w R}(h:aaJ a0 w R):aL pg Hq #[a0] w R:=
 gF (ann:=CI) Tryz.f113 Lx [a0] F6 6 TryzM.mixed Tryz.func113 (gI h bH)
def uF:FA:=⟨yN,λi=>match Nat.beq i 4 with|true=>lf (fz 12 (ft [] (fz 2 (fu [2] (fu [3] (fz 2 []))))))|false=> .leaf ([],[]) []⟩
def wV:List ResultVar:=[.tmp 4]
noncomputable def Dl:Code:=aO Tryz.f114
def aW0:DT:=bP pg uF Dl Tryz.f114 (gP wV)
def GY(R:K1) Ah lL w:=
 (?X:PT (type_of%(tt (aW0 (λc=>c) no [] R (El [0,1] [Ah,lL]) w= ?X) (by unfold aW0 Tryz.f114 wV uF;exact ev))))
def M7 a0 a1 w(R:K1):=
 GY R a0 a1 w
theorem Tn{a0 a1 w R}(h:M7 a0 a1 w R):aL pg yN #[a0,a1] w R:=
 gF (ann:=uF) Tryz.f114 Dl [a0,a1] wV 51 TryzM.mixed Tryz.func114 (gI h bH)
def mJ:FA:=⟨UT,λi=>match Nat.beq i 17 with|true=> .leaf ([],[]) (fz 10 [])|false=> .leaf ([],[]) []⟩
def wF:List ResultVar:=[.tmp 4,.tmp 5,.tmp 6]
noncomputable def BU:Code:=aO Tryz.f115
def aIh:DT:=bP pg mJ BU Tryz.f115 (gP wF)
def RU(R:K1) zC FE amG Fv w:=
 (?X:PT (type_of%(tt (aIh (λc=>(aA 1 (aA 5 c))) no [] R (El [1,8,9,10] [zC,FE,amG,Fv]) w= ?X) (by unfold aIh Tryz.f115 wF mJ;exact ev))))
def ahQ(kn:K7)(k1:K4) zC FE amG Fv i3 i4 i5 w:=
 (?X:PT (type_of%(tt (aIh (λc=>(bI (bI (aA 1 (aD 1 (aA 5 c)))))) (DZ kn 1 8 9 10 53 54 55) [(1,(lX k1 1 8 9 10))] nG (El [1,8,9,10,53,54,55] [zC,FE,amG,Fv,i3,i4,i5]) w= ?X) (by unfold aIh Tryz.f115 wF mJ;exact ev))))
def It(k1:K4) zC FE amG Fv i3 i4 i5 w:=
 aN (λ(X:(a7C×a7C)->K0) (t:a7C×a7C) (w:a7B)=>ahQ (λ_ _ amG _ _ _ i5 w=>X (amG,i5) w) k1 zC FE t.1 Fv i3 i4 t.2 w) (amG,i5) w
theorem axQ(k1:K4)(h1:E4 Q k1 1 1 8 9 10)(h:It k1 (g 1) (g 8) (g 9) (g 10) (g 53) (g 54) (g 55) w):bQ pg mJ (bI (aA 1 (aD 1 (aA 5 BU)))) Q g w:=by
 refine qO (λg:Env=>(g 9,g 55)) _ h (λX g1 w1 ha hL=> ?_);rw[<-bG 1 ha,<-bG 8 ha,<-bG 10 ha,<-bG 53 ha,<-bG 54 ha]at hL;exact(pV [(1,(lX k1 1 8 9 10))] (kr:=no) (DZ (λ_ _ amG _ _ _ i5 w=>X (amG,i5) w) 1 8 9 10 53 54 55) hL bH sL ⟨h1,trivial⟩)
def ahR(kn:K7) zC FE amG Fv w:=
 (?X:PT (type_of%(tt (aIh (λc=>(aD 1 (aD 1 (aA 5 c)))) (DZ kn 1 8 9 10 53 54 55) [] nG (El [1,8,9,10] [zC,FE,amG,Fv]) w= ?X) (by unfold aIh Tryz.f115 wF mJ;exact ev))))
def RV(kn:K4) zC FE amG Fv w:=
 ahR (It kn) zC FE amG Fv w
def RW(R:K1) zC FE amG Fv w:=
 RV (RU R) zC FE amG Fv w
theorem axR(kn:K4)(hn:N4 Q kn 1 8 9 10)(h:RV kn (g 1) (g 8) (g 9) (g 10) w):bQ pg mJ (aD 1 (aA 5 BU)) Q g w:=
 bC 1 (dP (DZ (It kn) 1 8 9 10 53 54 55) h (λg w h=>aC (jP 1 (axQ _ g w kn hn h))))
def ahS(kn:K4)(R:K1) bU zC w:=
 (?X:PT (type_of%(tt (aIh (λc=>(aD 5 c)) (lX kn 1 8 9 10) [] R (El [0,1] [bU,zC]) w= ?X) (by unfold aIh Tryz.f115 wF mJ;exact ev))))
def ahT(R:K1) bU zC w:=
 ahS (RW R) R bU zC w
def aDb a0 a1 w(R:K1):=
 ahT R a0 a1 w
theorem aBA{a0 a1 w R}(h:aDb a0 a1 w R):aL pg UT #[a0,a1] w R:=
 gF (ann:=mJ) Tryz.f115 BU [a0,a1] wF 71 TryzM.mixed Tryz.func115 (bC 5 (vT (lX (RW R) 1 8 9 10) h (λg w h=>aC (bC 1 (axR _ g w (RU R) (λg w h=>aC (gI h bH)) h))) bH))
def uJ:FA:=⟨rC,λi=>match Nat.beq i 2 with|true=>lf (fz 5 (ft [] []))|false=> .leaf ([],[]) []⟩
def wZ:List ResultVar:=[.cell 6 75]
noncomputable def Dr:Code:=aO Tryz.f116
def aW1:DT:=bP pg uJ Dr Tryz.f116 (gP wZ)
def Hb(R:K1) Ah aRp k_2 w:=
 (?X:PT (type_of%(tt (aW1 (λc=>c) no [] R (El [0,1,2] [Ah,aRp,k_2]) w= ?X) (by unfold aW1 Tryz.f116 wZ uJ;exact ev))))
def Nv a0 a1 a2 w(R:K1):=
 Hb R a0 a1 a2 w
theorem TO{a0 a1 a2 w R}(h:Nv a0 a1 a2 w R):aL pg rC #[a0,a1,a2] w R:=
 gF (ann:=uJ) Tryz.f116 Dr [a0,a1,a2] wZ 18 TryzM.mixed Tryz.func116 (gI h bH)
def vL:FA:=nA Rv
def Pl:List ResultVar:=[.tmp 2]
noncomputable def Ao:Code:=aO Tryz.f117
def aW2:DT:=bP pg vL Ao Tryz.f117 (gP Pl)
def OO(R:K1) yL w:=
 R yL w
def abX(kn:K2)(k0:K1) sQ yL w:=
 (?X:PT (type_of%(tt (aW2 (λc=>(bI (bI (aD 1 (aA 2 c))))) (vJ kn 0 3) [(0,(AN k0 3))] nG (El [0,3] [sQ,yL]) w= ?X) (by unfold aW2 Tryz.f117 Pl vL;exact ev))))
def FP(k0:K1) sQ yL w:=
 aN (λ(X:(a7C×a7C)->K0) (t:a7C×a7C) (w:a7B)=>abX (λsQ yL w=>X (sQ,yL) w) k0 t.1 t.2 w) (sQ,yL) w
theorem auD(k0:K1)(h0:E1 Q k0 0 3)(h:FP k0 (g 0) (g 3) w):bQ pg vL (bI (aD 1 (aA 2 Ao))) Q g w:=by
 refine qO (λg:Env=>(g 0,g 3)) _ h (λX g1 w1 ha hL=> ?_);exact(pV [(0,(AN k0 3))] (kr:=no) (vJ (λsQ yL w=>X (sQ,yL) w) 0 3) hL bH sL ⟨h0,trivial⟩)
def OP(R:K1) sQ yL w:=
 FP (OO R) sQ yL w
theorem auE(kn:K1)(hn:N1 Q kn 3)(h:FP kn (g 0) (g 3) w):bQ pg vL (aD 1 (aA 2 Ao)) Q g w:=
 jP 0 (auD _ g w kn hn h)
def abY(kn:K2) sQ w:=
 kn sQ (a7D 0) w
def abZ(R:K1) sQ w:=
 abY (OP R) sQ w
def aA7 a0 w(R:K1):=
 abZ R a0 w
theorem azO{a0 w R}(h:aA7 a0 w R):aL pg Rv #[a0] w R:=
 gF (ann:=vL) Tryz.f117 Ao [a0] Pl 11 TryzM.mixed Tryz.func117 (bC 2 (dP (vJ (OP R) 0 3) h (λg w h=>aC (bC 1 (auE _ g w (OO R) (λg w h=>aC (gI h bH)) h)))))
def lZ:FA:=nA Ze
def oJ:List ResultVar:=[.tmp 2]
noncomputable def zE:Code:=aO Tryz.f118
def aIi:DT:=bP pg lZ zE Tryz.f118 (gP oJ)
def Wa(R:K1) cO eT w:=
 (?X:PT (type_of%(tt (aIi (λc=>(aA 1 (aA 3 c))) no [] R (El [1,3] [cO,eT]) w= ?X) (by unfold aIi Tryz.f118 oJ lZ;exact ev))))
def Me(kn:K3) cO eT cV w:=
 bF pg (bZ .add 3 iB iB cV (a7D 1)) w λf3 w=>
 kn cO eT f3 w
def Mf(kn:K3) cO eT cV p_5 w:=
 bF pg (bZ .add 3 iB iB eT p_5) w λi9 w=>
 kn cO i9 cV w
def AG(kn:K4)(R:K1) cO eT cV w:=
 (?X:PT (type_of%(tt (aIi (λc=>(aD 3 (bI (aD 1 (aA 1 (bI (bI (aA 1 (aD 1 (aA 3 c)))))))))) (lX kn 1 3 4 5) [] R (El [1,3,4] [cO,eT,cV]) w= ?X) (by unfold aIi Tryz.f118 oJ lZ;exact ev))))
def uQ(kn:K3)(R:K1) cO eT cV w:=
 AG (Mf kn) R cO eT cV w
def uR(kn:K3)(R:K1) cO eT cV w:=
 uQ (Me kn) R cO eT cV w
theorem aB2 (kn:K3)(R:K1)(hn:N3 Q kn 1 3 4)(hr:HR oJ R Q)(h:uQ kn R (g 1) (g 3) (g 4) w):bQ pg lZ (aD 1 (aA 1 (bI (bI (aA 1 (aD 1 (aA 3 zE))))))) Q g w:=
 jP 1 (bC 3 (vT (lX (Mf kn) 1 3 4 5) h (λg w h=>aC (dP _ h hn)) hr))
def uS(kn:K3)(k0:K2) cO eT cV w:=
 (?X:PT (type_of%(tt (aIi (λc=>(aD 1 (bI (bI (aA 1 (aD 1 (aA 3 c))))))) (kC kn 1 3 4) [(0,(vJ k0 1 3))] nG (El [1,3,4] [cO,eT,cV]) w= ?X) (by unfold aIi Tryz.f118 oJ lZ;exact ev))))
def uT(kn:K3)(k0:K2)(R:K1) cO eT cV w:=
 uS (uR kn R) k0 cO eT cV w
def II(k0:K2)(R:K1) cO eT cV w:=
 aN (λ(X:(a7C×a7C)->K0) (t:a7C×a7C) (w:a7B)=>uT (λ_ eT cV w=>X (eT,cV) w) k0 R cO t.1 t.2 w) (eT,cV) w
theorem azJ(k0:K2)(R:K1)(h0:E2 Q k0 0 1 3)(hr:HR oJ R Q)(h:II k0 R (g 1) (g 3) (g 4) w):bQ pg lZ (bI (aA 1 (aD 1 (aA 3 zE)))) Q g w:=by
 refine qO (λg:Env=>(g 3,g 4)) _ h (λX g1 w1 ha hL=> ?_);rw[<-bG 1 ha]at hL;exact(bC 1 (pV [(0,(vJ k0 1 3))] (kr:=no) (kC (uR (λ_ eT cV w=>X (eT,cV) w) R) 1 3 4) hL (λg w h=>aC (bC 1 (aB2 _ g w (Me (λ_ eT cV w=>X (eT,cV) w)) R (λg w h=>aC (dP (kC (λ_ eT cV w=>X (eT,cV) w) 1 3 4) h bH)) hr h))) sL ⟨h0,trivial⟩))
def ajV(kn:K3) cO eT w:=
 kn cO eT (a7D 0) w
def Sv(kn:K2)(R:K1) cO eT w:=
 ajV (II kn R) cO eT w
def Sw(R:K1) cO eT w:=
 Sv (Wa R) R cO eT w
theorem azK(kn:K2)(R:K1)(hn:N2 Q kn 1 3)(hr:HR oJ R Q)(h:Sv kn R (g 1) (g 3) w):bQ pg lZ (aD 1 (aA 3 zE)) Q g w:=
 bC 1 (dP (kC (II kn R) 1 3 4) h (λg w h=>aC (jP 0 (azJ _ g w kn R hn hr h))))
def ajW(kn:K2)(R:K1) YJ w:=
 (?X:PT (type_of%(tt (aIi (λc=>(aD 3 c)) (vJ kn 1 3) [] R (El [0] [YJ]) w= ?X) (by unfold aIi Tryz.f118 oJ lZ;exact ev))))
def ajX(R:K1) YJ w:=
 ajW (Sw R) R YJ w
def aGo a0 w(R:K1):=
 ajX R a0 w
theorem aEn{a0 w R}(h:aGo a0 w R):aL pg Ze #[a0] w R:=
 gF (ann:=lZ) Tryz.f118 zE [a0] oJ 65 TryzM.mixed Tryz.func118 (bC 3 (vT (vJ (Sw R) 1 3) h (λg w h=>aC (bC 1 (azK _ g w (Wa R) R (λg w h=>aC (gI h bH)) bH h))) bH))
def kK:FA:=⟨Rs,λi=>match Nat.beq i 25 with|true=>lf (fz 2 (ft [1] (ft [] (fz 2 []))))|false=> .leaf ([],[]) []⟩
def mS:List ResultVar:=[.cell 6 235,.tmp 7,.tmp 8]
noncomputable def Am:Code:=aO Tryz.f119
def aIj:DT:=bP pg kK Am Tryz.f119 (gP mS)
def Ow(R:K1) b6 Dy iZ w:=
 (?X:PT (type_of%(tt (aIj (λc=>(aA 1 (aA 7 c))) no [] R (El [6,9,12] [b6,Dy,iZ]) w= ?X) (by unfold aIj Tryz.f119 mS kK;exact ev))))
def Fw(kn:K5)(R:K1) aU b6 Dy iZ aW w:=
 (?X:PT (type_of%(tt (aIj (λc=>(aA 6 (bI (aA 1 (bI (bI (aD 1 (aA 7 c)))))))) (nY kn 2 6 9 12 13) [] R (El [2,6,9,12,13] [aU,b6,Dy,iZ,aW]) w= ?X) (by unfold aIj Tryz.f119 mS kK;exact ev))))
def aaO(kn:K5)(R:K1) aU b6 Dy iZ aW w:=
 (?X:PT (type_of%(tt (aIj (λc=>(aD 6 (bI (aA 1 (bI (bI (aD 1 (aA 7 c)))))))) (nY kn 2 6 9 12 13) [] R (El [2,6,9,12,13] [aU,b6,Dy,iZ,aW]) w= ?X) (by unfold aIj Tryz.f119 mS kK;exact ev))))
def Ox(kn:K5)(R:K1) aU b6 Dy iZ aW w:=
 aaO (Fw kn R) R aU b6 Dy iZ aW w
def aaP(kn:K5)(k0:K3) aU b6 Dy iZ aW w:=
 bF pg (bZ .gtr 3 iB iB aW (a7D 0)) w λf8 w=>
 JJ f8
  (kn aU b6 Dy iZ aW w)
  (k0 b6 Dy iZ w)
def aaQ(kn:K5)(k0:K3)(R:K1) aU b6 Dy iZ aW w:=
 aaP (Ox kn R) k0 aU b6 Dy iZ aW w
def Fx(k0:K3)(R:K1) aU b6 Dy iZ aW w:=
 aN (λ(X:a7C->K0) (t:a7C) (w:a7B)=>aaQ (λ_ _ _ _ aW w=>X aW w) k0 R aU b6 Dy iZ t w) aW w
theorem asS(k0:K3)(R:K1)(h0:E3 Q k0 0 6 9 12)(hr:HR mS R Q)(h:Fx k0 R (g 2) (g 6) (g 9) (g 12) (g 13) w):bQ pg kK (bI (aD 1 (aA 7 Am))) Q g w:=by
 refine qO (λg:Env=>g 13) _ h (λX g1 w1 ha hL=> ?_);rw[<-bG 2 ha,<-bG 6 ha,<-bG 9 ha,<-bG 12 ha]at hL;exact(bC 1 (pV [(0,(kC k0 6 9 12))] (kr:=no) (nY (Ox (λ_ _ _ _ aW w=>X aW w) R) 2 6 9 12 13) hL (λg w h=>aC (jP 1 (bC 6 (vT (nY (Fw (λ_ _ _ _ aW w=>X aW w) R) 2 6 9 12 13) h (λg w h=>aC (vT (nY (λ_ _ _ _ aW w=>X aW w) 2 6 9 12 13) h bH hr)) hr)))) sL ⟨h0,trivial⟩))
def B4 (R:K1) aU b6 Dy iZ aW w:=
 Fx (Ow R) R aU b6 Dy iZ aW w
theorem asT(kn:K3)(R:K1)(hn:N3 Q kn 6 9 12)(hr:HR mS R Q)(h:Fx kn R (g 2) (g 6) (g 9) (g 12) (g 13) w):bQ pg kK (aD 1 (aA 7 Am)) Q g w:=
 jP 0 (asS _ g w kn R hn hr h)
def Xo(kn:K5)(R:K1) bJ Ou aU w:=
 (?X:PT (type_of%(tt (aIj (λc=>(aD 7 c)) (nY kn 2 6 9 12 13) [] R (El [0,1,2] [bJ,Ou,aU]) w= ?X) (by unfold aIj Tryz.f119 mS kK;exact ev))))
def Xp(R:K1) bJ Ou aU w:=
 Xo (B4 R) R bJ Ou aU w
def aA0 a0 a1 a2 w(R:K1):=
 Xp R a0 a1 a2 w
theorem ayT{a0 a1 a2 w R}(h:aA0 a0 a1 a2 w R):aL pg Rs #[a0,a1,a2] w R:=
 gF (ann:=kK) Tryz.f119 Am [a0,a1,a2] mS 104 TryzM.mixed Tryz.func119 (bC 7 (vT (nY (B4 R) 2 6 9 12 13) h (λg w h=>aC (bC 1 (asT _ g w (Ow R) R (λg w h=>aC (gI h bH)) bH h))) bH))
def fE:FA:=⟨Qb,λi=>match Nat.beq i 3 with|true=> .split 3 5 (pm [0,1,2,3,4,5,6] [(3,5)] (fz 3 (ft [1,2] (fz 1 (ft [0,3,4] (ft [] [])))))) (pm [0,1,2,5,3,4,6] [(5,3)] (fz 3 (ft [0,1,2] (ft [2,3] (fz 1 (ft [] []))))))|false=>match Nat.beq i 16 with|true=>lf (fz 5 (ft [2,3] (fz 4 (ft [] []))))|false=>match Nat.beq i 17 with|true=>lf (fz 13 (ft [] []))|false=> .leaf ([],[]) []⟩
def rP:List ResultVar:=[.cell 2 79,.tmp 3]
noncomputable def pT:Code:=aO Tryz.f120
def aBu:DT:=bP pg fE pT Tryz.f120 (gP rP)
def VA(R:K1) b2 b4 w:=
 bF pg (cK 79 b4) w λn0 w=>
 bF pg (dL 79 b2 n0) w λ_u w=>
 LdR pg 79 b2 w λr0=>R (.tuple #[r0,(a7D 0)]) w
def VB(kn:K6) cO b2 b4 fV f2 f3 w:=
 bF pg (bZ .add 3 iB iB f3 (a7D 1)) w λm9 w=>
 kn cO b2 b4 fV f2 m9 w
def VC(kn:K6) cO b2 b4 fV x_9 HI f2 f3 w:=
 (?X:PT (type_of%(tt (aBu (λc=>(aA 1 (aA 4 (bI (aD 1 (aA 2 (bI (bI (aA 1 (aD 1 (aA 1 (aA 1 (aA 3 c))))))))))))) (Aj kn 1 2 4 5 42 43) [] nG (El [1,2,4,5,9,10,42,43] [cO,b2,b4,fV,x_9,HI,f2,f3]) w= ?X) (by unfold aBu Tryz.f120 rP fE;exact ev))))
def arG(kn:K8) cO b2 b4 fV x_9 HI f2 f3 w:=
 (?X:PT (type_of%(tt (aBu (λc=>(aD 1 (aA 4 (bI (aD 1 (aA 2 (bI (bI (aA 1 (aD 1 (aA 1 (aA 1 (aA 3 c))))))))))))) (Mq8 kn 1 2 4 5 9 10 42 43) [] nG (El [1,2,4,5,9,10,42,43] [cO,b2,b4,fV,x_9,HI,f2,f3]) w= ?X) (by unfold aBu Tryz.f120 rP fE;exact ev))))
def VD(kn:K6) cO b2 b4 fV x_9 HI f2 f3 w:=
 arG (VC kn) cO b2 b4 fV x_9 HI f2 f3 w
def arH(kn:K8) cO b2 b4 fV f2 f3 w:=
 (?X:PT (type_of%(tt (aBu (λc=>(aD 4 (bI (aD 1 (aA 2 (bI (bI (aA 1 (aD 1 (aA 1 (aA 1 (aA 3 c)))))))))))) (Mq8 kn 1 2 4 5 9 10 42 43) [] nG (El [1,2,4,5,42,43] [cO,b2,b4,fV,f2,f3]) w= ?X) (by unfold aBu Tryz.f120 rP fE;exact ev))))
def VE(kn:K6) cO b2 b4 fV f2 f3 w:=
 arH (VD kn) cO b2 b4 fV f2 f3 w
def L5 (kn:K6) cO b2 b4 fV f2 f3 w:=
 VE (VB kn) cO b2 b4 fV f2 f3 w
theorem aBF(kn:K6)(hn:N6 Q kn 1 2 4 5 42 43)(h:VE kn (g 1) (g 2) (g 4) (g 5) (g 42) (g 43) w):bQ pg fE (aD 1 (aA 2 (bI (bI (aA 1 (aD 1 (aA 1 (aA 1 (aA 3 pT))))))))) Q g w:=
 jP 3 (bC 4 (dP (Mq8 (VD kn) 1 2 4 5 9 10 42 43) h (λg w h=>aC (bC 1 (dP (Mq8 (VC kn) 1 2 4 5 9 10 42 43) h (λg w h=>aC (dP _ h hn)))))))
def aiN(kn:K6)(k2:K2) cO b2 b4 fV f2 f3 w:=
 bF pg (bZ .lss 3 iB iB f3 f2) w λf4 w=>
 JJ f4
  (kn cO b2 b4 fV f2 f3 w)
  (k2 b2 b4 w)
def aiO(kn:K6)(k2:K2) cO b2 b4 fV f2 f3 w:=
 aiN (L5 kn) k2 cO b2 b4 fV f2 f3 w
def Iy(k2:K2) cO b2 b4 fV f2 f3 w:=
 aN (λ(X:a7C->K0) (t:a7C) (w:a7B)=>aiO (λ_ _ _ _ _ f3 w=>X f3 w) k2 cO b2 b4 fV f2 t w) f3 w
theorem ayA(k2:K2)(h2:E2 Q k2 2 2 4)(h:Iy k2 (g 1) (g 2) (g 4) (g 5) (g 42) (g 43) w):bQ pg fE (bI (aA 1 (aD 1 (aA 1 (aA 1 (aA 3 pT)))))) Q g w:=by
 refine qO (λg:Env=>g 43) _ h (λX g1 w1 ha hL=> ?_);rw[<-bG 1 ha,<-bG 2 ha,<-bG 4 ha,<-bG 5 ha,<-bG 42 ha]at hL;exact(bC 2 (pV [(2,(vJ k2 2 4))] (kr:=no) (Aj (L5 (λ_ _ _ _ _ f3 w=>X f3 w)) 1 2 4 5 42 43) hL (λg w h=>aC (bC 1 (aBF _ g w (VB (λ_ _ _ _ _ f3 w=>X f3 w)) (λg w h=>aC (dP (Aj (λ_ _ _ _ _ f3 w=>X f3 w) 1 2 4 5 42 43) h bH)) h))) sL ⟨h2,trivial⟩))
def aiP(kn:K6) cO b2 b4 fV w:=
 bF pg (pZ 79 b4 1) w λf0 w=>
 bF pg (cK 77 f0) w λf1 w=>
 bF pg (yM .len #[77] 3 [f1]) w λf2 w=>
 kn cO b2 b4 fV f2 (a7D 0) w
def R5 (kn:K2) cO b2 b4 fV w:=
 aiP (Iy kn) cO b2 b4 fV w
def Iz(R:K1) cO b2 b4 fV w:=
 R5 (VA R) cO b2 b4 fV w
theorem ayB(kn:K2)(hn:N2 Q kn 2 4)(h:R5 kn (g 1) (g 2) (g 4) (g 5) w):bQ pg fE (aD 1 (aA 1 (aA 1 (aA 3 pT)))) Q g w:=
 bC 1 (dP (Aj (Iy kn) 1 2 4 5 42 43) h (λg w h=>aC (jP 2 (ayA _ g w kn hn h))))
def R6 (kn:K7)(k0:K4) cO b2 b4 fV d5 d6 d7 w:=
 (?X:PT (type_of%(tt (aBu (λc=>(bI (bI (aA 1 (aD 1 (aA 1 (aA 3 c))))))) (DZ kn 1 2 4 5 25 26 27) [(0,(lX k0 1 2 4 5))] nG (El [1,2,4,5,25,26,27] [cO,b2,b4,fV,d5,d6,d7]) w= ?X) (by unfold aBu Tryz.f120 rP fE;exact ev))))
def IA(k0:K4) cO b2 b4 fV d5 d6 d7 w:=
 aN (λ(X:a7C->K0) (t:a7C) (w:a7B)=>R6 (λ_ _ _ _ _ _ d7 w=>X d7 w) k0 cO b2 b4 fV d5 d6 t w) d7 w
theorem ayC(k0:K4)(h0:E4 Q k0 0 1 2 4 5)(h:IA k0 (g 1) (g 2) (g 4) (g 5) (g 25) (g 26) (g 27) w):bQ pg fE (bI (aA 1 (aD 1 (aA 1 (aA 3 pT))))) Q g w:=by
 refine qO (λg:Env=>g 27) _ h (λX g1 w1 ha hL=> ?_);rw[<-bG 1 ha,<-bG 2 ha,<-bG 4 ha,<-bG 5 ha,<-bG 25 ha,<-bG 26 ha]at hL;exact(pV [(0,(lX k0 1 2 4 5))] (kr:=no) (DZ (λ_ _ _ _ _ _ d7 w=>X d7 w) 1 2 4 5 25 26 27) hL bH sL ⟨h0,trivial⟩)
def aiQ(kn:K7) cO b2 b4 fV w:=
 bF pg (pZ 235 cO 1) w λd4 w=>
 bF pg (cK 88 d4) w λd5 w=>
 bF pg (yM .len #[88] 3 [d5]) w λd6 w=>
 kn cO b2 b4 fV d5 d6 (a7D 0) w
def R7 (kn:K4) cO b2 b4 fV w:=
 aiQ (IA kn) cO b2 b4 fV w
def R8 (R:K1) cO b2 b4 fV w:=
 R7 (Iz R) cO b2 b4 fV w
theorem ayD(kn:K4)(hn:N4 Q kn 1 2 4 5)(h:R7 kn (g 1) (g 2) (g 4) (g 5) w):bQ pg fE (aD 1 (aA 1 (aA 3 pT))) Q g w:=
 bC 1 (dP (DZ (IA kn) 1 2 4 5 25 26 27) h (λg w h=>aC (jP 0 (ayC _ g w kn hn h))))
def aiR(kn:K4) cO b2 b4 w:=
 (?X:PT (type_of%(tt (aBu (λc=>(aD 1 (aA 3 c))) (lX kn 1 2 4 5) [] nG (El [1,2,4] [cO,b2,b4]) w= ?X) (by unfold aBu Tryz.f120 rP fE;exact ev))))
def BA(R:K1) cO b2 b4 w:=
 aiR (R8 R) cO b2 b4 w
def R9 (kn:K3)(R:K1) YJ w:=
 (?X:PT (type_of%(tt (aBu (λc=>(aD 3 c)) (kC kn 1 2 4) [] R (El [0] [YJ]) w= ?X) (by unfold aBu Tryz.f120 rP fE;exact ev))))
def Sa(R:K1) YJ w:=
 R9 (BA R) R YJ w
def axZ a0 w(R:K1):=
 Sa R a0 w
theorem ZV{a0 w R}(h:axZ a0 w R):aL pg Qb #[a0] w R:=
 gF (ann:=fE) Tryz.f120 pT [a0] rP 91 TryzM.mixed Tryz.func120 (bC 3 (vT (kC (BA R) 1 2 4) h (λg w h=>aC (bC 1 (dP (lX (R8 R) 1 2 4 5) h (λg w h=>aC (bC 1 (ayD _ g w (Iz R) (λg w h=>aC (bC 1 (ayB _ g w (VA R) (λg w h=>aC (gI h bH)) h))) h)))))) bH))
def rG:FA:=nA JU
def tS:List ResultVar:=[.tmp 2,.tmp 3]
noncomputable def uK:Code:=aO Tryz.f121
def aW3:DT:=bP pg rG uK Tryz.f121 (gP tS)
def Ig(R:K1) BO w:=
 R (.tuple #[BO,(.bool true)]) w
def Ih(kn:K4) BO b7 b8 b9 w:=
 bF pg (bZ .add 3 iB iB b9 (a7D 1)) w λd2 w=>
 kn BO b7 b8 d2 w
def UL(kn:K4)(k0:K1)(R:K1) BO b7 b8 b9 w:=
 (?X:PT (type_of%(tt (aW3 (λc=>(aD 3 (bI (bI (aA 1 (aD 1 (aA 2 c))))))) (lX kn 4 7 8 9) [(0,(AN k0 4))] R (El [4,7,8,9] [BO,b7,b8,b9]) w= ?X) (by unfold aW3 Tryz.f121 tS rG;exact ev))))
def UM(kn:K4)(k0:K1)(R:K1) BO b7 b8 b9 w:=
 UL (Ih kn) k0 R BO b7 b8 b9 w
def AM(k0:K1)(R:K1) BO b7 b8 b9 w:=
 aN (λ(X:(a7C×a7C)->K0) (t:a7C×a7C) (w:a7B)=>UM (λBO _ _ b9 w=>X (BO,b9) w) k0 R t.1 b7 b8 t.2 w) (BO,b9) w
theorem ahA(k0:K1)(R:K1)(h0:E1 Q k0 0 4)(hr:HR tS R Q)(h:AM k0 R (g 4) (g 7) (g 8) (g 9) w):bQ pg rG (bI (aA 1 (aD 1 (aA 2 uK)))) Q g w:=by
 refine qO (λg:Env=>(g 4,g 9)) _ h (λX g1 w1 ha hL=> ?_);rw[<-bG 7 ha,<-bG 8 ha]at hL;exact(bC 3 (pV [(0,(AN k0 4))] (lX (Ih (λBO _ _ b9 w=>X (BO,b9) w)) 4 7 8 9) hL (λg w h=>aC (dP (lX (λBO _ _ b9 w=>X (BO,b9) w) 4 7 8 9) h bH)) hr ⟨h0,trivial⟩))
def UN(kn:K4) dJ BO w:=
 bF pg (yM .len #[22] 3 [dJ]) w λb8 w=>
 kn BO dJ b8 (a7D 0) w
def Ii(kn:K1)(R:K1) dJ BO w:=
 UN (AM kn R) dJ BO w
def Ij(R:K1) dJ BO w:=
 Ii (Ig R) R dJ BO w
theorem ahB(kn:K1)(R:K1)(hn:N1 Q kn 4)(hr:HR tS R Q)(h:Ii kn R (g 0) (g 4) w):bQ pg rG (aD 1 (aA 2 uK)) Q g w:=
 bC 1 (dP (lX (AM kn R) 4 7 8 9) h (λg w h=>aC (jP 0 (ahA _ g w kn R hn hr h))))
def Rk(kn:K2) dJ w:=
 kn dJ (a7D 0) w
def Rl(R:K1) dJ w:=
 Rk (Ij R) dJ w
def alV a0 w(R:K1):=
 Rl R a0 w
theorem apR{a0 w R}(h:alV a0 w R):aL pg JU #[a0] w R:=
 gF (ann:=rG) Tryz.f121 uK [a0] tS 24 TryzM.mixed Tryz.func121 (bC 2 (dP (vJ (Ij R) 0 4) h (λg w h=>aC (bC 1 (ahB _ g w (Ig R) R (λg w h=>aC (gI h bH)) bH h)))))
def Ec:FA:=nA JO
def HZ:List ResultVar:=[.tmp 2]
noncomputable def Nh:Code:=aO Tryz.f122
def aW4:DT:=bP pg Ec Nh Tryz.f122 (gP HZ)
def Uc(R:K1) sQ w:=
 (?X:PT (type_of%(tt (aW4 (λc=>c) no [] R (El [0] [sQ]) w= ?X) (by unfold aW4 Tryz.f122 HZ Ec;exact ev))))
def ajE a0 w(R:K1):=
 Uc R a0 w
theorem anH{a0 w R}(h:ajE a0 w R):aL pg JO #[a0] w R:=
 gF (ann:=Ec) Tryz.f122 Nh [a0] HZ 8 TryzM.mixed Tryz.func122 (gI h bH)
def dO:FA:=nA Io
def pX:List ResultVar:=[.cell 2 246,.tmp 3]
noncomputable def jC:Code:=aO Tryz.f123
def aFc:DT:=bP pg dO jC Tryz.f123 (gP pX)
def NY(R:K1) b2 b6 w:=
 bF pg (cK 246 b6) w λm1 w=>
 bF pg (dL 246 b2 m1) w λ_u w=>
 LdR pg 246 b2 w λr0=>R (.tuple #[r0,(a7D 0)]) w
def Fm(kn:K5) b2 b6 f1 f2 f3 w:=
 bF pg (bZ .add 3 iB iB f3 (a7D 1)) w λm0 w=>
 kn b2 b6 f1 f2 m0 w
def Z8 (kn:K10)(k4:K5) b2 b6 UR aVh aLz f1 f2 f3 j4 j5 w:=
 (?X:PT (type_of%(tt (aFc (λc=>(bI (bI (aA 4 (bI (aD 1 (aA 2 (bI (bI (aA 1 (aD 1 (aA 1 (aA 1 (aA 4 c)))))))))))))) (GF kn 2 6 9 10 11 41 42 43 64 65) [(4,(nY k4 2 6 41 42 43))] nG (El [2,6,9,10,11,41,42,43,64,65] [b2,b6,UR,aVh,aLz,f1,f2,f3,j4,j5]) w= ?X) (by unfold aFc Tryz.f123 pX dO;exact ev))))
def Fo(k4:K5) b2 b6 UR aVh aLz f1 f2 f3 j4 j5 w:=
 aN (λ(X:a7C->K0) (t:a7C) (w:a7B)=>Z8 (λ_ _ _ _ _ _ _ _ _ j5 w=>X j5 w) k4 b2 b6 UR aVh aLz f1 f2 f3 j4 t w) j5 w
theorem arY(k4:K5)(h4:E5 Q k4 4 2 6 41 42 43)(h:Fo k4 (g 2) (g 6) (g 9) (g 10) (g 11) (g 41) (g 42) (g 43) (g 64) (g 65) w):bQ pg dO (bI (aA 4 (bI (aD 1 (aA 2 (bI (bI (aA 1 (aD 1 (aA 1 (aA 1 (aA 4 jC)))))))))))) Q g w:=by
 refine qO (λg:Env=>g 65) _ h (λX g1 w1 ha hL=> ?_);rw[<-bG 2 ha,<-bG 6 ha,<-bG 9 ha,<-bG 10 ha,<-bG 11 ha,<-bG 41 ha,<-bG 42 ha,<-bG 43 ha,<-bG 64 ha]at hL;exact(pV [(4,(nY k4 2 6 41 42 43))] (kr:=no) (GF (λ_ _ _ _ _ _ _ _ _ j5 w=>X j5 w) 2 6 9 10 11 41 42 43 64 65) hL bH sL ⟨h4,trivial⟩)
def Z9 (kn:K10)(k3:K5) b2 b6 f1 f2 f3 w:=
 (?X:PT (type_of%(tt (aFc (λc=>(aD 4 (bI (aD 1 (aA 2 (bI (bI (aA 1 (aD 1 (aA 1 (aA 1 (aA 4 c)))))))))))) (GF kn 2 6 9 10 11 41 42 43 64 65) [(3,(nY k3 2 6 41 42 43))] nG (El [2,6,41,42,43] [b2,b6,f1,f2,f3]) w= ?X) (by unfold aFc Tryz.f123 pX dO;exact ev))))
def aaA(kn:K5)(k3:K5) b2 b6 f1 f2 f3 w:=
 Z9 (Fo kn) k3 b2 b6 f1 f2 f3 w
def NZ(kn:K5) b2 b6 f1 f2 f3 w:=
 aaA kn kn b2 b6 f1 f2 f3 w
def Oa(kn:K5) b2 b6 f1 f2 f3 w:=
 NZ (Fm kn) b2 b6 f1 f2 f3 w
theorem arZ(kn:K5)(hn:N5 Q kn 2 6 41 42 43)(h:NZ kn (g 2) (g 6) (g 41) (g 42) (g 43) w):bQ pg dO (aD 1 (aA 2 (bI (bI (aA 1 (aD 1 (aA 1 (aA 1 (aA 4 jC))))))))) Q g w:=
 jP 3 (bC 4 (pV [(3,(nY kn 2 6 41 42 43))] (kr:=no) (GF (Fo kn) 2 6 9 10 11 41 42 43 64 65) h (λg w h=>aC (jP 4 (arY _ g w kn hn h))) sL ⟨hn,trivial⟩))
def W8 (kn:K5)(k2:K2) b2 b6 f1 f2 f3 w:=
 bF pg (bZ .lss 3 iB iB f3 f2) w λf4 w=>
 JJ f4
  (kn b2 b6 f1 f2 f3 w)
  (k2 b2 b6 w)
def W9 (kn:K5)(k2:K2) b2 b6 f1 f2 f3 w:=
 W8 (Oa kn) k2 b2 b6 f1 f2 f3 w
def B2 (k2:K2) b2 b6 f1 f2 f3 w:=
 aN (λ(X:a7C->K0) (t:a7C) (w:a7B)=>W9 (λ_ _ _ _ f3 w=>X f3 w) k2 b2 b6 f1 f2 t w) f3 w
theorem amY(k2:K2)(h2:E2 Q k2 2 2 6)(h:B2 k2 (g 2) (g 6) (g 41) (g 42) (g 43) w):bQ pg dO (bI (aA 1 (aD 1 (aA 1 (aA 1 (aA 4 jC)))))) Q g w:=by
 refine qO (λg:Env=>g 43) _ h (λX g1 w1 ha hL=> ?_);rw[<-bG 2 ha,<-bG 6 ha,<-bG 41 ha,<-bG 42 ha]at hL;exact(bC 2 (pV [(2,(vJ k2 2 6))] (kr:=no) (nY (Oa (λ_ _ _ _ f3 w=>X f3 w)) 2 6 41 42 43) hL (λg w h=>aC (bC 1 (arZ _ g w (Fm (λ_ _ _ _ f3 w=>X f3 w)) (λg w h=>aC (dP (nY (λ_ _ _ _ f3 w=>X f3 w) 2 6 41 42 43) h bH)) h))) sL ⟨h2,trivial⟩))
def Xa(kn:K5) b2 kU b6 w:=
 bF pg (yM .len #[268] 3 [kU]) w λf2 w=>
 kn b2 b6 kU f2 (a7D 0) w
def Kd(kn:K2) b2 kU b6 w:=
 Xa (B2 kn) b2 kU b6 w
def Ke(R:K1) b2 kU b6 w:=
 Kd (NY R) b2 kU b6 w
theorem amZ(kn:K2)(hn:N2 Q kn 2 6)(h:Kd kn (g 2) (g 4) (g 6) w):bQ pg dO (aD 1 (aA 1 (aA 1 (aA 4 jC)))) Q g w:=
 bC 1 (dP (nY (B2 kn) 2 6 41 42 43) h (λg w h=>aC (jP 2 (amY _ g w kn hn h))))
def Xb(kn:K3) b2 kU b6 w:=
 (?X:PT (type_of%(tt (aFc (λc=>(aD 1 (aA 1 (aA 4 c)))) (kC kn 2 4 6) [] nG (El [2,4,6] [b2,kU,b6]) w= ?X) (by unfold aFc Tryz.f123 pX dO;exact ev))))
def Kf(R:K1) b2 kU b6 w:=
 Xb (Ke R) b2 kU b6 w
def Xc(kn:K6)(k0:K3) b2 kU b6 d3 d4 d5 w:=
 (?X:PT (type_of%(tt (aFc (λc=>(bI (bI (aA 1 (aD 1 (aA 4 c)))))) (Aj kn 2 4 6 23 24 25) [(0,(kC k0 2 4 6))] nG (El [2,4,6,23,24,25] [b2,kU,b6,d3,d4,d5]) w= ?X) (by unfold aFc Tryz.f123 pX dO;exact ev))))
def B3 (k0:K3) b2 kU b6 d3 d4 d5 w:=
 aN (λ(X:a7C->K0) (t:a7C) (w:a7B)=>Xc (λ_ _ _ _ _ d5 w=>X d5 w) k0 b2 kU b6 d3 d4 t w) d5 w
theorem anA(k0:K3)(h0:E3 Q k0 0 2 4 6)(h:B3 k0 (g 2) (g 4) (g 6) (g 23) (g 24) (g 25) w):bQ pg dO (bI (aA 1 (aD 1 (aA 4 jC)))) Q g w:=by
 refine qO (λg:Env=>g 25) _ h (λX g1 w1 ha hL=> ?_);rw[<-bG 2 ha,<-bG 4 ha,<-bG 6 ha,<-bG 23 ha,<-bG 24 ha]at hL;exact(pV [(0,(kC k0 2 4 6))] (kr:=no) (Aj (λ_ _ _ _ _ d5 w=>X d5 w) 2 4 6 23 24 25) hL bH sL ⟨h0,trivial⟩)
def Xd(kn:K6) b2 kU b6 w:=
 bF pg (yM .len #[268] 3 [kU]) w λd4 w=>
 kn b2 kU b6 kU d4 (a7D 0) w
def Kg(kn:K3) b2 kU b6 w:=
 Xd (B3 kn) b2 kU b6 w
def Kh(R:K1) b2 kU b6 w:=
 Kg (Kf R) b2 kU b6 w
theorem anB(kn:K3)(hn:N3 Q kn 2 4 6)(h:Kg kn (g 2) (g 4) (g 6) w):bQ pg dO (aD 1 (aA 4 jC)) Q g w:=
 bC 1 (dP (Aj (B3 kn) 2 4 6 23 24 25) h (λg w h=>aC (jP 0 (anA _ g w kn hn h))))
def Ki(kn:K3)(R:K1) dJ w:=
 (?X:PT (type_of%(tt (aFc (λc=>(aD 4 c)) (kC kn 2 4 6) [] R (El [0] [dJ]) w= ?X) (by unfold aFc Tryz.f123 pX dO;exact ev))))
def Kj(R:K1) dJ w:=
 Ki (Kh R) R dJ w
def Z7 a0 w(R:K1):=
 Kj R a0 w
theorem T0 {a0 w R}(h:Z7 a0 w R):aL pg Io #[a0] w R:=
 gF (ann:=dO) Tryz.f123 jC [a0] pX 82 TryzM.mixed Tryz.func123 (bC 4 (vT (kC (Kh R) 2 4 6) h (λg w h=>aC (bC 1 (anB _ g w (Kf R) (λg w h=>aC (bC 1 (dP (kC (Ke R) 2 4 6) h (λg w h=>aC (bC 1 (amZ _ g w (NY R) (λg w h=>aC (gI h bH)) h)))))) h))) bH))
def fK:FA:=⟨A9,λi=>match Nat.beq i 9 with|true=>lf (fz 5 (ft [2] (fz 3 [])))|false=> .leaf ([],[]) []⟩
def mR:List ResultVar:=[.tmp 6,.tmp 7]
noncomputable def oC:Code:=aO Tryz.f124
def aN3:DT:=bP pg fK oC Tryz.f124 (gP mR)
def zL(R:K1) r_8 iV c2 w:=
 (?X:PT (type_of%(tt (aN3 (λc=>(aA 1 (aA 5 c))) no [] R (El [8,10,12] [r_8,iV,c2]) w= ?X) (by unfold aN3 Tryz.f124 mR fK;exact ev))))
def Jv(kn:K7)(k0:K3) b3 r_8 iV sR c2 d6 d7 w:=
 (?X:PT (type_of%(tt (aN3 (λc=>(bI (bI (aA 1 (aD 1 (aA 5 c)))))) (DZ kn 3 8 10 11 12 26 27) [(0,(kC k0 8 10 12))] nG (El [3,8,10,11,12,26,27] [b3,r_8,iV,sR,c2,d6,d7]) w= ?X) (by unfold aN3 Tryz.f124 mR fK;exact ev))))
def rL(k0:K3) b3 r_8 iV sR c2 d6 d7 w:=
 aN (λ(X:(a7C×a7C×a7C×a7C)->K0) (t:a7C×a7C×a7C×a7C) (w:a7B)=>Jv (λ_ _ iV sR c2 _ d7 w=>X (iV,sR,c2,d7) w) k0 b3 r_8 t.1 t.2.1 t.2.2.1 d6 t.2.2.2 w) (iV,sR,c2,d7) w
theorem TY(k0:K3)(h0:E3 Q k0 0 8 10 12)(h:rL k0 (g 3) (g 8) (g 10) (g 11) (g 12) (g 26) (g 27) w):bQ pg fK (bI (aA 1 (aD 1 (aA 5 oC)))) Q g w:=by
 refine qO (λg:Env=>(g 10,g 11,g 12,g 27)) _ h (λX g1 w1 ha hL=> ?_);rw[<-bG 3 ha,<-bG 8 ha,<-bG 26 ha]at hL;exact(pV [(0,(kC k0 8 10 12))] (kr:=no) (DZ (λ_ _ iV sR c2 _ d7 w=>X (iV,sR,c2,d7) w) 3 8 10 11 12 26 27) hL bH sL ⟨h0,trivial⟩)
def Jw(kn:K7) uO b3 r_8 iV sR c2 w:=
 kn b3 r_8 iV sR c2 uO (a7D 0) w
def zM(kn:K3) uO b3 r_8 iV sR c2 w:=
 Jw (rL kn) uO b3 r_8 iV sR c2 w
def zN(R:K1) uO b3 r_8 iV sR c2 w:=
 zM (zL R) uO b3 r_8 iV sR c2 w
theorem TZ(kn:K3)(hn:N3 Q kn 8 10 12)(h:zM kn (g 2) (g 3) (g 8) (g 10) (g 11) (g 12) w):bQ pg fK (aD 1 (aA 5 oC)) Q g w:=
 bC 1 (dP (DZ (rL kn) 3 8 10 11 12 26 27) h (λg w h=>aC (jP 0 (TY _ g w kn hn h))))
def Jx(kn:K6)(R:K1) b0 Ei uO w:=
 (?X:PT (type_of%(tt (aN3 (λc=>(aD 5 c)) (Aj kn 2 3 8 10 11 12) [] R (El [0,1,2] [b0,Ei,uO]) w= ?X) (by unfold aN3 Tryz.f124 mR fK;exact ev))))
def Jy(R:K1) b0 Ei uO w:=
 Jx (zN R) R b0 Ei uO w
def QL a0 a1 a2 w(R:K1):=
 Jy R a0 a1 a2 w
theorem VG{a0 a1 a2 w R}(h:QL a0 a1 a2 w R):aL pg A9 #[a0,a1,a2] w R:=
 gF (ann:=fK) Tryz.f124 oC [a0,a1,a2] mR 73 TryzM.mixed Tryz.func124 (bC 5 (vT (Aj (zN R) 2 3 8 10 11 12) h (λg w h=>aC (bC 1 (TZ _ g w (zL R) (λg w h=>aC (gI h bH)) h))) bH))
def MQ:FA:=nA UZ
def SO:List ResultVar:=[.cell 2 105,.tmp 3]
noncomputable def WB:Code:=aO Tryz.f125
def aW5:DT:=bP pg MQ WB Tryz.f125 (gP SO)
def aiX(R:K1) n_0 w:=
 (?X:PT (type_of%(tt (aW5 (λc=>c) no [] R (El [0] [n_0]) w= ?X) (by unfold aW5 Tryz.f125 SO MQ;exact ev))))
def aDz a0 w(R:K1):=
 aiX R a0 w
theorem aBJ{a0 w R}(h:aDz a0 w R):aL pg UZ #[a0] w R:=
 gF (ann:=MQ) Tryz.f125 WB [a0] SO 21 TryzM.mixed Tryz.func125 (gI h bH)
def MP:FA:=nA UU
def SN:List ResultVar:=[.tmp 2]
noncomputable def Wz:Code:=aO Tryz.f126
def aW6:DT:=bP pg MP Wz Tryz.f126 (gP SN)
def ahU(R:K1) bU w:=
 (?X:PT (type_of%(tt (aW6 (λc=>c) no [] R (El [0] [bU]) w= ?X) (by unfold aW6 Tryz.f126 SN MP;exact ev))))
def aDc a0 w(R:K1):=
 ahU R a0 w
theorem aBB{a0 w R}(h:aDc a0 w R):aL pg UU #[a0] w R:=
 gF (ann:=MP) Tryz.f126 Wz [a0] SN 19 TryzM.mixed Tryz.func126 (gI h bH)
def CJ:FA:=nA Hu
def Ga:List ResultVar:=[.cell 2 79,.tmp 3]
noncomputable def Ly:Code:=aO Tryz.f127
def aW7:DT:=bP pg CJ Ly Tryz.f127 (gP Ga)
def Ra(R:K1) bU w:=
 (?X:PT (type_of%(tt (aW7 (λc=>c) no [] R (El [0] [bU]) w= ?X) (by unfold aW7 Tryz.f127 Ga CJ;exact ev))))
def aeM a0 w(R:K1):=
 Ra R a0 w
theorem agW{a0 w R}(h:aeM a0 w R):aL pg Hu #[a0] w R:=
 gF (ann:=CJ) Tryz.f127 Ly [a0] Ga 9 TryzM.mixed Tryz.func127 (gI h bH)
def Zs:FA:=nA axF
def apI:List ResultVar:=[.cell 2 79]
noncomputable def aqR:Code:=aO Tryz.f128
def aW8:DT:=bP pg Zs aqR Tryz.f128 (gP apI)
def aDr(R:K1) aEY w:=
 (?X:PT (type_of%(tt (aW8 (λc=>c) no [] R (El [0] [aEY]) w= ?X) (by unfold aW8 Tryz.f128 apI Zs;exact ev))))
def aNv a0 w(R:K1):=
 aDr R a0 w
theorem aG6 {a0 w R}(h:aNv a0 w R):aL pg axF #[a0] w R:=
 gF (ann:=Zs) Tryz.f128 aqR [a0] apI 7 TryzM.mixed Tryz.func128 (gI h bH)
def BT:FA:=nA RH
def Gb:List ResultVar:=[.tmp 2]
noncomputable def HF:Code:=aO Tryz.f129
def aW9:DT:=bP pg BT HF Tryz.f129 (gP Gb)
def PO(R:K1) w:=
 R (a7D 0) w
def tT(kn:K0)(R:K1) b3 b4 w:=
 JJ b4
  (R (a7D 9) w)
  (bF pg (bZ .eql 3 (.tmp 3) (.const (a7D 1)) b3 (a7D 1)) w λb8 w=>
  JJ b8
   (R (a7D 8) w)
   (kn w))
def aeN(kn:K2) b3 w:=
 (?X:PT (type_of%(tt (aW9 (λc=>(aD 1 (bI (aA 1 (aD 1 (aA 1 c)))))) (vJ kn 3 4) [] nG (El [3] [b3]) w= ?X) (by unfold aW9 Tryz.f129 Gb BT;exact ev))))
def PQ(kn:K0)(R:K1) b3 w:=
 aeN (tT kn R) b3 w
def aeO(kn:K1) bU w:=
 kn bU w
def PR(kn:K0)(R:K1) bU w:=
 aeO (PQ kn R) bU w
def PS(R:K1) bU w:=
 PR (PO R) R bU w
theorem awP(kn:K0)(R:K1)(hn:N0 Q kn)(hr:HR Gb R Q)(h:PR kn R (g 0) w):bQ pg BT (aD 1 (aA 1 HF)) Q g w:=
 bC 1 (dP (AN (PQ kn R) 3) h (λg w h=>aC (jP 0 (bC 1 (dP (vJ (tT kn R) 3 4) h (λg w h=>aC (vT _ h hn hr)))))))
def aeP(kn:K1) bU w:=
 kn bU w
def YG(R:K1) bU w:=
 aeP (PS R) bU w
def aBr a0 w(R:K1):=
 YG R a0 w
theorem aAu{a0 w R}(h:aBr a0 w R):aL pg RH #[a0] w R:=
 gF (ann:=BT) Tryz.f129 HF [a0] Gb 9 TryzM.mixed Tryz.func129 (bC 1 (dP (AN (PS R) 0) h (λg w h=>aC (bC 1 (awP _ g w (PO R) R (λg w h=>aC (gI h bH)) bH h)))))
def Bk:FA:=nA Zb
def Wk:List ResultVar:=[.tmp 6]
noncomputable def EB:Code:=aO Tryz.f130
def aXa:DT:=bP pg Bk EB Tryz.f130 (gP Wk)
def Vp(R:K1) P5 w:=
 R P5 w
def aqI(kn:K5)(k0:K1) bJ axM P5 c0 c1 w:=
 (?X:PT (type_of%(tt (aXa (λc=>(bI (bI (aA 1 (aD 1 (aA 2 c)))))) (nY kn 0 1 7 10 11) [(0,(AN k0 7))] nG (El [0,1,7,10,11] [bJ,axM,P5,c0,c1]) w= ?X) (by unfold aXa Tryz.f130 Wk Bk;exact ev))))
def LY(k0:K1) bJ axM P5 c0 c1 w:=
 aN (λ(X:(a7C×a7C)->K0) (t:a7C×a7C) (w:a7B)=>aqI (λ_ _ P5 _ c1 w=>X (P5,c1) w) k0 bJ axM t.1 c0 t.2 w) (P5,c1) w
theorem aBx(k0:K1)(h0:E1 Q k0 0 7)(h:LY k0 (g 0) (g 1) (g 7) (g 10) (g 11) w):bQ pg Bk (bI (aA 1 (aD 1 (aA 2 EB)))) Q g w:=by
 refine qO (λg:Env=>(g 7,g 11)) _ h (λX g1 w1 ha hL=> ?_);rw[<-bG 0 ha,<-bG 1 ha,<-bG 10 ha]at hL;exact(pV [(0,(AN k0 7))] (kr:=no) (nY (λ_ _ P5 _ c1 w=>X (P5,c1) w) 0 1 7 10 11) hL bH sL ⟨h0,trivial⟩)
def aqJ(kn:K5) bJ axM uO P5 w:=
 kn bJ axM P5 uO (a7D 0) w
def Vq(kn:K1) bJ axM uO P5 w:=
 aqJ (LY kn) bJ axM uO P5 w
def Vr(R:K1) bJ axM uO P5 w:=
 Vq (Vp R) bJ axM uO P5 w
theorem aBy(kn:K1)(hn:N1 Q kn 7)(h:Vq kn (g 0) (g 1) (g 2) (g 7) w):bQ pg Bk (aD 1 (aA 2 EB)) Q g w:=
 bC 1 (dP (nY (LY kn) 0 1 7 10 11) h (λg w h=>aC (jP 0 (aBx _ g w kn hn h))))
def aqK(kn:K4) bJ axM uO w:=
 kn bJ axM uO (.int .u64 0) w
def aqL(R:K1) bJ axM uO w:=
 aqK (Vr R) bJ axM uO w
def aFQ a0 a1 a2 w(R:K1):=
 aqL R a0 a1 a2 w
theorem aC4 {a0 a1 a2 w R}(h:aFQ a0 a1 a2 w R):aL pg Zb #[a0,a1,a2] w R:=
 gF (ann:=Bk) Tryz.f130 EB [a0,a1,a2] Wk 34 TryzM.mixed Tryz.func130 (bC 2 (dP (lX (Vr R) 0 1 2 7) h (λg w h=>aC (bC 1 (aBy _ g w (Vp R) (λg w h=>aC (gI h bH)) h)))))
def RK:FA:=⟨Zc,λi=>match Nat.beq i 4 with|true=> .leaf ([],[]) (fz 4 [])|false=>match Nat.beq i 7 with|true=> .leaf ([],[]) (fz 4 [])|false=> .leaf ([],[]) []⟩
def Wl:List ResultVar:=[.tmp 2,.tmp 3,.tmp 4]
noncomputable def ZC:Code:=aO Tryz.f131
def aXb:DT:=bP pg RK ZC Tryz.f131 (gP Wl)
def aqW(R:K1) bU w:=
 (?X:PT (type_of%(tt (aXb (λc=>c) no [] R (El [0] [bU]) w= ?X) (by unfold aXb Tryz.f131 Wl RK;exact ev))))
def aFU a0 w(R:K1):=
 aqW R a0 w
theorem aDe{a0 w R}(h:aFU a0 w R):aL pg Zc #[a0] w R:=
 gF (ann:=RK) Tryz.f131 ZC [a0] Wl 16 TryzM.mixed Tryz.func131 (gI h bH)
def agC:FA:=nA DK
def apH:List ResultVar:=[.tmp 2]
noncomputable def ZB:Code:=aO Tryz.f132
def M8 (R:K1) bJ w:=
 aL pg nT #[bJ] w λb4 w=>
 bF pg (dK 278 [(0,b4)]) w λb5 w=>
 bF pg (aKd 278 b5) w λb6 w=>
 R b6 w
def Wy a0 w(R:K1):=
 M8 R a0 w
theorem Zy{a0 w R}(h:Wy a0 w R):aL pg DK #[a0] w R:=
 gF (ann:=agC) Tryz.f132 ZB [a0] apH 7 TryzM.mixed Tryz.func132 (gI h bH)
def wJ:FA:=⟨A5,λi=>match Nat.beq i 3 with|true=> .leaf ([],[]) (fz 14 [])|false=>match Nat.beq i 5 with|true=>lf (fz 9 (ft [] (fz 1 [])))|false=> .leaf ([],[]) []⟩
def zY:List ResultVar:=[.tmp 4,.tmp 5]
noncomputable def Ez:Code:=aO Tryz.f133
def aXc:DT:=bP pg wJ Ez Tryz.f133 (gP zY)
def Ja(R:K1) f_0 lL w:=
 (?X:PT (type_of%(tt (aXc (λc=>c) no [] R (El [0,1] [f_0,lL]) w= ?X) (by unfold aXc Tryz.f133 zY wJ;exact ev))))
def Qk a0 a1 w(R:K1):=
 Ja R a0 a1 w
theorem Vn{a0 a1 w R}(h:Qk a0 a1 w R):aL pg A5 #[a0,a1] w R:=
 gF (ann:=wJ) Tryz.f133 Ez [a0,a1] zY 51 TryzM.mixed Tryz.func133 (gI h bH)
def Hz:FA:=nA My
def Lm:List ResultVar:=[.tmp 4,.tmp 5]
noncomputable def Qp:Code:=aO Tryz.f134
def aXd:DT:=bP pg Hz Qp Tryz.f134 (gP Lm)
def Xq(R:K1) f_0 aLy w:=
 (?X:PT (type_of%(tt (aXd (λc=>c) no [] R (El [0,1] [f_0,aLy]) w= ?X) (by unfold aXd Tryz.f134 Lm Hz;exact ev))))
def asV a0 a1 w(R:K1):=
 Xq R a0 a1 w
theorem asW{a0 a1 w R}(h:asV a0 a1 w R):aL pg My #[a0,a1] w R:=
 gF (ann:=Hz) Tryz.f134 Qp [a0,a1] Lm 58 TryzM.mixed Tryz.func134 (gI h bH)
def axJ:FA:=nA Mx
def aCn:List ResultVar:=[.tmp 2]
noncomputable def aqS:Code:=aO Tryz.f135
def Kl(R:K1) p_0 w:=
 bF pg (bZ .lss 3 iB iB p_0 (a7D 0)) w λb4 w=>
 JJ b4
  (R (a7D 1) w)
  (R p_0 w)
def VN a0 w(R:K1):=
 Kl R a0 w
theorem asU{a0 w R}(h:VN a0 w R):aL pg Mx #[a0] w R:=
 gF (ann:=axJ) Tryz.f135 aqS [a0] aCn 6 TryzM.mixed Tryz.func135 (gI h bH)
def pP:FA:=nA Hr
def rQ:List ResultVar:=[.tmp 2,.tmp 3]
noncomputable def sN:Code:=aO Tryz.f136
def aXe:DT:=bP pg pP sN Tryz.f136 (gP rQ)
def Fy(R:K1) n_4 w:=
 R (.tuple #[n_4,(a7D 0)]) w
def QT(kn:K2)(k0:K1)(R:K1) f_0 n_4 w:=
 (?X:PT (type_of%(tt (aXe (λc=>(bI (bI (aD 1 (aA 2 (bI (aA 1 c))))))) (vJ kn 0 4) [(0,(AN k0 4))] R (El [0,4] [f_0,n_4]) w= ?X) (by unfold aXe Tryz.f136 rQ pP;exact ev))))
def xV(k0:K1)(R:K1) f_0 n_4 w:=
 aN (λ(X:a7C->K0) (t:a7C) (w:a7B)=>QT (λ_ n_4 w=>X n_4 w) k0 R f_0 t w) n_4 w
theorem aaS(k0:K1)(R:K1)(h0:E1 Q k0 0 4)(hr:HR rQ R Q)(h:xV k0 R (g 0) (g 4) w):bQ pg pP (bI (aD 1 (aA 2 (bI (aA 1 sN))))) Q g w:=by
 refine qO (λg:Env=>g 4) _ h (λX g1 w1 ha hL=> ?_);rw[<-bG 0 ha]at hL;exact(pV [(0,(AN k0 4))] (vJ (λ_ n_4 w=>X n_4 w) 0 4) hL bH hr ⟨h0,trivial⟩)
def Fz(R:K1) f_0 n_4 w:=
 xV (Fy R) R f_0 n_4 w
theorem aaT(kn:K1)(R:K1)(hn:N1 Q kn 4)(hr:HR rQ R Q)(h:xV kn R (g 0) (g 4) w):bQ pg pP (aD 1 (aA 2 (bI (aA 1 sN)))) Q g w:=
 jP 0 (aaS _ g w kn R hn hr h)
def QU(kn:K2) f_0 w:=
 kn f_0 (a7D 0) w
def FB(R:K1) f_0 w:=
 QU (Fz R) f_0 w
def QV(kn:K1) f_0 w:=
 kn f_0 w
def Oy(R:K1) f_0 w:=
 QV (FB R) f_0 w
def aaR a0 w(R:K1):=
 Oy R a0 w
theorem agM{a0 w R}(h:aaR a0 w R):aL pg Hr #[a0] w R:=
 gF (ann:=pP) Tryz.f136 sN [a0] rQ 22 TryzM.mixed Tryz.func136 (bC 1 (dP (AN (FB R) 0) h (λg w h=>aC (scD (bC 2 (dP (vJ (Fz R) 0 4) h (λg w h=>aC (bC 1 (aaT _ g w (Fy R) R (λg w h=>aC (gI h bH)) bH h)))))))))
def wK:FA:=nA A6
def zZ:List ResultVar:=[.tmp 2]
noncomputable def EA:Code:=aO Tryz.f137
def aXf:DT:=bP pg wK EA Tryz.f137 (gP zZ)
def Jb(R:K1) f_0 w:=
 (?X:PT (type_of%(tt (aXf (λc=>c) no [] R (El [0] [f_0]) w= ?X) (by unfold aXf Tryz.f137 zZ wK;exact ev))))
def Ql a0 w(R:K1):=
 Jb R a0 w
theorem Vo{a0 w R}(h:Ql a0 w R):aL pg A6 #[a0] w R:=
 gF (ann:=wK) Tryz.f137 EA [a0] zZ 11 TryzM.mixed Tryz.func137 (gI h bH)
def Hy:FA:=nA Mw
def Ll:List ResultVar:=[.tmp 4]
noncomputable def Qo:Code:=aO Tryz.f138
def aXg:DT:=bP pg Hy Qo Tryz.f138 (gP Ll)
def Xn(R:K1) YJ Ou w:=
 (?X:PT (type_of%(tt (aXg (λc=>c) no [] R (El [0,1] [YJ,Ou]) w= ?X) (by unfold aXg Tryz.f138 Ll Hy;exact ev))))
def asQ a0 a1 w(R:K1):=
 Xn R a0 a1 w
theorem asR{a0 a1 w R}(h:asQ a0 a1 w R):aL pg Mw #[a0,a1] w R:=
 gF (ann:=Hy) Tryz.f138 Qo [a0,a1] Ll 14 TryzM.mixed Tryz.func138 (gI h bH)
def eF:FA:=nA UY
def BM:List ResultVar:=[.tmp 2]
noncomputable def gD:Code:=aO Tryz.f139
def aN4:DT:=bP pg eF gD Tryz.f139 (gP BM)
def Sb(R:K1) dE w:=
 R dE w
def Sc(kn:K7) yL dE bS iS e7 e8 e9 w:=
 bF pg (bZ .add 3 iB iB e9 (a7D 1)) w λj8 w=>
 kn yL dE bS iS e7 e8 j8 w
def Sd(kn:K10) yL dE bS iS UR e7 e8 e9 f5 f6 w:=
 bF pg (bZ .add 3 iB iB f6 (a7D 1)) w λj7 w=>
 kn yL dE bS iS UR e7 e8 e9 f5 j7 w
def aiS(kn:K10)(k5:K10) yL dE bS iS UR e7 e8 e9 f5 f6 w:=
 (?X:PT (type_of%(tt (aN4 (λc=>(bI (bI (aA 1 (bI (aD 1 (aA 2 (bI (bI (aA 2 (bI (aA 1 (bI (aD 1 (aA 2 (bI (bI (aA 1 (aD 1 (aA 1 (aA 1 (aA 4 c)))))))))))))))))))))) (GF kn 3 4 5 8 9 37 38 39 45 46) [(5,(GF k5 3 4 5 8 9 37 38 39 45 46))] nG (El [3,4,5,8,9,37,38,39,45,46] [yL,dE,bS,iS,UR,e7,e8,e9,f5,f6]) w= ?X) (by unfold aN4 Tryz.f139 BM eF;exact ev))))
def wB(k5:K10) yL dE bS iS UR e7 e8 e9 f5 f6 w:=
 aN (λ(X:a7C->K0) (t:a7C) (w:a7B)=>aiS (λ_ _ _ iS _ _ _ _ _ _ w=>X iS w) k5 yL dE bS t UR e7 e8 e9 f5 f6 w) iS w
theorem ayE(k5:K10)(h5:E10 Q k5 5 3 4 5 8 9 37 38 39 45 46)(h:wB k5 (g 3) (g 4) (g 5) (g 8) (g 9) (g 37) (g 38) (g 39) (g 45) (g 46) w):bQ pg eF (bI (aA 1 (bI (aD 1 (aA 2 (bI (bI (aA 2 (bI (aA 1 (bI (aD 1 (aA 2 (bI (bI (aA 1 (aD 1 (aA 1 (aA 1 (aA 4 gD)))))))))))))))))))) Q g w:=by
 refine qO (λg:Env=>g 8) _ h (λX g1 w1 ha hL=> ?_);rw[<-bG 3 ha,<-bG 4 ha,<-bG 5 ha,<-bG 9 ha,<-bG 37 ha,<-bG 38 ha,<-bG 39 ha,<-bG 45 ha,<-bG 46 ha]at hL;exact(pV [(5,(GF k5 3 4 5 8 9 37 38 39 45 46))] (kr:=no) (GF (λ_ _ _ iS _ _ _ _ _ _ w=>X iS w) 3 4 5 8 9 37 38 39 45 46) hL bH sL ⟨h5,trivial⟩)
def aiT(kn:K10) yL dE bS iS UR e7 e8 e9 f5 f6 w:=
 bF pg (S3 3 5 UR) w λi1 w=>
 bF pg (uY 77 dE iS) w λi2 w=>
 bF pg (pZ 232 i2 0) w λi3 w=>
 bF pg (dL 5 i3 i1) w λ_u w=>
 kn yL dE bS iS UR e7 e8 e9 f5 f6 w
def Se(k5:K10) yL dE bS iS UR e7 e8 e9 f5 f6 w:=
 aiT (wB k5) yL dE bS iS UR e7 e8 e9 f5 f6 w
def NH(kn:K10) yL dE bS iS UR e7 e8 e9 f5 f6 w:=
 Se (Sd kn) yL dE bS iS UR e7 e8 e9 f5 f6 w
theorem ayF(kn:K10)(hn:N10 Q kn 3 4 5 8 9 37 38 39 45 46)(h:Se kn (g 3) (g 4) (g 5) (g 8) (g 9) (g 37) (g 38) (g 39) (g 45) (g 46) w):bQ pg eF (aD 1 (aA 2 (bI (bI (aA 2 (bI (aA 1 (bI (aD 1 (aA 2 (bI (bI (aA 1 (aD 1 (aA 1 (aA 1 (aA 4 gD))))))))))))))))) Q g w:=
 jP 5 (bC 1 (dP (GF (wB kn) 3 4 5 8 9 37 38 39 45 46) h (λg w h=>aC (jP 6 (ayE _ g w kn hn h)))))
def NI(kn:K10)(k4:K7) yL dE bS iS UR e7 e8 e9 f5 f6 w:=
 bF pg (bZ .lss 3 iB iB f6 f5) w λf7 w=>
 JJ f7
  (kn yL dE bS iS UR e7 e8 e9 f5 f6 w)
  (k4 yL dE bS iS e7 e8 e9 w)
def NJ(kn:K10)(k4:K7) yL dE bS iS UR e7 e8 e9 f5 f6 w:=
 NI (NH kn) k4 yL dE bS iS UR e7 e8 e9 f5 f6 w
def Fi(k4:K7) yL dE bS iS UR e7 e8 e9 f5 f6 w:=
 aN (λ(X:(a7C×a7C)->K0) (t:a7C×a7C) (w:a7B)=>NJ (λ_ _ _ iS _ _ _ _ _ f6 w=>X (iS,f6) w) k4 yL dE bS t.1 UR e7 e8 e9 f5 t.2 w) (iS,f6) w
theorem arJ(k4:K7)(h4:E7 Q k4 4 3 4 5 8 37 38 39)(h:Fi k4 (g 3) (g 4) (g 5) (g 8) (g 9) (g 37) (g 38) (g 39) (g 45) (g 46) w):bQ pg eF (bI (aA 2 (bI (aA 1 (bI (aD 1 (aA 2 (bI (bI (aA 1 (aD 1 (aA 1 (aA 1 (aA 4 gD)))))))))))))) Q g w:=by
 refine qO (λg:Env=>(g 8,g 46)) _ h (λX g1 w1 ha hL=> ?_);rw[<-bG 3 ha,<-bG 4 ha,<-bG 5 ha,<-bG 9 ha,<-bG 37 ha,<-bG 38 ha,<-bG 39 ha,<-bG 45 ha]at hL;exact(bC 2 (pV [(4,(DZ k4 3 4 5 8 37 38 39))] (kr:=no) (GF (NH (λ_ _ _ iS _ _ _ _ _ f6 w=>X (iS,f6) w)) 3 4 5 8 9 37 38 39 45 46) hL (λg w h=>aC (bC 1 (ayF _ g w (Sd (λ_ _ _ iS _ _ _ _ _ f6 w=>X (iS,f6) w)) (λg w h=>aC (dP (GF (λ_ _ _ iS _ _ _ _ _ f6 w=>X (iS,f6) w) 3 4 5 8 9 37 38 39 45 46) h bH)) h))) sL ⟨h4,trivial⟩))
def ZW(kn:K10) yL dE bS iS UR aVY e7 e8 e9 w:=
 bF pg (yM .max #[3,3] 3 [aVY,(a7D 0)]) w λf5 w=>
 kn yL dE bS iS UR e7 e8 e9 f5 (a7D 0) w
def NK(kn:K7) yL dE bS iS UR aVY e7 e8 e9 w:=
 ZW (Fi kn) yL dE bS iS UR aVY e7 e8 e9 w
def ZX(kn:K9) yL dE bS iS e7 e8 e9 w:=
 bF pg (uY 88 e7 e9) w λf2 w=>
 bF pg (cK 3 f2) w λf3 w=>
 kn yL dE bS iS e9 f3 e7 e8 e9 w
def NL(kn:K7) yL dE bS iS e7 e8 e9 w:=
 ZX (NK kn) yL dE bS iS e7 e8 e9 w
def NM(kn:K7) yL dE bS iS e7 e8 e9 w:=
 NL (Sc kn) yL dE bS iS e7 e8 e9 w
theorem arK(kn:K7)(hn:N7 Q kn 3 4 5 8 37 38 39)(h:NL kn (g 3) (g 4) (g 5) (g 8) (g 37) (g 38) (g 39) w):bQ pg eF (aD 1 (aA 2 (bI (bI (aA 1 (aD 1 (aA 1 (aA 1 (aA 4 gD))))))))) Q g w:=
 jP 3 (bC 1 (dP (Mq9 (NK kn) 3 4 5 8 9 10 37 38 39) h (λg w h=>aC (scD (bC 2 (dP (GF (Fi kn) 3 4 5 8 9 37 38 39 45 46) h (λg w h=>aC (jP 4 (arJ _ g w kn hn h)))))))))
def NN(kn:K7)(k2:K1) yL dE bS iS e7 e8 e9 w:=
 bF pg (bZ .lss 3 iB iB e9 e8) w λf0 w=>
 JJ f0
  (kn yL dE bS iS e7 e8 e9 w)
  (k2 dE w)
def NO(kn:K7)(k2:K1) yL dE bS iS e7 e8 e9 w:=
 NN (NM kn) k2 yL dE bS iS e7 e8 e9 w
def Fj(k2:K1) yL dE bS iS e7 e8 e9 w:=
 aN (λ(X:(a7C×a7C)->K0) (t:a7C×a7C) (w:a7B)=>NO (λ_ _ _ iS _ _ e9 w=>X (iS,e9) w) k2 yL dE bS t.1 e7 e8 t.2 w) (iS,e9) w
theorem arL(k2:K1)(h2:E1 Q k2 2 4)(h:Fj k2 (g 3) (g 4) (g 5) (g 8) (g 37) (g 38) (g 39) w):bQ pg eF (bI (aA 1 (aD 1 (aA 1 (aA 1 (aA 4 gD)))))) Q g w:=by
 refine qO (λg:Env=>(g 8,g 39)) _ h (λX g1 w1 ha hL=> ?_);rw[<-bG 3 ha,<-bG 4 ha,<-bG 5 ha,<-bG 37 ha,<-bG 38 ha]at hL;exact(bC 2 (pV [(2,(AN k2 4))] (kr:=no) (DZ (NM (λ_ _ _ iS _ _ e9 w=>X (iS,e9) w)) 3 4 5 8 37 38 39) hL (λg w h=>aC (bC 1 (arK _ g w (Sc (λ_ _ _ iS _ _ e9 w=>X (iS,e9) w)) (λg w h=>aC (dP (DZ (λ_ _ _ iS _ _ e9 w=>X (iS,e9) w) 3 4 5 8 37 38 39) h bH)) h))) sL ⟨h2,trivial⟩))
def ZY(kn:K7) cO yL dE bS iS w:=
 bF pg (pZ 235 cO 1) w λe6 w=>
 bF pg (cK 88 e6) w λe7 w=>
 bF pg (yM .len #[88] 3 [e7]) w λe8 w=>
 kn yL dE bS iS e7 e8 (a7D 0) w
def NP(kn:K1) cO yL dE bS iS w:=
 ZY (Fj kn) cO yL dE bS iS w
def NQ(R:K1) cO yL dE bS iS w:=
 NP (Sb R) cO yL dE bS iS w
theorem arM(kn:K1)(hn:N1 Q kn 4)(h:NP kn (g 1) (g 3) (g 4) (g 5) (g 8) w):bQ pg eF (aD 1 (aA 1 (aA 1 (aA 4 gD)))) Q g w:=
 bC 1 (dP (DZ (Fj kn) 3 4 5 8 37 38 39) h (λg w h=>aC (jP 2 (arL _ g w kn hn h))))
def ZZ(kn:K5) cO yL dE bS w:=
 kn cO yL dE bS (a7D 0) w
def NR(R:K1) cO yL dE bS w:=
 ZZ (NQ R) cO yL dE bS w
def NS(kn:K7) cO yL dE bS c8 c9 d0 w:=
 bF pg (bZ .add 3 iB iB d0 (a7D 1)) w λe5 w=>
 kn cO yL dE bS c8 c9 e5 w
def NT(kn:K7)(k0:K4) cO yL dE bS c8 c9 d0 w:=
 (?X:PT (type_of%(tt (aN4 (λc=>(aD 3 (bI (bI (aA 1 (aD 1 (aA 4 c))))))) (DZ kn 1 3 4 5 18 19 20) [(0,(lX k0 1 3 4 5))] nG (El [1,3,4,5,18,19,20] [cO,yL,dE,bS,c8,c9,d0]) w= ?X) (by unfold aN4 Tryz.f139 BM eF;exact ev))))
def NU(kn:K7)(k0:K4) cO yL dE bS c8 c9 d0 w:=
 NT (NS kn) k0 cO yL dE bS c8 c9 d0 w
def Fk(k0:K4) cO yL dE bS c8 c9 d0 w:=
 aN (λ(X:(a7C×a7C)->K0) (t:a7C×a7C) (w:a7B)=>NU (λ_ _ _ bS _ _ d0 w=>X (bS,d0) w) k0 cO yL dE t.1 c8 c9 t.2 w) (bS,d0) w
theorem arN(k0:K4)(h0:E4 Q k0 0 1 3 4 5)(h:Fk k0 (g 1) (g 3) (g 4) (g 5) (g 18) (g 19) (g 20) w):bQ pg eF (bI (aA 1 (aD 1 (aA 4 gD)))) Q g w:=by
 refine qO (λg:Env=>(g 5,g 20)) _ h (λX g1 w1 ha hL=> ?_);rw[<-bG 1 ha,<-bG 3 ha,<-bG 4 ha,<-bG 18 ha,<-bG 19 ha]at hL;exact(bC 3 (pV [(0,(lX k0 1 3 4 5))] (kr:=no) (DZ (NS (λ_ _ _ bS _ _ d0 w=>X (bS,d0) w)) 1 3 4 5 18 19 20) hL (λg w h=>aC (dP (DZ (λ_ _ _ bS _ _ d0 w=>X (bS,d0) w) 1 3 4 5 18 19 20) h bH)) sL ⟨h0,trivial⟩))
def Z0 (kn:K7) cO yL dE bS w:=
 bF pg (pZ 235 cO 1) w λc7 w=>
 bF pg (cK 88 c7) w λc8 w=>
 bF pg (yM .len #[88] 3 [c8]) w λc9 w=>
 kn cO yL dE bS c8 c9 (a7D 0) w
def NV(kn:K4) cO yL dE bS w:=
 Z0 (Fk kn) cO yL dE bS w
def NW(R:K1) cO yL dE bS w:=
 NV (NR R) cO yL dE bS w
theorem arO(kn:K4)(hn:N4 Q kn 1 3 4 5)(h:NV kn (g 1) (g 3) (g 4) (g 5) w):bQ pg eF (aD 1 (aA 4 gD)) Q g w:=
 bC 1 (dP (DZ (Fk kn) 1 3 4 5 18 19 20) h (λg w h=>aC (jP 0 (arN _ g w kn hn h))))
def Z1 (kn:K4) YJ w:=
 (?X:PT (type_of%(tt (aN4 (λc=>(aD 4 c)) (lX kn 1 3 4 5) [] nG (El [0] [YJ]) w= ?X) (by unfold aN4 Tryz.f139 BM eF;exact ev))))
def Z2 (R:K1) YJ w:=
 Z1 (NW R) YJ w
def aDt a0 w(R:K1):=
 Z2 R a0 w
theorem aBG{a0 w R}(h:aDt a0 w R):aL pg UY #[a0] w R:=
 gF (ann:=eF) Tryz.f139 gD [a0] BM 70 TryzM.mixed Tryz.func139 (bC 4 (dP (lX (NW R) 1 3 4 5) h (λg w h=>aC (bC 1 (arO _ g w (NR R) (λg w h=>aC (bC 1 (dP (nY (NQ R) 1 3 4 5 8) h (λg w h=>aC (bC 1 (arM _ g w (Sb R) (λg w h=>aC (gI h bH)) h)))))) h)))))
def kD:FA:=nA DO
def lN:List ResultVar:=[.tmp 2]
noncomputable def Je:Code:=aO Tryz.f141
def aIk:DT:=bP pg kD Je Tryz.f141 (gP lN)
def uL(R:K1) sQ uO w:=
 (?X:PT (type_of%(tt (aIk (λc=>(aA 1 (aA 1 (aA 2 c)))) no [] R (El [0,2] [sQ,uO]) w= ?X) (by unfold aIk Tryz.f141 lN kD;exact ev))))
def Om(kn:K2) sQ uO w:=
 (?X:PT (type_of%(tt (aIk (λc=>(aD 1 (aA 1 (aA 2 c)))) (vJ kn 0 2) [] nG (El [0,2] [sQ,uO]) w= ?X) (by unfold aIk Tryz.f141 lN kD;exact ev))))
def uM(R:K1) sQ uO w:=
 Om (uL R) sQ uO w
def On(kn:K2) sQ uO w:=
 (?X:PT (type_of%(tt (aIk (λc=>(aD 1 (aA 2 c))) (vJ kn 0 2) [] nG (El [0,2] [sQ,uO]) w= ?X) (by unfold aIk Tryz.f141 lN kD;exact ev))))
def uN(R:K1) sQ uO w:=
 On (uM R) sQ uO w
def Oo(kn:K2) sQ w:=
 (?X:PT (type_of%(tt (aIk (λc=>(aD 2 c)) (vJ kn 0 2) [] nG (El [0] [sQ]) w= ?X) (by unfold aIk Tryz.f141 lN kD;exact ev))))
def Oq(R:K1) sQ w:=
 Oo (uN R) sQ w
def Xl a0 w(R:K1):=
 Oq R a0 w
theorem aaI{a0 w R}(h:Xl a0 w R):aL pg DO #[a0] w R:=
 gF (ann:=kD) Tryz.f141 Je [a0] lN 25 TryzM.mixed Tryz.func141 (bC 2 (dP (vJ (uN R) 0 2) h (λg w h=>aC (bC 1 (dP (vJ (uM R) 0 2) h (λg w h=>aC (bC 1 (dP (vJ (uL R) 0 2) h (λg w h=>aC (gI h bH))))))))))
def hJ:FA:=nA BQ
def AJ:List ResultVar:=[.tmp 2,.tmp 3]
noncomputable def lJ:Code:=aO Tryz.f142
def aSK:DT:=bP pg hJ lJ Tryz.f142 (gP AJ)
def Ia(R:K1) bK w:=
 R (.tuple #[bK,(a7D 0)]) w
def Ib(kn:K5) dJ qN bK tA w_7 w:=
 bF pg (bZ .add 3 iB iB w_7 (a7D 1)) w λd0 w=>
 kn dJ qN bK tA d0 w
def Ic(kn:K7) dJ qN bK tA w_7 d2 d3 w:=
 bF pg (bZ .add 3 iB iB d3 (a7D 1)) w λi0 w=>
 kn dJ qN bK tA w_7 d2 i0 w
def UG(kn:K7)(k2:K5) dJ qN bK tA w_7 d2 d3 w:=
 (?X:PT (type_of%(tt (aSK (λc=>(aD 3 (bI (bI (aA 1 (bI (aD 1 (aA 1 (bI (bI (aA 1 (aD 1 (aA 5 c))))))))))))) (DZ kn 0 4 5 6 7 22 23) [(2,(nY k2 0 4 5 6 7))] nG (El [0,4,5,6,7,22,23] [dJ,qN,bK,tA,w_7,d2,d3]) w= ?X) (by unfold aSK Tryz.f142 AJ hJ;exact ev))))
def UH(kn:K7)(k2:K5) dJ qN bK tA w_7 d2 d3 w:=
 UG (Ic kn) k2 dJ qN bK tA w_7 d2 d3 w
def AL(k2:K5) dJ qN bK tA w_7 d2 d3 w:=
 aN (λ(X:(a7C×a7C)->K0) (t:a7C×a7C) (w:a7B)=>UH (λ_ _ _ tA _ _ d3 w=>X (tA,d3) w) k2 dJ qN bK t.1 w_7 d2 t.2 w) (tA,d3) w
theorem agX(k2:K5)(h2:E5 Q k2 2 0 4 5 6 7)(h:AL k2 (g 0) (g 4) (g 5) (g 6) (g 7) (g 22) (g 23) w):bQ pg hJ (bI (aA 1 (bI (aD 1 (aA 1 (bI (bI (aA 1 (aD 1 (aA 5 lJ)))))))))) Q g w:=by
 refine qO (λg:Env=>(g 6,g 23)) _ h (λX g1 w1 ha hL=> ?_);rw[<-bG 0 ha,<-bG 4 ha,<-bG 5 ha,<-bG 7 ha,<-bG 22 ha]at hL;exact(bC 3 (pV [(2,(nY k2 0 4 5 6 7))] (kr:=no) (DZ (Ic (λ_ _ _ tA _ _ d3 w=>X (tA,d3) w)) 0 4 5 6 7 22 23) hL (λg w h=>aC (dP (DZ (λ_ _ _ tA _ _ d3 w=>X (tA,d3) w) 0 4 5 6 7 22 23) h bH)) sL ⟨h2,trivial⟩))
def UI(kn:K7) dJ qN bK tA w_7 w:=
 bF pg (yM .len #[22] 3 [dJ]) w λd2 w=>
 kn dJ qN bK tA w_7 d2 (a7D 0) w
def Ie(kn:K5) dJ qN bK tA w_7 w:=
 UI (AL kn) dJ qN bK tA w_7 w
def Gt(kn:K5) dJ qN bK tA w_7 w:=
 Ie (Ib kn) dJ qN bK tA w_7 w
theorem aeU(kn:K5)(hn:N5 Q kn 0 4 5 6 7)(h:Ie kn (g 0) (g 4) (g 5) (g 6) (g 7) w):bQ pg hJ (aD 1 (aA 1 (bI (bI (aA 1 (aD 1 (aA 5 lJ))))))) Q g w:=
 jP 1 (bC 1 (dP (DZ (AL kn) 0 4 5 6 7 22 23) h (λg w h=>aC (jP 2 (agX _ g w kn hn h)))))
def Rb(kn:K5)(k0:K1) dJ qN bK tA w_7 w:=
 bF pg (bZ .leq 3 iB iB w_7 qN) w λc8 w=>
 JJ c8
  (kn dJ qN bK tA w_7 w)
  (k0 bK w)
def Rc(kn:K5)(k0:K1) dJ qN bK tA w_7 w:=
 Rb (Gt kn) k0 dJ qN bK tA w_7 w
def yA(k0:K1) dJ qN bK tA w_7 w:=
 aN (λ(X:(a7C×a7C)->K0) (t:a7C×a7C) (w:a7B)=>Rc (λ_ _ _ tA w_7 w=>X (tA,w_7) w) k0 dJ qN bK t.1 t.2 w) (tA,w_7) w
theorem aeV(k0:K1)(h0:E1 Q k0 0 5)(h:yA k0 (g 0) (g 4) (g 5) (g 6) (g 7) w):bQ pg hJ (bI (aA 1 (aD 1 (aA 5 lJ)))) Q g w:=by
 refine qO (λg:Env=>(g 6,g 7)) _ h (λX g1 w1 ha hL=> ?_);rw[<-bG 0 ha,<-bG 4 ha,<-bG 5 ha]at hL;exact(bC 1 (pV [(0,(AN k0 5))] (kr:=no) (nY (Gt (λ_ _ _ tA w_7 w=>X (tA,w_7) w)) 0 4 5 6 7) hL (λg w h=>aC (bC 1 (aeU _ g w (Ib (λ_ _ _ tA w_7 w=>X (tA,w_7) w)) (λg w h=>aC (dP (nY (λ_ _ _ tA w_7 w=>X (tA,w_7) w) 0 4 5 6 7) h bH)) h))) sL ⟨h0,trivial⟩))
def Rd(kn:K5) dJ qN bK tA w:=
 kn dJ qN bK tA (a7D 1) w
def Gu(kn:K1) dJ qN bK tA w:=
 Rd (yA kn) dJ qN bK tA w
def Gv(R:K1) dJ qN bK tA w:=
 Gu (Ia R) dJ qN bK tA w
theorem aeW(kn:K1)(hn:N1 Q kn 5)(h:Gu kn (g 0) (g 4) (g 5) (g 6) w):bQ pg hJ (aD 1 (aA 5 lJ)) Q g w:=
 bC 1 (dP (nY (yA kn) 0 4 5 6 7) h (λg w h=>aC (jP 0 (aeV _ g w kn hn h))))
def Gw(kn:K4)(R:K1) dJ w:=
 (?X:PT (type_of%(tt (aSK (λc=>(aD 5 c)) (lX kn 0 4 5 6) [] R (El [0] [dJ]) w= ?X) (by unfold aSK Tryz.f142 AJ hJ;exact ev))))
def Gx(R:K1) dJ w:=
 Gw (Gv R) R dJ w
def S9 a0 w(R:K1):=
 Gx R a0 w
theorem PV{a0 w R}(h:S9 a0 w R):aL pg BQ #[a0] w R:=
 gF (ann:=hJ) Tryz.f142 lJ [a0] AJ 52 TryzM.mixed Tryz.func142 (bC 5 (vT (lX (Gv R) 0 4 5 6) h (λg w h=>aC (bC 1 (aeW _ g w (Ia R) (λg w h=>aC (gI h bH)) h))) bH))
def HC:FA:=nA MJ
def Lq:List ResultVar:=[.cell 2 235]
noncomputable def Qt:Code:=aO Tryz.f143
def aXh:DT:=bP pg HC Qt Tryz.f143 (gP Lq)
def YH(R:K1) bU w:=
 (?X:PT (type_of%(tt (aXh (λc=>c) no [] R (El [0] [bU]) w= ?X) (by unfold aXh Tryz.f143 Lq HC;exact ev))))
def awQ a0 w(R:K1):=
 YH R a0 w
theorem awR{a0 w R}(h:awQ a0 w R):aL pg MJ #[a0] w R:=
 gF (ann:=HC) Tryz.f143 Qt [a0] Lq 23 TryzM.mixed Tryz.func143 (gI h bH)
def sU:FA:=nA U0
def wG:List ResultVar:=[.tmp 2]
noncomputable def BW:Code:=aO Tryz.f144
def aSL:DT:=bP pg sU BW Tryz.f144 (gP wG)
def Sh(R:K1) CN w:=
 bF pg (bZ .eql 3 (.tmp 60) (.const (a7D 0)) CN (a7D 0)) w λj1 w=>
 R j1 w
def IC(kn:K4)(k0:K1)(R:K1) CN f1 f2 f3 w:=
 (?X:PT (type_of%(tt (aSL (λc=>(bI (bI (aA 1 (aD 1 (aA 3 c)))))) (lX kn 3 41 42 43) [(0,(AN k0 3))] R (El [3,41,42,43] [CN,f1,f2,f3]) w= ?X) (by unfold aSL Tryz.f144 wG sU;exact ev))))
def ID(k0:K1)(R:K1) CN f1 f2 f3 w:=
 aN (λ(X:(a7C×a7C)->K0) (t:a7C×a7C) (w:a7B)=>IC (λCN _ _ f3 w=>X (CN,f3) w) k0 R t.1 f1 f2 t.2 w) (CN,f3) w
theorem ayU(k0:K1)(R:K1)(h0:E1 Q k0 0 3)(hr:HR wG R Q)(h:ID k0 R (g 3) (g 41) (g 42) (g 43) w):bQ pg sU (bI (aA 1 (aD 1 (aA 3 BW)))) Q g w:=by
 refine qO (λg:Env=>(g 3,g 43)) _ h (λX g1 w1 ha hL=> ?_);rw[<-bG 41 ha,<-bG 42 ha]at hL;exact(pV [(0,(AN k0 3))] (lX (λCN _ _ f3 w=>X (CN,f3) w) 3 41 42 43) hL bH hr ⟨h0,trivial⟩)
def ajG(kn:K4) cO CN w:=
 bF pg (pZ 235 cO 1) w λf0 w=>
 bF pg (cK 88 f0) w λf1 w=>
 bF pg (yM .len #[88] 3 [f1]) w λf2 w=>
 kn CN f1 f2 (a7D 0) w
def Si(kn:K1)(R:K1) cO CN w:=
 ajG (ID kn R) cO CN w
def Sj(R:K1) cO CN w:=
 Si (Sh R) R cO CN w
theorem ayV(kn:K1)(R:K1)(hn:N1 Q kn 3)(hr:HR wG R Q)(h:Si kn R (g 1) (g 3) w):bQ pg sU (aD 1 (aA 3 BW)) Q g w:=
 bC 1 (dP (lX (ID kn R) 3 41 42 43) h (λg w h=>aC (jP 0 (ayU _ g w kn R hn hr h))))
def ajH(kn:K2)(R:K1) YJ w:=
 (?X:PT (type_of%(tt (aSL (λc=>(aD 3 c)) (vJ kn 1 3) [] R (El [0] [YJ]) w= ?X) (by unfold aSL Tryz.f144 wG sU;exact ev))))
def ajI(R:K1) YJ w:=
 ajH (Sj R) R YJ w
def aDY a0 w(R:K1):=
 ajI R a0 w
theorem aBK{a0 w R}(h:aDY a0 w R):aL pg U0 #[a0] w R:=
 gF (ann:=sU) Tryz.f144 BW [a0] wG 62 TryzM.mixed Tryz.func144 (bC 3 (vT (vJ (Sj R) 1 3) h (λg w h=>aC (bC 1 (ayV _ g w (Sh R) R (λg w h=>aC (gI h bH)) bH h))) bH))
def Eh:FA:=nA JT
def H4:List ResultVar:=[.tmp 2]
noncomputable def Nl:Code:=aO Tryz.f145
def aXi:DT:=bP pg Eh Nl Tryz.f145 (gP H4)
def UK(R:K1) dJ w:=
 (?X:PT (type_of%(tt (aXi (λc=>c) no [] R (El [0] [dJ]) w= ?X) (by unfold aXi Tryz.f145 H4 Eh;exact ev))))
def alU a0 w(R:K1):=
 UK R a0 w
theorem apQ{a0 w R}(h:alU a0 w R):aL pg JT #[a0] w R:=
 gF (ann:=Eh) Tryz.f145 Nl [a0] H4 53 TryzM.mixed Tryz.func145 (gI h bH)
def kE:FA:=nA DV
def uX:List ResultVar:=[.tmp 2]
noncomputable def rI:Code:=aO Tryz.f146
def aSM:DT:=bP pg kE rI Tryz.f146 (gP uX)
def C5 (R:K1) m_3 w:=
 R m_3 w
def PJ(kn:K3)(k0:K1) sQ m_3 cV w:=
 (?X:PT (type_of%(tt (aSM (λc=>(bI (bI (aA 1 (aD 1 (aA 1 (aA 2 c))))))) (kC kn 0 3 4) [(0,(AN k0 3))] nG (El [0,3,4] [sQ,m_3,cV]) w= ?X) (by unfold aSM Tryz.f146 uX kE;exact ev))))
def vA(k0:K1) sQ m_3 cV w:=
 aN (λ(X:(a7C×a7C)->K0) (t:a7C×a7C) (w:a7B)=>PJ (λ_ m_3 cV w=>X (m_3,cV) w) k0 sQ t.1 t.2 w) (m_3,cV) w
theorem YZ(k0:K1)(h0:E1 Q k0 0 3)(h:vA k0 (g 0) (g 3) (g 4) w):bQ pg kE (bI (aA 1 (aD 1 (aA 1 (aA 2 rI))))) Q g w:=by
 refine qO (λg:Env=>(g 3,g 4)) _ h (λX g1 w1 ha hL=> ?_);rw[<-bG 0 ha]at hL;exact(pV [(0,(AN k0 3))] (kr:=no) (kC (λ_ m_3 cV w=>X (m_3,cV) w) 0 3 4) hL bH sL ⟨h0,trivial⟩)
def PK(kn:K3) sQ m_3 w:=
 kn sQ m_3 (a7D 1) w
def C6 (kn:K1) sQ m_3 w:=
 PK (vA kn) sQ m_3 w
def C7 (R:K1) sQ m_3 w:=
 C6 (C5 R) sQ m_3 w
theorem Y0 (kn:K1)(hn:N1 Q kn 3)(h:C6 kn (g 0) (g 3) w):bQ pg kE (aD 1 (aA 1 (aA 2 rI))) Q g w:=
 bC 1 (dP (kC (vA kn) 0 3 4) h (λg w h=>aC (jP 0 (YZ _ g w kn hn h))))
def PL(kn:K2) sQ w:=
 bF pg (uY 22 sQ (a7D 0)) w λc0 w=>
 bF pg (cK 5 c0) w λc1 w=>
 kn sQ c1 w
def C8 (R:K1) sQ w:=
 PL (C7 R) sQ w
def LQ(kn:K1) sQ w:=
 (?X:PT (type_of%(tt (aSM (λc=>(aD 2 c)) (AN kn 0) [] nG (El [0] [sQ]) w= ?X) (by unfold aSM Tryz.f146 uX kE;exact ev))))
def LR(R:K1) sQ w:=
 LQ (C8 R) sQ w
def YF a0 w(R:K1):=
 LR R a0 w
theorem aeF{a0 w R}(h:YF a0 w R):aL pg DV #[a0] w R:=
 gF (ann:=kE) Tryz.f146 rI [a0] uX 25 TryzM.mixed Tryz.func146 (bC 2 (dP (AN (C8 R) 0) h (λg w h=>aC (bC 1 (dP (vJ (C7 R) 0 3) h (λg w h=>aC (bC 1 (Y0 _ g w (C5 R) (λg w h=>aC (gI h bH)) h))))))))
end Go.Proofs.YthohephggmkeeaaGreatDoor
namespace Go.En
open Go
variable{K:a7C->a7B->Prop}{M N S:Nat->Prop}{base c m n o off sz:Nat}{cs l news:List a7C}{e2 t2 ty:TypeId}{inf:TypeInfo}{v x z:a7C}{w':a7B}
section
variable{P:Program}{w:a7B}{t:TypeId}{ox oy:Operand}{k:IntKind}{a b:Int}
theorem mG(s:Sem a7C):(V s).run P w=(s.run P w).andThen λv w=> .ok (.value v) w:=by
 unfold V;rw[Sem.run_bind]<;>rfl
theorem aY7 (s:Sem Unit):(U s).run P w=(s.run P w).andThen λ_ w=> .ok .skip w:=by
 unfold U;rw[Sem.run_bind]<;>rfl
theorem aUt:(bZ .add t ox oy (.int k a) (.int k b)).run P w= .ok (.value (.int k (k.wrap (a+b)))) w:=by
 simp[bZ,Oe,mG,binOp,Op.intArith]
theorem aUL:(bZ .sub t ox oy (.int k a) (.int k b)).run P w= .ok (.value (.int k (k.wrap (a-b)))) w:=by
 simp[bZ,Oe,mG,binOp,Op.intArith]
theorem aUD:(bZ .mul t ox oy (.int k a) (.int k b)).run P w= .ok (.value (.int k (k.wrap (a*b)))) w:=by
 simp[bZ,Oe,mG,binOp,Op.intArith]
theorem aUH(h:b≠0):(bZ .quo t ox oy (.int k a) (.int k b)).run P w= .ok (.value (.int k (k.wrap (a.tdiv b)))) w:=by
 simp[bZ,Oe,mG,binOp,Op.intDiv,h]
theorem aUI(h:b≠0):(bZ .rem t ox oy (.int k a) (.int k b)).run P w= .ok (.value (.int k (a.tmod b))) w:=by
 simp[bZ,Oe,mG,binOp,Op.intDiv,h]
def yK(k:IntKind)(a b:Int):Int:=k.wrap (BitVec.ofInt k.bits a&&&BitVec.ofInt k.bits b).toNat
def orI(k:IntKind)(a b:Int):Int:=k.wrap (BitVec.ofInt k.bits a|||BitVec.ofInt k.bits b).toNat
def apS(k:IntKind)(a b:Int):Int:=k.wrap (BitVec.ofInt k.bits a^^^BitVec.ofInt k.bits b).toNat
def aNc(k:IntKind)(a b:Int):Int:=k.wrap (BitVec.ofInt k.bits a&&& ~~~BitVec.ofInt k.bits b).toNat
theorem aUu:(bZ .and t ox oy (.int k a) (.int k b)).run P w= .ok (.value (.int k (yK k a b))) w:=by
 simp[bZ,Oe,mG,binOp,Op.intBits,yK]
theorem aXM:(bZ .or t ox oy (.int k a) (.int k b)).run P w= .ok (.value (.int k (orI k a b))) w:=by
 simp[bZ,Oe,mG,binOp,Op.intBits,orI]
theorem aUM:(bZ .xor t ox oy (.int k a) (.int k b)).run P w= .ok (.value (.int k (apS k a b))) w:=by
 simp[bZ,Oe,mG,binOp,Op.intBits,apS]
theorem aJG:(bZ .andNot t ox oy (.int k a) (.int k b)).run P w= .ok (.value (.int k (aNc k a b))) w:=by
 simp[bZ,Oe,mG,binOp,Op.intBits,aNc]
theorem aUJ{k':IntKind}(h:0<=b):(bZ .shl t ox oy (.int k a) (.int k' b)).run P w= .ok (.value (.int k (k.wrap (a*2^(min b.toNat k.bits))))) w:=by
 simp[bZ,Oe,mG,binOp,Op.shift,Int.not_lt.2 h]
theorem aUK{k':IntKind}(h:0<=b):(bZ .shr t ox oy (.int k a) (.int k' b)).run P w= .ok (.value (.int k (a.fdiv (2^(min b.toNat k.bits))))) w:=by
 simp[bZ,Oe,mG,binOp,Op.shift,Int.not_lt.2 h]
theorem aUw:(bZ .eql t ox oy (.int k a) (.int k b)).run P w= .ok (.value (.bool (a==b))) w:=by
 simp[bZ,Oe,mG,binOp,Op.intCmp,eqGuard]
theorem aUE:(bZ .neq t ox oy (.int k a) (.int k b)).run P w= .ok (.value (.bool (a !=b))) w:=by
 simp[bZ,Oe,mG,binOp,Op.intCmp,eqGuard]
theorem aUA:(bZ .lss t ox oy (.int k a) (.int k b)).run P w= .ok (.value (.bool (decide (a<b)))) w:=by
 simp[bZ,Oe,mG,binOp,Op.intCmp]
theorem aUz:(bZ .leq t ox oy (.int k a) (.int k b)).run P w= .ok (.value (.bool (decide (a<=b)))) w:=by
 simp[bZ,Oe,mG,binOp,Op.intCmp]
theorem aUy:(bZ .gtr t ox oy (.int k a) (.int k b)).run P w= .ok (.value (.bool (decide (b<a)))) w:=by
 simp[bZ,Oe,mG,binOp,Op.intCmp]
theorem aUx:(bZ .geq t ox oy (.int k a) (.int k b)).run P w= .ok (.value (.bool (decide (b<=a)))) w:=by
 simp[bZ,Oe,mG,binOp,Op.intCmp]
theorem aRF:(sUn .neg (.int k a)).run P w= .ok (.value (.int k (k.wrap (0-a)))) w:=by
 simp[sUn,mG,Op.unary,Op.intArith]
theorem aUv:(sUn .xor (.int k a)).run P w= .ok (.value (.int k (apS k (if k.signed then-1 else k.max) a))) w:=by
 simp[sUn,mG,Op.unary,Op.intBits,apS]
theorem aUG(c:Bool):(sUn .not (.bool c)).run P w= .ok (.value (.bool !c)) w:=by
 simp[sUn,mG,Op.unary]
theorem aRG(c:Bool)(x y:a7C):(aNN (.bool c) x y).run P w= .ok (.value (if c then x else y)) w:=by
 simp[aNN,asBool]
theorem aKc{y:a7C}{r:Bool}(hg:eqGuard .eql t ox oy x y=pure ())(hb:binOp .eql t x y=(do pure (.bool (<-Op.equal t x y))))(he:(Op.equal t x y).run P w= .ok r w):
 (bZ .eql t ox oy x y).run P w= .ok (.value (.bool r)) w:=by
 unfold bZ;simp only[Oe,mG,hg,hb,pure_bind];rw[Sem.run_bind,he]<;>rfl
theorem dM{n:Int}(h0: -9223372036854775808<=n)(h1:n<=9223372036854775807):IntKind.i64.wrap n=n:=by
 unfold IntKind.wrap;simp[IntKind.bits,IntKind.signed];split<;>omega
theorem eL{n:Int}(h0:0<=n)(h1:n<=18446744073709551615):IntKind.u64.wrap n=n:=by
 unfold IntKind.wrap;simp[IntKind.bits,IntKind.signed];omega
theorem aUV{n:Int}(h0: -2147483648<=n)(h1:n<=2147483647):IntKind.i32.wrap n=n:=by
 unfold IntKind.wrap;simp[IntKind.bits,IntKind.signed];split<;>omega
theorem aGI{n:Int}(h0:0<=n)(h1:n<=4294967295):IntKind.u32.wrap n=n:=by
 unfold IntKind.wrap;simp[IntKind.bits,IntKind.signed];omega
theorem aUW{n:Int}(h0:0<=n)(h1:n<=65535):IntKind.u16.wrap n=n:=by
 unfold IntKind.wrap;simp[IntKind.bits,IntKind.signed];omega
theorem aFA{n:Int}(h0:0<=n)(h1:n<=255):IntKind.u8.wrap n=n:=by
 unfold IntKind.wrap;simp[IntKind.bits,IntKind.signed];omega
theorem aZe(n:Int):IntKind.u64.wrap n=n%18446744073709551616:=by
 unfold IntKind.wrap;simp[IntKind.bits,IntKind.signed]
theorem anM(x y:ByteArray)(h:((x.size+y.size:Nat):Int)<=9223372036854775807):(bZ .add t ox oy (.string x) (.string y)).run P w= .ok (.value (.string (x++y))) w:=by
 have:¬(((x.size+y.size:Nat):Int)>IntKind.i64.max):=by
  have e:IntKind.i64.max=9223372036854775807:=by decide
  rw[e];omega
 simp only[bZ,Oe,mG,binOp,Op.stringOp,this,if_false];rfl
theorem oI(x y:ByteArray):(bZ .eql t ox oy (.string x) (.string y)).run P w= .ok (.value (.bool (x.toList==y.toList))) w:=by
 simp[bZ,Oe,mG,binOp,Op.stringOp,eqGuard]
theorem aRH(x y:ByteArray):(bZ .neq t ox oy (.string x) (.string y)).run P w= .ok (.value (.bool !(x.toList==y.toList))) w:=by
 simp[bZ,Oe,mG,binOp,Op.stringOp,eqGuard]
theorem aQH(n:Nat){e:TypeId}(hu:P.underlying t=some (.pointer e))(x:Option Addr):(Op.equalIn (n+1) t (.pointer x) (.pointer none)).run P w= .ok x.isNone w:=by
 simp only[Op.equalIn,underlying];cases x<;>simp[hu]
theorem aVq{e:TypeId}(hu:P.underlying t=some (.pointer e))(x:Option Addr):(Op.equal t (.pointer x) (.pointer none)).run P w= .ok x.isNone w:=aQH 9999 hu x
theorem aTh(m:Nat){e:TypeId}(hu:P.underlying t=some (.slice e))(x:Option Addr)(n c:Nat):(Op.equalIn (m+1) t (.slice x n c) (.slice none 0 0)).run P w= .ok x.isNone w:=by
 simp only[Op.equalIn,underlying];cases x<;>simp[hu]
theorem aXA{e:TypeId}(hu:P.underlying t=some (.slice e))(x:Option Addr)(n c:Nat):(Op.equal t (.slice x n c) (.slice none 0 0)).run P w= .ok x.isNone w:=aTh 9999 hu x n c
theorem aHC{e:TypeId}(hu:P.underlying t=some (.pointer e))(x:Option Addr):(bZ .eql t ox oy (.pointer x) (.pointer none)).run P w= .ok (.value (.bool x.isNone)) w:=
 aKc rfl rfl (aVq hu x)
theorem aTJ{e:TypeId}(hu:P.underlying t=some (.slice e))(x:Option Addr)(n c:Nat):(bZ .eql t ox oy (.slice x n c) (.slice none 0 0)).run P w= .ok (.value (.bool x.isNone)) w:=
 aKc rfl rfl (aXA hu x n c)
theorem CT{s:TypeId}{d:TypeDesc}{kd:IntKind}(hs:P.underlying s=some d)(hu:P.underlying t=some (.int kd)):(S3 s t (.int k a)).run P w= .ok (.value (.int kd (kd.wrap a))) w:=by
 cases d<;>simp[S3,mG,convert,underlying,hs,hu,Conv.intToInt]
theorem VS{e:TypeId}(hu:P.underlying t=some (.slice e))(x:Option Addr)(n c:Nat):(yM .len #[t] ty [.slice x n c]).run P w= .ok (.value (.int .i64 n)) w:=by
 simp[yM,builtin,Builtin.len_,underlying,hu,goInt]
theorem aV3 (hu:P.underlying t=some .string)(x:ByteArray):(yM .len #[t] ty [.string x]).run P w= .ok (.value (.int .i64 x.size)) w:=by
 simp[yM,builtin,Builtin.len_,underlying,hu,goInt]
theorem aUC{ats:Array TypeId}{ty:TypeId}:(yM .min ats ty [.int k a,.int k b]).run P w= .ok (.value (.int k (if b<a then b else a))) w:=by
 simp[yM,builtin,Builtin.min_,Builtin.min2]
theorem aUB{ats:Array TypeId}{ty:TypeId}:(yM .max ats ty [.int k a,.int k b]).run P w= .ok (.value (.int k (if b>a then b else a))) w:=by
 simp[yM,builtin,Builtin.max_,Builtin.max2]
theorem x20 (a b:a7C):(Ge (.tuple #[a,b]) 0).run P w= .ok (.value a) w:=Eq.trans rfl rfl
theorem x21 (a b:a7C):(Ge (.tuple #[a,b]) 1).run P w= .ok (.value b) w:=Eq.trans rfl rfl
theorem x30 (a b c:a7C):(Ge (.tuple #[a,b,c]) 0).run P w= .ok (.value a) w:=Eq.trans rfl rfl
theorem x31 (a b c:a7C):(Ge (.tuple #[a,b,c]) 1).run P w= .ok (.value b) w:=Eq.trans rfl rfl
theorem x32 (a b c:a7C):(Ge (.tuple #[a,b,c]) 2).run P w= .ok (.value c) w:=Eq.trans rfl rfl
theorem x40 (a b c d:a7C):(Ge (.tuple #[a,b,c,d]) 0).run P w= .ok (.value a) w:=Eq.trans rfl rfl
theorem x41 (a b c d:a7C):(Ge (.tuple #[a,b,c,d]) 1).run P w= .ok (.value b) w:=Eq.trans rfl rfl
theorem x42 (a b c d:a7C):(Ge (.tuple #[a,b,c,d]) 2).run P w= .ok (.value c) w:=Eq.trans rfl rfl
theorem x43 (a b c d:a7C):(Ge (.tuple #[a,b,c,d]) 3).run P w= .ok (.value d) w:=Eq.trans rfl rfl
theorem aUF(x:Addr):(aL4 (.pointer (some x))).run P w= .ok (.value (.pointer (some x))) w:=Eq.trans rfl rfl
theorem aY{fs:Array Field}{f:Field}{i:Nat}(hu:P.underlying t=some (.struct fs))(hf:fs[i]?=some f)
 (hi:P.info? f.type=some inf) (hz:inf.size≠0) (x:Addr):(pZ t (.pointer (some x)) i).run P w= .ok (.value (.pointer (some (x.add f.offset)))) w:=by
 simp[pZ,mG,Instr.fieldAt,underlying,hu,hf,Instr.sureAddr,fieldPlace,sizeOf,typeInfo,hi,hz]
theorem aJI{e:TypeId}(hu:P.underlying t=some (.slice e))(hi:P.info? e=some inf)(x:Addr)(n c:Nat)(h0:0<=a)(h1:a<n):
 (uY t (.slice (some x) n c) (.int k a)).run P w= .ok (.value (.pointer (some (x.add (a.toNat*inf.size))))) w:=by
 simp[uY,mG,Instr.indexAt,asIntOf,underlying,hu,h0,h1,sizeOf,typeInfo,hi]
theorem aJH{e:TypeId}{len:Nat}(hu:P.underlying t=some (.array len e))(hi:P.info? e=some inf)(x:Addr)(h0:0<=a)(h1:a<len):
 (uY t (.pointer (some x)) (.int k a)).run P w= .ok (.value (.pointer (some (x.add (a.toNat*inf.size))))) w:=by
 simp[uY,mG,Instr.indexAt,asIntOf,underlying,hu,h0,h1,sizeOf,typeInfo,hi,Instr.sureAddr]
theorem aV2 (hu:P.underlying t=some .string)(x:ByteArray)(h0:0<=a)(h1:a.toNat<x.size):
 (aAk t (.string x) (.int k a)).run P w= .ok (.value (.int .u8 (x[a.toNat]'h1).toNat)) w:=by
 simp[aAk,mG,Instr.index,asIntOf,underlying,hu,h0,h1]
end
def aT(w:a7B)(b:Nat)(cs:List a7C):Prop:=
 ∃T lo hi,w.heap[b]?=some (.cells cs.toArray T (lo,hi))/\(cs.length<=lo∨hi=lo)
structure aE(w w':a7B)(M:Nat->Prop):Prop where
 os:w'.os=w.os
 tape:w'.tape=w.tape
 output:w'.output=w.output
 size:w.heap.size<=w'.heap.size
 keep:∀b,b<w.heap.size->¬M b->w'.heap[b]?=w.heap[b]?
def aP:Nat->Prop:=λ_=>False
theorem aE.refl (w:a7B)(M:Nat->Prop):aE w w M:=⟨rfl,rfl,rfl,a1J _,λ_ _ _=>rfl⟩
theorem aE.mono {w:a7B}(h:aE w w' M)(hm:∀b,b<w.heap.size->M b->N b):aE w w' N:=
 ⟨h.os,h.tape,h.output,h.size,λb hb hn=>h.keep b hb λhM=>hn (hm b hb hM)⟩
theorem aE.trans {a b c:a7B}(h:aE a b M)(k:aE b c N)(hn:∀x,x<a.heap.size->N x->M x):aE a c M:=
 ⟨k.os.trans h.os,k.tape.trans h.tape,k.output.trans h.output,a3K h.size k.size,
   λx hx hM=>(k.keep x (a5M hx h.size) λh=>hM (hn x hx h)).trans (h.keep x hx hM)⟩
theorem aE.seq {a b c:a7B}(h:aE a b M)(k:aE b c M):aE a c M:=h.trans k λ_ _ h=>h
theorem aE.new {a b c:a7B}{x:Nat}(h:aE a b M)(k:aE b c (λy=>y=x))(hx:a.heap.size<=x):aE a c M:=
 h.trans k λy hy e=>absurd hy (by subst e;omega)
theorem aE.more {a b c:a7B}(h:aE a b M)(k:aE b c (λ_=>False)):aE a c M:=h.trans k λ_ _ h=>h.elim
theorem aE.below {w:a7B}(h:aE w w' aP):Go.RowKit.Below w.heap.size w w':=
 ⟨h.os,h.tape,h.output,h.size,λk hk=>h.keep k hk λh=>h⟩
theorem aE.dr (w:a7B)(M:Nat->Prop):aE w (dr w) M:=⟨rfl,rfl,rfl,a1J _,λ_ _ _=>rfl⟩
theorem aE.alloc (w:a7B)(o:Obj)(M:Nat->Prop):aE w (w.alloc o) M:=
 ⟨rfl,rfl,rfl,by simp,λb hb _=>by show(w.heap.push o)[b]?=_;rw[Array.getElem?_push,if_neg (by omega)]⟩
theorem aBI(w:a7B)(a:Addr)(v:a7C)(b:Nat)(h:b≠a.block):(w.setCell a v).heap[b]?=w.heap[b]?:=Go.RowKit.Below.heap_setCell w a v b h
theorem aE.setCell (w:a7B)(a:Addr)(v:a7C)(h:a.block<w.heap.size->M a.block):aE w (w.setCell a v) M:=
 ⟨rfl,rfl,rfl,by simp,λb hb hM=>aBI w a v b λe=>hM (e▸h (e▸hb))⟩
theorem aT.lt {w:a7B}{b:Nat}(h:aT w b cs):b<w.heap.size:=by
 obtain⟨T,lo,hi,h,_⟩:=h;rcases a1Y b w.heap.size with h'|h'
 .exact h'
 .rw [a6A h']at h;cases h
theorem aT.ext {w:a7B}{b:Nat}(h:aT w b cs)(hx:aE w w' M)(hM:¬M b):aT w' b cs:=by
 have:=h.lt;obtain⟨T,lo,hi,h,k⟩:=h;exact⟨T,lo,hi,by rw[hx.keep b this hM];exact h,k⟩
theorem aT.cell {w:a7B}{b:Nat}(h:aT w b cs):w.cell? ⟨b,off,none⟩=cs[off]?:=by
 obtain⟨T,lo,hi,h,_⟩:=h;simp[World.cell?,h]
theorem aT.free {w:a7B}{b:Nat}{s:Option Nat}(h:aT w b cs)(ho:off<cs.length):w.frozen? ⟨b,off,s⟩=false:=by
 obtain⟨T,lo,hi,h,k⟩:=h;simp only[World.frozen?,h];rcases k with k|k<;>(simp;omega)
theorem aT.setCell {w:a7B}{b:Nat}(h:aT w b cs)(v:a7C):aT (w.setCell ⟨b,off,none⟩ v) b (cs.set off v):=by
 have hb:=h.lt;obtain⟨T,lo,hi,h,k⟩:=h;refine⟨T,lo,hi, ?_,by simpa using k⟩;simp only[World.setCell,a6C,h];simp
theorem aT.alloc (w:a7B)(cs:List a7C)(T:TypeId):aT (w.alloc (.cells cs.toArray T)) w.heap.size cs:=
 ⟨T,0,0,by show(w.heap.push _)[w.heap.size]?=_;simp,.inr rfl⟩
theorem aqQ{w:a7B}{a:Addr}(h:w.cell? a=some v)(hx:aE w w' M)(hM:¬M a.block):w'.cell? a=some v:=by
 have hb:=World.block_lt_of_cell? w a h;have e:=hx.keep _ hb hM;unfold World.cell? at h⊢;rw[e];exact h
section
variable{P:Program}{w:a7B}{t:TypeId}
def aIv(d:TypeDesc):Bool:=match d with| .struct _| .array _ _=>true|_=>false
theorem T4 {d:TypeDesc}(hu:P.underlying t=some d):(isAgg t).run P w= .ok (aIv d) w:=by
 cases d<;>simp[isAgg,underlying,hu,aIv]
theorem cC{i:TypeInfo}(hi:P.info? t=some i):(sizeOf t).run P w= .ok i.size w:=by simp[sizeOf,typeInfo,hi]
theorem asL{b:Nat}(ho:aT w b cs):∀(n i:Nat) (acc:Array a7C),off+i+n<=cs.length→
 (loadCellsFrom ⟨b,off,none⟩ i n acc).run P w= .ok (acc++((cs.drop (off+i)).take n).toArray) w:=by
 intro n
 induction n with
 |zero=>intro i acc _;simp[loadCellsFrom]
 |succ n ih=>
  intro i acc h;have hc:w.cell? ((⟨b,off,none⟩:Addr).add i)=some cs[off+i]:=by
   unfold Addr.add;split
   .rename_i hi;subst hi;rw[ho.cell];simp
   .show w.cell? ⟨b,off+i,none⟩=_;rw[ho.cell];simp
  simp only[loadCellsFrom,Sem.run_bind,run_load,hc,Result.andThen_ok];rw[ih (i+1) _ (by omega)];congr 1;rw[a2J (by omega:off+i<cs.length)];simp[a4E]
theorem ajD{b:Nat}(ho:aT w b cs)(h:off+n<=cs.length):
 (loadCells ⟨b,off,none⟩ n).run P w= .ok ((cs.drop off).take n).toArray w:=by
 unfold loadCells;rw[asL ho n 0 #[] (by omega)];simp
theorem iO{d:TypeDesc}{i:TypeInfo}(hu:P.underlying t=some d)(hd:aIv d=true)(hi:P.info? t=some i){b:Nat}(ho:aT w b cs)(h:off+i.size<=cs.length):
 (cK t (.pointer (some ⟨b,off,none⟩))).run P w= .ok (.value (.agg ((cs.drop off).take i.size).toArray)) w:=by
 unfold cK;rw[mG];simp only[Instr.loadAt,Instr.sureAddr,loadVar,pure_bind,Sem.run_bind,T4 hu,hd,Result.andThen_ok,if_true,cC hi,ajD ho h,Sem.run_pure]
def one(v:a7C):Bool:=match v with| .agg _| .tuple _=>false|_=>true
theorem aL2 {a:Addr}(hv:one v=true)(hc:w.cell? a=some x)(hf:w.frozen? a=false):(store a v).run P w= .ok () (w.setCell a v):=by
 unfold store;cases v<;>simp[one]at hv<;>simp[Sem.run,hc,hf]
def aF(cs:List a7C)(off:Nat):List a7C->List a7C
 |[]=>cs
 |v::vs=>aF (cs.set off v) (off+1) vs
theorem Gp{b:Nat}(hM:M b):∀(vs:List a7C) (w:a7B) (off i:Nat) (cs:List a7C),aT w b cs->off+i+vs.length<=cs.length->(∀v∈vs,one v=true)→
 ∃w',(storeCells ⟨b,off,none⟩ vs i).run P w= .ok () w'/\aT w' b (aF cs (off+i) vs)/\aE w w' M/\w'.heap.size=w.heap.size/\w'.drawn=w.drawn:=by
 intro vs
 induction vs with
 |nil=>intro w off i cs ho _ _;exact⟨w,by simp[storeCells],ho,aE.refl _ _,rfl,rfl⟩
 |cons v vs ih=>
  intro w off i cs ho h hv;simp only[a1U]at h;have ha:(⟨b,off,none⟩:Addr).add i=⟨b,off+i,none⟩:=by
   unfold Addr.add;split
   .rename_i hi;subst hi;rfl
   .rfl
  have hlt:off+i<cs.length:=by omega
  have hc:w.cell? ⟨b,off+i,none⟩=some cs[off+i]:=by rw[ho.cell];simp
  have hs:=aL2 (P:=P) (hv v (by simp)) hc (ho.free hlt);obtain⟨w',h1,h2,h3,h4,h5⟩:=ih (w.setCell ⟨b,off+i,none⟩ v) off (i+1) (cs.set (off+i) v) (ho.setCell v) (by simp;omega) (λx hx=>hv x (a2E _ hx));refine⟨w', ?_,h2,(aE.setCell w _ v λ_=>hM).trans h3 (λ_ _ h=>h),by rw[h4];simp,by rw[h5]<;>rfl⟩;simp only[storeCells,Sem.run_bind,ha,hs,Result.andThen_ok];exact h1
theorem bW{i:TypeInfo}(hi:P.info? t=some i){b:Nat}(ho:aT w b cs)(hs:v.cells.size=i.size)
 (hv:∀x∈v.cells.toList,one x=true) (h:off+i.size<=cs.length) 
 (hk:∀w',aT w' b (aF cs off v.cells.toList)->aE w w' (λx=>x=b)->w'.heap.size=w.heap.size->K undef w'):bF P (dL t (.pointer (some ⟨b,off,none⟩)) v) w K:=by
 obtain⟨w',h1,h2,h3,h4,_⟩:=Gp (P:=P) (M:=λx=>x=b) rfl v.cells.toList w off 0 cs ho (by simp[hs];omega) hv;have:(dL t (.pointer (some ⟨b,off,none⟩)) v).run P w= .ok .skip w':=by
  unfold dL;rw[aY7];simp only[Instr.storeAt,Instr.sureAddr,storeVar,pure_bind,Sem.run_bind,cC hi,Result.andThen_ok,hs];simp[h1]
 unfold bF;rw[this];exact hk w' h2 h3 h4
theorem ayZ(hv:one v=true):v.cells= #[v]:=by cases v<;>simp[one]at hv<;>rfl
theorem lU{i:TypeInfo}(hi:P.info? t=some i)(h1:i.size=1){b:Nat}(ho:aT w b cs)(hv:one v=true)(h:off<cs.length)
 (hk:∀w',aT w' b (cs.set off v)->aE w w' (λx=>x=b)->w'.heap.size=w.heap.size->K undef w'):bF P (dL t (.pointer (some ⟨b,off,none⟩)) v) w K:=by
 have e:=ayZ hv;refine bW hi ho (by rw[e,h1]<;>rfl) (by rw[e];simpa using hv) (by omega) λw' a b c=>hk w' ?_ b c;rw[e]at a;exact a
def ldC(c:Option a7C)(w:a7B)(far:Result Next):Result Next:=match c with|some v=> .ok (.value v) w|none=>far
def far(P:Program)(t:TypeId)(x:Addr)(w:a7B):Result Next:=(cK t (.pointer (some x))).run P w
theorem aJj(v:a7C)(w:a7B)(f:Result Next):ldC (some v) w f= .ok (.value v) w:=rfl
theorem atF{d:TypeDesc}(hu:P.underlying t=some d)(hd:aIv d=false)(x:Addr)(w:a7B):
 (cK t (.pointer (some x))).run P w=ldC (w.cell? x) w (far P t x w):=by
 cases h:w.cell? x with
 |none=>rfl
 |some v=>
  unfold cK;rw[mG];simp only[Instr.loadAt,Instr.sureAddr,loadVar,pure_bind,Sem.run_bind,T4 hu,hd,Result.andThen_ok,a2A,if_false,run_load,h,ldC]
theorem mB{d:TypeDesc}{i:TypeInfo}(hu:P.underlying t=some d)(hd:aIv d=true)(hi:P.info? t=some i){b:Nat}(ho:aT w b cs)(h:off+i.size<=cs.length){K:a7C->Prop}
 (hk:K (.agg ((cs.drop off).take i.size).toArray)):LdR P t (.pointer (some ⟨b,off,none⟩)) w K:=by
 refine⟨_, ?_,hk⟩;simp only[asAddr,loadVar,pure_bind,Sem.run_bind,T4 hu,hd,Result.andThen_ok,if_true,cC hi,ajD ho h,Sem.run_pure]
theorem bY(hk:∀w',aT w' w.heap.size v.cells.toList->aE w w' aP->w'.heap.size=w.heap.size+1->K (.pointer (some ⟨w.heap.size,0,none⟩)) w'):
 bF P (aKd t v) w K:=by
 have:(aKd t v).run P w= .ok (.value (.pointer (some ⟨w.heap.size,0,none⟩))) (w.alloc (.cells v.cells.toList.toArray t)):=by
  unfold aKd;rw[mG];simp[Instr.box,newVar,newRow]
 unfold bF;rw[this];exact hk _ (aT.alloc _ _ _) (aE.alloc _ _ _) (by simp)
theorem bV{i:TypeInfo}(hi:P.info? t=some i)(hz:i.zero=some z)
 (hk:∀w',aT w' w.heap.size z.cells.toList->aE w w' aP->w'.heap.size=w.heap.size+1->K (.pointer (some ⟨w.heap.size,0,none⟩)) w'):
 bF P (Gc t) w K:=by
 have:(Gc t).run P w= .ok (.value (.pointer (some ⟨w.heap.size,0,none⟩))) (w.alloc (.cells z.cells.toList.toArray t)):=by
  unfold Gc;rw[mG];simp[Instr.alloc,zeroValue,typeInfo,hi,hz,newVar,newRow]
 unfold bF;rw[this];exact hk _ (aT.alloc _ _ _) (aE.alloc _ _ _) (by simp)
end
theorem mV{P:Program}{w:a7B}{k:IntKind}{a:Int}{y:Nat}{code:BoundsCode}(h0:0<=a)(h1:a<=y):(Instr.sliceBound (.int k a) y code).run P w= .ok a.toNat w:=by
 simp[Instr.sliceBound,asIntOf,h0,h1]
section
variable{P:Program}{w:a7B}{t e:TypeId}{k k':IntKind}{lo hi:Int}{i:TypeInfo}
def dI(x:Option Addr)(m l sz:Nat):Option Addr:=if m=l then x else x.map (·.add (l*sz))
theorem aD8 (hu:P.underlying t=some (.slice e))(hi':P.info? e=some i)(x:Option Addr)(n c:Nat)(h0:0<=lo)(h1:lo<=n):
 (eY t (.slice x n c) (some (.int k lo)) none none).run P w= .ok (.value (.slice (dI x c lo.toNat i.size) (n-lo.toNat) (c-lo.toNat))) w:=by
 simp only[eY,mG,Instr.sliceAt,underlying,hu,Sem.run_bind,run_program,Result.andThen_ok,Sem.run_pure,Instr.slice,Instr.sliceBounds,pure_bind,mV h0 h1,cC hi',dI]
theorem anN(hu:P.underlying t=some (.slice e))(hi':P.info? e=some i)(x:Option Addr)(n c:Nat)(h0:0<=hi)(h1:hi<=c):
 (eY t (.slice x n c) none (some (.int k hi)) none).run P w= .ok (.value (.slice (dI x c 0 i.size) (hi.toNat-0) (c-0))) w:=by
 simp only[eY,mG,Instr.sliceAt,underlying,hu,Sem.run_bind,run_program,Result.andThen_ok,Sem.run_pure,Instr.slice,Instr.sliceBounds,pure_bind,mV h0 h1,cC hi',dI]
theorem aHD(hu:P.underlying t=some (.slice e))(hi':P.info? e=some i)(x:Option Addr)(n c:Nat)(h0:0<=lo)(h1:lo<=hi)(h2:hi<=c):
 (eY t (.slice x n c) (some (.int k lo)) (some (.int k' hi)) none).run P w= .ok (.value (.slice (dI x c lo.toNat i.size) (hi.toNat-lo.toNat) (c-lo.toNat))) w:=by
 have h3:(0:Int)<=hi:=by omega
 have h4:lo<=(hi.toNat:Int):=by omega
 simp only[eY,mG,Instr.sliceAt,underlying,hu,Sem.run_bind,run_program,Result.andThen_ok,Sem.run_pure,Instr.slice,Instr.sliceBounds,pure_bind,mV h3 h2,mV h0 h4,cC hi',dI]
theorem aJL(hu:P.underlying t=some .string)(x:ByteArray)(h0:0<=lo)(h1:lo<=x.size):
 (eY t (.string x) (some (.int k lo)) none none).run P w= .ok (.value (.string (x.extract lo.toNat x.size))) w:=by
 simp only[eY,mG,Instr.sliceAt,underlying,hu,Sem.run_bind,run_program,Result.andThen_ok,Sem.run_pure,Instr.slice,Instr.sliceBounds,pure_bind,Option.isSome_none,a2A,if_false,mV h0 h1]
theorem aJK(hu:P.underlying t=some .string)(x:ByteArray)(h0:0<=hi)(h1:hi<=x.size):
 (eY t (.string x) none (some (.int k hi)) none).run P w= .ok (.value (.string (x.extract 0 hi.toNat))) w:=by
 simp only[eY,mG,Instr.sliceAt,underlying,hu,Sem.run_bind,run_program,Result.andThen_ok,Sem.run_pure,Instr.slice,Instr.sliceBounds,pure_bind,Option.isSome_none,a2A,if_false,mV h0 h1]
theorem aFs(hu:P.underlying t=some .string)(x:ByteArray)(h0:0<=lo)(h1:lo<=hi)(h2:hi<=x.size):
 (eY t (.string x) (some (.int k lo)) (some (.int k' hi)) none).run P w= .ok (.value (.string (x.extract lo.toNat hi.toNat))) w:=by
 have h3:(0:Int)<=hi:=by omega
 have h4:lo<=(hi.toNat:Int):=by omega
 simp only[eY,mG,Instr.sliceAt,underlying,hu,Sem.run_bind,run_program,Result.andThen_ok,Sem.run_pure,Instr.slice,Instr.sliceBounds,pure_bind,Option.isSome_none,a2A,if_false,mV h3 h2,mV h0 h4]
def lQ(a:Addr)(m l sz:Nat):Addr:=if m=l then a else a.add (l*sz)
theorem aJJ(hu:P.underlying t=some (.array n e))(hi':P.info? e=some i)(x:Addr)(h0:0<=lo)(h1:lo<=n):
 (eY t (.pointer (some x)) (some (.int k lo)) none none).run P w= .ok (.value (.slice (some (lQ x n lo.toNat i.size)) (n-lo.toNat) (n-lo.toNat))) w:=by
 simp only[eY,mG,Instr.sliceAt,Instr.sureAddr,underlying,hu,Sem.run_bind,run_program,Result.andThen_ok,Sem.run_pure,Instr.sliceBounds,pure_bind,mV h0 h1,cC hi',lQ]
theorem aA1 (hu:P.underlying t=some (.array n e))(hi':P.info? e=some i)(x:Addr)(h0:0<=hi)(h1:hi<=n):
 (eY t (.pointer (some x)) none (some (.int k hi)) none).run P w= .ok (.value (.slice (some (lQ x n 0 i.size)) (hi.toNat-0) (n-0))) w:=by
 simp only[eY,mG,Instr.sliceAt,Instr.sureAddr,underlying,hu,Sem.run_bind,run_program,Result.andThen_ok,Sem.run_pure,Instr.sliceBounds,pure_bind,mV h0 h1,cC hi',lQ]
theorem FF(hu:P.underlying t=some (.array n e))(hi':P.info? e=some i)(x:Addr):
 (eY t (.pointer (some x)) none none none).run P w= .ok (.value (.slice (some (lQ x n 0 i.size)) (n-0) (n-0))) w:=by
 simp only[eY,mG,Instr.sliceAt,Instr.sureAddr,underlying,hu,Sem.run_bind,run_program,Result.andThen_ok,Sem.run_pure,Instr.sliceBounds,pure_bind,cC hi',lQ]
theorem ajK(hu:P.underlying t=some (.array n e))(hi':P.info? e=some i)(x:Addr)(h0:0<=lo)(h1:lo<=hi)(h2:hi<=n):
 (eY t (.pointer (some x)) (some (.int k lo)) (some (.int k' hi)) none).run P w= .ok (.value (.slice (some (lQ x n lo.toNat i.size)) (hi.toNat-lo.toNat) (n-lo.toNat))) w:=by
 have h3:(0:Int)<=hi:=by omega
 have h4:lo<=(hi.toNat:Int):=by omega
 simp only[eY,mG,Instr.sliceAt,Instr.sureAddr,underlying,hu,Sem.run_bind,run_program,Result.andThen_ok,Sem.run_pure,Instr.sliceBounds,pure_bind,mV h3 h2,mV h0 h4,cC hi',lQ]
end
def Sl(w:a7B)(v:a7C)(l:List a7C):Prop:=
 ∃a n c,v= .slice a n c/\n=l.length/\n<=c/\(0<n->∃b off,a=some ⟨b,off,none⟩/\∀i,i<n->w.cell? ⟨b,off+i,none⟩=l[i]?)
def VH(v:a7C)(M:Nat->Prop):Prop:=match v with| .slice (some a) (_+1) _=>M a.block|_=>False
theorem Sl.ext {w:a7B}(h:Sl w v l)(hx:aE w w' M)(hM:¬VH v M):Sl w' v l:=by
 obtain⟨a,n,c,rfl,hn,hc,h⟩:=h;refine⟨a,n,c,rfl,hn,hc,λh0=> ?_⟩;obtain⟨b,off,rfl,h2⟩:=h h0;refine⟨b,off,rfl,λi hi=> ?_⟩;have h1:=h2 i hi;obtain⟨v,hv⟩:∃v,l[i]?=some v:=⟨l[i],by simp⟩;rw[hv]at h1⊢;refine aqQ h1 hx ?_;obtain⟨m,rfl⟩:∃m,n=m+1:=⟨n-1,by omega⟩;exact hM
theorem Sl.old {w:a7B}(h:Sl w v l):¬VH v (λb=>w.heap.size<=b):=by
 obtain⟨a,n,c,rfl,hn,hc,h⟩:=h;unfold VH;split
 .rename_i x m _ e;obtain⟨rfl,rfl,rfl⟩:a=some x/\n=m+1/\c=_:=by simpa using e
  obtain⟨b,off,e,h2⟩:=h (by omega);have e:=a1Z e;subst e;have h1:=h2 0 (by omega);obtain⟨v,hv⟩:∃v,l[0]?=some v:=⟨l[0],by simp⟩;rw[hv]at h1;have:=World.block_lt_of_cell? _ _ h1;simp at this⊢;omega
 .simp
def kH(x:UInt8):a7C:= .int .u8 x.toNat
abbrev Bs(w:a7B)(v:a7C)(l:List UInt8):Prop:=Sl w v (l.map kH)
theorem D0 (b o n:Nat):(⟨b,o,none⟩:Addr).add n=⟨b,o+n,none⟩:=by
 unfold Addr.add;split
 .rename_i h;subst h;rfl
 .rfl
section
variable{P:Program}{w:a7B}{t e:TypeId}{k:IntKind}{a:Int}
theorem Mr(hz:inf.size=sz)(hu:P.underlying t=some (.slice e))(hi:P.info? e=some inf)(b o n c:Nat)(h0:0<=a)(h1:a<n):
 (uY t (.slice (some ⟨b,o,none⟩) n c) (.int k a)).run P w= .ok (.value (.pointer (some ⟨b,o+a.toNat*sz,none⟩))) w:=by
 rw[aJI hu hi _ n c h0 h1,D0,hz]
theorem Ug(hz:inf.size=1)(hu:P.underlying t=some (.slice e))(hi:P.info? e=some inf)(b o n c:Nat)(h0:0<=a)(h1:a<n):
 (uY t (.slice (some ⟨b,o,none⟩) n c) (.int k a)).run P w= .ok (.value (.pointer (some ⟨b,o+a.toNat,none⟩))) w:=by
 rw[aJI hu hi _ n c h0 h1,D0,hz,a2Z]
theorem aGn{len:Nat}(hz:inf.size=sz)(hu:P.underlying t=some (.array len e))(hi:P.info? e=some inf)(b o:Nat)(h0:0<=a)(h1:a<(len:Int)):
 (uY t (.pointer (some ⟨b,o,none⟩)) (.int k a)).run P w= .ok (.value (.pointer (some ⟨b,o+a.toNat*sz,none⟩))) w:=by
 rw[aJH hu hi _ h0 h1,D0,hz]
theorem HN{len:Nat}(hz:inf.size=1)(hu:P.underlying t=some (.array len e))(hi:P.info? e=some inf)(b o:Nat)(h0:0<=a)(h1:a<(len:Int)):
 (uY t (.pointer (some ⟨b,o,none⟩)) (.int k a)).run P w= .ok (.value (.pointer (some ⟨b,o+a.toNat,none⟩))) w:=by
 rw[aJH hu hi _ h0 h1,D0,hz,a2Z]
end
def aM(x:ByteArray):List UInt8:=x.data.toList
theorem aI(x:ByteArray):(aM x).length=x.size:=by unfold aM;rw[a4B]<;>rfl
theorem Fq(x:ByteArray)(i:Nat)(h:i<x.size):x[i]'h=(aM x)[i]'(by rw[aI];exact h):=rfl
theorem cX(x:ByteArray)(a b:Nat):aM (x.extract a b)=((aM x).drop a).take (b-a):=by
 unfold aM;rw[ByteArray.data_extract,Array.toList_extract,List.extract_eq_take_drop]
theorem CR(x y:ByteArray):aM (x++y)=aM x++aM y:=by
 unfold aM;rw[ByteArray.data_append,Array.toList_append]
theorem aHr(l:List UInt8):aM ⟨l.toArray⟩=l:=rfl
theorem oY(x:ByteArray)(a b:Nat)(h:b<=x.size):(x.extract a b).size=b-a:=by
 rw[<-aI,cX,a1N,a1L,aI];omega
theorem Fs{x y:ByteArray}(h:aM x=aM y):x=y:=by
 cases x;cases y;unfold aM at h;congr;exact Array.toList_inj.1 h
section
variable{P:Program}{w:a7B}{s d e:TypeId}
theorem aRE(hs:P.underlying s=some (.slice e))(hd:P.underlying d=some .string)(he:P.underlying e=some (.int .u8)){l:List UInt8}(h:Bs w v l):
 (S3 s d v).run P w= .ok (.value (.string ⟨l.toArray⟩)) w:=by
 obtain⟨a,n,c,rfl,hn,hc,h⟩:=h;simp only[a1M]at hn;unfold S3;rw[mG];have key:(convert s d (.slice a n c)).run P w= .ok (.string ⟨l.toArray⟩) w:=by
  cases a with
  |none=>
   have hl:l=[]:=by
    cases l with
    |nil=>rfl
    |cons x l=>obtain⟨b,off,e,_⟩:=h (by rw[hn];simp);cases e
   subst hl;rw[run_convert_bytes_string w s d e none n c hs he hd];rfl
  |some x=>
   subst hn;refine run_convert_bytes_back w s d e x c l hs he hd λj hj=> ?_;obtain⟨b,off,hx,h2⟩:=h (by omega);have hx:=a1Z hx;subst hx;rw[D0,h2 j hj];simp[kH,hj]
 rw[key]<;>rfl
theorem aMc(hs:P.underlying s=some .string)(hd:P.underlying d=some (.slice e))(he:P.underlying e=some (.int .u8)){x:ByteArray}
 (hk:∀w' c,Sl w' (.slice (some ⟨w.heap.size,0,none⟩) x.size c) (x.data.toList.map kH)->aE w w' aP->w'.heap.size=w.heap.size+1→
  (∃r,aT w' w.heap.size (x.data.toList.map kH++List.replicate r (Value.int .u8 0))/\c=x.size+r)->K (.slice (some ⟨w.heap.size,0,none⟩) x.size c) w'):bF P (S3 s d (.string x)) w K:=by
 have run:=run_bytes_of_string (P:=P) w s d e x hs hd he;have hcap:x.size<=grownCap w x.size 0 e:=Nat.le_add_right _ _;generalize grownCap w x.size 0 e=c at run hcap;obtain⟨r,rfl⟩:∃r,c=x.size+r:=⟨c-x.size,by omega⟩;have hrow:bytesRow x (x.size+r)=(x.data.toList.map kH++List.replicate r (Value.int .u8 0)).toArray:=by
  unfold bytesRow;have:x.size+r-x.size=r:=by omega
  rw[this];apply a6V;simp only[Array.toList_append,Array.toList_map,Array.toList_replicate];rfl
 rw[hrow]at run;have hlen:(x.data.toList.map kH).length=x.size:=by rw[a1M,a4B]<;>rfl
 have hsz:(x.data.toList.map kH++List.replicate r (Value.int .u8 0)).toArray.size=x.size+r:=by
  rw[List.size_toArray,a1O,a2C,hlen]
 rw[hsz]at run;unfold bF S3;rw[mG,run];have ho:aT (w.drew.alloc (.cells (x.data.toList.map kH++List.replicate r (Value.int .u8 0)).toArray e (x.size+r,x.size+r+1))) w.heap.size (x.data.toList.map kH++List.replicate r (Value.int .u8 0)):=
  ⟨e,x.size+r,x.size+r+1,Array.getElem?_push_size,.inl (by rw[a1O,a2C,hlen];exact a1J _)⟩
 have hx:aE w (w.drew.alloc (.cells (x.data.toList.map kH++List.replicate r (Value.int .u8 0)).toArray e (x.size+r,x.size+r+1))) aP:=(aE.dr w aP).trans (aE.alloc _ _ aP) (λ_ _ h=>h);refine hk _ _ ⟨_,_,_,rfl,hlen.symm,by omega,λ_=>⟨_,_,rfl,λi hi=> ?_⟩⟩ hx (by show(w.heap.push _).size=_;rw[Array.size_push]) ⟨r,ho,rfl⟩;rw[ho.cell];simp only[a1Q];rw[a1V (by rw[hlen];exact hi)]
end
theorem aKX(l:List UInt8):∀x∈l.map kH,one x=true:=by
 intro x hx;obtain⟨c,_,rfl⟩:=a4J.1 hx;rfl
theorem aPc{b l:Nat}(h:l≠m):lQ ⟨b,o,none⟩ m l sz=⟨b,o+l*sz,none⟩:=by
 unfold lQ;rw[if_neg (λe=>h e.symm),D0]
theorem sI{b l:Nat}(h:l≠m):lQ ⟨b,o,none⟩ m l 1=⟨b,o+l,none⟩:=by rw[aPc h,a2Z]
theorem Sl.drop {w:a7B}{b:Nat}(h:Sl w (.slice (some ⟨b,o,none⟩) n c) l){k:Nat}(hk:k<=n):
 Sl w (.slice (dI (some ⟨b,o,none⟩) c k 1) (n-k) (c-k)) (l.drop k):=by
 obtain⟨x,m,c',e,hm,hc,hh⟩:=h;cases e;refine⟨_,_,_,rfl,by rw[a1L];omega,by omega,λh0=> ?_⟩;obtain⟨b',o',e,h2⟩:=hh (by omega);cases e;have hne:¬c=k:=by omega
 refine⟨b,o+k,by unfold dI;rw[if_neg hne,a2Q,D0,a2Z],λi hi=> ?_⟩;rw[a4E,h2 (k+i) (by omega),a4I]
theorem Sl.take {w:a7B}{b:Nat}(h:Sl w (.slice (some ⟨b,o,none⟩) n c) l){k:Nat}(hk:k<=n):
 Sl w (.slice (dI (some ⟨b,o,none⟩) c 0 1) (k-0) (c-0)) (l.take k):=by
 obtain⟨x,m,c',e,hm,hc,hh⟩:=h;cases e;refine⟨_,_,_,rfl,by rw[a1N];omega,by omega,λh0=> ?_⟩;obtain⟨b',o',e,h2⟩:=hh (by omega);cases e;have hne:¬c=0:=by omega
 refine⟨b,o,by unfold dI;rw[if_neg hne,a2Q,D0]<;>rfl,λi hi=> ?_⟩;rw[h2 i (by omega),a2L (by omega)]
theorem aF8 {b k:Nat}(h:¬VH (.slice (some ⟨b,o,none⟩) n c) M)(hn:0<n)(m:Nat):¬VH (.slice (dI (some ⟨b,o,none⟩) c k 1) m (c-k)) M:=by
 have hb:¬M b:=by
  obtain⟨n',rfl⟩:∃n',n=n'+1:=⟨n-1,by omega⟩;exact h
 unfold VH dI;split
 .rename_i x q _ e;simp only[Value.slice.injEq]at e;obtain⟨e,_,_⟩:=e;split at e
  .cases e;exact hb
  .rw [a2Q,D0]at e;cases e;exact hb
 .simp
theorem aT.bs {w:a7B}{b:Nat}{l:List UInt8}(h:aT w b cs)(hc:l.length<=c)(hl:∀i (hi:i<l.length),cs[off+i]?=some (kH l[i])):Bs w (.slice (some ⟨b,off,none⟩) l.length c) l:=
 ⟨_,_,_,rfl,by simp,hc,λ_=>⟨b,off,rfl,λi hi=>by rw[h.cell,hl i hi];simp[hi]⟩⟩
section
variable{P:Program}{w:a7B}{t e:TypeId}{k:IntKind}{a:Int}
theorem aV1 {len:Nat}{d:TypeDesc}{i:TypeInfo}(hu:P.underlying t=some (.array len e))(hd:P.underlying e=some d)(ha:aIv d=false)(hi:P.info? e=some i)(h1:i.size=1)
 (cs:Array a7C) (h0:0<=a) (hl:a<(len:Int))  (hv:cs[a.toNat]?=some v):(aAk t (.agg cs) (.int k a)).run P w= .ok (.value v) w:=by
 unfold aAk;rw[mG];simp only[Instr.index,asIntOf,pure_bind,underlying,hu,Sem.run_bind,run_program,Result.andThen_ok,Sem.run_pure,h0,hl,and_self,if_true,cC hi,h1,a2Z,part,T4 hd,ha,a2A,if_false,hv]
def aXC(P:Program)(t:TypeId)(cs:Array a7C)(k:IntKind)(a:Int)(w:a7B):Result Next:=(aAk t (.agg cs) (.int k a)).run P w
theorem aLM{len:Nat}{d:TypeDesc}{i:TypeInfo}(hu:P.underlying t=some (.array len e))(hd:P.underlying e=some d)(ha:aIv d=false)(hi:P.info? e=some i)(h1:i.size=1)
 (cs:Array a7C) (h0:0<=a) (hl:a<(len:Int)):(aAk t (.agg cs) (.int k a)).run P w=ldC cs[a.toNat]? w (aXC P t cs k a w):=by
 cases hv:cs[a.toNat]? with
 |none=>rfl
 |some v=>exact aV1 hu hd ha hi h1 cs h0 hl hv
theorem asN{b:Nat}(h:∀i,i<l.length->w.cell? ⟨b,off+i,none⟩=l[i]?)(n:Nat)(hn:n<=l.length):
 (loadCells ⟨b,off,none⟩ n).run P w= .ok (l.take n).toArray w:=by
 have key:∀(m i:Nat) (acc:Array a7C),i+m<=l.length->(loadCellsFrom ⟨b,off,none⟩ i m acc).run P w= .ok (acc++((l.drop i).take m).toArray) w:=by
  intro m
  induction m with
  |zero=>intro i acc _;simp[loadCellsFrom]
  |succ m ih=>
   intro i acc hm;have hc:=h i (by omega);rw[a1I (by omega)]at hc;simp only[loadCellsFrom,Sem.run_bind,run_load,D0,hc,Result.andThen_ok];rw[ih (i+1) _ (by omega),a2J (by omega:i<l.length),a1C];simp
 unfold loadCells;rw[key n 0 #[] (by omega)];simp
theorem aFl(h1:sz=1)(h:Sl w v l)(hn:n<=l.length):(Builtin.firstCells sz n v).run P w= .ok (l.take n).toArray w:=by
 subst h1;obtain⟨x,m,c,rfl,hm,hc,hh⟩:=h;cases x with
 |none=>
  have:l=[]:=by
   cases l with
   |nil=>rfl
   |cons y l=>obtain⟨b,off,e,_⟩:=hh (by rw[hm];simp);cases e
  subst this;simp[Builtin.firstCells]
 |some x=>
  simp only[Builtin.firstCells,a2Z];by_cases h0:0<m
  .obtain ⟨b,off,e,h2⟩:=hh h0;have e:=a1Z e;subst e;exact asN (λi hi=>h2 i (by omega)) n hn
  .have h00:n=0:=by omega
   subst h00;simp[loadCells,loadCellsFrom]
theorem aWb(h:Sl w v l):(Builtin.lenOf v).run P w= .ok l.length w:=by
 obtain⟨x,m,c,rfl,hm,hc,hh⟩:=h;simp[Builtin.lenOf,hm]
theorem aKp{i:TypeInfo}(hu:P.underlying t=some (.slice e))(hi:P.info? e=some i)(h1:i.size=1){b dl:Nat}(ho:aT w b cs)(hl:off+dl<=cs.length)
   (h:Sl w v l) (hv:∀x∈l,one x=true) 
 (hk:∀w',aT w' b (aF cs off (l.take (min l.length dl)))->aE w w' (λx=>x=b)->w'.heap.size=w.heap.size->K (.int .i64 (min l.length dl:Nat)) w'):
 bF P (yM .copy #[t,t2] ty [.slice (some ⟨b,off,none⟩) dl c,v]) w K:=by
 have hlen:(l.take (min l.length dl)).length=min l.length dl:=by rw[a1N];omega
 obtain⟨w',s1,s2,s3,s4,_⟩:=Gp (P:=P) (M:=λx=>x=b) rfl (l.take (min l.length dl)) w off 0 cs ho (by rw[hlen];omega) (λx hx=>hv x (a6I hx));have:(yM .copy #[t,t2] ty [.slice (some ⟨b,off,none⟩) dl c,v]).run P w= .ok (.value (.int .i64 (min l.length dl:Nat))) w':=by
  unfold yM builtin;simp only[Builtin.copy_,a3T,a1A,a1B];simp only[underlying,Sem.run_bind,run_program,Result.andThen_ok,hu,Sem.run_pure,aWb h,cC hi,h1];have:=aFl (P:=P) (n:=min l.length dl) rfl h (Nat.min_le_left _ _);rw[show(Nat.min l.length dl)=min l.length dl from rfl,this];simp only[Result.andThen_ok,s1,goInt]
 unfold bF;rw[this];exact hk w' (by simpa using s2) s3 s4
theorem aKq{i:TypeInfo}(hu:P.underlying t=some (.slice e))(hi:P.info? e=some i)(h1:i.size=1)(hz:i.zero=some z)(hz1:one z=true){n:Int}(h0:0<=n)(hn:i.bytes*n<=2^48)(hn2:n<=9223372036854775807)
 
 (hk:∀w',aT w' w.heap.size (List.replicate n.toNat z)->aE w w' aP->w'.heap.size=w.heap.size+1->K (.slice (some ⟨w.heap.size,0,none⟩) n.toNat n.toNat) w'):
 bF P (mT t (.int k n) (.int k n)) w K:=by
 have hw:IntKind.i64.wrap n=n:=dM (by omega) hn2;have hcells:z.cells= #[z]:=ayZ hz1;have harr:(Array.range n.toNat).map (λj=>(#[z]:Array a7C)[j%(#[z]:Array a7C).size]!)=(List.replicate n.toNat z).toArray:=by
  apply Array.ext
  .simp
  .intro j h1 h2;simp[Nat.mod_one]
 have hz':(zeroValue e).run P w= .ok z w:=by simp[zeroValue,typeInfo,hi,hz]
 have:(mT t (.int k n) (.int k n)).run P w= .ok (.value (.slice (some ⟨w.heap.size,0,none⟩) n.toNat n.toNat)) (w.alloc (.cells (List.replicate n.toNat z).toArray e)):=by
  unfold mT;rw[mG];have t1:(decide (n<0)||decide ((i.bytes:Int)*n>2^48)||decide (n<0)||decide (n>n))=false:=by
   simp only[a5P,decide_eq_false_iff_not];omega
  by_cases hn0:n.toNat=0
  .simp only[Instr.makeSlice,underlying,typeInfo,asInt,asIntOf,pure_bind,Sem.run_bind,run_program,Result.andThen_ok,hu,hi,Sem.run_pure,hw,t1,a2A,if_false,run_askRoom,cC hi,h1,a2Z,hn0,if_true,newRow,run_newObj];have:(Array.range 0).map (λx=>(#[]:Array a7C)[x%(#[]:Array a7C).size]!)=(List.replicate 0 z).toArray:=by simp
   rw[this];rfl
  .simp only[Instr.makeSlice,underlying,typeInfo,asInt,asIntOf,pure_bind,Sem.run_bind,run_program,Result.andThen_ok,hu,hi,Sem.run_pure,hw,t1,a2A,if_false,run_askRoom,cC hi,h1,a2Z,hn0,hz',hcells,newRow,run_newObj,harr];rfl
 unfold bF;rw[this];exact hk _ (aT.alloc _ _ _) (aE.alloc _ _ _) (by simp)
end
def Cl(w:a7B)(sz:Nat)(v:a7C)(n:Nat)(l:List a7C):Prop:=
 ∃a c,v= .slice a n c/\l.length=n*sz/\(0<n->∃b off,a=some ⟨b,off,none⟩/\∀i,i<l.length->w.cell? ⟨b,off+i,none⟩=l[i]?)
def mH(w:a7B)(base sz:Nat)(v:a7C)(n:Nat)(l:List a7C):Prop:=
 l.length=n*sz/\((v= .slice none 0 0/\n=0)∨
   ∃b c rest,v= .slice (some ⟨b,0,none⟩) n c/\base<=b/\aT w b (l++rest)/\(l++rest).length=c*sz/\n<=c)
def BR(w:a7B)(S:Nat->Prop)(sz:Nat)(v:a7C)(n:Nat)(l:List a7C):Prop:=
 l.length=n*sz/\((v= .slice none 0 0/\n=0)∨
   ∃b c rest,v= .slice (some ⟨b,0,none⟩) n c/\S b/\aT w b (l++rest)/\(l++rest).length=c*sz/\n<=c)
theorem Sl.cl {w:a7B}(h:Sl w v l):Cl w 1 v l.length l:=by
 obtain⟨a,n,c,rfl,rfl,hc,h⟩:=h;exact⟨a,c,rfl,by omega,λh0=>h h0⟩
theorem aT.cl {w:a7B}{b:Nat}(h:aT w b cs)(hl:l.length=n*sz)(hcs:∀i,i<l.length->cs[off+i]?=l[i]?):Cl w sz (.slice (some ⟨b,off,none⟩) n c) n l:=
 ⟨_,_,rfl,hl,λ_=>⟨b,off,rfl,λi hi=>by rw[h.cell,hcs i hi]⟩⟩
theorem mH.nil (w:a7B)(base sz:Nat):mH w base sz (.slice none 0 0) 0 []:=⟨by simp,.inl ⟨rfl,rfl⟩⟩
theorem mH.ext {w:a7B}(h:mH w base sz v n l)(hx:aE w w' M)(hM:∀b,base<=b->¬M b):mH w' base sz v n l:=by
 refine⟨h.1, ?_⟩;rcases h.2 with h2|⟨b,c,rest,h1,h2,h3,h4,h5⟩
 .exact .inl h2
 .exact .inr ⟨b,c,rest,h1,h2,h3.ext hx (hM b h2),h4,h5⟩
theorem mH.cl {w:a7B}(h:mH w base sz v n l):Cl w sz v n l:=by
 rcases h.2 with⟨rfl,rfl⟩|⟨b,c,rest,rfl,h2,h3,h4,h5⟩
 .exact ⟨_,_,rfl,h.1,λh=>by omega⟩
 .refine ⟨_,_,rfl,h.1,λ_=>⟨b,0,rfl,λi hi=> ?_⟩⟩;rw[h3.cell,a1Q,a1V hi]
theorem mH.sl {w:a7B}(h:mH w base 1 v n l):Sl w v l:=by
 have hl:=h.1;rcases h.2 with⟨rfl,rfl⟩|⟨b,c,rest,rfl,h2,h3,h4,h5⟩
 .exact ⟨_,_,_,rfl,by omega,by omega,λh=>by omega⟩
 .refine ⟨_,_,_,rfl,by omega,h5,λ_=>⟨b,0,rfl,λi hi=> ?_⟩⟩;rw[h3.cell,a1Q,a1V (by omega)]
section
variable{P:Program}{w:a7B}{t e:TypeId}
theorem asM{b:Nat}(h:∀i,i<l.length->w.cell? ⟨b,off+i,none⟩=l[i]?):(loadCells ⟨b,off,none⟩ l.length).run P w= .ok l.toArray w:=by
 have:=asN (P:=P) h l.length (a1J _)
 rwa [a4Q]at this
theorem R4 (h:Cl w sz v n l):(Builtin.firstCells sz n v).run P w= .ok l.toArray w:=by
 obtain⟨x,c,rfl,hl,hh⟩:=h;cases x with
 |none=>
  have:n=0:=by
   rcases a3J n with h|h
   .exact h
   .obtain ⟨b,off,e,_⟩:=hh h;cases e
  subst this;have:l=[]:=a2K.1 (by omega);subst this;simp[Builtin.firstCells]
 |some x=>
  simp only[Builtin.firstCells];rw[<-hl];by_cases h0:0<n
  .obtain ⟨b,off,e,h2⟩:=hh h0;have e:=a1Z e;subst e;exact asM h2
  .have:n=0:=by omega
   subst this;have:l=[]:=a2K.1 (by omega);subst this;simp[loadCells,loadCellsFrom]
theorem pK(zs:Array a7C)(n:Nat):(Builtin.zeroCells zs n).size=n*zs.size:=by simp[Builtin.zeroCells]
theorem S5 (vs:List a7C):∀(a0Z rest:List a7C),vs.length<=rest.length->aF (a0Z++rest) a0Z.length vs=a0Z++vs++rest.drop vs.length:=by
 induction vs with
 |nil=>intro a0Z rest _;simp[aF]
 |cons v vs ih=>
  intro a0Z rest h;cases rest with
  |nil=>simp at h
  |cons r rest=>
   have:=ih (a0Z++[v]) rest (by simpa using h);simp only[aF,a1O,a1U,List.length_nil,a2R,a4P,a4F]at this⊢;rw[a2H,<-this,a3H _ _ (a1J _),a5N,a1E,a1Q]
theorem aBo{i:TypeInfo}{o:Option TypeId}(hu:P.underlying t=some (.slice e))(hu2:P.underlying t2=some (match o with|some e2=> .slice e2|none=> .string))(hi:P.info? e=some i)(hsz:i.size=sz)(hz:i.zero=some z)(hzs:z.cells.size=sz)
   (h:BR w S sz v n l) (hlx:(Builtin.lenOf x).run P w= .ok m w) (hfy:∀w',w'=w∨w'=dr w->(Builtin.firstCells sz m x).run P w'= .ok news.toArray w') (hnl:news.length=m*sz) (hone:∀y∈news,one y=true) (hb:∀b,w.heap.size<=b->S b)
 (hn:n+m<=9223372036854775807) (hbytes:(n+m)*i.bytes<=140737488355328) (_hpos:i.bytes≠0)
  (hk:∀v' w',BR w' S sz v' (n+m) (l++news)->aE w w' S->Cl w' sz v n l->K v' w'):bF P (yM .append #[t,t2] ty [v,x]) w K:=by
 have hfx:=hfy w (.inl rfl);have hmax:IntKind.i64.max=9223372036854775807:=by decide
 have hnot:¬(((n+m:Nat):Int)>IntKind.i64.max/\(False∨i.bytes=0)):=by rw[hmax];omega
 have hz':∀w,(zeroValue e).run P w= .ok z w:=λw=>by simp[zeroValue,typeInfo,hi,hz]
 have hlen:=h.1;rcases h.2 with⟨rfl,rfl⟩|⟨b,c,rest,rfl,h2,h3,h4,h5⟩
 .
  have hl0:l=[]:=a2K.1 (by omega);subst hl0;by_cases hm:m=0
  .subst hm;have hn0:news=[]:=a2K.1 (by omega);subst hn0;have:(yM .append #[t,t2] ty [.slice none 0 0,x]).run P w= .ok (.value (.slice none 0 0)) w:=by
    cases o<;>(
    unfold yM builtin;simp only[Builtin.append_,a3T,a1A,a1B];simp only[underlying,Sem.run_bind,run_program,Result.andThen_ok,hu,hu2,Sem.run_pure,cC hi,hsz,a2A,if_false,hlx,a1J,a3I,if_true,a4Z,hfx])
   unfold bF;rw[this];exact hk _ _ ⟨by simp,.inl ⟨rfl,by omega⟩⟩ (aE.refl _ _) ⟨none,0,rfl,hlen,λh=>absurd h (by omega)⟩
  .have hfit:=growslice_fits (need:=0+m) (old:=0) (bytes:=i.bytes) (by omega) (by omega);have hfit':¬(Builtin.nextslicecap (0+m) 0*i.bytes>2^48):=by omega
   have hle:¬(0+m<=0):=by omega
   have hq:(Question.appendCap (0+m) 0 e).forced=false:=rfl;obtain⟨r,hr⟩:∃r,(Question.appendCap (0+m) 0 e).cut (w.tape w.drawn (.appendCap (0+m) 0 e))=m+r:=
    ⟨(w.tape w.drawn (.appendCap (0+m) 0 e))%(2^63-(0+m)),by simp only[Question.cut];omega⟩
   have:(yM .append #[t,t2] ty [.slice none 0 0,x]).run P w= .ok (.value (.slice (some ⟨w.heap.size,0,none⟩) (0+m) (m+r))) ((dr w).alloc (.cells (news++(Builtin.zeroCells z.cells (m+r-(0+m))).toList).toArray e)):=by
    have hfx':=hfy (dr w) (.inr rfl);cases o<;>(
    unfold yM builtin;simp only[Builtin.append_,a3T,a1A,a1B];simp only[underlying,typeInfo,Sem.run_bind,run_program,Result.andThen_ok,hu,hu2,hi,Sem.run_pure,cC hi,hsz,a2A,if_false,hlx,hle,a4Z,if_true,hnot,hfit',run_choose,hq,hr,run_askRoom];change((Sem.run P _ (dr w)).andThen _).andThen _=_;simp only[Sem.run_bind,hfx',run_firstCells_none,Result.andThen_ok,hz',Sem.run_pure,newRow,run_newObj];have e1:(#[]++news.toArray++Builtin.zeroCells z.cells (m+r-(0+m)):Array a7C)=(news++(Builtin.zeroCells z.cells (m+r-(0+m))).toList).toArray:=by
     apply a6V;simp
    rw[e1];rfl)
   unfold bF;rw[this];refine hk _ _ ⟨by simp only[a4F];rw[hnl,a1Q],.inr ⟨w.heap.size,m+r,(Builtin.zeroCells z.cells (m+r-(0+m))).toList,by rw[a1Q],hb _ (a1J _),aT.alloc (dr w) _ _, ?_,by omega⟩⟩ ((aE.dr w _).seq (aE.alloc _ _ _)) ⟨none,0,rfl,hlen,λh=>absurd h (by omega)⟩;simp only[a4F,a1O,a4B,pK,hzs,hnl];rw[show m+r-(0+m)=r from by omega,a3D]
 .by_cases hc:n+m<=c
  .
   have hroom:news.length<=rest.length:=by
    rw[a1O,hlen]at h4;have:(n+m)*sz<=c*sz:=a2V _ hc;rw[a3D]at this;omega
   obtain⟨w',s1,s2,s3,s4,_⟩:=Gp (P:=P) (M:=S) h2 news w (n*sz) 0 (l++rest) h3 (by rw[a1O,hlen];omega) hone;have:(yM .append #[t,t2] ty [.slice (some ⟨b,0,none⟩) n c,x]).run P w= .ok (.value (.slice (some ⟨b,0,none⟩) (n+m) c)) w':=by
    cases o<;>(
    unfold yM builtin;simp only[Builtin.append_,a3T,a1A,a1B];simp only[underlying,Sem.run_bind,run_program,Result.andThen_ok,hu,hu2,Sem.run_pure,cC hi,hsz,a2A,if_false,hlx,hc,if_true,a4Z,hfx,D0,a1Q,s1])
   unfold bF;rw[this];rw[a3I,<-hlen,S5 _ _ _ hroom]at s2;refine hk _ _ ⟨by rw[a1O,hlen,hnl,a3D],.inr ⟨b,c,rest.drop news.length,rfl,h2,s2, ?_,hc⟩⟩ s3 ⟨_,_,rfl,hlen,λ_=>⟨b,0,rfl,λi hi=>by
    rw[s2.cell,a1Q,a2R,a1V hi]⟩⟩
   rw[<-h4];simp;omega
  .
   have hfit:=growslice_fits (need:=n+m) (old:=c) (bytes:=i.bytes) (by omega) hbytes;have hfit':¬(Builtin.nextslicecap (n+m) c*i.bytes>2^48):=by omega
   have hq:(Question.appendCap (n+m) c e).forced=false:=rfl;obtain⟨r,hr⟩:∃r,(Question.appendCap (n+m) c e).cut (w.tape w.drawn (.appendCap (n+m) c e))=n+m+r:=
    ⟨(w.tape w.drawn (.appendCap (n+m) c e))%(2^63-(n+m)),by simp only[Question.cut]⟩
   have hold:Cl (dr w) sz (.slice (some ⟨b,0,none⟩) n c) n l:=⟨_,_,rfl,hlen,λ_=>⟨b,0,rfl,λi hi=>by
    show w.cell? _=_;rw[h3.cell,a1Q,a1V hi]⟩⟩
   have:(yM .append #[t,t2] ty [.slice (some ⟨b,0,none⟩) n c,x]).run P w= .ok (.value (.slice (some ⟨w.heap.size,0,none⟩) (n+m) (n+m+r))) ((dr w).alloc (.cells (l++news++(Builtin.zeroCells z.cells (n+m+r-(n+m))).toList).toArray e)):=by
    have hfx':=hfy (dr w) (.inr rfl);have hfo:=R4 (P:=P) hold;cases o<;>(
    unfold yM builtin;simp only[Builtin.append_,a3T,a1A,a1B];simp only[underlying,typeInfo,Sem.run_bind,run_program,Result.andThen_ok,hu,hu2,hi,Sem.run_pure,cC hi,hsz,a2A,if_false,hlx,hc,a4Z,if_true,hnot,hfit',run_choose,hq,hr,run_askRoom];change((Sem.run P _ (dr w)).andThen _).andThen _=_;simp only[Sem.run_bind,hfx',hfo,Result.andThen_ok,hz',Sem.run_pure,newRow,run_newObj];have e1:(l.toArray++news.toArray++Builtin.zeroCells z.cells (n+m+r-(n+m)):Array a7C)=(l++news++(Builtin.zeroCells z.cells (n+m+r-(n+m))).toList).toArray:=by
     apply a6V;simp
    rw[e1];rfl)
   unfold bF;rw[this];refine hk _ _ ⟨by rw[a1O,hlen,hnl,a3D],.inr ⟨w.heap.size,n+m+r,_,rfl,hb _ (a1J _),aT.alloc (dr w) _ _, ?_,by omega⟩⟩ ((aE.dr w _).seq (aE.alloc _ _ _)) ⟨_,_,rfl,hlen,λ_=>⟨b,0,rfl,λi hi=>by
    have o9:=h3.ext ((aE.dr w aP).seq (aE.alloc (dr w) (.cells (l++news++(Builtin.zeroCells z.cells (n+m+r-(n+m))).toList).toArray e) aP)) (λh=>h);rw[o9.cell,a1Q,a1V hi]⟩⟩
   simp only[a1O,a4B,pK,hzs,hnl,hlen];rw[show n+m+r-(n+m)=r from by omega,a3D,a3D]
theorem aKl{i:TypeInfo}(hu:P.underlying t=some (.slice e))(hu2:P.underlying t2=some (.slice e2))(hi:P.info? e=some i)(hsz:i.size=sz)(hz:i.zero=some z)(hzs:z.cells.size=sz)
   (h:BR w S sz v n l) (hx:Cl w sz x m news) (hone:∀y∈news,one y=true) (hb:∀b,w.heap.size<=b->S b)
 (hn:n+m<=9223372036854775807) (hbytes:(n+m)*i.bytes<=140737488355328) (_hpos:i.bytes≠0)
  (hk:∀v' w',BR w' S sz v' (n+m) (l++news)->aE w w' S->Cl w' sz v n l->K v' w'):bF P (yM .append #[t,t2] ty [v,x]) w K:=
 aBo (o:=some e2) hu hu2 hi hsz hz hzs h (by obtain⟨a,c,rfl,_⟩:=hx;simp[Builtin.lenOf]) (λw' h=>by rcases h with rfl|rfl<;>exact R4 (P:=P) hx) hx.choose_spec.choose_spec.2.1 hone hb hn hbytes _hpos hk
theorem Q9 {i:TypeInfo}(hu:P.underlying t=some (.slice e))(hu2:P.underlying t2=some (.slice e2))(hi:P.info? e=some i)(hsz:i.size=sz)(hz:i.zero=some z)(hzs:z.cells.size=sz)
   (h:BR w S sz v n l) (hx:Cl w sz x m news) (hone:∀y∈news,one y=true) (hb:∀b,w.heap.size<=b->S b)
 (hn:n+m<=9223372036854775807) (hbytes:(n+m)*i.bytes<=140737488355328) (_hpos:i.bytes≠0)
  (hk:∀v' w',BR w' S sz v' (n+m) (l++news)->aE w w' S->K v' w'):bF P (yM .append #[t,t2] ty [v,x]) w K:=
 aKl hu hu2 hi hsz hz hzs h hx hone hb hn hbytes _hpos λv' w' a b _=>hk v' w' a b
theorem Da{i:TypeInfo}(hu:P.underlying t=some (.slice e))(hu2:P.underlying t2=some (.slice e2))(hi:P.info? e=some i)(hsz:i.size=sz)(hz:i.zero=some z)(hzs:z.cells.size=sz)
   (h:mH w base sz v n l) (hx:Cl w sz x m news) (hone:∀y∈news,one y=true) (hb:base<=w.heap.size)
 (hn:n+m<=9223372036854775807) (hbytes:(n+m)*i.bytes<=140737488355328) (_hpos:i.bytes≠0)
  (hk:∀v' w',mH w' base sz v' (n+m) (l++news)->aE w w' (λy=>base<=y)->K v' w'):bF P (yM .append #[t,t2] ty [v,x]) w K:=
 Q9 (S:=λy=>base<=y) hu hu2 hi hsz hz hzs h hx hone (λ_ h=>a3K hb h) hn hbytes _hpos hk
end
section
variable{P:Program}{w:a7B}{t e:TypeId}
theorem vB{i:TypeInfo}{ps:List (Nat×a7C)}{cells:Array a7C}(hu:P.underlying t=some (.slice e))(hi:P.info? e=some i)(hz:i.zero=some z)
 (h1:¬n*i.size>2^24) (h0:¬n*i.size=0) (hf:Instr.fill (λj=>some (j*i.size,i.size)) ((Array.range (n*i.size)).map (z.cells[·%z.cells.size]!)) ps=some cells)
  (hk:∀w',aT w' w.heap.size cells.toList->aE w w' aP->w'.heap.size=w.heap.size+1->K (.slice (some ⟨w.heap.size,0,none⟩) n n) w'):
 bF P (fX t n ps) w K:=by
 have hz':(zeroValue e).run P w= .ok z w:=by simp[zeroValue,typeInfo,hi,hz]
 have:(fX t n ps).run P w= .ok (.value (.slice (some ⟨w.heap.size,0,none⟩) n n)) (w.alloc (.cells cells.toList.toArray e)):=by
  unfold fX;rw[mG];simp only[Instr.buildSlice,underlying,pure_bind,Sem.run_bind,run_program,Result.andThen_ok,hu,Sem.run_pure,cC hi,h1,h0,if_false,hz',hf,newRow,run_newObj];rfl
 unfold bF;rw[this];exact hk _ (aT.alloc _ _ _) (aE.alloc _ _ _) (by simp)
theorem aT.mark {b:Nat}(h:aT w b cs):aT (w.freeze ⟨b,cs.length,none⟩ 1) b cs:=by
 have hb:=h.lt;obtain⟨T,lo,hi,h,k⟩:=h;by_cases hlh:(lo==hi)=true
 .refine ⟨T,cs.length,cs.length+1, ?_,.inl (a1J _)⟩;show(w.heap.modify b _)[b]?=_;rw[a6C,if_pos rfl,h];have hlh:lo=hi:=by simpa using hlh
  simp[hlh]
 .refine ⟨T,min lo cs.length,max hi (cs.length+1), ?_,.inl ?_⟩
  .show (w.heap.modify b _)[b]?=_;rw[a6C,if_pos rfl,h];have hlh:¬lo=hi:=by simpa using hlh
   simp[hlh]
  .rcases k with k|k
   .omega
   .exfalso;apply hlh;rw[k];simp
theorem aE.mark (w:a7B)(a:Addr):aE w (w.freeze a 1) (λy=>y=a.block):=
 ⟨rfl,rfl,rfl,by show _<=(w.heap.modify _ _).size;simp,λb hb hn=>by
  show(w.heap.modify a.block _)[b]?=_;rw[a6C];rw[if_neg (λh=>hn h.symm)]⟩
theorem aTQ(hu:P.underlying t=some (.slice e))(he:P.underlying e=some (.int .u8)){b:Nat}(ho:aT w b cs)
  (hk:∀w',aT w' b cs->aE w w' (λy=>y=b)->w'.heap.size=w.heap.size->K (.slice (some ⟨b,off,none⟩) n c) w'):
 bF P (S3 t t (.slice (some ⟨b,off,none⟩) n c)) w K:=by
 obtain⟨T,hs⟩:∃T,w.shape? b=some (T,cs.length):=by
  obtain⟨T,lo,hi,h,_⟩:=ho;exact⟨T,by unfold World.shape?;rw[h];simp⟩
 have:(S3 t t (.slice (some ⟨b,off,none⟩) n c)).run P w= .ok (.value (.slice (some ⟨b,off,none⟩) n c)) (w.freeze ⟨b,cs.length,none⟩ 1):=by
  unfold S3;rw[mG];simp[convert,underlying,hu,he,markStringish,shape,freeze,Sem.run,hs]
 unfold bF;rw[this];exact hk _ ho.mark (aE.mark w _) (by show(w.heap.modify _ _).size=_;simp)
end
section
variable{P:Program}{w:a7B}{t e:TypeId}
def Grown(es:Array MapEntry)(clock:Nat):Prop:=(es.toList.map (·.born)).Pairwise (·<·)/\∀e∈es.toList,e.born<clock
def Mp{κ:Type}(w:a7B)(m:Nat)(enc:κ->a7C)(l:List (κ×a7C)):Prop:=
 ∃es clock,w.heap[m]?=some (.map es clock)/\es.toList.map (λe=>(e.key,e.val))=l.map (λp=>(enc p.1,p.2))/\Grown es clock/\(l.map (·.1)).Nodup
theorem Mp.lt {κ:Type}{enc:κ->a7C}{l:List (κ×a7C)}(h:Mp w m enc l):m<w.heap.size:=by
 obtain⟨es,c,h,_⟩:=h;rcases a1Y m w.heap.size with h'|h'
 .exact h'
 .rw [a6A h']at h;cases h
theorem Mp.ext {κ:Type}{w:a7B}{enc:κ->a7C}{l:List (κ×a7C)}(h:Mp w m enc l)(hx:aE w w' M)(hM:¬M m):Mp w' m enc l:=by
 have:=h.lt;obtain⟨es,c,h,k⟩:=h;exact⟨es,c,by rw[hx.keep m this hM];exact h,k⟩
theorem Mp.dr {κ:Type}{w:a7B}{enc:κ->a7C}{l:List (κ×a7C)}(h:Mp w m enc l):Mp (dr w) m enc l:=h
variable{κ:Type}[DecidableEq κ]{enc:κ->a7C}
theorem atG{d:TypeDesc}{i:TypeInfo}(hu:P.underlying t=some d)(hd:aIv d=true)(hi:P.info? t=some i){b:Nat}(hl:i.size=l.length)(h:∀j,j<l.length->w.cell? ⟨b,off+j,none⟩=l[j]?):
 (cK t (.pointer (some ⟨b,off,none⟩))).run P w= .ok (.value (.agg l.toArray)) w:=by
 unfold cK;rw[mG];simp only[Instr.loadAt,Instr.sureAddr,loadVar,pure_bind,Sem.run_bind,T4 hu,hd,Result.andThen_ok,if_true,cC hi,hl,asM h,Sem.run_pure]
end
theorem aH{w:a7B}{b:Nat}(h:aT w b cs):aT (dr w) b cs:=h.ext (aE.dr w aP) (λh=>h)
theorem Sl.dr {w:a7B}(h:Sl w v l):Sl (dr w) v l:=h
theorem Sl.open {w:a7B}{l:List UInt8}(h:Bs w v l)(h0:0<l.length):∃b off c,v= .slice (some ⟨b,off,none⟩) l.length c/\l.length<=c/\∀i,(h:i<l.length)->w.cell? ⟨b,off+i,none⟩=some (kH l[i]):=by
 obtain⟨a,n,c,rfl,hn,hc,h⟩:=h;simp only[a1M]at hn;subst hn;obtain⟨b,off,rfl,hh⟩:=h h0;exact⟨b,off,c,rfl,hc,λi hi=>by rw[hh i hi];simp[hi]⟩
theorem Sl.len {w:a7B}(h:Sl w v l):∃a c,v= .slice a l.length c/\l.length<=c:=by
 obtain⟨a,n,c,rfl,rfl,hc,_⟩:=h;exact⟨a,c,rfl,hc⟩
theorem aR(v:a7C):¬VH v aP:=by unfold VH aP;split<;>simp
theorem aER{b l:Nat}(h:l≠m):dI (some ⟨b,o,none⟩) m l 1=some ⟨b,o+l,none⟩:=by
 unfold dI;rw[if_neg (λe=>h e.symm)];simp[D0]
theorem asE(h:VH v M)(hm:∀b,M b->N b):VH v N:=by
 unfold VH at*;split at h
 .exact hm _ h
 .exact h
theorem mH.len {w:a7B}{b:Nat}(h:mH w b sz v n l):∃a c,v= .slice a n c:=by
 rcases h.2 with⟨rfl,rfl⟩|⟨x,c,r,rfl,_⟩
 .exact ⟨_,_,rfl⟩
 .exact ⟨_,_,rfl⟩
theorem mH.lower {w:a7B}{a b:Nat}(h:mH w b sz v n l)(hab:a<=b):mH w a sz v n l:=by
 refine⟨h.1, ?_⟩;rcases h.2 with h|⟨x,c,r,h1,h2,h3⟩
 .exact .inl h
 .exact .inr ⟨x,c,r,h1,by omega,h3⟩
theorem Sl.nil (w:a7B):Sl w (.slice none 0 0) []:=⟨none,0,0,rfl,rfl,a1J _,λh=>absurd h (by simp)⟩
theorem Sl.take' {w:a7B}{a:Option Addr}(h:Sl w (.slice a n c) l){k:Nat}(hk:k<=n):Sl w (.slice (dI a c 0 1) (k-0) (c-0)) (l.take k):=by
 have h':=h;obtain⟨a',n',c',e,hn,hc,hh⟩:=h';cases e;by_cases h0:k=0
 .subst h0;exact⟨_,_,_,rfl,by simp,by omega,λh=>by simp at h⟩
 .obtain ⟨b,off,rfl,_⟩:=hh (by omega);exact h.take hk
theorem Sl.drop' {w:a7B}{a:Option Addr}(h:Sl w (.slice a n c) l){k:Nat}(hk:k<=n):Sl w (.slice (dI a c k 1) (n-k) (c-k)) (l.drop k):=by
 have h':=h;obtain⟨a',n',c',e,hn,hc,hh⟩:=h';cases e;by_cases h0:n=0
 .exact ⟨_,_,_,rfl,by rw[a1L];omega,by omega,λh=>by omega⟩
 .obtain ⟨b,off,rfl,_⟩:=hh (by omega);exact h.drop hk
theorem Sl.mid {w:a7B}{a:Option Addr}(h:Sl w (.slice a n c) l){i j:Nat}(hij:i<=j)(hj:j<=n):Sl w (.slice (dI a c i 1) (j-i) (c-i)) ((l.drop i).take (j-i)):=by
 have h':=h;obtain⟨a',n',c',e,hn,hc,hh⟩:=h';cases e;by_cases h0:j-i=0
 .rw [h0];exact⟨_,_,_,rfl,by simp,by omega,λh=>by omega⟩
 .obtain ⟨b,off,rfl,_⟩:=hh (by omega);have hd:=h.drop (k:=i) (by omega);obtain⟨a',n',c',e,hn',hc',hh'⟩:=hd;obtain⟨b',off',e',h2⟩:=hh' (by have:=(Value.slice.inj e).2.1;omega);injection e with e1 e2 e3;subst e3;refine⟨_,_,_,rfl,by rw[a1N,a1L];omega,by omega,λ_=>⟨b',off',by rw[e1];exact e',λx hx=> ?_⟩⟩;rw[h2 x (by omega),a2L hx]
theorem Sl.openV {w:a7B}(h:Sl w v l)(h0:0<l.length):∃b off c,v= .slice (some ⟨b,off,none⟩) l.length c/\l.length<=c/\∀i,(h:i<l.length)->w.cell? ⟨b,off+i,none⟩=some l[i]:=by
 obtain⟨a,n,c,rfl,hn,hc,h⟩:=h;subst hn;obtain⟨b,off,rfl,hh⟩:=h h0;exact⟨b,off,c,rfl,hc,λi hi=>by rw[hh i hi];simp[hi]⟩
theorem Sl.openI {w:a7B}{k:IntKind}{l:List Int}(h:Sl w v (l.map (Value.int k)))(h0:0<l.length):∃b off c,v= .slice (some ⟨b,off,none⟩) l.length c/\l.length<=c/\∀i,(h:i<l.length)->w.cell? ⟨b,off+i,none⟩=some (.int k l[i]):=by
 obtain⟨b,off,c,e,hc,hh⟩:=h.openV (by simpa using h0);simp only[a1M]at e hc hh;exact⟨b,off,c,e,hc,λi hi=>by rw[hh i hi];simp⟩
theorem Sl.lenI {w:a7B}{k:IntKind}{l:List Int}(h:Sl w v (l.map (Value.int k))):∃a c,v= .slice a l.length c/\l.length<=c:=by
 obtain⟨a,c,e,hc⟩:=h.len;simp only[a1M]at e hc;exact⟨a,c,e,hc⟩
def Hk(n:Nat)(l:List a7C):List a7C:=(List.replicate n l).flatten
theorem awF(n:Nat)(l:List a7C):(Hk n l).length=n*l.length:=by
 unfold Hk;rw[List.length_flatten];simp
theorem aO7:∀(n:Nat) (l:List a7C) (j:Nat) (_:j<n*l.length) (h0:0<l.length),(Hk n l)[j]?=some (l[j%l.length]'(a4X _ h0)):=by
 intro n
 induction n with
 |zero=>intro l j h;simp at h
 |succ n ih=>
  intro l j h h0;unfold Hk;rw[a2S,a6N];by_cases hj:j<l.length
  .rw [a1V hj,a1I hj];simp only[a3B hj]
  .rw [a3G (by omega)];have:=ih l (j-l.length) (by rw[a7A]at h;omega) h0;unfold Hk at this;rw[this];simp only[<-Nat.mod_eq_sub_mod (show j≥l.length by omega)]
theorem aAp{P:Program}{w:a7B}{t e:TypeId}{k:IntKind}{i:TypeInfo}(hu:P.underlying t=some (.slice e))(hi:P.info? e=some i)(h1:i.size=sz)(hsz:0<sz)(hz:i.zero=some z)(hz1:z.cells.size=sz){n:Int}(h0:0<=n)(hn:i.bytes*n<=2^48)(hn2:n<=9223372036854775807)
 
 (hk:∀w',aT w' w.heap.size (Hk n.toNat z.cells.toList)->aE w w' aP->w'.heap.size=w.heap.size+1->K (.slice (some ⟨w.heap.size,0,none⟩) n.toNat n.toNat) w'):
 bF P (mT t (.int k n) (.int k n)) w K:=by
 have hw:IntKind.i64.wrap n=n:=dM (by omega) hn2;have hl:z.cells.toList.length=sz:=by simpa using hz1
 have harr:(Array.range (n.toNat*sz)).map (λj=>z.cells[j%z.cells.size]!)=(Hk n.toNat z.cells.toList).toArray:=by
  apply Array.ext
  .simp [awF,hz1]
  .intro j h1 h2;have hj:j<n.toNat*sz:=by simpa using h1
   have:=aO7 n.toNat z.cells.toList j (by rw[hl];exact hj) (by rw[hl];exact hsz);have hm:j%z.cells.size<z.cells.size:=a4X _ (by omega);simp only[Array.getElem_map,Array.getElem_range,List.getElem_toArray];rw[getElem!_pos z.cells _ hm];rw[a1I (by rw[awF,hl];exact hj)]at this;have:=a1Z this;rw[this];simp
 have hz':(zeroValue e).run P w= .ok z w:=by simp[zeroValue,typeInfo,hi,hz]
 have:(mT t (.int k n) (.int k n)).run P w= .ok (.value (.slice (some ⟨w.heap.size,0,none⟩) n.toNat n.toNat)) (w.alloc (.cells (Hk n.toNat z.cells.toList).toArray e)):=by
  unfold mT;rw[mG];have t1:(decide (n<0)||decide ((i.bytes:Int)*n>2^48)||decide (n<0)||decide (n>n))=false:=by
   simp only[a5P,decide_eq_false_iff_not];omega
  by_cases hn0:n.toNat*sz=0
  .simp only[Instr.makeSlice,underlying,typeInfo,asInt,asIntOf,pure_bind,Sem.run_bind,run_program,Result.andThen_ok,hu,hi,Sem.run_pure,hw,t1,a2A,if_false,run_askRoom,cC hi,h1,hn0,if_true,newRow,run_newObj];have hn:n.toNat=0:=by rcases Nat.mul_eq_zero.1 hn0 with h|h<;>omega
   have:(Array.range 0).map (λx=>(#[]:Array a7C)[x%(#[]:Array a7C).size]!)=(Hk n.toNat z.cells.toList).toArray:=by rw[hn];simp[Hk]
   rw[this];rfl
  .simp only[Instr.makeSlice,underlying,typeInfo,asInt,asIntOf,pure_bind,Sem.run_bind,run_program,Result.andThen_ok,hu,hi,Sem.run_pure,hw,t1,a2A,if_false,run_askRoom,cC hi,h1,hn0,hz',newRow,run_newObj,harr];rfl
 unfold bF;rw[this];exact hk _ (aT.alloc _ _ _) (aE.alloc _ _ _) (by simp)
abbrev T3:=Int×Int×Int
def fe(k:IntKind):List T3->List a7C
 |[]=>[]
 |e::r=> .int k e.1:: .int .i64 e.2.1:: .int .i64 e.2.2::fe k r
theorem fR(k:IntKind):∀L:List T3,(fe k L).length=L.length*3
 |[]=>rfl
 |e::r=>by simp[fe,fR k r];omega
theorem aF0 (k:IntKind):∀L M:List T3,fe k (L++M)=fe k L++fe k M
 |[],_=>rfl
 |e::r,M=>by simp[fe,aF0 k r M]
theorem ZQ(k:IntKind):∀(L:List T3) (i:Nat) (h:i<L.length),(fe k L)[i*3]?=some (.int k L[i].1)/\(fe k L)[i*3+1]?=some (.int .i64 L[i].2.1)/\(fe k L)[i*3+2]?=some (.int .i64 L[i].2.2)
 |[],i,h=>by simp at h
 |e::r,0,_=>⟨rfl,rfl,rfl⟩
 |e::r,i+1,h=>by
  have:=ZQ k r i (by simpa using h);rw[a3D];exact this
theorem axW(k:IntKind):∀(L:List T3) (i:Nat) (h:i<L.length) (x:Int),(fe k L).set (i*3) (.int k x)=fe k (L.set i (x,L[i].2))/\(fe k L).set (i*3+1) (.int .i64 x)=fe k (L.set i (L[i].1,x,L[i].2.2))/\(fe k L).set (i*3+2) (.int .i64 x)=fe k (L.set i (L[i].1,L[i].2.1,x))
 |[],i,h,_=>by simp at h
 |e::r,0,_,x=>⟨rfl,rfl,rfl⟩
 |e::r,i+1,h,x=>by
  have:=axW k r i (by simpa using h) x;rw[a3D];obtain⟨h1,h2,h3⟩:=this;refine⟨?_, ?_, ?_⟩
  .show (_::_::_::(fe k r).set (i*3) _)=_;rw[h1]<;>rfl
  .show (_::_::_::(fe k r).set (i*3+1) _)=_;rw[h2]<;>rfl
  .show (_::_::_::(fe k r).set (i*3+2) _)=_;rw[h3]<;>rfl
theorem aNs(k:IntKind)(x:Int):∀n:Nat,Hk n [.int k x,.int .i64 0,.int .i64 0]=fe k (List.replicate n (x,0,0))
 |0=>rfl
 |n+1=>by
  have:=aNs k x n;unfold Hk at this⊢;rw[a2S,a6N,this,a2S]<;>rfl
theorem aLN{P:Program}{w:a7B}{t e:TypeId}{k k':IntKind}{hi mx:Int}{i:TypeInfo}(hu:P.underlying t=some (.slice e))(hi':P.info? e=some i)(x:Option Addr)(n c:Nat)(h0:0<=hi)(h1:hi<=mx)(h2:mx<=c):
 (eY t (.slice x n c) none (some (.int k hi)) (some (.int k' mx))).run P w= .ok (.value (.slice (dI x mx.toNat 0 i.size) (hi.toNat-0) (mx.toNat-0))) w:=by
 have h3:(0:Int)<=mx:=by omega
 have h4:hi<=(mx.toNat:Int):=by omega
 simp only[eY,mG,Instr.sliceAt,underlying,hu,Sem.run_bind,run_program,Result.andThen_ok,Sem.run_pure,Instr.slice,Instr.sliceBounds,pure_bind,mV h3 h2,mV h0 h4,cC hi',dI]
end Go.En
namespace Go.Proofs.YthohephggmkeeaaGreatDoor
open Go Go.En
set_option maxRecDepth 4000
variable{K:a7C->a7B->Prop}{w:a7B}
abbrev tT1 (m0_:Nat):Prop:=∀{ty:TypeId} (x:Option Addr) (n c:Nat) (w:a7B),(yM .len #[m0_] ty [.slice x n c]).run pg w= .ok (.value (.int .i64 n)) w
theorem aAZ:tT1 22:=λx n c w=>VS Tryz.underlying22 x n c
theorem cU{l:List UInt8}{v:a7C}(h:Bs w v l):(S3 22 9 v).run pg w= .ok (.value (.string ⟨l.toArray⟩)) w:=aRE Tryz.underlying22 Tryz.underlying9 Tryz.underlying5 h
theorem T2:(pg).info? 5=some Tryz.t5:=by kernel_rfl
abbrev tT2 (m0_:Nat)(y1_:TypeInfo)(m2_:Nat):Prop:=∀{n:Nat} {ps:List (Nat×a7C)} {cells:Array a7C} {w:a7B} {K:a7C->a7B->Prop} (h1:¬n*m0_>2^24) (h0:¬n*m0_=0) (hf:Go.Instr.fill (λj=>some (j*m0_,m0_)) ((Array.range (n*m0_)).map ((y1_.zero.get!).cells[·%(y1_.zero.get!).cells.size]!)) ps=some cells) (hk:∀w',aT w' w.heap.size cells.toList->aE w w' aP->w'.heap.size=w.heap.size+1->K (.slice (some ⟨w.heap.size,0,none⟩) n n) w'),bF pg (fX m2_ n ps) w K
theorem mO:tT2 1 Tryz.t5 22:=λh1 h0 hf hk=>vB (i:=Tryz.t5) Tryz.underlying22 T2 rfl h1 h0 hf hk
theorem aqX{b off n c:Nat}{cs:List a7C}(ho:aT w b cs)(hk:∀w',aT w' b cs->aE w w' (λy=>y=b)->w'.heap.size=w.heap.size->K (.slice (some ⟨b,off,none⟩) n c) w'):bF pg (S3 22 22 (.slice (some ⟨b,off,none⟩) n c)) w K:=aTQ Tryz.underlying22 Tryz.underlying5 ho hk
theorem aDF:(pg).info? 22=some Tryz.t22:=by kernel_rfl
abbrev Lr(m0_:Nat)(m1_:Nat)(m2_:Nat):Prop:=∀(b o:Nat) (w:a7B),(pZ m0_ (.pointer (some ⟨b,o,none⟩)) m1_).run pg w= .ok (.value (.pointer (some ⟨b,o+m2_,none⟩))) w
theorem LC:Lr 38 3 3:=λb o w=>aY (i:=3) Tryz.underlying38 rfl aDF (by decide) _
abbrev tT4 (m0_:Nat):Prop:=∀(x:Addr) (w:a7B),(cK m0_ (.pointer (some x))).run pg w=ldC (w.cell? x) w (far pg m0_ x w)
theorem aAY:tT4 22:=λx w=>atF Tryz.underlying22 rfl x w
theorem Ej(s0:ByteArray)(w:a7B):(dK 40 [(0,(.string s0))]).run pg w= .ok (.value (.agg #[(.string s0),(.int .i64 0)])) w:=by kernel_rfl
theorem aNw:(pg).info? 40=some Tryz.t40:=by kernel_rfl
theorem bD(hk:∀w',aT w' w.heap.size [(.string ⟨#[]⟩),(.int .i64 0)]->aE w w' aP->w'.heap.size=w.heap.size+1->K (.pointer (some ⟨w.heap.size,0,none⟩)) w'):bF pg (Gc 40) w K:=bV (i:=Tryz.t40) aNw rfl hk
abbrev tT5 (m0_:Nat)(m1_:Nat):Prop:=∀{b off:Nat} {cs:List a7C} {w:a7B} {xs:Array a7C} {K:a7C->a7B->Prop} (ho:aT w b cs) (hs:xs.size=m0_) (hv:∀x∈xs.toList,one x=true) (h:off+m0_<=cs.length) (hk:∀w',aT w' b (aF cs off xs.toList)->aE w w' (λx=>x=b)->w'.heap.size=w.heap.size->K undef w'),bF pg (dL m1_ (.pointer (some ⟨b,off,none⟩)) (.agg xs)) w K
theorem aS:tT5 2 40:=λho hs hv h hk=>bW (v:= .agg _) aNw ho hs hv h hk
theorem aQS:(pg).info? 24=some Tryz.t24:=by kernel_rfl
theorem EZ:Lr 40 1 1:=λb o w=>aY (i:=1) Tryz.underlying40 rfl aQS (by decide) _
theorem asG:tT4 24:=λx w=>atF Tryz.underlying24 rfl x w
theorem aTn:(pg).info? 9=some Tryz.t9:=by kernel_rfl
abbrev tT6 (m0_:Nat):Prop:=∀(b o:Nat) (w:a7B),(pZ m0_ (.pointer (some ⟨b,o,none⟩)) 0).run pg w= .ok (.value (.pointer (some ⟨b,o,none⟩))) w
theorem EY:tT6 40:=λb o w=>aY (i:=0) Tryz.underlying40 rfl aTn (by decide) _
theorem aGc:tT4 9:=λx w=>atF Tryz.underlying9 rfl x w
theorem aGh{ty:TypeId}(x:ByteArray)(w:a7B):(yM .len #[9] ty [.string x]).run pg w= .ok (.value (.int .i64 x.size)) w:=aV3 Tryz.underlying9 x
abbrev tT7 (m0_:Nat)(m1_:Nat):Prop:=∀{b off:Nat} {l:List a7C} {w:a7B} (hl:l.length=m0_) (h:∀j,j<l.length->w.cell? ⟨b,off+j,none⟩=l[j]?),(cK m1_ (.pointer (some ⟨b,off,none⟩))).run pg w= .ok (.value (.agg l.toArray)) w
abbrev tT8 (m0_:Nat)(m1_:Nat):Prop:=∀{b off:Nat} {cs:List a7C} {w:a7B} (ho:aT w b cs) (h:off+m0_<=cs.length),(cK m1_ (.pointer (some ⟨b,off,none⟩))).run pg w= .ok (.value (.agg ((cs.drop off).take m0_).toArray)) w
theorem aV:tT8 2 40:=λho h=>iO Tryz.underlying40 rfl aNw ho h
abbrev tT9 (m0_:Nat)(m1_:Nat)(q2_:IntKind):Prop:=∀{k:IntKind} (a:Int) (w:a7B),(S3 m0_ m1_ (.int k a)).run pg w= .ok (.value (.int q2_ (q2_.wrap a))) w
theorem ahW:tT9 3 36 .u64:=λa w=>CT Tryz.underlying3 Tryz.underlying36
theorem ahY:tT9 36 3 .i64:=λa w=>CT Tryz.underlying36 Tryz.underlying3
theorem awK{k:IntKind}{lo:Int}(x:ByteArray)(w:a7B)(h0:0<=lo)(h1:lo<=x.size):(eY 9 (.string x) (some (.int k lo)) none none).run pg w= .ok (.value (.string (x.extract lo.toNat x.size))) w:=aJL Tryz.underlying9 x h0 h1
theorem nL:(pg).info? 3=some Tryz.t3:=by kernel_rfl
theorem EV:Lr 38 4 4:=λb o w=>aY (i:=4) Tryz.underlying38 rfl nL (by decide) _
theorem aQ8:tT4 3:=λx w=>atF Tryz.underlying3 rfl x w
theorem He:Lr 38 5 5:=λb o w=>aY (i:=5) Tryz.underlying38 rfl nL (by decide) _
theorem GN(p0:Option Addr)(n1:Int)(n2:Int)(w:a7B):(dK 38 [(0,(.pointer p0)),(1,(.int .u64 n1)),(2,(.int .i64 n2))]).run pg w= .ok (.value (.agg #[(.pointer p0),(.int .u64 n1),(.int .i64 n2),(.slice none 0 0),(.int .i64 0),(.int .i64 0)])) w:=by kernel_rfl
theorem aUk:(pg).info? 35=some Tryz.t35:=by kernel_rfl
theorem QF:tT6 38:=λb o w=>aY (i:=0) Tryz.underlying38 rfl aUk (by decide) _
theorem Of:tT4 35:=λx w=>atF Tryz.underlying35 rfl x w
abbrev S8 (m0_:Nat)(m1_:Nat):Prop:=∀{b off:Nat} {cs:List a7C} {w:a7B} {K:a7C->Prop} (ho:aT w b cs) (h:off+m0_<=cs.length) (hk:K (.agg ((cs.drop off).take m0_).toArray)),LdR pg m1_ (.pointer (some ⟨b,off,none⟩)) w K
theorem YP:S8 2 40:=λho h hk=>mB Tryz.underlying40 rfl aNw ho h hk
abbrev aAs(m0_:Nat):Prop:=∀{b off:Nat} {cs:List a7C} {w:a7B} {v:a7C} {K:a7C->a7B->Prop} (ho:aT w b cs) (hv:one v=true) (h:off<cs.length) (hk:∀w',aT w' b (cs.set off v)->aE w w' (λx=>x=b)->w'.heap.size=w.heap.size->K undef w'),bF pg (dL m0_ (.pointer (some ⟨b,off,none⟩)) v) w K
theorem awM:aAs 24:=λho hv h hk=>lU aQS rfl ho hv h hk
theorem aGa{k:IntKind}{a:Int}(x:ByteArray)(w:a7B)(h0:0<=a)(h1:a.toNat<x.size):(aAk 9 (.string x) (.int k a)).run pg w= .ok (.value (.int .u8 (x[a.toNat]'h1).toNat)) w:=aV2 Tryz.underlying9 x h0 h1
theorem WU:tT9 5 36 .u64:=λa w=>CT Tryz.underlying5 Tryz.underlying36
theorem aNx:(pg).info? 52=some Tryz.t52:=by kernel_rfl
abbrev AK(m0_:Nat)(cs_:List a7C):Prop:=∀{w:a7B} {K:a7C->a7B->Prop} (hk:∀w',aT w' w.heap.size cs_->aE w w' aP->w'.heap.size=w.heap.size+1->K (.pointer (some ⟨w.heap.size,0,none⟩)) w'),bF pg (Gc m0_) w K
theorem rF:AK 52 [(.int .u64 0),(.int .u64 0),(.bool false),(.bool false)]:=λhk=>bV (i:=Tryz.t52) aNx rfl hk
theorem fN:tT5 4 52:=λho hs hv h hk=>bW (v:= .agg _) aNx ho hs hv h hk
theorem Od:(pg).info? 36=some Tryz.t36:=by kernel_rfl
theorem xQ:tT6 52:=λb o w=>aY (i:=0) Tryz.underlying52 rfl Od (by decide) _
theorem aGe:tT4 36:=λx w=>atF Tryz.underlying36 rfl x w
theorem ayM:(pg).info? 4=some Tryz.t4:=by kernel_rfl
theorem zJ:Lr 52 2 2:=λb o w=>aY (i:=2) Tryz.underlying52 rfl ayM (by decide) _
theorem aNB:tT4 4:=λx w=>atF Tryz.underlying4 rfl x w
theorem A1:Lr 52 1 1:=λb o w=>aY (i:=1) Tryz.underlying52 rfl Od (by decide) _
abbrev aWd(m0_:Nat)(q1_:IntKind):Prop:=∀(n0:Int) (n1:Int) (n2:Int) (w:a7B),(dK m0_ [(0,(.int q1_ n0)),(1,(.int q1_ n1)),(2,(.int q1_ n2))]).run pg w= .ok (.value (.agg #[(.int q1_ n0),(.int q1_ n1),(.int q1_ n2)])) w
theorem Lu:aWd 56 .u32:=λn0 n1 n2 w=>by kernel_rfl
theorem Eu(aKF aKG aKH:a7C)(w:a7B):(dK 62 [(3,(.agg #[aKF,aKG,aKH]))]).run pg w= .ok (.value (.agg #[(.string ⟨#[]⟩),(.string ⟨#[]⟩),(.int .i64 0),(.slice none 0 0),(.int .i64 0),(.slice none 0 0),(.int .i64 0),(.slice none 0 0),aKF,aKG,aKH])) w:=by kernel_rfl
theorem aNy:(pg).info? 62=some Tryz.t62:=by kernel_rfl
theorem I2 (hk:∀w',aT w' w.heap.size [(.string ⟨#[]⟩),(.string ⟨#[]⟩),(.int .i64 0),(.slice none 0 0),(.int .i64 0),(.slice none 0 0),(.int .i64 0),(.slice none 0 0),(.int .u32 0),(.int .u32 0),(.int .u32 0)]->aE w w' aP->w'.heap.size=w.heap.size+1->K (.pointer (some ⟨w.heap.size,0,none⟩)) w'):bF pg (Gc 62) w K:=bV (i:=Tryz.t62) aNy rfl hk
theorem fO:tT5 11 62:=λho hs hv h hk=>bW (v:= .agg _) aNy ho hs hv h hk
theorem YO:tT8 11 62:=λho h=>iO Tryz.underlying62 rfl aNy ho h
theorem Bx:tT6 62:=λb o w=>aY (i:=0) Tryz.underlying62 rfl aTn (by decide) _
theorem Bw:Lr 52 3 3:=λb o w=>aY (i:=3) Tryz.underlying52 rfl ayM (by decide) _
abbrev aTS(m0_:Nat):Prop:=∀(a0:Option Addr) (l0 c0:Nat) (w:a7B),(dK m0_ [(0,(.slice a0 l0 c0))]).run pg w= .ok (.value (.agg #[(.slice a0 l0 c0),(.int .i64 0)])) w
theorem M4:aTS 68:=λa0 l0 c0 w=>by kernel_rfl
abbrev aTT(m0_:Nat):Prop:=∀{ox oy:Operand} (x:Option Addr) (w:a7B),(bZ .eql m0_ ox oy (.pointer x) (.pointer none)).run pg w= .ok (.value (.bool x.isNone)) w
theorem JE:aTT 35:=λx w=>aHC Tryz.underlying35 x
theorem NB:tT6 68:=λb o w=>aY (i:=0) Tryz.underlying68 rfl aDF (by decide) _
abbrev aR8 (m0_:Nat):Prop:=∀{k:IntKind} {a:Int} (b o n c:Nat) (w:a7B) (h0:0<=a) (h1:a<n),(uY m0_ (.slice (some ⟨b,o,none⟩) n c) (.int k a)).run pg w= .ok (.value (.pointer (some ⟨b,o+a.toNat,none⟩))) w
theorem aAV:aR8 22:=λb o n c w h0 h1=>Ug rfl Tryz.underlying22 T2 b o n c h0 h1
theorem aJk:tT4 5:=λx w=>atF Tryz.underlying5 rfl x w
theorem aAL:tT9 3 70 .u64:=λa w=>CT Tryz.underlying3 Tryz.underlying70
theorem NC:Lr 68 1 1:=λb o w=>aY (i:=1) Tryz.underlying68 rfl aQS (by decide) _
theorem aNz:(pg).info? 72=some Tryz.t72:=by kernel_rfl
theorem BS:AK 72 [(.int .u64 0),(.int .u64 0),(.bool false),(.bool false)]:=λhk=>bV (i:=Tryz.t72) aNz rfl hk
theorem jL:tT5 4 72:=λho hs hv h hk=>bW (v:= .agg _) aNz ho hs hv h hk
abbrev aX2 (m0_:Nat):Prop:=∀{k:IntKind} {lo:Int} (a:Option Addr) (n c:Nat) (w:a7B) (h0:0<=lo) (h1:lo<=n),(eY m0_ (.slice a n c) (some (.int k lo)) none none).run pg w= .ok (.value (.slice (dI a c (lo.toNat) 1) (n-lo.toNat) (c-lo.toNat))) w
theorem aeD:aX2 22:=λa n c w h0 h1=>aD8 Tryz.underlying22 T2 _ n c h0 h1
theorem apL:aAs 35:=λho hv h hk=>lU aUk rfl ho hv h hk
theorem EX:tT6 72:=λb o w=>aY (i:=0) Tryz.underlying72 rfl Od (by decide) _
theorem EW:Lr 38 1 1:=λb o w=>aY (i:=1) Tryz.underlying38 rfl Od (by decide) _
theorem Hf:Lr 72 2 2:=λb o w=>aY (i:=2) Tryz.underlying72 rfl ayM (by decide) _
theorem Jp:Lr 72 1 1:=λb o w=>aY (i:=1) Tryz.underlying72 rfl Od (by decide) _
theorem Jo:Lr 38 2 2:=λb o w=>aY (i:=2) Tryz.underlying38 rfl nL (by decide) _
theorem Qf(aKF aKG aKH:a7C)(w:a7B):(dK 83 [(2,(.agg #[aKF,aKG,aKH]))]).run pg w= .ok (.value (.agg #[(.slice none 0 0),(.int .i64 0),(.slice none 0 0),(.int .i64 0),(.slice none 0 0),(.int .i64 0),(.slice none 0 0),aKF,aKG,aKH])) w:=by kernel_rfl
theorem aNA:(pg).info? 83=some Tryz.t83:=by kernel_rfl
theorem JW:AK 83 [(.slice none 0 0),(.int .i64 0),(.slice none 0 0),(.int .i64 0),(.slice none 0 0),(.int .i64 0),(.slice none 0 0),(.int .u32 0),(.int .u32 0),(.int .u32 0)]:=λhk=>bV (i:=Tryz.t83) aNA rfl hk
theorem cI:tT5 10 83:=λho hs hv h hk=>bW (v:= .agg _) aNA ho hs hv h hk
theorem Az:tT8 10 83:=λho h=>iO Tryz.underlying83 rfl aNA ho h
theorem LI:Lr 72 3 3:=λb o w=>aY (i:=3) Tryz.underlying72 rfl ayM (by decide) _
abbrev aMe(m0_:Nat)(m1_:Nat)(m2_:Nat):Prop:=∀{base n m:Nat} {ty:TypeId} {w:a7B} {v x:a7C} {l news:List a7C} {K:a7C->a7B->Prop} (h:mH w base m0_ v n l) (hx:Cl w m0_ x m news) (hone:∀y∈news,one y=true) (hb:base<=w.heap.size) (hbytes:(n+m)*m1_<=140737488355328) (hk:∀v' w',mH w' base m0_ v' (n+m) (l++news)->aE w w' (λy=>base<=y)->K v' w'),bF pg (yM .append #[m2_,m2_] ty [v,x]) w K
theorem mM:aMe 1 1 22:=λh hx hone hb hbytes hk=>Da (i:=Tryz.t5) Tryz.underlying22 Tryz.underlying22 T2 rfl rfl rfl h hx hone hb (by omega) hbytes (by decide) hk
theorem JH:aAs 22:=λho hv h hk=>lU aDF rfl ho hv h hk
theorem eZ:aAs 3:=λho hv h hk=>lU nL rfl ho hv h hk
theorem awJ{k:IntKind}{hi:Int}(x:ByteArray)(w:a7B)(h0:0<=hi)(h1:hi<=x.size):(eY 9 (.string x) none (some (.int k hi)) none).run pg w= .ok (.value (.string (x.extract 0 hi.toNat))) w:=aJK Tryz.underlying9 x h0 h1
theorem aAn:aAs 9:=λho hv h hk=>lU aTn rfl ho hv h hk
theorem lA:S8 4 52:=λho h hk=>mB Tryz.underlying52 rfl aNx ho h hk
theorem wS:tT8 4 52:=λho h=>iO Tryz.underlying52 rfl aNx ho h
theorem aHQ:aAs 4:=λho hv h hk=>lU ayM rfl ho hv h hk
theorem jK:aAs 36:=λho hv h hk=>lU Od rfl ho hv h hk
theorem pD:tT2 1 Tryz.t3 88:=λh1 h0 hf hk=>vB (i:=Tryz.t3) Tryz.underlying88 nL rfl h1 h0 hf hk
theorem aF7:aR8 88:=λb o n c w h0 h1=>Ug rfl Tryz.underlying88 nL b o n c h0 h1
theorem GW(w:a7B):(dK 52 []).run pg w= .ok (.value (.agg #[(.int .u64 0),(.int .u64 0),(.bool false),(.bool false)])) w:=by kernel_rfl
theorem qH:S8 11 62:=λho h hk=>mB Tryz.underlying62 rfl aNy ho h hk
theorem aQW:(pg).info? 90=some Tryz.t90:=by kernel_rfl
theorem rE:AK 90 [(.bool false),(.int .i64 0),(.int .i64 0)]:=λhk=>bV (i:=Tryz.t90) aQW rfl hk
theorem iG:tT5 3 90:=λho hs hv h hk=>bW (v:= .agg _) aQW ho hs hv h hk
theorem AZ:Lr 90 2 2:=λb o w=>aY (i:=2) Tryz.underlying90 rfl nL (by decide) _
theorem AX:Lr 90 1 1:=λb o w=>aY (i:=1) Tryz.underlying90 rfl nL (by decide) _
theorem AY:tT6 90:=λb o w=>aY (i:=0) Tryz.underlying90 rfl ayM (by decide) _
theorem vU:Lr 62 1 1:=λb o w=>aY (i:=1) Tryz.underlying62 rfl aTn (by decide) _
theorem aI9:(pg).info? 60=some Tryz.t60:=by kernel_rfl
theorem Fe:Lr 62 2 2:=λb o w=>aY (i:=2) Tryz.underlying62 rfl aI9 (by decide) _
theorem cA:tT8 6 60:=λho h=>iO Tryz.underlying60 rfl aI9 ho h
theorem fD:AK 60 [(.int .i64 0),(.slice none 0 0),(.int .i64 0),(.slice none 0 0),(.int .i64 0),(.slice none 0 0)]:=λhk=>bV (i:=Tryz.t60) aI9 rfl hk
theorem dN:tT5 6 60:=λho hs hv h hk=>bW (v:= .agg _) aI9 ho hs hv h hk
theorem aI7:(pg).info? 56=some Tryz.t56:=by kernel_rfl
theorem A2:Lr 62 3 8:=λb o w=>aY (i:=3) Tryz.underlying62 rfl aI7 (by decide) _
theorem aaE:tT8 3 56:=λho h=>iO Tryz.underlying56 rfl aI7 ho h
theorem lY:AK 56 [(.int .u32 0),(.int .u32 0),(.int .u32 0)]:=λhk=>bV (i:=Tryz.t56) aI7 rfl hk
theorem fB:tT5 3 56:=λho hs hv h hk=>bW (v:= .agg _) aI7 ho hs hv h hk
theorem vP(s0:ByteArray)(s1:ByteArray)(aSq aSr aSs aYo aYp aYq:a7C)(aYr aYs aYt:a7C)(w:a7B):(dK 62 [(0,(.string s0)),(1,(.string s1)),(2,(.agg #[aSq,aSr,aSs,aYo,aYp,aYq])),(3,(.agg #[aYr,aYs,aYt]))]).run pg w= .ok (.value (.agg #[(.string s0),(.string s1),aSq,aSr,aSs,aYo,aYp,aYq,aYr,aYs,aYt])) w:=by kernel_rfl
abbrev aX3 (m0_:Nat)(q1_:IntKind):Prop:=∀(n0:Int) (n1:Int) (n2:Int) (n3:Int) (w:a7B),(dK m0_ [(0,(.int q1_ n0)),(1,(.int q1_ n1)),(2,(.int q1_ n2)),(3,(.int q1_ n3))]).run pg w= .ok (.value (.agg #[(.int q1_ n0),(.int q1_ n1),(.int q1_ n2),(.int q1_ n3)])) w
theorem GL:aX3 101 .u64:=λn0 n1 n2 n3 w=>by kernel_rfl
theorem aHb:(pg).info? 101=some Tryz.t101:=by kernel_rfl
theorem aFg:AK 101 [(.int .u64 0),(.int .u64 0),(.int .u64 0),(.int .u64 0)]:=λhk=>bV (i:=Tryz.t101) aHb rfl hk
theorem aEU:tT5 4 101:=λho hs hv h hk=>bW (v:= .agg _) aHb ho hs hv h hk
abbrev aMf(z0_:Int)(m1_:Nat):Prop:=∀{k:IntKind} {a:Int} (b o:Nat) (w:a7B) (h0:0<=a) (h1:a<z0_),(uY m1_ (.pointer (some ⟨b,o,none⟩)) (.int k a)).run pg w= .ok (.value (.pointer (some ⟨b,o+a.toNat,none⟩))) w
theorem aiZ:aMf 4 101:=λb o w h0 h1=>HN rfl Tryz.underlying101 Od b o h0 (by simpa using h1)
theorem alN{ox oy:Operand}(x:Option Addr)(n c:Nat)(w:a7B):(bZ .eql 22 ox oy (.slice x n c) (.slice none 0 0)).run pg w= .ok (.value (.bool x.isNone)) w:=aTJ Tryz.underlying22 x n c
theorem aeC{k k':IntKind}{hi mx:Int}(a:Option Addr)(n c:Nat)(w:a7B)(h0:0<=hi)(h1:hi<=mx)(h2:mx<=c):(eY 22 (.slice a n c) none (some (.int k hi)) (some (.int k' mx))).run pg w= .ok (.value (.slice (dI a mx.toNat 0 1) (hi.toNat-0) (mx.toNat-0))) w:=aLN Tryz.underlying22 T2 a n c h0 h1 h2
theorem tK:S8 4 72:=λho h hk=>mB Tryz.underlying72 rfl aNz ho h hk
theorem Tk(w:a7B):(dK 72 []).run pg w= .ok (.value (.agg #[(.int .u64 0),(.int .u64 0),(.bool false),(.bool false)])) w:=by kernel_rfl
theorem Qg(b0:Bool)(w:a7B):(dK 72 [(3,(.bool b0))]).run pg w= .ok (.value (.agg #[(.int .u64 0),(.int .u64 0),(.bool false),(.bool b0)])) w:=by kernel_rfl
theorem M3:aX3 105 .i64:=λn0 n1 n2 n3 w=>by kernel_rfl
abbrev aWe(z0_:Int)(m1_:Nat):Prop:=∀{k:IntKind} {a:Int} (cs:Array a7C) (w:a7B) (h0:0<=a) (h1:a<z0_),(aAk m1_ (.agg cs) (.int k a)).run pg w=ldC cs[a.toNat]? w (aXC pg m1_ cs k a w)
theorem aDJ:aWe 4 105:=λcs w h0 h1=>aLM Tryz.underlying105 Tryz.underlying3 rfl nL rfl cs h0 (by simpa using h1)
theorem ayO:tT8 4 72:=λho h=>iO Tryz.underlying72 rfl aNz ho h
theorem aJa:(pg).info? 75=some Tryz.t75:=by kernel_rfl
theorem jE:S8 3 75:=λho h hk=>mB Tryz.underlying75 rfl aJa ho h hk
theorem iN:AK 75 [(.int .u32 0),(.int .u32 0),(.int .u32 0)]:=λhk=>bV (i:=Tryz.t75) aJa rfl hk
theorem GO:aWd 75 .u32:=λn0 n1 n2 w=>by kernel_rfl
theorem dC:tT5 3 75:=λho hs hv h hk=>bW (v:= .agg _) aJa ho hs hv h hk
theorem fH:S8 10 83:=λho h hk=>mB Tryz.underlying83 rfl aNA ho h hk
theorem Ti(w:a7B):(dK 83 []).run pg w= .ok (.value (.agg #[(.slice none 0 0),(.int .i64 0),(.slice none 0 0),(.int .i64 0),(.slice none 0 0),(.int .i64 0),(.slice none 0 0),(.int .u32 0),(.int .u32 0),(.int .u32 0)])) w:=by kernel_rfl
theorem aLn:(pg).info? 107=some Tryz.t107:=by kernel_rfl
theorem MN:AK 107 [(.bool false),(.int .i64 0),(.int .i64 0)]:=λhk=>bV (i:=Tryz.t107) aLn rfl hk
theorem CB:tT5 3 107:=λho hs hv h hk=>bW (v:= .agg _) aLn ho hs hv h hk
theorem LG:Lr 107 2 2:=λb o w=>aY (i:=2) Tryz.underlying107 rfl nL (by decide) _
theorem LD:Lr 107 1 1:=λb o w=>aY (i:=1) Tryz.underlying107 rfl nL (by decide) _
theorem LF:tT6 107:=λb o w=>aY (i:=0) Tryz.underlying107 rfl ayM (by decide) _
theorem wT:S8 3 90:=λho h hk=>mB Tryz.underlying90 rfl aQW ho h hk
theorem GV(w:a7B):(dK 90 []).run pg w= .ok (.value (.agg #[(.bool false),(.int .i64 0),(.int .i64 0)])) w:=by kernel_rfl
abbrev aX4 (m0_:Nat):Prop:=∀(b0:Bool) (n1:Int) (n2:Int) (w:a7B),(dK m0_ [(0,(.bool b0)),(1,(.int .i64 n1)),(2,(.int .i64 n2))]).run pg w= .ok (.value (.agg #[(.bool b0),(.int .i64 n1),(.int .i64 n2)])) w
theorem zB:aX4 90:=λb0 n1 n2 w=>by kernel_rfl
abbrev aX5 (z0_:Int)(q1_:IntKind)(m2_:Nat):Prop:=∀{k:IntKind} {n:Int} {w:a7B} {K:a7C->a7B->Prop} (h0:0<=n) (hn:z0_*n<=2^48) (hk:∀w',aT w' w.heap.size (List.replicate n.toNat (.int q1_ 0))->aE w w' aP->w'.heap.size=w.heap.size+1->K (.slice (some ⟨w.heap.size,0,none⟩) n.toNat n.toNat) w'),bF pg (mT m2_ (.int k n) (.int k n)) w K
theorem aaM:aX5 1 .u8 22:=λh0 hn hk=>aKq (i:=Tryz.t5) Tryz.underlying22 T2 rfl rfl rfl h0 hn (by omega) hk
theorem awN:aAs 5:=λho hv h hk=>lU T2 rfl ho hv h hk
theorem aHc:(pg).info? 115=some Tryz.t115:=by kernel_rfl
theorem yV:AK 115 [(.int .u64 0),(.int .u64 0),(.int .i64 0),(.int .u64 0),(.int .u64 0)]:=λhk=>bV (i:=Tryz.t115) aHc rfl hk
theorem lD:tT5 5 115:=λho hs hv h hk=>bW (v:= .agg _) aHc ho hs hv h hk
theorem zH:Lr 115 4 4:=λb o w=>aY (i:=4) Tryz.underlying115 rfl Od (by decide) _
theorem AV:tT6 115:=λb o w=>aY (i:=0) Tryz.underlying115 rfl Od (by decide) _
theorem zI:Lr 115 3 3:=λb o w=>aY (i:=3) Tryz.underlying115 rfl Od (by decide) _
theorem AW:Lr 115 2 2:=λb o w=>aY (i:=2) Tryz.underlying115 rfl nL (by decide) _
theorem aeE{k k':IntKind}{lo hi:Int}(x:ByteArray)(w:a7B)(h0:0<=lo)(h1:lo<=hi)(h2:hi<=x.size):(eY 9 (.string x) (some (.int k lo)) (some (.int k' hi)) none).run pg w= .ok (.value (.string (x.extract lo.toNat hi.toNat))) w:=aFs Tryz.underlying9 x h0 h1 h2
theorem AU:Lr 115 1 1:=λb o w=>aY (i:=1) Tryz.underlying115 rfl Od (by decide) _
theorem A3:S8 6 60:=λho h hk=>mB Tryz.underlying60 rfl aI9 ho h hk
theorem aI8:(pg).info? 59=some Tryz.t59:=by kernel_rfl
abbrev aX6 (m0_:Nat):Prop:=∀{k:IntKind} {a:Int} (b o:Nat) (w:a7B) (h0:0<=a) (h1:a<3),(uY m0_ (.pointer (some ⟨b,o,none⟩)) (.int k a)).run pg w= .ok (.value (.pointer (some ⟨b,o+a.toNat*2,none⟩))) w
theorem BD:aX6 60:=λb o w h0 h1=>aGn rfl Tryz.underlying60 aI8 b o h0 (by simpa using h1)
theorem aX:tT8 2 59:=λho h=>iO Tryz.underlying59 rfl aI8 ho h
theorem cL:AK 59 [(.int .i64 0),(.slice none 0 0)]:=λhk=>bV (i:=Tryz.t59) aI8 rfl hk
theorem bN:tT5 2 59:=λho hs hv h hk=>bW (v:= .agg _) aI8 ho hs hv h hk
theorem aHd:(pg).info? 128=some Tryz.t128:=by kernel_rfl
theorem bM:AK 128 [(.slice none 0 0),(.int .i64 0)]:=λhk=>bV (i:=Tryz.t128) aHd rfl hk
theorem aJ:tT5 2 128:=λho hs hv h hk=>bW (v:= .agg _) aHd ho hs hv h hk
theorem aQ:tT8 2 128:=λho h=>iO Tryz.underlying128 rfl aHd ho h
theorem ayJ:(pg).info? 134=some Tryz.t134:=by kernel_rfl
theorem JV:AK 134 [(.int .u32 0),(.int .u32 0),(.int .u32 0)]:=λhk=>bV (i:=Tryz.t134) ayJ rfl hk
theorem Xg:(pg).info? 55=some Tryz.t55:=by kernel_rfl
theorem ET:Lr 134 2 2:=λb o w=>aY (i:=2) Tryz.underlying134 rfl Xg (by decide) _
theorem H6:aAs 55:=λho hv h hk=>lU Xg rfl ho hv h hk
theorem Hc:Lr 134 1 1:=λb o w=>aY (i:=1) Tryz.underlying134 rfl Xg (by decide) _
theorem Bt:tT6 134:=λb o w=>aY (i:=0) Tryz.underlying134 rfl Xg (by decide) _
theorem pG:tT8 3 134:=λho h=>iO Tryz.underlying134 rfl ayJ ho h
theorem Na:tT2 3 Tryz.t134 96:=λh1 h0 hf hk=>vB (i:=Tryz.t134) Tryz.underlying96 ayJ rfl h1 h0 hf hk
theorem pS:aMe 3 12 96:=λh hx hone hb hbytes hk=>Da (i:=Tryz.t134) Tryz.underlying96 Tryz.underlying96 ayJ rfl rfl rfl h hx hone hb (by omega) hbytes (by decide) hk
theorem zO:S8 3 56:=λho h hk=>mB Tryz.underlying56 rfl aI7 ho h hk
theorem amL{x:ByteArray}(hk:∀w' c,Sl w' (.slice (some ⟨w.heap.size,0,none⟩) x.size c) (x.data.toList.map kH)->aE w w' aP->w'.heap.size=w.heap.size+1->(∃r,aT w' w.heap.size (x.data.toList.map kH++List.replicate r (.int .u8 0))/\c=x.size+r)->K (.slice (some ⟨w.heap.size,0,none⟩) x.size c) w'):bF pg (S3 9 22 (.string x)) w K:=aMc Tryz.underlying9 Tryz.underlying22 Tryz.underlying5 hk
theorem Ok:tT1 96:=λx n c w=>VS Tryz.underlying96 x n c
abbrev aPh(m0_:Nat)(m1_:Nat):Prop:=∀{k:IntKind} {a:Int} (b o n c:Nat) (w:a7B) (h0:0<=a) (h1:a<n),(uY m0_ (.slice (some ⟨b,o,none⟩) n c) (.int k a)).run pg w= .ok (.value (.pointer (some ⟨b,o+a.toNat*m1_,none⟩))) w
theorem Ob:aPh 96 3:=λb o n c w h0 h1=>Mr rfl Tryz.underlying96 ayJ b o n c h0 h1
theorem aGd:tT4 55:=λx w=>atF Tryz.underlying55 rfl x w
theorem TC:tT9 55 36 .u64:=λa w=>CT Tryz.underlying55 Tryz.underlying36
theorem ahX:tT9 55 3 .i64:=λa w=>CT Tryz.underlying55 Tryz.underlying3
theorem Xi:S8 3 107:=λho h hk=>mB Tryz.underlying107 rfl aLn ho h hk
theorem Wx(w:a7B):(dK 107 []).run pg w= .ok (.value (.agg #[(.bool false),(.int .i64 0),(.int .i64 0)])) w:=by kernel_rfl
theorem I5:aX4 107:=λb0 n1 n2 w=>by kernel_rfl
theorem aAM:tT9 70 3 .i64:=λa w=>CT Tryz.underlying70 Tryz.underlying3
abbrev aX7 (m0_:Nat):Prop:=∀{ty:TypeId} {w:a7B} {b off dl c:Nat} {cs:List a7C} {v:a7C} {l:List a7C} {K:a7C->a7B->Prop} (ho:aT w b cs) (hl:off+dl<=cs.length) (h:Sl w v l) (hv:∀x∈l,one x=true) (hk:∀w',aT w' b (aF cs off (l.take (min l.length dl)))->aE w w' (λx=>x=b)->w'.heap.size=w.heap.size->K (.int .i64 (min l.length dl:Nat)) w'),bF pg (yM .copy #[m0_,m0_] ty [.slice (some ⟨b,off,none⟩) dl c,v]) w K
theorem ZH:aX7 22:=λho hl h hv hk=>aKp Tryz.underlying22 T2 rfl ho hl h hv hk
abbrev aWf(m0_:Nat):Prop:=∀{k:IntKind} {hi:Int} (a:Option Addr) (n c:Nat) (w:a7B) (h0:0<=hi) (h1:hi<=c),(eY m0_ (.slice a n c) none (some (.int k hi)) none).run pg w= .ok (.value (.slice (dI a c (0) 1) (hi.toNat-0) (c-0))) w
theorem aeB:aWf 22:=λa n c w h0 h1=>anN Tryz.underlying22 T2 _ n c h0 h1
theorem Dz:tT6 83:=λb o w=>aY (i:=0) Tryz.underlying83 rfl aDF (by decide) _
theorem aJc:(pg).info? 81=some Tryz.t81:=by kernel_rfl
theorem EU:Lr 83 1 1:=λb o w=>aY (i:=1) Tryz.underlying83 rfl aJc (by decide) _
theorem fU:tT8 6 81:=λho h=>iO Tryz.underlying81 rfl aJc ho h
theorem fI:AK 81 [(.int .i64 0),(.slice none 0 0),(.int .i64 0),(.slice none 0 0),(.int .i64 0),(.slice none 0 0)]:=λhk=>bV (i:=Tryz.t81) aJc rfl hk
theorem dT:tT5 6 81:=λho hs hv h hk=>bW (v:= .agg _) aJc ho hs hv h hk
theorem Jn:Lr 83 2 7:=λb o w=>aY (i:=2) Tryz.underlying83 rfl aJa (by decide) _
theorem fG:tT8 3 75:=λho h=>iO Tryz.underlying75 rfl aJa ho h
theorem GM(a0:Option Addr)(l0 c0:Nat)(aYi aYj aYk aYl aYm aYn:a7C)(aSq aSr aSs:a7C)(w:a7B):(dK 83 [(0,(.slice a0 l0 c0)),(1,(.agg #[aYi,aYj,aYk,aYl,aYm,aYn])),(2,(.agg #[aSq,aSr,aSs]))]).run pg w= .ok (.value (.agg #[(.slice a0 l0 c0),aYi,aYj,aYk,aYl,aYm,aYn,aSq,aSr,aSs])) w:=by kernel_rfl
theorem qG:S8 5 115:=λho h hk=>mB Tryz.underlying115 rfl aHc ho h hk
theorem wR:tT8 5 115:=λho h=>iO Tryz.underlying115 rfl aHc ho h
theorem aqN:tT2 1 Tryz.t36 153:=λh1 h0 hf hk=>vB (i:=Tryz.t36) Tryz.underlying153 Od rfl h1 h0 hf hk
theorem asD:aR8 153:=λb o n c w h0 h1=>Ug rfl Tryz.underlying153 Od b o n c h0 h1
theorem aqZ:tT9 5 3 .i64:=λa w=>CT Tryz.underlying5 Tryz.underlying3
theorem qF:S8 2 59:=λho h hk=>mB Tryz.underlying59 rfl aI8 ho h hk
theorem asK:tT1 160:=λx n c w=>VS Tryz.underlying160 x n c
theorem GR(w:a7B):(dK 59 []).run pg w= .ok (.value (.agg #[(.int .i64 0),(.slice none 0 0)])) w:=by kernel_rfl
theorem aUl:(pg).info? 57=some Tryz.t57:=by kernel_rfl
theorem Fc:Lr 59 1 1:=λb o w=>aY (i:=1) Tryz.underlying59 rfl aUl (by decide) _
theorem DD:tT4 57:=λx w=>atF Tryz.underlying57 rfl x w
theorem DE:tT1 57:=λx n c w=>VS Tryz.underlying57 x n c
theorem aHe:(pg).info? 166=some Tryz.t166:=by kernel_rfl
theorem fS:AK 166 [(.int .i64 0),(.slice none 0 0)]:=λhk=>bV (i:=Tryz.t166) aHe rfl hk
theorem cS:tT5 2 166:=λho hs hv h hk=>bW (v:= .agg _) aHe ho hs hv h hk
theorem fM:tT8 2 166:=λho h=>iO Tryz.underlying166 rfl aHe ho h
theorem cR:S8 2 128:=λho h hk=>mB Tryz.underlying128 rfl aHd ho h hk
theorem GP(w:a7B):(dK 128 []).run pg w= .ok (.value (.agg #[(.slice none 0 0),(.int .i64 0)])) w:=by kernel_rfl
theorem aDR:tT1 126:=λx n c w=>VS Tryz.underlying126 x n c
theorem aDE:aR8 126:=λb o n c w h0 h1=>Ug rfl Tryz.underlying126 ayM b o n c h0 h1
theorem alO:aWf 126:=λa n c w h0 h1=>anN Tryz.underlying126 ayM _ n c h0 h1
theorem Ek:aTS 128:=λa0 l0 c0 w=>by kernel_rfl
theorem Bv:tT6 59:=λb o w=>aY (i:=0) Tryz.underlying59 rfl nL (by decide) _
theorem ayK:(pg).info? 177=some Tryz.t177:=by kernel_rfl
theorem DB:aPh 57 3:=λb o n c w h0 h1=>Mr rfl Tryz.underlying57 ayK b o n c h0 h1
theorem xP:tT6 177:=λb o w=>aY (i:=0) Tryz.underlying177 rfl nL (by decide) _
theorem TD:tT9 36 55 .u32:=λa w=>CT Tryz.underlying36 Tryz.underlying55
theorem AR:Lr 177 1 1:=λb o w=>aY (i:=1) Tryz.underlying177 rfl nL (by decide) _
theorem AQ:Lr 177 2 2:=λb o w=>aY (i:=2) Tryz.underlying177 rfl nL (by decide) _
theorem aLo:(pg).info? 126=some Tryz.t126:=by kernel_rfl
theorem Fa:tT6 128:=λb o w=>aY (i:=0) Tryz.underlying128 rfl aLo (by decide) _
theorem aDM:tT4 126:=λx w=>atF Tryz.underlying126 rfl x w
theorem AO:Lr 128 1 1:=λb o w=>aY (i:=1) Tryz.underlying128 rfl nL (by decide) _
theorem aiY:aMf 3 56:=λb o w h0 h1=>HN rfl Tryz.underlying56 Xg b o h0 (by simpa using h1)
theorem ZJ:tT9 70 55 .u32:=λa w=>CT Tryz.underlying70 Tryz.underlying55
theorem ZI:tT9 55 70 .u64:=λa w=>CT Tryz.underlying55 Tryz.underlying70
theorem aHf:(pg).info? 183=some Tryz.t183:=by kernel_rfl
theorem Ak:AK 183 [(.int .i64 0),(.int .i64 0),(.int .i64 0),(.int .i64 0),(.int .i64 0)]:=λhk=>bV (i:=Tryz.t183) aHf rfl hk
theorem kB:tT5 5 183:=λho hs hv h hk=>bW (v:= .agg _) aHf ho hs hv h hk
theorem Hi:Lr 183 2 2:=λb o w=>aY (i:=2) Tryz.underlying183 rfl nL (by decide) _
theorem Hh:tT6 183:=λb o w=>aY (i:=0) Tryz.underlying183 rfl nL (by decide) _
theorem Fg:Lr 183 3 3:=λb o w=>aY (i:=3) Tryz.underlying183 rfl nL (by decide) _
theorem Ff:Lr 183 4 4:=λb o w=>aY (i:=4) Tryz.underlying183 rfl nL (by decide) _
theorem QN:tT8 5 183:=λho h=>iO Tryz.underlying183 rfl aHf ho h
theorem JB:S8 6 81:=λho h hk=>mB Tryz.underlying81 rfl aJc ho h hk
theorem I8 (w:a7B):(dK 81 []).run pg w= .ok (.value (.agg #[(.int .i64 0),(.slice none 0 0),(.int .i64 0),(.slice none 0 0),(.int .i64 0),(.slice none 0 0)])) w:=by kernel_rfl
theorem aVC:(pg).info? 195=some Tryz.t195:=by kernel_rfl
theorem aKP:AK 195 [(.int .i64 0),(.int .i64 0),(.int .i64 0)]:=λhk=>bV (i:=Tryz.t195) aVC rfl hk
theorem aJb:(pg).info? 79=some Tryz.t79:=by kernel_rfl
theorem LK:aX6 81:=λb o w h0 h1=>aGn rfl Tryz.underlying81 aJb b o h0 (by simpa using h1)
theorem dX:tT8 2 79:=λho h=>iO Tryz.underlying79 rfl aJb ho h
theorem aDC:aMf 3 195:=λb o w h0 h1=>HN rfl Tryz.underlying195 nL b o h0 (by simpa using h1)
theorem Th:aWd 195 .i64:=λn0 n1 n2 w=>by kernel_rfl
theorem aDI:aWe 3 195:=λcs w h0 h1=>aLM Tryz.underlying195 Tryz.underlying3 rfl nL rfl cs h0 (by simpa using h1)
theorem aIB:AK 22 [(.slice none 0 0)]:=λhk=>bV (i:=Tryz.t22) aDF rfl hk
theorem aAo:tT5 3 134:=λho hs hv h hk=>bW (v:= .agg _) ayJ ho hs hv h hk
theorem Tj(w:a7B):(dK 75 []).run pg w= .ok (.value (.agg #[(.int .u32 0),(.int .u32 0),(.int .u32 0)])) w:=by kernel_rfl
theorem ahL(aKF aKG aKH aYh:a7C)(w:a7B):(dK 204 [(0,(.agg #[aKF,aKG,aKH,aYh]))]).run pg w= .ok (.value (.agg #[aKF,aKG,aKH,aYh,(.int .u8 0),(.int .u8 0),(.int .u8 0),(.int .u8 0),(.int .u8 0),(.int .u8 0),(.int .u8 0),(.int .u8 0),(.int .u8 0),(.int .u8 0),(.int .u8 0),(.int .u8 0),(.int .u8 0),(.int .u8 0),(.int .u8 0),(.int .u8 0),(.int .u8 0),(.int .u8 0),(.int .u8 0),(.int .u8 0),(.int .u8 0),(.int .u8 0),(.int .u8 0),(.int .u8 0),(.int .u8 0),(.int .u8 0),(.int .u8 0),(.int .u8 0),(.int .u8 0),(.int .u8 0),(.int .u8 0),(.int .u8 0),(.int .i64 0),(.int .u64 0)])) w:=by kernel_rfl
theorem Xr:aTT 149:=λx w=>aHC Tryz.underlying149 x
theorem WZ:Lr 204 3 37:=λb o w=>aY (i:=3) Tryz.underlying204 rfl Od (by decide) _
theorem aVD:(pg).info? 202=some Tryz.t202:=by kernel_rfl
theorem TR:Lr 204 1 4:=λb o w=>aY (i:=1) Tryz.underlying204 rfl aVD (by decide) _
theorem aiH:Lr 204 2 36:=λb o w=>aY (i:=2) Tryz.underlying204 rfl nL (by decide) _
theorem UA{k:IntKind}{lo:Int}(b o:Nat)(w:a7B)(h0:0<=lo)(h1:lo<=32):(eY 202 (.pointer (some ⟨b,o,none⟩)) (some (.int k lo)) none none).run pg w= .ok (.value (.slice (some (lQ ⟨b,o,none⟩ 32 (lo.toNat) 1)) (32-lo.toNat) (32-lo.toNat))) w:=aJJ Tryz.underlying202 T2 _ h0 (by simpa using h1)
theorem aiI:tT6 204:=λb o w=>aY (i:=0) Tryz.underlying204 rfl aHb (by decide) _
abbrev aX8 (z0_:Int)(m1_:Nat)(m2_:Nat):Prop:=∀{k k':IntKind} {lo hi:Int} (b o:Nat) (w:a7B) (h0:0<=lo) (h1:lo<=hi) (h2:hi<=z0_),(eY m1_ (.pointer (some ⟨b,o,none⟩)) (some (.int k lo)) (some (.int k' hi)) none).run pg w= .ok (.value (.slice (some (lQ ⟨b,o,none⟩ m2_ (lo.toNat) 1)) (hi.toNat-lo.toNat) (m2_-lo.toNat))) w
theorem PH:aX8 32 202 32:=λb o w h0 h1 h2=>ajK Tryz.underlying202 T2 _ h0 h1 (by simpa using h2)
abbrev aX9 (z0_:Int)(m1_:Nat)(m2_:Nat):Prop:=∀{k:IntKind} {hi:Int} (b o:Nat) (w:a7B) (h0:0<=hi) (h1:hi<=z0_),(eY m1_ (.pointer (some ⟨b,o,none⟩)) none (some (.int k hi)) none).run pg w= .ok (.value (.slice (some (lQ ⟨b,o,none⟩ m2_ (0) 1)) (hi.toNat-0) (m2_-0))) w
theorem Uz:aX9 32 202 32:=λb o w h0 h1=>aA1 Tryz.underlying202 T2 _ h0 (by simpa using h1)
theorem YN:tT8 3 177:=λho h=>iO Tryz.underlying177 rfl ayK ho h
theorem Zq:AK 177 [(.int .i64 0),(.int .i64 0),(.int .i64 0)]:=λhk=>bV (i:=Tryz.t177) ayK rfl hk
theorem Y1:tT5 3 177:=λho hs hv h hk=>bW (v:= .agg _) ayK ho hs hv h hk
theorem aqY:tT9 3 5 .u8:=λa w=>CT Tryz.underlying3 Tryz.underlying5
theorem GU(w:a7B):(dK 208 []).run pg w= .ok (.value (.agg #[(.int .i64 0),(.int .i64 0)])) w:=by kernel_rfl
theorem aHg:(pg).info? 208=some Tryz.t208:=by kernel_rfl
theorem To:tT2 2 Tryz.t208 156:=λh1 h0 hf hk=>vB (i:=Tryz.t208) Tryz.underlying156 aHg rfl h1 h0 hf hk
theorem sZ:aMe 2 16 156:=λh hx hone hb hbytes hk=>Da (i:=Tryz.t208) Tryz.underlying156 Tryz.underlying156 aHg rfl rfl rfl h hx hone hb (by omega) hbytes (by decide) hk
abbrev aWg(m0_:Nat)(q1_:IntKind):Prop:=∀(n0:Int) (n1:Int) (w:a7B),(dK m0_ [(0,(.int q1_ n0)),(1,(.int .i64 n1))]).run pg w= .ok (.value (.agg #[(.int q1_ n0),(.int .i64 n1)])) w
theorem Bo:aWg 208 .i64:=λn0 n1 w=>by kernel_rfl
theorem DC:aPh 156 2:=λb o n c w h0 h1=>Mr rfl Tryz.underlying156 aHg b o n c h0 h1
theorem Y2:tT5 2 208:=λho hs hv h hk=>bW (v:= .agg _) aHg ho hs hv h hk
theorem Vt:tT2 1 Tryz.t55 160:=λh1 h0 hf hk=>vB (i:=Tryz.t55) Tryz.underlying160 Xg rfl h1 h0 hf hk
theorem Vm:aMe 1 4 160:=λh hx hone hb hbytes hk=>Da (i:=Tryz.t55) Tryz.underlying160 Tryz.underlying160 Xg rfl rfl rfl h hx hone hb (by omega) hbytes (by decide) hk
abbrev aYa(m0_:Nat)(q1_:IntKind):Prop:=∀(n0:Int) (w:a7B),(dK m0_ [(0,(.int q1_ n0))]).run pg w= .ok (.value (.agg #[(.int q1_ n0),(.int .i64 0),(.int .i64 0)])) w
theorem Ep:aYa 177 .i64:=λn0 w=>by kernel_rfl
theorem Di:tT2 3 Tryz.t177 57:=λh1 h0 hf hk=>vB (i:=Tryz.t177) Tryz.underlying57 ayK rfl h1 h0 hf hk
abbrev aYb(m0_:Nat):Prop:=∀(a0:Option Addr) (l0 c0:Nat) (w:a7B),(dK m0_ [(1,(.slice a0 l0 c0))]).run pg w= .ok (.value (.agg #[(.int .i64 0),(.slice a0 l0 c0)])) w
theorem Et:aYb 59:=λa0 l0 c0 w=>by kernel_rfl
theorem kZ:S8 2 166:=λho h hk=>mB Tryz.underlying166 rfl aHe ho h hk
theorem Em:aTS 213:=λa0 l0 c0 w=>by kernel_rfl
theorem aHh:(pg).info? 213=some Tryz.t213:=by kernel_rfl
theorem yU:AK 213 [(.slice none 0 0),(.int .i64 0)]:=λhk=>bV (i:=Tryz.t213) aHh rfl hk
theorem bE:tT5 2 213:=λho hs hv h hk=>bW (v:= .agg _) aHh ho hs hv h hk
theorem cD:tT8 2 213:=λho h=>iO Tryz.underlying213 rfl aHh ho h
theorem GQ(w:a7B):(dK 166 []).run pg w= .ok (.value (.agg #[(.int .i64 0),(.slice none 0 0)])) w:=by kernel_rfl
abbrev aWh(m0_:Nat):Prop:=∀(n0:Int) (w:a7B),(dK m0_ [(0,(.int .i64 n0))]).run pg w= .ok (.value (.agg #[(.int .i64 n0),(.slice none 0 0)])) w
theorem Eo:aWh 166:=λn0 w=>by kernel_rfl
theorem Bu:tT6 166:=λb o w=>aY (i:=0) Tryz.underlying166 rfl nL (by decide) _
theorem aQV:(pg).info? 88=some Tryz.t88:=by kernel_rfl
theorem AP:Lr 166 1 1:=λb o w=>aY (i:=1) Tryz.underlying166 rfl aQV (by decide) _
theorem aGb:tT4 88:=λx w=>atF Tryz.underlying88 rfl x w
theorem HD:aMe 1 8 88:=λh hx hone hb hbytes hk=>Da (i:=Tryz.t3) Tryz.underlying88 Tryz.underlying88 nL rfl rfl rfl h hx hone hb (by omega) hbytes (by decide) hk
theorem aAm:aAs 88:=λho hv h hk=>lU aQV rfl ho hv h hk
theorem aGg:tT1 88:=λx n c w=>VS Tryz.underlying88 x n c
theorem Er:aWh 59:=λn0 w=>by kernel_rfl
theorem sY:aMe 3 24 57:=λh hx hone hb hbytes hk=>Da (i:=Tryz.t177) Tryz.underlying57 Tryz.underlying57 ayK rfl rfl rfl h hx hone hb (by omega) hbytes (by decide) hk
theorem UC:aAs 57:=λho hv h hk=>lU aUl rfl ho hv h hk
theorem aVE:(pg).info? 220=some Tryz.t220:=by kernel_rfl
theorem aGQ:AK 220 [(.int .i64 0),(.int .i64 0),(.int .i64 0),(.int .i64 0),(.int .i64 0),(.int .i64 0),(.int .i64 0),(.int .i64 0),(.int .i64 0),(.int .i64 0),(.int .i64 0),(.int .i64 0),(.int .i64 0),(.int .i64 0),(.int .i64 0),(.int .i64 0),(.int .i64 0),(.int .i64 0),(.int .i64 0),(.int .i64 0),(.int .i64 0),(.int .i64 0),(.int .i64 0),(.int .i64 0),(.int .i64 0),(.int .i64 0),(.int .i64 0),(.int .i64 0),(.int .i64 0),(.int .i64 0),(.int .i64 0),(.int .i64 0),(.int .i64 0),(.int .i64 0),(.int .i64 0),(.int .i64 0),(.int .i64 0),(.int .i64 0),(.int .i64 0),(.int .i64 0),(.int .i64 0),(.int .i64 0),(.int .i64 0),(.int .i64 0),(.int .i64 0),(.int .i64 0),(.int .i64 0),(.int .i64 0),(.int .i64 0),(.int .i64 0),(.int .i64 0),(.int .i64 0),(.int .i64 0),(.int .i64 0),(.int .i64 0),(.int .i64 0),(.int .i64 0),(.int .i64 0),(.int .i64 0),(.int .i64 0),(.int .i64 0),(.int .i64 0),(.int .i64 0),(.int .i64 0),(.int .i64 0),(.int .i64 0),(.int .i64 0),(.int .i64 0),(.int .i64 0),(.int .i64 0),(.int .i64 0),(.int .i64 0),(.int .i64 0),(.int .i64 0),(.int .i64 0),(.int .i64 0),(.int .i64 0),(.int .i64 0),(.int .i64 0),(.int .i64 0),(.int .i64 0),(.int .i64 0),(.int .i64 0),(.int .i64 0),(.int .i64 0),(.int .i64 0),(.int .i64 0),(.int .i64 0),(.int .i64 0),(.int .i64 0),(.int .i64 0),(.int .i64 0),(.int .i64 0),(.int .i64 0),(.int .i64 0),(.int .i64 0),(.int .i64 0),(.int .i64 0),(.int .i64 0),(.int .i64 0),(.int .i64 0),(.int .i64 0),(.int .i64 0),(.int .i64 0),(.int .i64 0),(.int .i64 0),(.int .i64 0),(.int .i64 0),(.int .i64 0),(.int .i64 0),(.int .i64 0),(.int .i64 0),(.int .i64 0),(.int .i64 0),(.int .i64 0),(.int .i64 0),(.int .i64 0),(.int .i64 0),(.int .i64 0),(.int .i64 0),(.int .i64 0),(.int .i64 0),(.int .i64 0),(.int .i64 0),(.int .i64 0),(.int .i64 0),(.int .i64 0),(.int .i64 0),(.int .i64 0),(.int .i64 0),(.int .i64 0),(.int .i64 0),(.int .i64 0),(.int .i64 0),(.int .i64 0),(.int .i64 0),(.int .i64 0),(.int .i64 0),(.int .i64 0),(.int .i64 0),(.int .i64 0),(.int .i64 0),(.int .i64 0),(.int .i64 0),(.int .i64 0),(.int .i64 0),(.int .i64 0),(.int .i64 0),(.int .i64 0),(.int .i64 0),(.int .i64 0),(.int .i64 0),(.int .i64 0),(.int .i64 0),(.int .i64 0),(.int .i64 0),(.int .i64 0),(.int .i64 0),(.int .i64 0),(.int .i64 0),(.int .i64 0),(.int .i64 0),(.int .i64 0),(.int .i64 0),(.int .i64 0),(.int .i64 0),(.int .i64 0),(.int .i64 0),(.int .i64 0),(.int .i64 0),(.int .i64 0),(.int .i64 0),(.int .i64 0),(.int .i64 0),(.int .i64 0),(.int .i64 0),(.int .i64 0),(.int .i64 0),(.int .i64 0),(.int .i64 0),(.int .i64 0),(.int .i64 0),(.int .i64 0),(.int .i64 0),(.int .i64 0),(.int .i64 0),(.int .i64 0),(.int .i64 0),(.int .i64 0),(.int .i64 0),(.int .i64 0),(.int .i64 0),(.int .i64 0),(.int .i64 0),(.int .i64 0),(.int .i64 0),(.int .i64 0),(.int .i64 0),(.int .i64 0),(.int .i64 0),(.int .i64 0),(.int .i64 0),(.int .i64 0),(.int .i64 0),(.int .i64 0),(.int .i64 0),(.int .i64 0),(.int .i64 0),(.int .i64 0),(.int .i64 0),(.int .i64 0),(.int .i64 0),(.int .i64 0),(.int .i64 0),(.int .i64 0),(.int .i64 0),(.int .i64 0),(.int .i64 0),(.int .i64 0),(.int .i64 0),(.int .i64 0),(.int .i64 0),(.int .i64 0),(.int .i64 0),(.int .i64 0),(.int .i64 0),(.int .i64 0),(.int .i64 0),(.int .i64 0),(.int .i64 0),(.int .i64 0),(.int .i64 0),(.int .i64 0),(.int .i64 0),(.int .i64 0),(.int .i64 0),(.int .i64 0),(.int .i64 0),(.int .i64 0),(.int .i64 0),(.int .i64 0),(.int .i64 0),(.int .i64 0),(.int .i64 0),(.int .i64 0),(.int .i64 0),(.int .i64 0),(.int .i64 0),(.int .i64 0),(.int .i64 0),(.int .i64 0),(.int .i64 0),(.int .i64 0),(.int .i64 0),(.int .i64 0),(.int .i64 0)]:=λhk=>bV (i:=Tryz.t220) aVE rfl hk
theorem asA:aMf 256 220:=λb o w h0 h1=>HN rfl Tryz.underlying220 nL b o h0 (by simpa using h1)
theorem aKY:tT2 1 Tryz.t4 126:=λh1 h0 hf hk=>vB (i:=Tryz.t4) Tryz.underlying126 ayM rfl h1 h0 hf hk
theorem amF:aMe 1 1 126:=λh hx hone hb hbytes hk=>Da (i:=Tryz.t4) Tryz.underlying126 Tryz.underlying126 ayM rfl rfl rfl h hx hone hb (by omega) hbytes (by decide) hk
theorem alP:aX2 126:=λa n c w h0 h1=>aD8 Tryz.underlying126 ayM _ n c h0 h1
theorem aMa:aAs 126:=λho hv h hk=>lU aLo rfl ho hv h hk
theorem asC:aR8 160:=λb o n c w h0 h1=>Ug rfl Tryz.underlying160 Xg b o n c h0 h1
theorem xS:S8 5 183:=λho h hk=>mB Tryz.underlying183 rfl aHf ho h hk
theorem Qi(w:a7B):(dK 183 []).run pg w= .ok (.value (.agg #[(.int .i64 0),(.int .i64 0),(.int .i64 0),(.int .i64 0),(.int .i64 0)])) w:=by kernel_rfl
theorem I6 (n0:Int)(n1:Int)(w:a7B):(dK 183 [(0,(.int .i64 n0)),(1,(.int .i64 n1))]).run pg w= .ok (.value (.agg #[(.int .i64 n0),(.int .i64 n1),(.int .i64 0),(.int .i64 0),(.int .i64 0)])) w:=by kernel_rfl
theorem Hg:Lr 183 1 1:=λb o w=>aY (i:=1) Tryz.underlying183 rfl nL (by decide) _
theorem gK:AK 79 [(.int .i64 0),(.slice none 0 0)]:=λhk=>bV (i:=Tryz.t79) aJb rfl hk
theorem cY:tT5 2 79:=λho hs hv h hk=>bW (v:= .agg _) aJb ho hs hv h hk
theorem aUm:(pg).info? 68=some Tryz.t68:=by kernel_rfl
theorem asH:tT8 2 68:=λho h=>iO Tryz.underlying68 rfl aUm ho h
theorem awO:tT5 2 68:=λho hs hv h hk=>bW (v:= .agg _) aUm ho hs hv h hk
theorem I4 (a0:Option Addr)(l0 c0:Nat)(n1:Int)(w:a7B):(dK 230 [(0,(.slice a0 l0 c0)),(1,(.int .i64 n1))]).run pg w= .ok (.value (.agg #[(.slice a0 l0 c0),(.int .i64 n1)])) w:=by kernel_rfl
theorem TQ:tT6 79:=λb o w=>aY (i:=0) Tryz.underlying79 rfl nL (by decide) _
theorem aXE:(pg).info? 77=some Tryz.t77:=by kernel_rfl
theorem Jq:Lr 79 1 1:=λb o w=>aY (i:=1) Tryz.underlying79 rfl aXE (by decide) _
theorem Xh:tT4 77:=λx w=>atF Tryz.underlying77 rfl x w
theorem Xk:tT1 77:=λx n c w=>VS Tryz.underlying77 x n c
theorem ayL:(pg).info? 232=some Tryz.t232:=by kernel_rfl
theorem Xf:aPh 77 3:=λb o n c w h0 h1=>Mr rfl Tryz.underlying77 ayL b o n c h0 h1
theorem LJ:tT6 232:=λb o w=>aY (i:=0) Tryz.underlying232 rfl T2 (by decide) _
theorem ajB:tT8 3 232:=λho h=>iO Tryz.underlying232 rfl ayL ho h
theorem aqG:AK 232 [(.int .u8 0),(.int .i64 0),(.int .i64 0)]:=λhk=>bV (i:=Tryz.t232) ayL rfl hk
theorem alQ:tT5 3 232:=λho hs hv h hk=>bW (v:= .agg _) ayL ho hs hv h hk
theorem QG:Lr 232 2 2:=λb o w=>aY (i:=2) Tryz.underlying232 rfl nL (by decide) _
theorem QH:Lr 232 1 1:=λb o w=>aY (i:=1) Tryz.underlying232 rfl nL (by decide) _
theorem JD:aTT 192:=λx w=>aHC Tryz.underlying192 x
theorem Hd:Lr 230 1 1:=λb o w=>aY (i:=1) Tryz.underlying230 rfl nL (by decide) _
theorem Xe:aMf 3 75:=λb o w h0 h1=>HN rfl Tryz.underlying75 Xg b o h0 (by simpa using h1)
theorem aDN:tT8 4 101:=λho h=>iO Tryz.underlying101 rfl aHb ho h
theorem ajA:aWe 4 101:=λcs w h0 h1=>aLM Tryz.underlying101 Tryz.underlying36 rfl Od rfl cs h0 (by simpa using h1)
theorem DF:tT1 156:=λx n c w=>VS Tryz.underlying156 x n c
theorem AS:tT6 208:=λb o w=>aY (i:=0) Tryz.underlying208 rfl nL (by decide) _
theorem AT:Lr 208 1 1:=λb o w=>aY (i:=1) Tryz.underlying208 rfl nL (by decide) _
abbrev aWi(m0_:Nat):Prop:=∀(n0:Int) (a1:Option Addr) (l1 c1:Nat) (w:a7B),(dK m0_ [(0,(.int .i64 n0)),(1,(.slice a1 l1 c1))]).run pg w= .ok (.value (.agg #[(.int .i64 n0),(.slice a1 l1 c1)])) w
theorem Bn:aWi 166:=λn0 a1 l1 c1 w=>by kernel_rfl
theorem iF:S8 2 213:=λho h hk=>mB Tryz.underlying213 rfl aHh ho h hk
theorem Fb:tT6 213:=λb o w=>aY (i:=0) Tryz.underlying213 rfl aLo (by decide) _
theorem DA:Lr 213 1 1:=λb o w=>aY (i:=1) Tryz.underlying213 rfl nL (by decide) _
theorem YE{k k':IntKind}{lo hi:Int}(a:Option Addr)(n c:Nat)(w:a7B)(h0:0<=lo)(h1:lo<=hi)(h2:hi<=c):(eY 126 (.slice a n c) (some (.int k lo)) (some (.int k' hi)) none).run pg w= .ok (.value (.slice (dI a c (lo.toNat) 1) (hi.toNat-lo.toNat) (c-lo.toNat))) w:=aHD Tryz.underlying126 ayM _ n c h0 h1 h2
theorem aHi:(pg).info? 235=some Tryz.t235:=by kernel_rfl
theorem lE:AK 235 [(.int .i64 0),(.slice none 0 0)]:=λhk=>bV (i:=Tryz.t235) aHi rfl hk
theorem dS:tT5 2 235:=λho hs hv h hk=>bW (v:= .agg _) aHi ho hs hv h hk
theorem fP:tT8 2 235:=λho h=>iO Tryz.underlying235 rfl aHi ho h
theorem aAI(w:a7B):(dK 240 []).run pg w= .ok (.value (.agg #[(.int .i64 0),(.int .i64 0)])) w:=by kernel_rfl
theorem aQT:(pg).info? 240=some Tryz.t240:=by kernel_rfl
theorem aKO:AK 240 [(.int .i64 0),(.int .i64 0)]:=λhk=>bV (i:=Tryz.t240) aQT rfl hk
theorem aKj:tT5 2 240:=λho hs hv h hk=>bW (v:= .agg _) aQT ho hs hv h hk
theorem aDB:aMf 2 240:=λb o w h0 h1=>HN rfl Tryz.underlying240 nL b o h0 (by simpa using h1)
theorem aHj:(pg).info? 246=some Tryz.t246:=by kernel_rfl
theorem sC:AK 246 [(.int .i64 0),(.slice none 0 0)]:=λhk=>bV (i:=Tryz.t246) aHj rfl hk
theorem qA:tT5 2 246:=λho hs hv h hk=>bW (v:= .agg _) aHj ho hs hv h hk
theorem Og:tT8 2 246:=λho h=>iO Tryz.underlying246 rfl aHj ho h
theorem aLm:(pg).info? 105=some Tryz.t105:=by kernel_rfl
theorem amE:AK 105 [(.int .i64 0),(.int .i64 0),(.int .i64 0),(.int .i64 0)]:=λhk=>bV (i:=Tryz.t105) aLm rfl hk
theorem aBl:tT5 4 105:=λho hs hv h hk=>bW (v:= .agg _) aLm ho hs hv h hk
theorem aDD:aMf 4 105:=λb o w h0 h1=>HN rfl Tryz.underlying105 nL b o h0 (by simpa using h1)
theorem wD:S8 2 79:=λho h hk=>mB Tryz.underlying79 rfl aJb ho h hk
theorem ahK(w:a7B):(dK 79 []).run pg w= .ok (.value (.agg #[(.int .i64 0),(.slice none 0 0)])) w:=by kernel_rfl
theorem Nz:tT6 230:=λb o w=>aY (i:=0) Tryz.underlying230 rfl aDF (by decide) _
theorem ahV:tT9 3 55 .u32:=λa w=>CT Tryz.underlying3 Tryz.underlying55
theorem awI:aWf 88:=λa n c w h0 h1=>anN Tryz.underlying88 nL _ n c h0 h1
theorem JF:aX8 3 75 3:=λb o w h0 h1 h2=>ajK Tryz.underlying75 Xg _ h0 h1 (by simpa using h2)
theorem PI:aX9 3 75 3:=λb o w h0 h1=>aA1 Tryz.underlying75 Xg _ h0 (by simpa using h1)
theorem aGZ:aX7 160:=λho hl h hv hk=>aKp Tryz.underlying160 Xg rfl ho hl h hv hk
theorem nF:S8 2 235:=λho h hk=>mB Tryz.underlying235 rfl aHi ho h hk
theorem Qj(w:a7B):(dK 235 []).run pg w= .ok (.value (.agg #[(.int .i64 0),(.slice none 0 0)])) w:=by kernel_rfl
theorem M5:aWh 235:=λn0 w=>by kernel_rfl
theorem Js:tT6 235:=λb o w=>aY (i:=0) Tryz.underlying235 rfl nL (by decide) _
theorem Hj:Lr 235 1 1:=λb o w=>aY (i:=1) Tryz.underlying235 rfl aQV (by decide) _
theorem Tl:aWi 79:=λn0 a1 l1 c1 w=>by kernel_rfl
theorem aOw:aX5 8 .i64 88:=λh0 hn hk=>aKq (i:=Tryz.t3) Tryz.underlying88 nL rfl rfl rfl h0 hn (by omega) hk
theorem aaF:S8 2 246:=λho h hk=>mB Tryz.underlying246 rfl aHj ho h hk
theorem Zx(w:a7B):(dK 246 []).run pg w= .ok (.value (.agg #[(.int .i64 0),(.slice none 0 0)])) w:=by kernel_rfl
theorem Ol:tT1 268:=λx n c w=>VS Tryz.underlying268 x n c
theorem aDG:(pg).info? 271=some Tryz.t271:=by kernel_rfl
theorem Oc:aPh 268 2:=λb o n c w h0 h1=>Mr rfl Tryz.underlying268 aDG b o n c h0 h1
theorem T6:tT8 2 271:=λho h=>iO Tryz.underlying271 rfl aDG ho h
theorem Ww:AK 271 [(.int .i64 0),(.int .i64 0)]:=λhk=>bV (i:=Tryz.t271) aDG rfl hk
theorem H7:tT5 2 271:=λho hs hv h hk=>bW (v:= .agg _) aDG ho hs hv h hk
theorem QI:tT6 246:=λb o w=>aY (i:=0) Tryz.underlying246 rfl nL (by decide) _
theorem Jt:tT6 271:=λb o w=>aY (i:=0) Tryz.underlying271 rfl nL (by decide) _
theorem aDH:(pg).info? 273=some Tryz.t273:=by kernel_rfl
abbrev aYc(q0_:IntKind)(m1_:Nat):Prop:=∀{k:IntKind} {n:Int} {w:a7B} {K:a7C->a7B->Prop} (h0:0<=n) (hn:16*n<=2^48) (hk:∀w',aT w' w.heap.size (Hk n.toNat [(.int q0_ 0),(.int .i64 0)])->aE w w' aP->w'.heap.size=w.heap.size+1->K (.slice (some ⟨w.heap.size,0,none⟩) n.toNat n.toNat) w'),bF pg (mT m1_ (.int k n) (.int k n)) w K
theorem asP:aYc .u8 244:=λh0 hn hk=>aAp (i:=Tryz.t273) Tryz.underlying244 aDH rfl (by decide) rfl rfl h0 hn (by omega) hk
theorem aQU:(pg).info? 244=some Tryz.t244:=by kernel_rfl
theorem NF:Lr 246 1 1:=λb o w=>aY (i:=1) Tryz.underlying246 rfl aQU (by decide) _
theorem aAl:aAs 244:=λho hv h hk=>lU aQU rfl ho hv h hk
theorem Ju:Lr 271 1 1:=λb o w=>aY (i:=1) Tryz.underlying271 rfl nL (by decide) _
theorem T5:tT4 244:=λx w=>atF Tryz.underlying244 rfl x w
theorem Qh:aWg 273 .u8:=λn0 n1 w=>by kernel_rfl
theorem T1:aPh 244 2:=λb o n c w h0 h1=>Mr rfl Tryz.underlying244 aDH b o n c h0 h1
theorem aeH:tT5 2 273:=λho hs hv h hk=>bW (v:= .agg _) aDH ho hs hv h hk
theorem aDO:tT8 2 273:=λho h=>iO Tryz.underlying273 rfl aDH ho h
theorem aFh:AK 273 [(.int .u8 0),(.int .i64 0)]:=λhk=>bV (i:=Tryz.t273) aDH rfl hk
theorem Jr:tT6 273:=λb o w=>aY (i:=0) Tryz.underlying273 rfl T2 (by decide) _
theorem ND:Lr 273 1 1:=λb o w=>aY (i:=1) Tryz.underlying273 rfl nL (by decide) _
theorem aJl:S8 4 105:=λho h hk=>mB Tryz.underlying105 rfl aLm ho h hk
theorem Zv:aYa 232 .u8:=λn0 w=>by kernel_rfl
theorem aBz:tT2 3 Tryz.t232 77:=λh1 h0 hf hk=>vB (i:=Tryz.t232) Tryz.underlying77 ayL rfl h1 h0 hf hk
theorem Zw:aYb 79:=λa0 l0 c0 w=>by kernel_rfl
theorem aLp:(pg).info? 275=some Tryz.t275:=by kernel_rfl
theorem aHl:tT7 20 275:=λhl h=>atG Tryz.underlying275 rfl aLp hl.symm h
theorem aIw:AK 275 [(.int .i64 0),(.int .i64 0),(.int .i64 0),(.int .i64 0),(.int .i64 0),(.int .i64 0),(.int .i64 0),(.int .i64 0),(.int .i64 0),(.int .i64 0),(.int .i64 0),(.int .i64 0),(.int .i64 0),(.int .i64 0),(.int .i64 0),(.int .i64 0),(.int .i64 0),(.int .i64 0),(.int .i64 0),(.int .i64 0)]:=λhk=>bV (i:=Tryz.t275) aLp rfl hk
theorem aHR:tT5 20 275:=λho hs hv h hk=>bW (v:= .agg _) aLp ho hs hv h hk
theorem Yz(b o:Nat)(w:a7B):(eY 275 (.pointer (some ⟨b,o,none⟩)) none none none).run pg w= .ok (.value (.slice (some (lQ ⟨b,o,none⟩ 20 (0) 1)) (20-0) (20-0))) w:=FF Tryz.underlying275 nL _
theorem aLq:(pg).info? 276=some Tryz.t276:=by kernel_rfl
theorem aHm:tT7 21 276:=λhl h=>atG Tryz.underlying276 rfl aLq hl.symm h
theorem aIx:AK 276 [(.int .i64 0),(.int .i64 0),(.int .i64 0),(.int .i64 0),(.int .i64 0),(.int .i64 0),(.int .i64 0),(.int .i64 0),(.int .i64 0),(.int .i64 0),(.int .i64 0),(.int .i64 0),(.int .i64 0),(.int .i64 0),(.int .i64 0),(.int .i64 0),(.int .i64 0),(.int .i64 0),(.int .i64 0),(.int .i64 0),(.int .i64 0)]:=λhk=>bV (i:=Tryz.t276) aLq rfl hk
theorem aHS:tT5 21 276:=λho hs hv h hk=>bW (v:= .agg _) aLq ho hs hv h hk
theorem YA(b o:Nat)(w:a7B):(eY 276 (.pointer (some ⟨b,o,none⟩)) none none none).run pg w= .ok (.value (.slice (some (lQ ⟨b,o,none⟩ 21 (0) 1)) (21-0) (21-0))) w:=FF Tryz.underlying276 nL _
theorem Qe:aTS 278:=λa0 l0 c0 w=>by kernel_rfl
theorem LO:aTT 256:=λx w=>aHC Tryz.underlying256 x
theorem QE:tT6 278:=λb o w=>aY (i:=0) Tryz.underlying278 rfl aDF (by decide) _
theorem NA:Lr 278 1 1:=λb o w=>aY (i:=1) Tryz.underlying278 rfl nL (by decide) _
theorem ayQ{k:IntKind}{n:Int}(h0:0<=n)(hn:24*n<=2^48)(hk:∀w',aT w' w.heap.size (Hk n.toNat [(.int .u8 0),(.int .i64 0),(.int .i64 0)])->aE w w' aP->w'.heap.size=w.heap.size+1->K (.slice (some ⟨w.heap.size,0,none⟩) n.toNat n.toNat) w'):bF pg (mT 77 (.int k n) (.int k n)) w K:=aAp (i:=Tryz.t232) Tryz.underlying77 ayL rfl (by decide) rfl rfl h0 hn (by omega) hk
theorem WS:tT9 55 5 .u8:=λa w=>CT Tryz.underlying55 Tryz.underlying5
theorem WT:tT9 36 5 .u8:=λa w=>CT Tryz.underlying36 Tryz.underlying5
theorem agL:aYc .i64 268:=λh0 hn hk=>aAp (i:=Tryz.t271) Tryz.underlying268 aDG rfl (by decide) rfl rfl h0 hn (by omega) hk
theorem Lv:aWg 271 .i64:=λn0 n1 w=>by kernel_rfl
theorem aLr:(pg).info? 281=some Tryz.t281:=by kernel_rfl
theorem aHo:tT7 36 281:=λhl h=>atG Tryz.underlying281 rfl aLr hl.symm h
theorem aIz:AK 281 [(.int .i64 0),(.int .i64 0),(.int .i64 0),(.int .i64 0),(.int .i64 0),(.int .i64 0),(.int .i64 0),(.int .i64 0),(.int .i64 0),(.int .i64 0),(.int .i64 0),(.int .i64 0),(.int .i64 0),(.int .i64 0),(.int .i64 0),(.int .i64 0),(.int .i64 0),(.int .i64 0),(.int .i64 0),(.int .i64 0),(.int .i64 0),(.int .i64 0),(.int .i64 0),(.int .i64 0),(.int .i64 0),(.int .i64 0),(.int .i64 0),(.int .i64 0),(.int .i64 0),(.int .i64 0),(.int .i64 0),(.int .i64 0),(.int .i64 0),(.int .i64 0),(.int .i64 0),(.int .i64 0)]:=λhk=>bV (i:=Tryz.t281) aLr rfl hk
theorem aHU:tT5 36 281:=λho hs hv h hk=>bW (v:= .agg _) aLr ho hs hv h hk
theorem YC(b o:Nat)(w:a7B):(eY 281 (.pointer (some ⟨b,o,none⟩)) none none none).run pg w= .ok (.value (.slice (some (lQ ⟨b,o,none⟩ 36 (0) 1)) (36-0) (36-0))) w:=FF Tryz.underlying281 nL _
theorem I7:aWi 235:=λn0 a1 l1 c1 w=>by kernel_rfl
theorem aLs:(pg).info? 282=some Tryz.t282:=by kernel_rfl
theorem aHn:tT7 29 282:=λhl h=>atG Tryz.underlying282 rfl aLs hl.symm h
theorem aIy:AK 282 [(.int .i64 0),(.int .i64 0),(.int .i64 0),(.int .i64 0),(.int .i64 0),(.int .i64 0),(.int .i64 0),(.int .i64 0),(.int .i64 0),(.int .i64 0),(.int .i64 0),(.int .i64 0),(.int .i64 0),(.int .i64 0),(.int .i64 0),(.int .i64 0),(.int .i64 0),(.int .i64 0),(.int .i64 0),(.int .i64 0),(.int .i64 0),(.int .i64 0),(.int .i64 0),(.int .i64 0),(.int .i64 0),(.int .i64 0),(.int .i64 0),(.int .i64 0),(.int .i64 0)]:=λhk=>bV (i:=Tryz.t282) aLs rfl hk
theorem aHT:tT5 29 282:=λho hs hv h hk=>bW (v:= .agg _) aLs ho hs hv h hk
theorem YB(b o:Nat)(w:a7B):(eY 282 (.pointer (some ⟨b,o,none⟩)) none none none).run pg w= .ok (.value (.slice (some (lQ ⟨b,o,none⟩ 29 (0) 1)) (29-0) (29-0))) w:=FF Tryz.underlying282 nL _
theorem aLt:(pg).info? 283=some Tryz.t283:=by kernel_rfl
theorem aHp:tT7 53 283:=λhl h=>atG Tryz.underlying283 rfl aLt hl.symm h
theorem aIA:AK 283 [(.int .i64 0),(.int .i64 0),(.int .i64 0),(.int .i64 0),(.int .i64 0),(.int .i64 0),(.int .i64 0),(.int .i64 0),(.int .i64 0),(.int .i64 0),(.int .i64 0),(.int .i64 0),(.int .i64 0),(.int .i64 0),(.int .i64 0),(.int .i64 0),(.int .i64 0),(.int .i64 0),(.int .i64 0),(.int .i64 0),(.int .i64 0),(.int .i64 0),(.int .i64 0),(.int .i64 0),(.int .i64 0),(.int .i64 0),(.int .i64 0),(.int .i64 0),(.int .i64 0),(.int .i64 0),(.int .i64 0),(.int .i64 0),(.int .i64 0),(.int .i64 0),(.int .i64 0),(.int .i64 0),(.int .i64 0),(.int .i64 0),(.int .i64 0),(.int .i64 0),(.int .i64 0),(.int .i64 0),(.int .i64 0),(.int .i64 0),(.int .i64 0),(.int .i64 0),(.int .i64 0),(.int .i64 0),(.int .i64 0),(.int .i64 0),(.int .i64 0),(.int .i64 0),(.int .i64 0)]:=λhk=>bV (i:=Tryz.t283) aLt rfl hk
theorem aHV:tT5 53 283:=λho hs hv h hk=>bW (v:= .agg _) aLt ho hs hv h hk
theorem YD(b o:Nat)(w:a7B):(eY 283 (.pointer (some ⟨b,o,none⟩)) none none none).run pg w= .ok (.value (.slice (some (lQ ⟨b,o,none⟩ 53 (0) 1)) (53-0) (53-0))) w:=FF Tryz.underlying283 nL _
end Go.Proofs.YthohephggmkeeaaGreatDoor
namespace Go.En
open Go Go.ChangeShapes Go.WideShapes Go.ChangeAt Go.RowKit
variable{H:Type}{P:Program}{W:a7B}
theorem aFz{enc:TypeId×a7C->H}(hl:laidOutB P=true){W':a7B}(hb:Below W.heap.size W W'):∀(ts:List TypeId) (vs:List a7C) (ds:List (DataW H)) (ps:List MemPlace),
 (ts.all λt=>P.readableRec t&&decide (t<P.types.size))=true->DataW.TrodAll enc P W 0 (λ_=>true) true ts vs ds ps->(∀x∈ps,x.block<W.heap.size)→
 DataW.TrodAll enc P W' 0 (λb=>decide (b<W.heap.size)) true ts vs ds ps:=by
 intro ts
 induction ts with
 |nil=>
  intro vs ds ps _ h _;cases vs<;>cases ds<;>simp[DataW.TrodAll]at h⊢;exact h
 |cons t ts ih=>
  intro vs ds ps hr h hlt;cases vs with
  |nil=>simp[DataW.TrodAll]at h
  |cons v vs=>
   cases ds with
   |nil=>simp[DataW.TrodAll]at h
   |cons d ds=>
    obtain⟨p,q,h1,h2,rfl⟩:=h;rw[List.all_cons,a1S,a1S,decide_eq_true_eq]at hr;exact⟨p,q,Below.trod hl hr.1.1 hr.1.2 h1 hb (λx hx=>hlt x (a5B _ hx)),ih _ _ _ hr.2 h2 (λx hx=>hlt x (a6F _ hx)),rfl⟩
theorem aQ7 {enc:TypeId×a7C->H}{f:Func}{s:ChangeSpec}{apart fresh handsOn:Bool}{tb:TypeId}{W':a7B}{args:Array a7C}{ds gs:List (DataW H)}{before:List MemPlace}
 (hl:laidOutB P=true) (hr:(f.params.toList.all λt=>P.readableRec t&&decide (t<P.types.size))=true) (hres:f.resultTypes= #[tb]) (hbool:P.underlying tb=some .bool)
 (hW:DataW.Whole enc P f.params.toList s.vars apart W args.toList ds gs before) (hvars:s.vars=[]) (h1:(s.fn H (ds++gs)).results=[.lit (.bool true)]) (h2:(s.fn H (ds++gs)).args=ds) (h3:(s.fn H (ds++gs)).vars=[])
 (hx:aE W W' aP):s.post enc P f apart fresh handsOn false W args (.bool true) W':=by
 have hb:=hx.below;have hlt:∀x∈before,x.block<W.heap.size:=λx hx=>hW.lt x hx;have hW':=hW;obtain⟨p,q,hA,hV,rfl,_,_⟩:=hW;rw[hvars]at hV;obtain⟨_,rfl⟩:=trodVars_none hV;rw[a4M]at hW' hlt;refine⟨ds,gs,p,[],p,[],hW', ?_, ?_, ?_,hb.frame _,λh=>by cases h⟩
 .rw [h1,hres];exact trodAll_cons_mk (shut_bool hbool _) trodAll_mk0
 .rw [h2];exact aFz hl hb _ _ _ _ hr hA hlt
 .rw [h3,hvars]<;>rfl
theorem aTA{enc:TypeId×a7C->H}{base b0:Nat}{r:Reach}{sp:Nat->Bool}{hd:Bool}{t e:TypeId}{k:IntKind}{v:a7C}{d:DataW H}{ps:List MemPlace}(ht:P.underlying t=some (.slice e))(he:P.underlying e=some (.int k))(hc:P.cellsOf e=1)
 (hval:Value.okWide P W r b0 t v) (h:DataW.Trod enc P W base sp hd t v d ps):
 ∃zs:List Int,Sl W v (zs.map (Value.int k))/\zs.length<=9223372036854775807/\∀z∈zs,(Lit.int k z).wf=true:=by
 obtain⟨a0,len,cap,rfl⟩:=okWide_slice ht hval;obtain⟨fuel,hf⟩:=h;rcases open_ints ht he hc hf with⟨hcs,-⟩|⟨a,len',cap',zs,hcs,_,hl,hm,hz,-,hcell,hwz⟩
 .have:Value.slice a0 len cap= .slice none 0 0:=by simpa[Value.cells]using hcs
  cases this;exact⟨[],⟨none,0,0,rfl,rfl,a1J _,λh=>absurd h (by simp)⟩,by simp,by simp⟩
 .have:Value.slice a0 len cap= .slice (some a) len' cap':=by simpa[Value.cells]using hcs
  cases this;unfold maxLen at hm;have hle:len<=zs.length:=by rw[hz];split<;>omega
  refine⟨zs.take len,⟨some a,len,cap,rfl,by rw[a1M,a1N];omega,hl,λh0=> ?_⟩,by rw[a1N];omega,λz hz=>hwz z (a6I hz)⟩;obtain⟨b,off,spot⟩:=a;have hs:spot=none:=by
   have h0:=hcell 0 (by omega);unfold World.cell? at h0;split at h0
   .cases spot
    .rfl
    .simp [Addr.add]at h0
   .cases h0
  subst hs;refine⟨b,off,rfl,λi hi=> ?_⟩;rw[<-D0,hcell i (by omega),a2F,a2L hi,a1P,a1I (by omega)];rfl
theorem aSi(zs:List Int)(h:∀z∈zs,(Lit.int .u8 z).wf=true):∃l:List UInt8,zs.map (Value.int .u8)=l.map kH/\l.length=zs.length:=by
 refine⟨zs.map λz=>UInt8.ofNat z.toNat, ?_,by simp⟩;rw[List.map_map];refine a2Y λz hz=> ?_;have:=h z hz;have hx:0<=z/\z<=255:=by simpa[Lit.wf,IntKind.min,IntKind.max,IntKind.signed,IntKind.bits]using this
 show _=kH (UInt8.ofNat z.toNat);unfold kH;rw[UInt8.toNat_ofNat'];congr 1;omega
end Go.En
namespace Go.Proofs.YthohephggmkeeaaGreatDoor
open Go Go.En
set_option maxRecDepth 20000
theorem aMA{P:Program}{s:Sem Next}{w:a7B}{K:a7C->a7B->Prop}:bF P s w K=aKk P (s.run P w) K:=Eq.trans rfl rfl
theorem aIr{P:Program}{s:Sem Next}{v:a7C}{w:a7B}:aFe P s v w=(s.run P w= .ok (.value v) w):=Eq.trans rfl rfl
theorem SV:type_of%(And.intro @aMA<|And.intro @aIr<|And.intro @aBn<|And.intro @stepR_skip<|And.intro @aUt<|And.intro @aUL<|And.intro @aUD<|And.intro @aUH<|And.intro @aUI<|And.intro @aUu<|And.intro @aXM<|And.intro @aUM<|And.intro @aJG<|And.intro @aUJ<|And.intro @aUK<|And.intro @aUw<|And.intro @aUE<|And.intro @aUA<|And.intro @aUz<|And.intro @aUy<|And.intro @aUx<|And.intro @aRF<|And.intro @aUv<|And.intro @aUG<|And.intro @aRG<|And.intro @aUC<|And.intro @aUB<|And.intro @aUF<|And.intro @x20<|And.intro @x21<|And.intro @x30<|And.intro @x31<|And.intro @x32<|And.intro @x40<|And.intro @x41<|And.intro @x42<|And.intro @x43<|And.intro @aJj<|And.intro @Result.ok.injEq<|And.intro @Next.value.injEq<|And.intro @true_and<|And.intro @and_true<|And.intro @dM<|And.intro @eL<|And.intro @aUV<|And.intro @aGI<|And.intro @aUW<|And.intro @aFA<|And.intro @a1H<|And.intro @aQ0<|And.intro @aQZ<|And.intro @aQY<|And.intro @aQX<|And.intro @aMx<|And.intro @aIm<|And.intro @aMy<|And.intro @aIn<|And.intro @aCE<|And.intro @axE<|And.intro @if_true.{1}<|And.intro @if_false.{1}<|And.intro @a2A<|And.intro @a1Q<|And.intro @Option.isNone_some.{0}<|And.intro @Option.isNone_none.{0}<|And.intro @a3P<|And.intro @a4Z<|And.intro @a1B.{0}<|And.intro @a1A.{0}<|And.intro @aAZ<|And.intro @LC<|And.intro @aAY<|And.intro @Ej<|And.intro @EZ<|And.intro @asG<|And.intro @EY<|And.intro @aGc<|And.intro @aGh<|And.intro @ahW<|And.intro @ahY<|And.intro @awK<|And.intro @EV<|And.intro @aQ8<|And.intro @He<|And.intro @GN<|And.intro @QF<|And.intro @Of<|And.intro @aGa<|And.intro @WU<|And.intro @xQ<|And.intro @aGe<|And.intro @zJ<|And.intro @aNB<|And.intro @A1<|And.intro @Lu<|And.intro @Eu<|And.intro @Bx<|And.intro @Bw<|And.intro @M4<|And.intro @JE<|And.intro @NB<|And.intro @aAV<|And.intro @aJk<|And.intro @aAL<|And.intro @NC<|And.intro @aeD<|And.intro @EX<|And.intro @EW<|And.intro @Hf<|And.intro @Jp<|And.intro @Jo<|And.intro @Qf<|And.intro @LI<|And.intro @awJ<|And.intro @aF7<|And.intro @GW<|And.intro @AZ<|And.intro @AX<|And.intro @AY<|And.intro @vU<|And.intro @Fe<|And.intro @A2<|And.intro @vP<|And.intro @GL<|And.intro @aiZ<|And.intro @alN<|And.intro @aeC<|And.intro @Tk<|And.intro @Qg<|And.intro @M3<|And.intro @aDJ<|And.intro @GO<|And.intro @Ti<|And.intro @LG<|And.intro @LD<|And.intro @LF<|And.intro @GV<|And.intro @zB<|And.intro @zH<|And.intro @AV<|And.intro @zI<|And.intro @AW<|And.intro @aeE<|And.intro @AU<|And.intro @BD<|And.intro @ET<|And.intro @Hc<|And.intro @Bt<|And.intro @Ok<|And.intro @Ob<|And.intro @aGd<|And.intro @TC<|And.intro @ahX<|And.intro @Wx<|And.intro @I5<|And.intro @aAM<|And.intro @aeB<|And.intro @Dz<|And.intro @EU<|And.intro @Jn<|And.intro @GM<|And.intro @asD<|And.intro @aqZ<|And.intro @asK<|And.intro @GR<|And.intro @Fc<|And.intro @DD<|And.intro @DE<|And.intro @GP<|And.intro @aDR<|And.intro @aDE<|And.intro @alO<|And.intro @Ek<|And.intro @Bv<|And.intro @DB<|And.intro @xP<|And.intro @TD<|And.intro @AR<|And.intro @AQ<|And.intro @Fa<|And.intro @aDM<|And.intro @AO<|And.intro @aiY<|And.intro @ZJ<|And.intro @ZI<|And.intro @Hi<|And.intro @Hh<|And.intro @Fg<|And.intro @Ff<|And.intro @I8<|And.intro @LK<|And.intro @aDC<|And.intro @Th<|And.intro @aDI<|And.intro @Tj<|And.intro @ahL<|And.intro @Xr<|And.intro @WZ<|And.intro @TR<|And.intro @aiH<|And.intro @UA<|And.intro @aiI<|And.intro @PH<|And.intro @Uz<|And.intro @aqY<|And.intro @GU<|And.intro @Bo<|And.intro @DC<|And.intro @Ep<|And.intro @Et<|And.intro @Em<|And.intro @GQ<|And.intro @Eo<|And.intro @Bu<|And.intro @AP<|And.intro @aGb<|And.intro @aGg<|And.intro @Er<|And.intro @asA<|And.intro @alP<|And.intro @asC<|And.intro @Qi<|And.intro @I6<|And.intro @Hg<|And.intro @I4<|And.intro @TQ<|And.intro @Jq<|And.intro @Xh<|And.intro @Xk<|And.intro @Xf<|And.intro @LJ<|And.intro @QG<|And.intro @QH<|And.intro @JD<|And.intro @Hd<|And.intro @Xe<|And.intro @ajA<|And.intro @DF<|And.intro @AS<|And.intro @AT<|And.intro @Bn<|And.intro @Fb<|And.intro @DA<|And.intro @YE<|And.intro @aAI<|And.intro @aDB<|And.intro @aDD<|And.intro @ahK<|And.intro @Nz<|And.intro @ahV<|And.intro @awI<|And.intro @JF<|And.intro @PI<|And.intro @Qj<|And.intro @M5<|And.intro @Js<|And.intro @Hj<|And.intro @Tl<|And.intro @Zx<|And.intro @Ol<|And.intro @Oc<|And.intro @QI<|And.intro @Jt<|And.intro @NF<|And.intro @Ju<|And.intro @T5<|And.intro @Qh<|And.intro @T1<|And.intro @Jr<|And.intro @ND<|And.intro @Zv<|And.intro @Zw<|And.intro @Yz<|And.intro @YA<|And.intro @Qe<|And.intro @LO<|And.intro @QE<|And.intro @NA<|And.intro @WS<|And.intro @WT<|And.intro @Lv<|And.intro @YC<|And.intro @I7<|And.intro @YB<| @YD):=⟨@aMA, @aIr, @aBn, @stepR_skip, @aUt, @aUL, @aUD, @aUH, @aUI, @aUu, @aXM, @aUM, @aJG, @aUJ, @aUK, @aUw, @aUE, @aUA, @aUz, @aUy, @aUx, @aRF, @aUv, @aUG, @aRG, @aUC, @aUB, @aUF, @x20, @x21, @x30, @x31, @x32, @x40, @x41, @x42, @x43, @aJj, @Result.ok.injEq, @Next.value.injEq, @true_and, @and_true, @dM, @eL, @aUV, @aGI, @aUW, @aFA, @a1H, @aQ0, @aQZ, @aQY, @aQX, @aMx, @aIm, @aMy, @aIn, @aCE, @axE, @if_true.{1}, @if_false.{1}, @a2A, @a1Q, @Option.isNone_some.{0}, @Option.isNone_none.{0}, @a3P, @a4Z, @a1B.{0}, @a1A.{0}, @aAZ, @LC, @aAY, @Ej, @EZ, @asG, @EY, @aGc, @aGh, @ahW, @ahY, @awK, @EV, @aQ8, @He, @GN, @QF, @Of, @aGa, @WU, @xQ, @aGe, @zJ, @aNB, @A1, @Lu, @Eu, @Bx, @Bw, @M4, @JE, @NB, @aAV, @aJk, @aAL, @NC, @aeD, @EX, @EW, @Hf, @Jp, @Jo, @Qf, @LI, @awJ, @aF7, @GW, @AZ, @AX, @AY, @vU, @Fe, @A2, @vP, @GL, @aiZ, @alN, @aeC, @Tk, @Qg, @M3, @aDJ, @GO, @Ti, @LG, @LD, @LF, @GV, @zB, @zH, @AV, @zI, @AW, @aeE, @AU, @BD, @ET, @Hc, @Bt, @Ok, @Ob, @aGd, @TC, @ahX, @Wx, @I5, @aAM, @aeB, @Dz, @EU, @Jn, @GM, @asD, @aqZ, @asK, @GR, @Fc, @DD, @DE, @GP, @aDR, @aDE, @alO, @Ek, @Bv, @DB, @xP, @TD, @AR, @AQ, @Fa, @aDM, @AO, @aiY, @ZJ, @ZI, @Hi, @Hh, @Fg, @Ff, @I8, @LK, @aDC, @Th, @aDI, @Tj, @ahL, @Xr, @WZ, @TR, @aiH, @UA, @aiI, @PH, @Uz, @aqY, @GU, @Bo, @DC, @Ep, @Et, @Em, @GQ, @Eo, @Bu, @AP, @aGb, @aGg, @Er, @asA, @alP, @asC, @Qi, @I6, @Hg, @I4, @TQ, @Jq, @Xh, @Xk, @Xf, @LJ, @QG, @QH, @JD, @Hd, @Xe, @ajA, @DF, @AS, @AT, @Bn, @Fb, @DA, @YE, @aAI, @aDB, @aDD, @ahK, @Nz, @ahV, @awI, @JF, @PI, @Qj, @M5, @Js, @Hj, @Tl, @Zx, @Ol, @Oc, @QI, @Jt, @NF, @Ju, @T5, @Qh, @T1, @Jr, @ND, @Zv, @Zw, @Yz, @YA, @Qe, @LO, @QE, @NA, @WS, @WT, @Lv, @YC, @I7, @YB, @YD⟩
end Go.Proofs.YthohephggmkeeaaGreatDoor
namespace Go.Pu
variable{ps:List Int}
def bX(p:Int):Int:=if p<0 then 1 else p
def fits:Int->List Int->Bool
 |left,[]=>left==0
 |left,p::r=>if p< -1∨left<bX p then false else fits (left-bX p) r
def Gq(ps:List Int):Int:=(ps.map bX).sum
def aF4 (log:Int)(ps:List Int):Bool:=decide (5<=log/\log<=15/\1<=ps.length/\ps.length<=256/\ps.getLast?≠some 0)
def aaL(log:Int)(ps:List Int):Bool:=aF4 log ps&&fits (2^log.toNat) ps
theorem H8 (p:Int)(ps:List Int):Gq (p::ps)=bX p+Gq ps:=by simp[Gq]
theorem aeJ(a b:List Int):Gq (a++b)=Gq a+Gq b:=by simp[Gq]
theorem mD{p:Int}(h: -1<=p):0<=bX p:=by unfold bX;split<;>omega
theorem aBp(h:∀p∈ps,-1<=p):0<=Gq ps:=by
 induction ps with
 |nil=>simp[Gq]
 |cons p r ih=>
  rw[H8];have:=mD (h p (by simp));have:=ih λq hq=>h q (a2E _ hq);omega
theorem arD:∀{ps:List Int} {left:Int},fits left ps=true↔(∀p∈ps,-1<=p)/\Gq ps=left
 |[],left=>by simp[fits,Gq];constructor<;>intro h<;>omega
 |p::r,left=>by
  rw[fits,H8];by_cases h:p< -1∨left<bX p
  .rw [if_pos h];constructor
   .intro h;cases h
   .rintro ⟨h1,h2⟩;have hp:=h1 p (by simp);have:=aBp (ps:=r) λq hq=>h1 q (a2E _ hq);omega
  .rw [if_neg h,arD];constructor
   .rintro ⟨h1,h2⟩
    exact⟨λq hq=>by rcases a3C.1 hq with rfl|hq;·omega
                    .exact h1 q hq,by omega⟩
   .rintro ⟨h1,h2⟩;exact⟨λq hq=>h1 q (a2E _ hq),by omega⟩
structure May(log:Nat)(ps:List Int):Prop where
 log5:5<=log
 log15:log<=15
 len1:1<=ps.length
 len256:ps.length<=256
 last:ps.getLast?≠some 0
 low:∀p∈ps,-1<=p
 sum:Gq ps=2^log
theorem May.b {log:Nat}(h:May log ps):aaL log ps=true:=by
 unfold aaL aF4;simp only[a1S,decide_eq_true_eq];have h1:=h.log5;have h2:=h.log15;refine⟨⟨by omega,by omega,h.len1,h.len256,h.last⟩, ?_⟩;rw[arD,a1H];exact⟨h.low,h.sum⟩
theorem aJD{log:Nat}(h:log<=15):(2:Int)^log<=32768:=by
 have:2^log<=2^15:=a1K (by omega) h;have e:((2^log:Nat):Int)=(2:Int)^log:=by simp
 omega
theorem aJE(log:Nat):(1:Int)<=2^log:=by
 have:1<=2^log:=Nat.one_le_two_pow;have e:((2^log:Nat):Int)=(2:Int)^log:=by simp
 omega
theorem aNG(h:∀p∈ps,-1<=p){p:Int}(hp:p∈ps):bX p<=Gq ps:=by
 induction ps with
 |nil=>cases hp
 |cons q r ih=>
  rw[H8];have h0:=mD (h q (by simp));have h1:=aBp (ps:=r) λq hq=>h q (a2E _ hq);rcases a3C.1 hp with rfl|hp
  .omega
  .have:=ih (λq hq=>h q (a2E _ hq)) hp;omega
end Go.Pu
namespace Go.Proofs.YthohephggmkeeaaGreatDoor
open Go Go.En Go.Pu
set_option maxRecDepth 4000
theorem aHB(p:Int)(w:a7B):aL pg Mx #[.int .i64 p] w (λr w'=>r= .int .i64 (bX p)/\w'=w):=by
 refine asU ?_;unfold bX;by_cases h:p<0
 .have d:decide (p<0)=true:=by simpa using h
  simp(disch:=omega)only[Kl,VN,SV,d];rw[if_pos h]
 .have d:decide (p<0)=false:=by simpa using h
  simp(disch:=omega)only[Kl,VN,SV,d];rw[if_neg h]
theorem VF{ps:List Int}(h:0<ps.length):(ps.getLast?=some 0)↔ps[ps.length-1]'(by omega)=0:=by
 rw[a5Q,a1I (by omega)];simp
theorem aXG{log:Int}{sv:a7C}{ps:List Int}{w:a7B}(hs:Sl w sv (ps.map (Value.int .i64)))(hl:ps.length<=9223372036854775807):
 aL pg U0 #[.agg #[.int .i64 log,sv]] w (λr w'=>r= .bool (aaL log ps)/\aE w w' aP):=by
 refine aBK ?_;unfold aDY ajI ajH;obtain⟨a,c,rfl,hc⟩:=hs.lenI;refine bY λw1 o1 x1 s1=> ?_;have hs0:=hs;have hs:=hs.ext x1 (aR _);have c0:=o1.cell (off:=0);have c1:=o1.cell (off:=1);simp only[Value.cells,a1A,a1B]at c0 c1;have no:¬(5<=log/\log<=15/\1<=ps.length/\ps.length<=256/\ps.getLast?≠some 0)->aaL log ps=false:=λh=>by
  unfold aaL aF4;rw[decide_eq_false h]<;>rfl
 by_cases h1:log<5
 .have d1:decide (log<5)=true:=by simpa using h1
  simp(disch:=omega)only[SV,c0,c1,d1];exact⟨by rw[no (by omega)],x1⟩
 have d1:decide (log<5)=false:=by simpa using h1
 by_cases h2:15<log
 .have d2:decide (15<log)=true:=by simpa using h2
  simp(disch:=omega)only[SV,c0,c1,d1,d2];exact⟨by rw[no (by omega)],x1⟩
 have d2:decide (15<log)=false:=by simpa using h2
 by_cases h3:ps.length<1
 .have d3:decide ((ps.length:Int)<1)=true:=by simp;omega
  simp(disch:=omega)only[SV,c0,c1,d1,d2,d3];exact⟨by rw[no (by omega)],x1⟩
 have d3:decide ((ps.length:Int)<1)=false:=by simp;omega
 by_cases h4:256<ps.length
 .have d4:decide ((256:Int)<(ps.length:Int))=true:=by simp;omega
  simp(disch:=omega)only[SV,c0,c1,d1,d2,d3,d4];exact⟨by rw[no (by omega)],x1⟩
 have d4:decide ((256:Int)<(ps.length:Int))=false:=by simp;omega
 obtain⟨b,off,c',e,hc',hcell⟩:=hs.openI (by omega);cases e;have e1:((ps.length:Int)-1)=((ps.length-1:Nat):Int):=by omega
 have g1:=hcell (ps.length-1) (by omega);by_cases h5:ps[ps.length-1]'(by omega)=0
 .have d5:(ps[ps.length-1]'(by omega)==0)=true:=by simpa using h5
  simp(disch:=omega)only[SV,c0,c1,d1,d2,d3,d4,e1,g1,d5];exact⟨by rw[no (λh=>h.2.2.2.2 ((VF (by omega)).2 h5))],x1⟩
 have d5:(ps[ps.length-1]'(by omega)==0)=false:=by simpa using h5
 obtain⟨l,rfl⟩:∃l:Nat,log=l:=⟨log.toNat,by omega⟩;have hsh:IntKind.i64.wrap (1*2^(min l IntKind.i64.bits))=(2:Int)^l:=by
  have:∀k:Fin 16,IntKind.i64.wrap (1*2^(min k.val IntKind.i64.bits))=(2:Int)^k.val:=by decide
  exact this ⟨l,by omega⟩
 have hyes:aaL (l:Int) ps=fits (2^l) ps:=by
  unfold aaL aF4;rw[decide_eq_true ⟨by omega,by omega,by omega,by omega,λh=>h5 ((VF (by omega)).1 h)⟩,a1H]<;>rfl
 simp(disch:=omega)only[SV,c0,c1,d1,d2,d3,d4,e1,g1,d5,hsh];unfold Sj Si ajG ID;simp(disch:=omega)only[SV,c0,c1];have hp15:=aJD (log:=l) (by omega);have hp1:=aJE l;refine aN.rule (λm t w'=>∃(i:Nat) (left:Int),m=ps.length-i/\t=(.int .i64 left,.int .i64 i)/\i<=ps.length/\0<=left/\left<=32768/\fits (2^l) ps=fits left (ps.drop i)/\aE w w' aP) ps.length
  ⟨0,2^l,rfl,rfl,by omega,by omega,hp15,rfl,x1⟩ ?_
 rintro m t w2 ⟨i,left,rfl,rfl,hi,hl0,hl1,hf,x2⟩;by_cases hlt:i<ps.length
 .have d6:decide ((i:Int)<(ps.length:Int))=true:=by simp;omega
  have hsw:=hs0.ext x2 (aR _);obtain⟨b',off',c',e,_,hcell2⟩:=hsw.openI (by omega);cases e;have g2:=hcell2 i hlt;have hd:ps.drop i=ps[i]::ps.drop (i+1):=a2J hlt;rw[hd,fits]at hf;by_cases h6:ps[i]< -1
  .have d7:decide (ps[i]< -1)=true:=by simpa using h6
   simp(disch:=omega)only[IC,SV,d6,g2,d7];rw[if_pos (.inl h6)]at hf;exact⟨by rw[hyes,hf],x2⟩
  have d7:decide (ps[i]< -1)=false:=by simpa using h6
  simp(disch:=omega)only[IC,SV,d6,g2,d7];refine(aHB _ _).mono ?_;rintro r w3 ⟨rfl,rfl⟩;by_cases h7:left<bX ps[i]
  .have d8:decide (left<bX ps[i])=true:=by simpa using h7
   simp(disch:=omega)only[SV,d8];rw[if_pos (.inr h7)]at hf;exact⟨by rw[hyes,hf],x2⟩
  have d8:decide (left<bX ps[i])=false:=by simpa using h7
  simp(disch:=omega)only[SV,d8];refine(aHB _ _).mono ?_;rintro r w3 ⟨rfl,rfl⟩;rw[if_neg (by omega)]at hf;have hpn:=mD (p:=ps[i]) (by omega);simp(disch:=omega)only[SV];exact⟨ps.length-(i+1),by omega,i+1,left-bX ps[i],rfl,rfl,by omega,by omega,by omega,hf,x2⟩
 .have d6:decide ((i:Int)<(ps.length:Int))=false:=by simp;omega
  rw[a3N (by omega),fits]at hf;unfold IC Sh;simp(disch:=omega)only[SV,d6];exact⟨by rw[hyes,hf],x2⟩
end Go.Proofs.YthohephggmkeeaaGreatDoor
namespace Go.Pu
variable{high i k log n:Nat}{ps:List Int}
def adv(n a:Nat):Nat:=(a+n/2+n/8+3)%n
def awG(n high:Nat):Nat->Nat->Nat
 |0,a=>a
 |f+1,a=>if a<high then a else awG n high f (adv n a)
def apN:List Int->Nat->Nat->List Int->Nat×List Int
 |[],_,high,arr=>(high,arr)
 |p::r,s,high,arr=>if p= -1 then apN r (s+1) (high-1) (arr.set (high-1) s)else apN r (s+1) high arr
def mU:List Int->Nat->List Nat
 |[],_=>[]
 |p::r,s=>List.replicate p.toNat s++mU r (s+1)
def place(n high:Nat):List Nat->Nat->List Int->List Int
 |[],_,arr=>arr
 |s::r,a,arr=>place n high r (awG n high n (adv n a)) (arr.set a s)
def eE(x0:Int)(log:Nat)(ps:List Int):List Int:=
 place (2^log) (apN ps 0 (2^log) (List.replicate (2^log) x0)).1 (mU ps 0) 0 (apN ps 0 (2^log) (List.replicate (2^log) x0)).2
def pos(n j:Nat):Nat:=(j*(n/2+n/8+3))%n
theorem LW(n j:Nat):adv n (pos n j)=pos n (j+1):=by
 unfold adv pos;rw[a4E,a4E,Nat.mod_add_mod,a3D,a5J,a4E]
theorem aTz{s:Nat}(hs:s%2=1):∀(k x:Nat),2^k∣s*x->2^k∣x:=by
 intro k
 induction k with
 |zero=>intro x _;simp
 |succ k ih=>
  intro x h;have h2:2∣s*x:=Nat.dvd_trans ⟨2^k,by rw[a2O,a2N]⟩ h;have hx:x%2=0:=by
   have:(s*x)%2=0:=Nat.mod_eq_zero_of_dvd h2;rw[Nat.mul_mod,hs,a5J,Nat.mod_mod]at this;exact this
  obtain⟨y,rfl⟩:∃y,x=2*y:=⟨x/2,by omega⟩;rw[a2O,a2N (2^k) 2,show s*(2*y)=2*(s*y)by rw[Nat.mul_left_comm]]at h;rw[a2O,a2N (2^k) 2];exact Nat.mul_dvd_mul_left 2 (ih y (Nat.dvd_of_mul_dvd_mul_left (by omega) h))
theorem aR5 (h:5<=log):(2^log/2+2^log/8+3)%2=1:=by
 obtain⟨k,rfl⟩:∃k,log=k+5:=⟨log-5,by omega⟩;have:2^(k+5)=32*2^k:=by rw[a4A,a2N]
 omega
theorem aTF(h:5<=log){j:Nat}(hij:i<j)(hj:j<2^log):pos (2^log) i≠pos (2^log) j:=by
 unfold pos;generalize hst:2^log/2+2^log/8+3=st;have hodd:st%2=1:=by rw[<-hst];exact aR5 h
 intro e;have hle:i*st<=j*st:=a2V _ (by omega);have hd:2^log∣st*(j-i):=by
  rw[a2N,Nat.sub_mul];exact Nat.dvd_of_mod_eq_zero (Nat.sub_mod_eq_zero_of_mod_eq e.symm)
 have:=Nat.le_of_dvd (by omega) (aTz hodd _ _ hd);omega
theorem aRj:∀(n:Nat) (l:List Nat),l.Nodup->(∀a∈l,a<n)->l.length<=n:=by
 intro n
 induction n with
 |zero=>intro l _ h;cases l with
  |nil=>simp
  |cons a r=>exact absurd (h a (by simp)) (by omega)
 |succ n ih=>
  intro l hd h;by_cases hn:n∈l
  .have:=ih (l.erase n) (hd.erase n) (λa ha=>by
    have h1:=h a (List.mem_of_mem_erase ha);have h2:a≠n:=λe=>by subst e;exact hd.not_mem_erase ha
    omega)
   rw[a6L hn]at this;omega
  .have:=ih l hd (λa ha=>by
    have h1:=h a ha;have h2:a≠n:=λe=>by subst e;exact hn ha
    omega)
   omega
theorem aGj{l:List Nat}(hd:l.Nodup)(h:∀a∈l,a<n)(hl:l.length=n){a:Nat}(ha:a<n):a∈l:=by
 refine Classical.byContradiction λhn=> ?_;have:=aRj n (a::l) (List.nodup_cons.2 ⟨hn,hd⟩) (λb hb=>(a3C.1 hb).elim (λe=>e▸ha) (h b));simp at this;omega
def iM(n high j:Nat):List Nat:=((List.range' j (n-j)).map (pos n)).filter (·<high)
theorem aeT{j:Nat}(h:j<n):iM n high j=if pos n j<high then pos n j::iM n high (j+1)else iM n high (j+1):=by
 unfold iM;rw[show n-j=(n-(j+1))+1 from by omega,List.range'_succ,a4D,a5S];simp
theorem awS(n high:Nat):iM n high n=[]:=by unfold iM;simp
theorem aD6 (h:0<n)(j:Nat):pos n j<n:=a4X _ h
theorem aaY(n:Nat):pos n 0=0:=by simp[pos]
theorem aXK(n:Nat):pos n n=0:=by simp[pos,Nat.mul_mod_right]
theorem aPa(hh:0<high):∀(d j f:Nat),j+d=n->d<=f->awG n high f (pos n j)=(iM n high j).headD 0:=by
 intro d
 induction d with
 |zero=>
  intro j f hj _;obtain rfl:j=n:=by omega
  rw[awS,aXK];cases f with
  |zero=>rfl
  |succ f=>unfold awG;rw[if_pos hh]<;>rfl
 |succ d ih=>
  intro j f hj hf;obtain⟨f,rfl⟩:∃g,f=g+1:=⟨f-1,by omega⟩;rw[aeT (by omega)];unfold awG;split
  .rfl
  .rw [LW];exact ih (j+1) f (by omega) (by omega)
def setAt:List (Nat×Nat)->List Int->List Int
 |[],arr=>arr
 |(q,s)::r,arr=>setAt r (arr.set q s)
theorem aLL(hh:0<high):∀(syms:List Nat) (j a:Nat) (arr:List Int),j<=n->syms.length<=(iM n high j).length->(syms≠[]->(iM n high j).headD 0=a)→
 place n high syms a arr=setAt ((iM n high j).zip syms) arr:=by
 intro syms
 induction syms with
 |nil=>intro j a arr _ _ _;simp[place,setAt]
 |cons s r ih=>
  intro j a arr hj hlen ha;have ha:=ha (by simp);have key:∀(d j:Nat),j+d=n->(s::r).length<=(iM n high j).length->(iM n high j).headD 0=a->∃i,i<n/\j<=i/\pos n i=a/\iM n high j=a::iM n high (i+1):=by
   intro d
   induction d with
   |zero=>
    intro j hj hl _;obtain rfl:j=n:=by omega
    rw[awS]at hl;simp at hl
   |succ d ihd=>
    intro j hj hl hd;have e:=aeT (high:=high) (show j<n by omega);by_cases hp:pos n j<high
    .rw [if_pos hp]at e;rw[e]at hd;have:pos n j=a:=hd;exact⟨j,by omega,a1J _,this,by rw[e,this]⟩
    .rw [if_neg hp]at e;rw[e]at hl hd⊢;obtain⟨i,h1,h2,h3,h4⟩:=ihd (j+1) (by omega) hl hd;exact⟨i,h1,by omega,h3,h4⟩
  obtain⟨i,h1,h2,h3,h4⟩:=key (n-j) j (by omega) hlen ha;rw[h4]at hlen⊢;simp only[a1U]at hlen;rw[place,List.zip_cons_cons,setAt];refine ih (i+1) _ _ (by omega) (by omega) (λhr=> ?_);rw[<-h3,LW];exact(aPa hh (n-(i+1)) (i+1) n (by omega) (by omega)).symm
def rM:List Int->Nat->List Nat
 |[],_=>[]
 |p::r,s=>if p= -1 then s::rM r (s+1)else rM r (s+1)
def toI(l:List Nat):List Int:=l.map Int.ofNat
theorem aGF:∀(ps:List Int) (s high:Nat) (arr:List Int),(rM ps s).length<=high->high<=arr.length→
 apN ps s high arr=(high-(rM ps s).length,arr.take (high-(rM ps s).length)++toI (rM ps s).reverse++arr.drop high):=by
 intro ps
 induction ps with
 |nil=>intro s high arr h1 h2;simp[apN,rM,toI]
 |cons p r ih=>
  intro s high arr h1 h2;unfold apN rM;unfold rM at h1;by_cases hp:p= -1
  .rw [if_pos hp,if_pos hp];rw[if_pos hp]at h1;simp only[a1U]at h1⊢;rw[ih (s+1) (high-1) _ (by omega) (by simp;omega)];congr 1
   .omega
   .have hlt:high-1<arr.length:=by omega
    rw[List.take_set_of_le (by omega),show high-1-(rM r (s+1)).length=high-((rM r (s+1)).length+1)from by omega];have:(arr.set (high-1) (s:Int)).drop (high-1)=(s:Int)::arr.drop high:=by
     rw[a2J (by simp;omega)];simp only[a6D];rw[show high-1+1=high from by omega,List.drop_set_of_lt (by omega)]
    rw[this];simp[toI]
  .rw [if_neg hp,if_neg hp];rw[if_neg hp]at h1;exact ih (s+1) high arr h1 h2
theorem awH:∀(l:List (Nat×Nat)) (arr:List Int),(setAt l arr).length=arr.length
 |[],_=>rfl
 |(q,s)::r,arr=>by rw[setAt,awH];simp
theorem aeA{q:Nat}:∀(l:List (Nat×Nat)) (arr:List Int),(∀x∈l,x.1≠q)->(setAt l arr)[q]?=arr[q]?
 |[],_,_=>rfl
 |(a,s)::r,arr,h=>by
  rw[setAt,aeA r _ λx hx=>h x (a2E _ hx),List.getElem?_set_ne (h (a,s) (by simp))]
theorem aPb:∀(us:List Nat) (ss:List Nat) (arr:List Int) (t:Nat),us.Nodup->us.length=ss.length->(∀q∈us,q<arr.length)->(ht:t<us.length)->(ht':t<ss.length)→
 (setAt (us.zip ss) arr)[us[t]]?=some (ss[t]:Int):=by
 intro us
 induction us with
 |nil=>intro ss arr t _ _ _ ht;simp at ht
 |cons u us ih=>
  intro ss arr t hd hl hb ht ht';cases ss with
  |nil=>simp at hl
  |cons x ss=>
   obtain⟨h1,h2⟩:=List.nodup_cons.1 hd;rw[List.zip_cons_cons,setAt];cases t with
   |zero=>
    simp only[a3Z];rw[aeA _ _ (λy hy=>λe=>h1 (by have:=(List.of_mem_zip (a:=y.1) (b:=y.2) hy).1;rw[e]at this;exact this))];have:u<arr.length:=hb u (by simp);simp[this]
   |succ t=>
    simp only[a6B];exact ih ss _ t h2 (by simpa using hl) (λq hq=>by simpa using hb q (a2E _ hq)) (by simpa using ht) (by simpa using ht')
theorem aD3:∀(n:Nat) (l:List Nat),l.Nodup->(∀a∈l,a<n)->l.length=n->l.Perm (List.range n):=by
 intro n
 induction n with
 |zero=>intro l _ _ h;rw[a2K.1 h];exact List.Perm.refl _
 |succ n ih=>
  intro l hd h hl;have hn:n∈l:=aGj hd h hl (by omega);have p1:=List.perm_cons_erase hn;have p2:=ih (l.erase n) (hd.erase n) (λa ha=>by
   have h1:=h a (List.mem_of_mem_erase ha);have h2:a≠n:=λe=>by subst e;exact hd.not_mem_erase ha
   omega) (by rw[a6L hn];omega)
  rw[a5Y];exact p1.trans ((p2.cons n).trans (List.perm_append_singleton n _).symm)
theorem aJ1:∀(ps:List Int) (s:Nat),(∀p∈ps,-1<=p)->((mU ps s).length:Int)+(rM ps s).length=Gq ps:=by
 intro ps
 induction ps with
 |nil=>intro s _;simp[mU,rM,Gq]
 |cons p r ih=>
  intro s h;have:=ih (s+1) λq hq=>h q (a2E _ hq);have hp:=h p (by simp);rw[H8];unfold mU rM bX;by_cases h1:p= -1
  .rw [if_pos h1,if_pos (by omega)];subst h1;simp;omega
  .rw [if_neg h1,if_neg (by omega)];simp;omega
theorem aLY:∀(ps:List Int) (s i:Nat),(mU ps s).count (s+i)=if h:i<ps.length then ps[i].toNat else 0:=by
 intro ps
 induction ps with
 |nil=>intro s i;simp[mU]
 |cons p r ih=>
  intro s i;have low:∀(ps:List Int) (s a:Nat),a<s->(mU ps s).count a=0:=by
   intro ps
   induction ps with
   |nil=>intro s a _;simp[mU]
   |cons p r ih=>
    intro s a h;unfold mU;rw[a4U,ih (s+1) a (by omega),List.count_replicate];simp;omega
  unfold mU;rw[a4U,List.count_replicate];cases i with
  |zero=>rw[a3I,low r (s+1) s (by omega)];simp
  |succ i=>
   rw[show s+(i+1)=s+1+i from by omega,ih (s+1) i];have:(s==s+1+i)=false:=by simp;omega
   rw[this];simp
theorem aLD:∀(ps:List Int) (s i:Nat),(rM ps s).count (s+i)=if h:i<ps.length then(if ps[i]= -1 then 1 else 0)else 0:=by
 intro ps
 induction ps with
 |nil=>intro s i;simp[rM]
 |cons p r ih=>
  intro s i;have low:∀(ps:List Int) (s a:Nat),a<s->(rM ps s).count a=0:=by
   intro ps
   induction ps with
   |nil=>intro s a _;simp[rM]
   |cons p r ih=>
    intro s a h;unfold rM;split
    .rw [a4V,ih (s+1) a (by omega)];simp;omega
    .exact ih (s+1) a (by omega)
  unfold rM;cases i with
  |zero=>
   rw[a3I];by_cases h:p= -1
   .rw [if_pos h,a4V,low r (s+1) s (by omega)];simp[h]
   .rw [if_neg h,low r (s+1) s (by omega)];simp[h]
  |succ i=>
   have e:s+(i+1)=s+1+i:=by omega
   by_cases h:p= -1
   .rw [if_pos h,a4V,e,ih (s+1) i];have:(s==s+1+i)=false:=by simp;omega
    rw[this];simp
   .rw [if_neg h,e,ih (s+1) i];simp
theorem aTw:∀(ps:List Int) (s i:Nat) (h:i<ps.length),ps[i]= -1->(rM ps s)[(ps.take i).count (-1)]?=some (s+i):=by
 intro ps
 induction ps with
 |nil=>intro s i h;simp at h
 |cons p r ih=>
  intro s i h hp;unfold rM;cases i with
  |zero=>simp only[a3Z]at hp;rw[if_pos hp];simp
  |succ i=>
   simp only[a6B]at hp;have:=ih (s+1) i (by simpa using h) hp;rw[a1C,a4V];by_cases h1:p= -1
   .rw [if_pos h1];simp only[h1,beq_self_eq_true,if_true,a1B];rw[this];congr 1;omega
   .rw [if_neg h1];have:(p== -1)=false:=by simpa using h1
    rw[this];simp only[a2A,if_false,a3I];rw[‹(rM r (s+1))[_]?=_›];congr 1;omega
theorem alS(hl:5<=log)(hh:high<=2^log):(iM (2^log) high 0).Nodup/\(∀a∈iM (2^log) high 0,a<high)/\(iM (2^log) high 0).length=high:=by
 have hn:0<2^log:=a2G log;have hnd:((List.range (2^log)).map (pos (2^log))).Nodup:=by
  rw[List.nodup_iff_pairwise_ne,List.pairwise_map];refine List.pairwise_iff_getElem.2 λi j hi hj hij=> ?_;simp only[a6O]at hi hj;simp only[a5A];exact aTF hl hij hj
 have hp:=aD3 (2^log) _ hnd (λa ha=>by
  obtain⟨j,_,rfl⟩:=a4J.1 ha;exact aD6 hn j) (by simp)
 unfold iM;rw[a6M,<-List.range_eq_range'];refine⟨hnd.filter _,λa ha=>by simpa using(a6K.1 ha).2, ?_⟩;rw[(hp.filter _).length_eq];have:∀m:Nat,high<=m->((List.range m).filter (·<high)).length=high:=by
  intro m
  induction m with
  |zero=>intro h;simp;omega
  |succ m ih=>
   intro h;rw[a5Y,List.filter_append,a1O];by_cases hm:high<=m
   .rw [ih hm];simp;omega
   .have:high=m+1:=by omega
    subst this;have:(List.range m).filter (λx=>decide (x<m+1))=List.range m:=List.filter_eq_self.2 λa ha=>by have:=a2U.1 ha;simp;omega
    rw[this];simp
 exact this _ hh
structure Lay(log:Nat)(ps:List Int)(S:List Int):Prop where
 len:S.length=2^log
 cnt:∀s (h:s<ps.length),S.count (s:Int)=(bX ps[s]).toNat
 rng:∀x∈S,∃s:Nat,s<ps.length/\x=s
 top:∀s (h:s<ps.length),ps[s]= -1->S[2^log-1-(ps.take s).count (-1)]?=some (s:Int)
theorem aGE(l:List Nat)(s:Nat):(toI l).count (s:Int)=l.count s:=by
 induction l with
 |nil=>rfl
 |cons a r ih=>
  show List.count _ (Int.ofNat a::toI r)=_;rw[a4V,a4V,ih];congr 1;by_cases h:a=s
  .subst h;simp
  .simp [h];omega
theorem aRP:∀(ps:List Int) (s:Nat),∀x∈mU ps s,s<=x/\x<s+ps.length:=by
 intro ps
 induction ps with
 |nil=>intro s x h;simp[mU]at h
 |cons p r ih=>
  intro s x h;unfold mU at h;rcases a2X.1 h with h|h
  .have:=(List.mem_replicate.1 h).2;simp;omega
  .have:=ih (s+1) x h;simp;omega
theorem aRi:∀(ps:List Int) (s:Nat),∀x∈rM ps s,s<=x/\x<s+ps.length:=by
 intro ps
 induction ps with
 |nil=>intro s x h;simp[rM]at h
 |cons p r ih=>
  intro s x h;unfold rM at h;split at h
  .rcases a3C.1 h with rfl|h
   .simp
   .have:=ih (s+1) x h;simp;omega
  .have:=ih (s+1) x h;simp;omega
theorem aeG(h:May log ps)(x0:Int):
 ∃low:List Int,eE x0 log ps=low++toI (rM ps 0).reverse/\low.Perm (toI (mU ps 0))/\((rM ps 0).length+low.length=2^log)/\
  (∀t (h1:t<(iM (2^log) (mU ps 0).length 0).length) (h2:t<(mU ps 0).length),low[(iM (2^log) (mU ps 0).length 0)[t]]?=some ((mU ps 0)[t]:Int)):=by
 have hrl:=aJ1 ps 0 h.low;rw[h.sum]at hrl;have hpow:((2^log:Nat):Int)=(2:Int)^log:=by simp
 obtain⟨m,hm⟩:∃m,m=(rM ps 0).length:=⟨_,rfl⟩;obtain⟨hi,hhi⟩:∃x,x=(mU ps 0).length:=⟨_,rfl⟩;rw[<-hm,<-hhi]at hrl;have hsum:hi+m=2^log:=by omega
 have ht:=aGF ps 0 (2^log) (List.replicate (2^log) x0) (by omega) (by simp);rw[<-hm,show 2^log-m=hi from by omega]at ht;have e2:(List.replicate (2^log) x0).take hi=List.replicate hi x0:=by rw[List.take_replicate];congr 1;omega
 have e3:(List.replicate (2^log) x0).drop (2^log)=[]:=by simp
 rw[e2,e3,a4M]at ht;unfold eE;rw[ht];simp only;obtain⟨u1,u2,u3⟩:=alS (high:=hi) h.log5 (by omega);by_cases h0:hi=0
 .have hr:mU ps 0=[]:=a2K.1 (by omega);rw[hr,h0];refine⟨[],by simp[place],by simp[toI],by simp;omega,λt _ h2=>by simp at h2⟩
 .have hp:=aLL (n:=2^log) (high:=hi) (by omega) (mU ps 0) 0 0 (List.replicate hi x0++toI (rM ps 0).reverse) (by omega) (by rw[u3];omega) (λ_=>by
   rw[aeT (a2G log),aaY,if_pos (by omega)]<;>rfl)
  rw[hp];generalize hU:iM (2^log) hi 0=U at*;have hb:∀q∈U,q<(List.replicate hi x0++toI (rM ps 0).reverse).length:=λq hq=>by have:=u2 q hq;simp;omega
  obtain⟨R,hR⟩:∃R,R=setAt (U.zip (mU ps 0)) (List.replicate hi x0++toI (rM ps 0).reverse):=⟨_,rfl⟩;have hRl:R.length=hi+m:=by rw[hR,awH];simp[toI,hm]
  have hRd:R.drop hi=toI (rM ps 0).reverse:=by
   apply a4C;intro i
   rw[a4I,hR,aeA _ _ (λx hx=>by
     have:=u2 _ (List.of_mem_zip (a:=x.1) (b:=x.2) hx).1;omega),a3G (by simp)]
   simp
  have hget:∀t (h1:t<U.length) (h2:t<(mU ps 0).length),R[U[t]]?=some ((mU ps 0)[t]:Int):=λt h1 h2=>by
   rw[hR];exact aPb U _ _ t u1 (by omega) hb h1 h2
  rw[<-hR];refine⟨R.take hi,by rw[<-hRd,a6U], ?_,by rw[a1N];omega,λt h1 h2=> ?_⟩
  .have p1:(U.map λq=>R.getD q 0).Perm ((List.range hi).map λq=>R.getD q 0):=(aD3 hi U u1 u2 u3).map _;have p2:(U.map λq=>R.getD q 0)=toI (mU ps 0):=by
    apply a3Y
    .simp [toI];omega
    .intro t h1 h2;simp only[a1M]at h1;have:=hget t h1 (by omega);simp only[a3R,toI,a1P,this];rfl
   have p3:((List.range hi).map λq=>R.getD q 0)=R.take hi:=by
    apply a3Y
    .simp;omega
    .intro q h1 h2;simp only[a1M,a6O]at h1;simp only[a3R,a5A,List.getElem_take,a1P];rw[a1I (by omega)]<;>rfl
   rw[p2,p3]at p1;exact p1.symm
  .subst hhi;simp only[hU]at h1⊢;have:=hget t h1 h2;rw[a2L (u2 _ (a2P h1))];exact this
theorem C9 (h:May log ps)(x0:Int):Lay log ps (eE x0 log ps):=by
 obtain⟨low,e,hp,hl,_⟩:=aeG h x0;rw[e];refine⟨by simp[toI];omega,λs hs=> ?_,λx hx=> ?_,λs hs hps=> ?_⟩
 .rw [a4U,hp.count_eq,aGE,aGE,List.count_reverse];have h1:=aLY ps 0 s;have h2:=aLD ps 0 s;rw[a1Q]at h1 h2;rw[h1,h2,dif_pos hs,dif_pos hs];have:=h.low _ (a2P hs);unfold bX;split<;>split<;>omega
 .rcases a2X.1 hx with hx|hx
  .have hx:=hp.mem_iff.1 hx;obtain⟨s,hs,rfl⟩:=a4J.1 hx;exact⟨s,by have:=aRP ps 0 s hs;omega,rfl⟩
  .obtain ⟨s,hs,rfl⟩:=a4J.1 hx;exact⟨s,by have:=aRi ps 0 s (List.mem_reverse.1 hs);omega,rfl⟩
 .have h1:=aTw ps 0 s hs hps;rw[a1Q]at h1;have hlt:(ps.take s).count (-1)<(rM ps 0).length:=by
   rcases a1Y ((ps.take s).count (-1)) (rM ps 0).length with h|h
   .exact h
   .rw [a1X h]at h1;cases h1
  rw[a3G (by omega)];unfold toI;rw[a2F,List.getElem?_reverse (by omega),show(rM ps 0).length-1-(2^log-1-List.count (-1) (List.take s ps)-low.length)=(ps.take s).count (-1)from by omega,h1];rfl
theorem aPe(h:May log ps)(x y:Int):eE x log ps=eE y log ps:=by
 obtain⟨a,e1,p1,l1,g1⟩:=aeG h x;obtain⟨b,e2,p2,l2,g2⟩:=aeG h y;rw[e1,e2];congr 1;apply a4C;intro q;have hrl:(mU ps 0).length=a.length:=by rw[p1.length_eq];simp[toI]
 by_cases hq:q<a.length
 .obtain ⟨u1,u2,u3⟩:=alS (high:=(mU ps 0).length) h.log5 (by omega);have hm:=aGj u1 u2 u3 (a:=q) (by omega);obtain⟨t,ht,rfl⟩:=a4K hm;rw[g1 t ht (by omega),g2 t ht (by omega)]
 .rw [a1X (by omega),a1X (by omega)]
def bl(k:Nat):Nat:=if k=0 then 0 else k.log2+1
theorem aS4:bl 0=0:=rfl
theorem Zz(k:Nat):k<2^bl k:=by
 unfold bl;split
 .subst_vars;simp
 .exact Nat.lt_log2_self
theorem ahM(h:k≠0):2^(bl k-1)<=k:=by
 unfold bl;rw[if_neg h,a3X];exact Nat.log2_self_le h
theorem M9 (h:k≠0):1<=bl k:=by unfold bl;rw[if_neg h];omega
theorem rH(h:k<2^n):bl k<=n:=by
 by_cases h0:k=0
 .subst h0;simp[bl]
 .rcases a1Y n (bl k)with hh|hh
  .have h1:=ahM h0;have:=a1K (n:=2) (by omega) (show n<=bl k-1 by omega);omega
  .exact hh
theorem aUh(h1:2^n<=k)(h2:k<2^(n+1)):bl k=n+1:=by
 have h0:k≠0:=by have:=a2G n;omega
 have a:=rH h2;have b:=Zz k;rcases a1Y (bl k) (n+1)with h|h
 .have:=a1K (n:=2) (by omega) (show bl k<=n by omega);omega
 .omega
def kAt(ps S:List Int)(i:Nat):Nat:=(bX (ps.getD (S.getD i 0).toNat 0)).toNat+(S.take i).count (S.getD i 0)
def Dx(log:Nat)(x:Int)(k:Nat):Int×Int×Int:=(x,((log+1-bl k:Nat):Int),((k*2^(log+1-bl k):Nat):Int)-2^log)
def Nu(log:Nat)(ps S:List Int)(i:Nat):Int×Int×Int:=Dx log (S.getD i 0) (kAt ps S i)
def fL(log:Nat)(ps:List Int):List (Int×Int×Int):=(List.range (2^log)).map (Nu log ps (eE 0 log ps))
theorem eN(log:Nat)(ps:List Int):(fL log ps).length=2^log:=by simp[fL]
theorem aFj{S:List Int}(h:i<S.length):(S.take i).count S[i]+1<=S.count S[i]:=by
 have e:S=S.take i++S[i]::S.drop (i+1):=by rw[<-a2J h,a6U]
 have:S.count S[i]=(S.take i++S[i]::S.drop (i+1)).count S[i]:=by rw[<-e]
 rw[this,a4U,a4V];simp
theorem aD2 (h:May log ps){s:Nat}(hs:s<ps.length):(bX ps[s]).toNat<=2^log:=by
 have:=aNG h.low (a2P hs);rw[h.sum]at this;have hpow:((2^log:Nat):Int)=(2:Int)^log:=by simp
 rw[<-hpow]at this;exact Int.toNat_le.2 this
theorem anD{S:List Int}(h:May log ps)(L:Lay log ps S)(hi:i<2^log):
 ∃s:Nat,∃hs:s<ps.length,S.getD i 0=(s:Int)/\1<=(bX ps[s]).toNat/\(bX ps[s]).toNat<=2^log/\kAt ps S i=(bX ps[s]).toNat+(S.take i).count (s:Int)/\(S.take i).count (s:Int)<(bX ps[s]).toNat:=by
 have hil:i<S.length:=by rw[L.len];exact hi
 have hg:S.getD i 0=S[i]:=by rw[a1P,a1I hil]<;>rfl
 obtain⟨s,hs,e⟩:=L.rng _ (a2P hil);have hc:=aFj hil;rw[e,L.cnt s hs]at hc;refine⟨s,hs,by rw[hg,e],by omega,aD2 h hs, ?_,by omega⟩;unfold kAt;rw[hg,e,a1H,a1P,a1I hs]<;>rfl
theorem aDl(h1:1<=k)(h2:k<2^(log+1)):2^log<=k*2^(log+1-bl k)/\(k+1)*2^(log+1-bl k)<=2^(log+1)/\bl k<=log+1/\1<=bl k:=by
 have a:=rH h2;have b:=M9 (k:=k) (by omega);have c:=ahM (k:=k) (by omega);have d:=Zz k;refine⟨?_, ?_,a,b⟩
 .calc 2^log=2^(bl k-1)*2^(log+1-bl k):=by rw[<-a4A];congr 1;omega
   _<=k*2^(log+1-bl k):=a2V _ c
 .calc (k+1)*2^(log+1-bl k)<=2^bl k*2^(log+1-bl k):=a2V _ d
   _=2^(log+1):=by rw[<-a4A];congr 1;omega
theorem aNJ(n j:Nat)(hn:0<n):∃d,d<n/\pos n (j+d)=0:=by
 refine⟨(n-j%n)%n,a4X _ hn, ?_⟩;unfold pos;have:(j+(n-j%n)%n)%n=0:=by
  rw[Nat.add_mod_mod];have h1:=a4X j hn;have h2:=Nat.div_add_mod j n;have:j+(n-j%n)=n*(j/n+1):=by
   rw[a6Q,a2Z];generalize n*(j/n)=y at*;generalize j%n=r at*;omega
  rw[this,Nat.mul_mod_right]
 rw[Nat.mul_mod,this,Nat.zero_mul,Nat.zero_mod]
theorem afZ(hn:0<n)(hh:0<high)(j:Nat):∃d,(∀e,e<d->high<=pos n (j+e))/\pos n (j+d)<high/\awG n high n (pos n j)=pos n (j+d):=by
 obtain⟨D,hD,h0⟩:=aNJ n j hn;have key:∀(D f j:Nat),D<=f->pos n (j+D)<high->∃d,(∀e,e<d->high<=pos n (j+e))/\pos n (j+d)<high/\awG n high f (pos n j)=pos n (j+d):=by
  intro D
  induction D with
  |zero=>
   intro f j _ h;refine⟨0,λe he=>by omega,h, ?_⟩;rw[a3I]at h⊢;cases f with
   |zero=>rfl
   |succ f=>unfold awG;rw[if_pos h]
  |succ D ih=>
   intro f j hf h;obtain⟨f,rfl⟩:∃g,f=g+1:=⟨f-1,by omega⟩;by_cases hj:pos n j<high
   .exact ⟨0,λe he=>by omega,hj,by unfold awG;rw[if_pos hj]<;>rfl⟩
   .obtain ⟨d,h1,h2,h3⟩:=ih f (j+1) (by omega) (by rw[show j+1+D=j+(D+1)from by omega];exact h);refine⟨d+1,λe he=> ?_,by rw[show j+(d+1)=j+1+d from by omega];exact h2, ?_⟩
    .cases e with
     |zero=>rw[a3I];omega
     |succ e=>rw[show j+(e+1)=j+1+e from by omega];exact h1 e (by omega)
    .unfold awG;rw[if_neg hj,LW,h3];congr 1;omega
 exact key D n j (by omega) (by rw[h0];exact hh)
theorem aBk(h:May log ps)(x0:Int):∃arr,apN ps 0 (2^log) (List.replicate (2^log) x0)=((mU ps 0).length,arr)/\arr.length=2^log/\(rM ps 0).length+(mU ps 0).length=2^log/\eE x0 log ps=place (2^log) (mU ps 0).length (mU ps 0) 0 arr:=by
 have hrl:=aJ1 ps 0 h.low;rw[h.sum]at hrl;have hpow:((2^log:Nat):Int)=(2:Int)^log:=by simp
 have hsum:(rM ps 0).length+(mU ps 0).length=2^log:=by omega
 have ht:=aGF ps 0 (2^log) (List.replicate (2^log) x0) (by omega) (by simp);rw[show 2^log-(rM ps 0).length=(mU ps 0).length from by omega]at ht;refine⟨_,ht, ?_,hsum, ?_⟩
 .simp [toI];omega
 .unfold eE;rw[ht]
end Go.Pu
namespace Go.En
open Go
section
variable{P:Program}{w:a7B}{t e:TypeId}
theorem aKo{i:TypeInfo}(hu:P.underlying t=some (.slice e))(hi:P.info? e=some i)
 {K:a7C->a7B->Prop} (hk:∀w',aT w' w.heap.size []->aE w w' aP->w'.heap.size=w.heap.size+1->K (.slice (some ⟨w.heap.size,0,none⟩) 0 0) w'):
 bF P (fX t 0 []) w K:=by
 have:(fX t 0 []).run P w= .ok (.value (.slice (some ⟨w.heap.size,0,none⟩) 0 0)) (w.alloc (.cells ([]:List a7C).toArray e)):=by
  unfold fX;rw[mG];have h1:¬(0>2^24):=by omega
  have e:∀f:Nat->a7C,Array.map f (Array.range 0)= #[]:=λf=>by simp
  simp only[Instr.buildSlice,underlying,pure_bind,Sem.run_bind,run_program,Result.andThen_ok,hu,Sem.run_pure,cC hi,Nat.zero_mul,h1,if_false,if_true,newRow,run_newObj,Instr.fill,e];rfl
 unfold bF;rw[this];exact hk _ (aT.alloc _ _ _) (aE.alloc _ _ _) (by simp)
def At(v:a7C)(b:Nat):Prop:=∀M:Nat->Prop,¬M b->¬VH v M
theorem At.nil (c b:Nat)(a:Option Addr):At (.slice a 0 c) b:=λM h=>by unfold VH;split<;>simp_all
theorem At.at (b o n c:Nat):At (.slice (some ⟨b,o,none⟩) n c) b:=λM h=>by
 unfold VH;split
 .rename_i x m _ e;obtain⟨rfl,_⟩:(⟨b,o,none⟩:Addr)=x/\_:=by simpa using e
  exact h
 .simp
theorem mH.at' {w:a7B}{base sz n:Nat}{v:a7C}{l:List a7C}(h:mH w base sz v n l)(hb:base<w.heap.size):∃b,base<=b/\b<w.heap.size/\At v b:=by
 rcases h.2 with⟨rfl,rfl⟩|⟨b,c,rest,rfl,h2,h3,h4,h5⟩
 .exact ⟨base,a1J _,hb,At.nil _ _ _⟩
 .exact ⟨b,h2,h3.lt,At.at _ _ _ _⟩
end
end Go.En
namespace Go.Proofs.YthohephggmkeeaaGreatDoor
open Go Go.En Go.Pu
set_option maxRecDepth 4000
variable{l:List a7C}{n:Nat}{v:a7C}{w:a7B}
theorem IE(n:Nat)(hn:n<=40)(w:a7B):aL pg Ip #[.int .i64 n] w (λr w'=>r= .int .i64 (2^n)/\w'=w):=by
 refine azL ?_;unfold abN OK OJ FL FK OI zS;refine aN.rule (λm t w'=>∃i:Nat,m=n-i/\t=(.int .i64 (2^i),.int .i64 i)/\i<=n/\w'=w) n ⟨0,rfl,rfl,by omega,rfl⟩ ?_;rintro m t w' ⟨i,rfl,rfl,hi,rfl⟩;by_cases hlt:i<n
 .have d1:decide ((i:Int)<(n:Int))=true:=by simp;omega
  have d2:decide ((i:Int)<40)=true:=by simp;omega
  have hb:(2:Int)^i<=549755813888:=by
   have:2^i<=2^39:=a1K (by omega) (by omega);have e:((2^i:Nat):Int)=(2:Int)^i:=by simp
   omega
  have hp:=aJE i;simp(disch:=omega)only[OH,SV,d1,d2];exact⟨n-(i+1),by omega,i+1,rfl,by rw[Int.pow_succ]<;>rfl,by omega⟩
 .have d1:decide ((i:Int)<(n:Int))=false:=by simp;omega
  have:i=n:=by omega
  subst this;simp(disch:=omega)only[OH,OG,zS,OI,FK,FL,OJ,OK,abN,SV,d1]
def aJo:ByteArray:=⟨#[0,1,2,2,3,3,3,3,4,4,4,4,4,4,4,4,5,5,5,5,5,5,5,5,5,5,5,5,5,5,5,5,6,6,6,6,6,6,6,6,6,6,6,6,6,6,6,6,6,6,6,6,6,6,6,6,6,6,6,6,6,6,6,6,7,7,7,7,7,7,7,7,7,7,7,7,7,7,7,7,7,7,7,7,7,7,7,7,7,7,7,7,7,7,7,7,7,7,7,7,7,7,7,7,7,7,7,7,7,7,7,7,7,7,7,7,7,7,7,7,7,7,7,7,7,7,7,7,8,8,8,8,8,8,8,8,8,8,8,8,8,8,8,8,8,8,8,8,8,8,8,8,8,8,8,8,8,8,8,8,8,8,8,8,8,8,8,8,8,8,8,8,8,8,8,8,8,8,8,8,8,8,8,8,8,8,8,8,8,8,8,8,8,8,8,8,8,8,8,8,8,8,8,8,8,8,8,8,8,8,8,8,8,8,8,8,8,8,8,8,8,8,8,8,8,8,8,8,8,8,8,8,8,8,8,8,8,8,8,8,8,8,8,8,8,8,8,8,8,8,8,8,8,8,8,8]⟩
theorem afQ:aJo.size=256:=by decide
set_option maxRecDepth 100000 in
theorem aJp(x:Nat)(h:x<256):(aJo[x]'(by rw[afQ];exact h)).toNat=bl x:=by
 have:∀k:Fin 256,(aJo.data[k.val]!).toNat=bl k.val:=by decide+kernel
 have h2:=this ⟨x,h⟩;simp only at h2;rw[<-h2];have hs:x<aJo.data.size:=by have:=afQ;exact(show aJo.data.size=256 from this)▸h
 rw[getElem!_pos aJo.data x hs];rfl
theorem aC5 {x j:Nat}(h:2^j<=x):bl x=bl (x/2^j)+j:=by
 have hp:=a2G j;have h0:x/2^j≠0:=by
  have:=Nat.div_pos h hp;omega
 have a:=ahM h0;have b:=Zz (x/2^j);have c:=M9 h0;obtain⟨m,hm⟩:∃m,bl (x/2^j)=m+1:=⟨bl (x/2^j)-1,by omega⟩;rw[hm,a3X]at a;rw[hm]at b⊢;have h1:2^(m+j)<=x:=by
  rw[a4A];exact a3K (a2V _ a) (Nat.div_mul_le_self _ _)
 have h2:x<2^(m+j+1):=by
  rw[show m+j+1=(m+1)+j from by omega,a4A];exact(a5O hp).1 b
 rw[aUh h1 h2];omega
theorem aJr{x:Nat}(hx:x<256)(hn:n<=1000)(R:a7C->a7B->Prop)(w:a7B)(h:R (.int .i64 ((n+bl x:Nat):Int)) w):
 uL R (.int .u64 x) (.int .i64 n) w:=by
 have hg:=aJp x hx;have hs:=afQ;have hb:bl x<=8:=rH (n:=8) (by omega);unfold uL;change bF pg _ w λt21 w=>bF pg (aAk 9 (.string aJo) t21) w _;simp(disch:=omega)only[SV,hg];rw[Int.natCast_add]at h;exact h
theorem aDn(a b:Nat):((a:Int)).fdiv (b:Int)=((a/b:Nat):Int):=by rw[a3A _ (by omega)]<;>rfl
theorem aHP(x j:Nat)(hj:j<=64):((x:Int)).fdiv (2^(min (j:Nat) IntKind.u64.bits))=((x/2^j:Nat):Int):=by
 have e:min j IntKind.u64.bits=j:=by simp only[IntKind.bits];omega
 rw[e,<-aDn];simp
theorem aTp(x:Nat)(hx:x<18446744073709551616)(w:a7B):aL pg DO #[.int .u64 x] w (λr w'=>r= .int .i64 (bl x:Nat)/\w'=w):=by
 refine aaI ?_;unfold Xl Oq Oo;have aNQ:∀(y n:Nat),y<65536->n<=64->n+bl y=bl x->uM (λr w'=>r= .int .i64 (bl x:Nat)/\w'=w) (.int .u64 y) (.int .i64 n) w:=by
  intro y n hy hn e;unfold uM Om;by_cases h:256<=y
  .have d:decide ((256:Int)<=(y:Int))=true:=by simp;omega
   have sh:=aHP y 8 (by omega);have hq:y/2^8<256:=by omega
   have:=aC5 (x:=y) (j:=8) (by omega);have e2:(n:Int)+8=((n+8:Nat):Int):=by omega
   simp(disch:=omega)only[SV,d,e2];rw[show(8:Int).toNat=8 from rfl,sh];exact aJr hq (by omega) _ _ ⟨by rw[<-e,this];congr 2;omega,rfl⟩
  .have d:decide ((256:Int)<=(y:Int))=false:=by simp;omega
   simp(disch:=omega)only[SV,d];exact aJr (by omega) (by omega) _ _ ⟨by rw[e],rfl⟩
 have step16:∀(y n:Nat),y<4294967296->n<=32->n+bl y=bl x->uN (λr w'=>r= .int .i64 (bl x:Nat)/\w'=w) (.int .u64 y) (.int .i64 n) w:=by
  intro y n hy hn e;unfold uN On;by_cases h:65536<=y
  .have d:decide ((65536:Int)<=(y:Int))=true:=by simp;omega
   have sh:=aHP y 16 (by omega);have hq:y/2^16<65536:=by omega
   have:=aC5 (x:=y) (j:=16) (by omega);have e2:(n:Int)+16=((n+16:Nat):Int):=by omega
   simp(disch:=omega)only[SV,d,e2];rw[show(16:Int).toNat=16 from rfl,sh];exact aNQ _ _ hq (by omega) (by rw[<-e,this];omega)
  .have d:decide ((65536:Int)<=(y:Int))=false:=by simp;omega
   simp(disch:=omega)only[SV,d];exact aNQ _ _ (by omega) (by omega) e
 by_cases h:4294967296<=x
 .have d:decide ((4294967296:Int)<=(x:Int))=true:=by simp;omega
  have sh:=aHP x 32 (by omega);have hq:x/2^32<4294967296:=by omega
  have:=aC5 (x:=x) (j:=32) (by omega);simp(disch:=omega)only[SV,d];rw[show(32:Int).toNat=32 from rfl,sh];exact step16 _ 32 hq (by omega) (by rw[this];omega)
 .have d:decide ((4294967296:Int)<=(x:Int))=false:=by simp;omega
  simp(disch:=omega)only[SV,d];exact step16 _ 0 (by omega) (by omega) (by omega)
theorem aJq(x:Nat)(hx:x<18446744073709551616)(w:a7B):aL pg JO #[.int .u64 x] w (λr w'=>r= .int .i64 (bl x:Nat)/\w'=w):=by
 refine anH ?_;simp(disch:=omega)only[Uc,ajE,SV];exact aTp x hx w
theorem aPd(h:n<=20):IntKind.i64.wrap (1*2^(min n IntKind.i64.bits))=((2^n:Nat):Int):=by
 have:∀k:Fin 21,IntKind.i64.wrap (1*2^(min k.val IntKind.i64.bits))=((2^k.val:Nat):Int):=by decide
 exact this ⟨n,by omega⟩
theorem Vs{l:List UInt8}(h:Bs w v l)(h0:0<l.length):∃b off c,v= .slice (some ⟨b,off,none⟩) l.length c/\l.length<=c/\∀i,(h:i<l.length)->w.cell? ⟨b,off+i,none⟩=some (.int .u8 (l[i].toNat:Nat)):=by
 obtain⟨b,off,c,rfl,hc,hcell⟩:=h.openV (by simpa using h0);refine⟨b,off,c,by rw[a1M],by simpa using hc,λi hi=> ?_⟩;have:=hcell i (by simpa using hi);simpa[kH]using this
theorem LZ{l:List UInt8}(h:Bs w v l)(hl:l.length<=1000000000):
 aL pg nT #[v] w (λr w'=>mH w' w.heap.size 1 r l.length (l.map kH)/\aE w w' aP):=by
 refine Wp ?_;have h1:=h;obtain⟨a,n,c,rfl,hn,hc,hh⟩:=h;rw[a1M]at hn;unfold Q8 JG;cases a with
 |none=>
  have h0:l=[]:=by
   cases l with
   |nil=>rfl
   |cons x l=>obtain⟨b,off,h,_⟩:=hh (by simp at hn;omega);cases h
  subst h0;simp(disch:=omega)only[SV];exact⟨mH.nil _ _ _,aE.refl _ _⟩
 |some x=>
  simp(disch:=omega)only[SV];refine aKo Tryz.underlying22 T2 λw1 o1 x1 s1=> ?_;have hcl1:=(h1.ext x1 (aR _)).cl;rw[a1M]at hcl1;have hos:mH w1 w.heap.size 1 (.slice (some ⟨w.heap.size,0,none⟩) 0 0) 0 []:=⟨rfl,.inr ⟨_,0,[],rfl,a1J _,o1,rfl,a1J _⟩⟩;refine mM hos hcl1 (aKX _) x1.size (by omega) λv3 w3 o3 x3=> ?_;rw[a1Q,a4F]at o3;exact⟨o3,x1.trans x3 λb hb h=>Nat.not_le_of_lt hb h⟩
def AtI(v:a7C)(lo hi:Nat):Prop:=∀M:Nat->Prop,(∀b,lo<=b->b<hi->¬M b)->¬VH v M
theorem mH.atI {base sz:Nat}(h:mH w base sz v n l):AtI v base w.heap.size:=by
 intro M hM;rcases h.2 with⟨rfl,rfl⟩|⟨b,c,rest,rfl,h2,h3,h4,h5⟩
 .exact λh=>h
 .exact At.at b 0 n c M (hM b h2 h3.lt)
theorem aWa{a:Option Addr}{c:Nat}(h:Sl w (.slice a n c) l){k:Nat}(hk:k<=n):Sl w (.slice a k c) (l.take k):=by
 obtain⟨a',n',c',e,hn,hc,hh⟩:=h;cases e;refine⟨a,k,c,rfl,by rw[a1N];omega,by omega,λh0=> ?_⟩;obtain⟨b,off,ha,hcell⟩:=hh (by omega);refine⟨b,off,ha,λi hi=> ?_⟩;rw[hcell i (by omega),a2L (by omega)]
theorem slA{a:Option Addr}{c:Nat}(h:Sl w (.slice a n c) l)(h0:0<n):∃b off,a=some ⟨b,off,none⟩/\∀i,i<n->w.cell? ⟨b,off+i,none⟩=l[i]?:=by
 obtain⟨a',n',c',e,hn,hc,hh⟩:=h;cases e;exact hh h0
end Go.Proofs.YthohephggmkeeaaGreatDoor

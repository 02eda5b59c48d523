/- Parts of the proof of EncodeSame: merged and given short names by a program of ours. -/
import Derived.Laws.IdiomStrings
import Derived.Test.YtoecppploooloaaGreatDoorZsA
set_option linter.unusedVariables false
set_option linter.unusedSimpArgs false
open Array renaming getElem?_setIfInBounds_self_of_lt → aBG, getElem?_setIfInBounds_ne → aBP, getElem?_eq_getElem → aBx, length_toList → aCC, getElem?_toList → aCX, getElem?_eq_none → aCa, getElem?_modify → aCv
open Bool renaming false_eq_true → aA8, not_false → aBd, not_true → aBe, or_eq_false_iff → aC1
open List renaming getElem?_cons_zero → aA6, getElem?_cons_succ → aA7, mem_cons → aB2, mem_map → aB3, getElem?_toArray → aB7, take_succ_cons → aBA, getElem?_append_right → aBD, map_cons → aBH, mem_cons_self → aBI, map_append → aBK, all_eq_true → aBN, set_append_right → aBR, length_eq_zero_iff → aBT, getElem?_take_of_lt → aBW, nil_append → aBZ, length_map → aBf, length_append → aBg, getElem?_eq_getElem → aBh, set_cons_zero → aBj, set_cons_succ → aBl, length_take → aBo, take_of_length_le → aBp, mem_cons_of_mem → aBq, length_drop → aBr, getElem?_eq_none → aBs, length_cons → aBu, getElem?_append_left → aBv, append_assoc → aBy, getElem?_map → aBz, take_add_one → aCK, take_length → aCM, getElem?_drop → aCR, mem_append → aCc, mem_of_mem_take → aCe, replicate_succ → aCi, drop_eq_getElem_cons → aCj, cons_append → aCm, ext_getElem? → aCq, flatten_cons → aDf
open Nat renaming add_mul → aB0, add_zero → aB1, le_trans → aB4, mul_one → aB9, mod_eq_of_lt → aBC, mul_le_mul_right → aBL, zero_add → aBc, le_refl → aBk, lt_or_ge → aBt, add_assoc → aCA, lt_of_lt_of_le → aCE, sub_zero → aCN, eq_zero_or_pos → aCl, sub_self → aCr
open Option renaming map_some → aBJ, getD_some → aCD
open Option.some renaming inj → aBO
namespace Go.Proofs.YtoecppploooloaaGreatDoor
open Go Go.En
set_option maxRecDepth 20000
attribute [local irreducible] Go.En.jO
variable (Q : Exit -> Env -> aDs -> Prop) (g : Env) (w : aDs)
def oT : FA := ⟨Cs, fun i => .leaf ([], []) []⟩
def BK : List ResultVar := [.tmp 2, .tmp 3]
noncomputable def nY : Code := kA Tryz.f46
def tB (R : K1) (rF : aDt) (w : aDs) : Prop :=
 gI pg (jF 22 rF) w fun j2 w =>
 R (.tuple #[j2, (aDu 0)]) w
theorem Te (R : K1) (hr : HR BK R Q) (h : tB R (g 4) w) : jO pg oT (gH 1 (gH 1 (gH 6 nY))) Q g w :=
 lB (kn := no) (l := []) h lW hr trivial
def FI (kn : K1) (lK rF nN pD : aDt) (w : aDs) : Prop :=
 jE pg JP #[pD] w fun i0 w =>
 gI pg (jZ i0 0) w fun i1 w =>
 gI pg (jZ i0 1) w fun i2 w =>
 gI pg (hZ .eql 24 (.tmp 53) (.const (aDu 0)) i2 (aDu 0)) w fun i4 w =>
 mK i4
  (jE pg Bx #[lK, i1, (.bool true)] w fun i8 w =>
  gI pg (jZ i8 0) w fun i9 w =>
  gI pg (jZ i8 1) w fun j0 w =>
  gI pg (ES nN [i9, j0]) w fun j1 w =>
  kn rF w)
  (kn rF w)
theorem Se (kn : K1) (hn : N1 Q kn 4) (h : FI kn (g 0) (g 4) (g 6) (g 7) w) : jO pg oT (hU 1 (gH 1 (gH 6 nY))) Q g w :=
 lB (kr := no) (l := []) h hn lW trivial
def GG (R : K1) (lK rF nN pD : aDt) (w : aDs) : Prop :=
 FI (fun rF w => tB R rF w) lK rF nN pD w
def BQ (kn : K7) (k0 : K4) (lK rF nN pD e5 e6 e7 : aDt) (w : aDs) : Prop :=
 gI pg (hZ .lss 3 jC jC e7 e6) w fun e8 w =>
 mK e8
  (gI pg (jS 22 e5 e7) w fun e9 w =>
  gI pg (jF 5 e9) w fun f0 w =>
  gI pg (jS 128 pD f0) w fun f3 w =>
  gI pg (jF 38 f3) w fun f4 w =>
  gI pg (hZ .add 38 jC jC f4 (.int .u32 1)) w fun f5 w =>
  gI pg (jS 128 pD f0) w fun f6 w =>
  gI pg (jQ 38 f6 f5) w fun _u w =>
  gI pg (hZ .add 3 jC jC e7 (aDu 1)) w fun f7 w =>
  kn lK rF nN pD e5 e6 f7 w)
  (k0 lK rF nN pD w)
theorem Si (kn : K7) (k0 : K4) (hn : N7 Q kn 0 4 6 7 35 36 37) (h0 : E4 Q k0 0 0 4 6 7) (h : BQ kn k0 (g 0) (g 4) (g 6) (g 7) (g 35) (g 36) (g 37) w) : jO pg oT (bI (bI (gH 1 (hU 1 (gH 6 nY))))) Q g w :=
 lB (kr := no) (l := [(0, fun g w => k0 (g 0) (g 4) (g 6) (g 7) w)]) h hn lW ⟨h0, trivial⟩
def Fv (k0 : K4) (lK rF nN pD e5 e6 e7 : aDt) (w : aDs) : Prop :=
 kO (fun (X : aDt -> K0) (t : aDt) (w : aDs) => BQ (fun _ _ _ _ _ _ e7 w => X e7 w) k0 lK rF nN pD e5 e6 t w) e7 w
theorem S9 (k0 : K4) (h0 : E4 Q k0 0 0 4 6 7) (h : Fv k0 (g 0) (g 4) (g 6) (g 7) (g 35) (g 36) (g 37) w) : jO pg oT (bI (gH 1 (hU 1 (gH 6 nY)))) Q g w := by
 refine Od (fun g : Env => g 37) (fun X t w => BQ (fun _ _ _ _ _ _ e7 w => X e7 w) k0 (g 0) (g 4) (g 6) (g 7) (g 35) (g 36) t w) h (fun X g1 w1 ha hL => ?_)
 rw [<- rG 0 ha, <- rG 4 ha, <- rG 6 ha, <- rG 7 ha, <- rG 35 ha, <- rG 36 ha] at hL
 exact (Si _ g1 w1 (fun _ _ _ _ _ _ e7 w => X e7 w) k0 (fun _ _ h => h) h0 hL)
def FQ (kn : K4) (lK rF nN pD e5 e6 e7 : aDt) (w : aDs) : Prop :=
 Fv kn lK rF nN pD e5 e6 e7 w
def FU (kn : K7) (lK rF nN pD : aDt) (w : aDs) : Prop :=
 gI pg (oF .len #[22] 3 [lK]) w fun e6 w =>
 kn lK rF nN pD lK e6 (aDu 0) w
theorem SO (kn : K7) (hn : N7 Q kn 0 4 6 7 35 36 37) (h : FU kn (g 0) (g 4) (g 6) (g 7) w) : jO pg oT (hU 1 (hU 1 (gH 6 nY))) Q g w :=
 lB (kr := no) (l := []) h hn lW trivial
def F5 (kn : K4) (lK rF nN pD : aDt) (w : aDs) : Prop :=
 FU (fun lK rF nN pD e5 e6 e7 w => FQ kn lK rF nN pD e5 e6 e7 w) lK rF nN pD w
def Gb (R : K1) (lK rF nN pD : aDt) (w : aDs) : Prop :=
 F5 (fun lK rF nN pD w => GG R lK rF nN pD w) lK rF nN pD w
theorem Tu (kn : K4) (hn : N4 Q kn 0 4 6 7) (h : F5 kn (g 0) (g 4) (g 6) (g 7) w) : jO pg oT (hU 1 (gH 6 nY)) Q g w :=
 nP 1 (SO _ g w (FQ kn) (fun g w h => iZ (Iu 0 (S9 _ g w kn hn h))) h)
def EX (kn : K4) (R : K1) (lK : aDt) (w : aDs) : Prop :=
 jE pg Gy #[lK] w fun c4 w =>
 gI pg (jZ c4 0) w fun c5 w =>
 gI pg (jZ c4 1) w fun c6 w =>
 gI pg (oM 22) w fun rF w =>
 gI pg (jQ 22 rF c5) w fun _u w =>
 gI pg (hZ .neq 24 (.tmp 17) (.const (aDu 0)) c6 (aDu 0)) w fun c8 w =>
 mK c8
  (R (.tuple #[(.slice none 0 0), c6]) w)
  (gI pg (aaG (.func 64) [] [rF]) w fun d0 w =>
  jE pg Cd #[lK] w fun d2 w =>
  mK d2
   (gI pg (jS 22 lK (aDu 0)) w fun d5 w =>
   gI pg (jF 5 d5) w fun d6 w =>
   gI pg (oF .len #[22] 3 [lK]) w fun d8 w =>
   jE pg Ec #[d6, d8] w fun d9 w =>
   gI pg (jZ d9 0) w fun e0 w =>
   gI pg (jZ d9 1) w fun e1 w =>
   gI pg (ES d0 [e0, e1]) w fun e2 w =>
   gI pg (jF 22 rF) w fun e3 w =>
   R (.tuple #[e3, (aDu 0)]) w)
   (gI pg (sS 128 (aDu 256) (aDu 256)) w fun e4 w =>
   kn lK rF d0 e4 w))
theorem RT (kn : K4) (R : K1) (hn : N4 Q kn 0 4 6 7) (hr : HR BK R Q) (h : EX kn R (g 0) w) : jO pg oT (hU 6 nY) Q g w :=
 lB (l := []) h hn hr trivial
def Eu (R : K1) (lK : aDt) (w : aDs) : Prop :=
 EX (fun lK rF nN pD w => Gb R lK rF nN pD w) R lK w
theorem RC (R : K1) (hr : HR BK R Q) (h : Eu R (g 0) w) : jO pg oT nY Q g w :=
 nP 6 (RT _ g w (Gb R) R (fun g w h => iZ (nP 1 (Tu _ g w (GG R) (fun g w h => iZ (nP 1 (Se _ g w (tB R) (fun g w h => iZ (Te _ g w R hr h)) h))) h))) hr h)
def SP (a0 : aDt) (w : aDs) (R : K1) : Prop :=
 Eu R a0 w
theorem TH {a0 : aDt} {w : aDs} {R : K1} (h : SP a0 w R) : jE pg Cs #[a0] w R := by
 refine yX (ann := oT) Tryz.f46 nY [a0] BK 63 TryzM.mixed Tryz.func46 ?_
 exact (RC _ _ _ R (fun _ _ h => h) h)
def oB : FA := ⟨BU, fun i => .leaf ([], []) []⟩
def pV : List ResultVar := [.tmp 2, .tmp 3]
noncomputable def nG : Code := kA Tryz.f47
def Ek (R : K1) (lK RS rD b8 oK c0 : aDt) (w : aDs) : Prop :=
 gI pg (jF 131 rD) w fun n5 w =>
 gI pg (jF 108 b8) w fun n6 w =>
 jE pg VF #[lK, n5, n6] w fun n7 w =>
 gI pg (jZ n7 0) w fun n8 w =>
 gI pg (jZ n7 1) w fun n9 w =>
 gI pg (hZ .neq 24 (.tmp 100) (.const (aDu 0)) n9 (aDu 0)) w fun o1 w =>
 mK o1
  (R (.tuple #[(.slice none 0 0), n9]) w)
  (gI pg (nI 3 32 oK) w fun o5 w =>
  jE pg jR #[RS, o5, (aDu 1)] w fun o6 w =>
  jE pg pK #[RS, c0] w fun o9 w =>
  jE pg pK #[RS, n8] w fun p2 w =>
  jE pg oA #[RS] w fun p4 w =>
  R (.tuple #[p4, (aDu 0)]) w)
theorem R0 (R : K1) (hr : HR pV R Q) (h : Ek R (g 0) (g 4) (g 6) (g 8) (g 9) (g 10) w) : jO pg oB (gH 1 (gH 5 (gH 3 nG))) Q g w :=
 lB (kn := no) (l := []) h lW hr trivial
def EP (kn : K7) (k1 : K6) (R : K1) (lK RS rD b8 oK c0 j3 : aDt) (w : aDs) : Prop :=
 gI pg (hZ .lss 3 jC jC j3 (aDu 3)) w fun j4 w =>
 mK j4
  (gI pg (jS 131 rD j3) w fun j9 w =>
  gI pg (jF 117 j9) w fun l0 w =>
  jE pg Z3 #[j3, l0] w fun l1 w =>
  gI pg (jZ l1 0) w fun l2 w =>
  gI pg (jZ l1 1) w fun l3 w =>
  gI pg (jZ l1 2) w fun l4 w =>
  gI pg (jZ l1 3) w fun l5 w =>
  gI pg (oM 106) w fun aAf w =>
  gI pg (jQ 106 aAf l2) w fun _u w =>
  gI pg (hZ .neq 24 (.tmp 76) (.const (aDu 0)) l5 (aDu 0)) w fun l7 w =>
  mK l7
   (R (.tuple #[(.slice none 0 0), l5]) w)
   (gI pg (jF 106 aAf) w fun m0 w =>
   gI pg (jS 108 b8 j3) w fun m1 w =>
   gI pg (jQ 106 m1 m0) w fun _u w =>
   gI pg (hZ .mul 3 jC jC (aDu 2) j3) w fun m5 w =>
   gI pg (hZ .sub 3 jC jC (aDu 6) m5) w fun m6 w =>
   gI pg (hZ .shl 3 jC jC l3 m6) w fun m7 w =>
   gI pg (hZ .or 3 jC jC oK m7) w fun m8 w =>
   gI pg (oF .append #[22, 22] 22 [c0, l4]) w fun n1 w =>
   gI pg (hZ .add 3 jC jC j3 (aDu 1)) w fun n2 w =>
   kn lK RS rD b8 m8 n1 n2 w))
  (k1 lK RS rD b8 oK c0 w)
theorem Rq (kn : K7) (k1 : K6) (R : K1) (hn : N7 Q kn 0 4 6 8 9 10 63) (h1 : E6 Q k1 1 0 4 6 8 9 10) (hr : HR pV R Q) (h : EP kn k1 R (g 0) (g 4) (g 6) (g 8) (g 9) (g 10) (g 63) w) : jO pg oB (bI (bI (gH 1 (hU 1 (gH 5 (gH 3 nG)))))) Q g w :=
 lB (l := [(1, fun g w => k1 (g 0) (g 4) (g 6) (g 8) (g 9) (g 10) w)]) h hn hr ⟨h1, trivial⟩
def KG (k1 : K6) (R : K1) (lK RS rD b8 oK c0 j3 : aDt) (w : aDs) : Prop :=
 kO (fun (X : (aDt × aDt × aDt) -> K0) (t : aDt × aDt × aDt) (w : aDs) => EP (fun _ _ _ _ oK c0 j3 w => X (oK, c0, j3) w) k1 R lK RS rD b8 t.1 t.2.1 t.2.2 w) (oK, c0, j3) w
theorem Rd (k1 : K6) (R : K1) (h1 : E6 Q k1 1 0 4 6 8 9 10) (hr : HR pV R Q) (h : KG k1 R (g 0) (g 4) (g 6) (g 8) (g 9) (g 10) (g 63) w) : jO pg oB (bI (gH 1 (hU 1 (gH 5 (gH 3 nG))))) Q g w := by
 refine Od (fun g : Env => (g 9, g 10, g 63)) (fun X t w => EP (fun _ _ _ _ oK c0 j3 w => X (oK, c0, j3) w) k1 R (g 0) (g 4) (g 6) (g 8) t.1 t.2.1 t.2.2 w) h (fun X g1 w1 ha hL => ?_)
 rw [<- rG 0 ha, <- rG 4 ha, <- rG 6 ha, <- rG 8 ha] at hL
 exact (Rq _ g1 w1 (fun _ _ _ _ oK c0 j3 w => X (oK, c0, j3) w) k1 R (fun _ _ h => h) h1 hr hL)
def Kq (kn : K6) (R : K1) (lK RS rD b8 oK c0 j3 : aDt) (w : aDs) : Prop :=
 KG kn R lK RS rD b8 oK c0 j3 w
def KN (kn : K7) (lK RS rD b8 oK c0 : aDt) (w : aDs) : Prop :=
 kn lK RS rD b8 oK c0 (aDu 0) w
theorem R1 (kn : K7) (hn : N7 Q kn 0 4 6 8 9 10 63) (h : KN kn (g 0) (g 4) (g 6) (g 8) (g 9) (g 10) w) : jO pg oB (hU 1 (hU 1 (gH 5 (gH 3 nG)))) Q g w :=
 lB (kr := no) (l := []) h hn lW trivial
def LF (kn : K6) (R : K1) (lK RS rD b8 oK c0 : aDt) (w : aDs) : Prop :=
 KN (fun lK RS rD b8 oK c0 j3 w => Kq kn R lK RS rD b8 oK c0 j3 w) lK RS rD b8 oK c0 w
def Lz (R : K1) (lK RS rD b8 oK c0 : aDt) (w : aDs) : Prop :=
 LF (fun lK RS rD b8 oK c0 w => Ek R lK RS rD b8 oK c0 w) R lK RS rD b8 oK c0 w
theorem Ri (kn : K6) (R : K1) (hn : N6 Q kn 0 4 6 8 9 10) (hr : HR pV R Q) (h : LF kn R (g 0) (g 4) (g 6) (g 8) (g 9) (g 10) w) : jO pg oB (hU 1 (gH 5 (gH 3 nG))) Q g w :=
 nP 1 (R1 _ g w (Kq kn R) (fun g w h => iZ (Iu 1 (Rd _ g w kn R hn hr h))) h)
def KZ (kn : K6) (R : K1) (lK RS : aDt) (w : aDs) : Prop :=
 jE pg Wy #[lK] w fun i7 w =>
 gI pg (jZ i7 0) w fun i8 w =>
 gI pg (jZ i7 1) w fun i9 w =>
 gI pg (oM 131) w fun rD w =>
 gI pg (jQ 131 rD i8) w fun _u w =>
 gI pg (hZ .neq 24 (.tmp 60) (.const (aDu 0)) i9 (aDu 0)) w fun j1 w =>
 mK j1
  (R (.tuple #[(.slice none 0 0), i9]) w)
  (gI pg (oM 108) w fun b8 w =>
  kn lK RS rD b8 (aDu 0) (.slice none 0 0) w)
theorem Rw (kn : K6) (R : K1) (hn : N6 Q kn 0 4 6 8 9 10) (hr : HR pV R Q) (h : KZ kn R (g 0) (g 4) w) : jO pg oB (hU 5 (gH 3 nG)) Q g w :=
 lB (l := []) h hn hr trivial
def Lj (R : K1) (lK RS : aDt) (w : aDs) : Prop :=
 KZ (fun lK RS rD b8 oK c0 w => Lz R lK RS rD b8 oK c0 w) R lK RS w
def C0 (kn : K2) (R : K1) (lK : aDt) (w : aDs) : Prop :=
 jE pg oY #[] w fun c7 w =>
 gI pg (oF .len #[80] 3 [lK]) w fun c9 w =>
 gI pg (hZ .gtr 3 jC jC c9 (aDu 98047)) w fun d9 w =>
 mK d9
  (R (.tuple #[(.slice none 0 0), (aDu 1)]) w)
  (gI pg (hZ .eql 3 (.tmp 31) (.const (aDu 0)) c9 (aDu 0)) w fun e2 w =>
  mK e2
   (gI pg (lT 22 1 [(0, (.int .u8 0))]) w fun e3 w =>
   R (.tuple #[e3, (aDu 0)]) w)
   (gI pg (hZ .lss 3 jC jC c9 (aDu 128)) w fun e6 w =>
   mK e6
    (gI pg (nI 3 32 c9) w fun e9 w =>
    jE pg jR #[c7, e9, (aDu 1)] w fun f0 w =>
    kn lK c7 w)
    (gI pg (hZ .lss 3 jC jC c9 (aDu 32512)) w fun f3 w =>
    mK f3
     (gI pg (hZ .shr 3 jC jC c9 (.int .u64 8)) w fun f6 w =>
     gI pg (hZ .add 3 jC jC f6 (aDu 128)) w fun f7 w =>
     gI pg (nI 3 32 f7) w fun f8 w =>
     jE pg jR #[c7, f8, (aDu 1)] w fun f9 w =>
     gI pg (hZ .and 3 jC jC c9 (aDu 255)) w fun i2 w =>
     gI pg (nI 3 32 i2) w fun i3 w =>
     jE pg jR #[c7, i3, (aDu 1)] w fun i4 w =>
     kn lK c7 w)
     (jE pg jR #[c7, (.int .u64 255), (aDu 1)] w fun d1 w =>
     gI pg (hZ .sub 3 jC jC c9 (aDu 32512)) w fun d4 w =>
     gI pg (nI 3 32 d4) w fun d5 w =>
     jE pg jR #[c7, d5, (aDu 2)] w fun d6 w =>
     kn lK c7 w))))
theorem PW (kn : K2) (R : K1) (hn : N2 Q kn 0 4) (hr : HR pV R Q) (h : C0 kn R (g 0) w) : jO pg oB (hU 3 nG) Q g w :=
 lB (l := []) h hn hr trivial
def Di (R : K1) (lK : aDt) (w : aDs) : Prop :=
 C0 (fun lK RS w => Lj R lK RS w) R lK w
theorem P6 (R : K1) (hr : HR pV R Q) (h : Di R (g 0) w) : jO pg oB nG Q g w :=
 nP 3 (PW _ g w (Lj R) R (fun g w h => iZ (nP 5 (Rw _ g w (Lz R) R (fun g w h => iZ (nP 1 (Ri _ g w (Ek R) R (fun g w h => iZ (R0 _ g w R hr h)) hr h))) hr h))) hr h)
def QL (a0 : aDt) (w : aDs) (R : K1) : Prop :=
 Di R a0 w
theorem Sv {a0 : aDt} {w : aDs} {R : K1} (h : QL a0 w R) : jE pg BU #[a0] w R := by
 refine yX (ann := oB) Tryz.f47 nG [a0] pV 115 TryzM.mixed Tryz.func47 ?_
 exact (P6 _ _ _ R (fun _ _ h => h) h)
def kJ : FA := ⟨wB, fun i => .leaf ([], []) []⟩
def Bf : List ResultVar := [.tmp 2]
noncomputable def jY : Code := kA Tryz.f48
def vA (R : K1) (kX : aDt) (w : aDs) : Prop :=
 R kX w
theorem MX (R : K1) (hr : HR Bf R Q) (h : vA R (g 6) w) : jO pg kJ (gH 1 (gH 1 (gH 1 (gH 2 jY)))) Q g w :=
 lB (kn := no) (l := []) h lW hr trivial
def qJ (kn : K4) (k2 : K1) (kX d5 d6 d7 : aDt) (w : aDs) : Prop :=
 gI pg (hZ .lss 3 jC jC d7 d6) w fun d8 w =>
 mK d8
  (gI pg (jS 137 d5 d7) w fun d9 w =>
  gI pg (jF 22 d9) w fun e0 w =>
  gI pg (oF .append #[22, 22] 22 [kX, e0]) w fun e3 w =>
  gI pg (hZ .add 3 jC jC d7 (aDu 1)) w fun e4 w =>
  kn e3 d5 d6 e4 w)
  (k2 kX w)
theorem Nh (kn : K4) (k2 : K1) (hn : N4 Q kn 6 25 26 27) (h2 : E1 Q k2 2 6) (h : qJ kn k2 (g 6) (g 25) (g 26) (g 27) w) : jO pg kJ (bI (bI (gH 1 (hU 1 (gH 1 (gH 1 (gH 2 jY))))))) Q g w :=
 lB (kr := no) (l := [(2, fun g w => k2 (g 6) w)]) h hn lW ⟨h2, trivial⟩
def AY (k2 : K1) (kX d5 d6 d7 : aDt) (w : aDs) : Prop :=
 kO (fun (X : (aDt × aDt) -> K0) (t : aDt × aDt) (w : aDs) => qJ (fun kX _ _ d7 w => X (kX, d7) w) k2 t.1 d5 d6 t.2 w) (kX, d7) w
theorem Nf (k2 : K1) (h2 : E1 Q k2 2 6) (h : AY k2 (g 6) (g 25) (g 26) (g 27) w) : jO pg kJ (bI (gH 1 (hU 1 (gH 1 (gH 1 (gH 2 jY)))))) Q g w := by
 refine Od (fun g : Env => (g 6, g 27)) (fun X t w => qJ (fun kX _ _ d7 w => X (kX, d7) w) k2 t.1 (g 25) (g 26) t.2 w) h (fun X g1 w1 ha hL => ?_)
 rw [<- rG 25 ha, <- rG 26 ha] at hL
 exact (Nh _ g1 w1 (fun kX _ _ d7 w => X (kX, d7) w) k2 (fun _ _ h => h) h2 hL)
def AU (kn : K1) (kX d5 d6 d7 : aDt) (w : aDs) : Prop :=
 AY kn kX d5 d6 d7 w
def A8 (kn : K4) (kB kX : aDt) (w : aDs) : Prop :=
 gI pg (oF .len #[137] 3 [kB]) w fun d6 w =>
 kn kX kB d6 (aDu 0) w
theorem ND (kn : K4) (hn : N4 Q kn 6 25 26 27) (h : A8 kn (g 0) (g 6) w) : jO pg kJ (hU 1 (hU 1 (gH 1 (gH 1 (gH 2 jY))))) Q g w :=
 lB (kr := no) (l := []) h hn lW trivial
def AZ (kn : K1) (kB kX : aDt) (w : aDs) : Prop :=
 A8 (fun kX d5 d6 d7 w => AU kn kX d5 d6 d7 w) kB kX w
def Bg (R : K1) (kB kX : aDt) (w : aDs) : Prop :=
 AZ (fun kX w => vA R kX w) kB kX w
theorem Nd (kn : K1) (hn : N1 Q kn 6) (h : AZ kn (g 0) (g 6) w) : jO pg kJ (hU 1 (gH 1 (gH 1 (gH 2 jY)))) Q g w :=
 nP 1 (ND _ g w (AU kn) (fun g w h => iZ (Iu 2 (Nf _ g w kn hn h))) h)
def Bh (kn : K2) (kB nS : aDt) (w : aDs) : Prop :=
 jE pg Ar #[(.slice none 0 0), nS] w fun d4 w =>
 kn kB d4 w
theorem MZ (kn : K2) (hn : N2 Q kn 0 6) (h : Bh kn (g 0) (g 3) w) : jO pg kJ (hU 1 (gH 1 (gH 2 jY))) Q g w :=
 lB (kr := no) (l := []) h hn lW trivial
def Bp (R : K1) (kB nS : aDt) (w : aDs) : Prop :=
 Bh (fun kB kX w => Bg R kB kX w) kB nS w
def rL (kn : K5) (kB nS b9 c0 c1 : aDt) (w : aDs) : Prop :=
 gI pg (hZ .add 3 jC jC c1 (aDu 1)) w fun d2 w =>
 kn kB nS b9 c0 d2 w
theorem LM (kn : K5) (hn : N5 Q kn 0 3 9 10 11) (h : rL kn (g 0) (g 3) (g 9) (g 10) (g 11) w) : jO pg kJ (gH 3 (bI (bI (gH 1 (hU 1 (gH 2 jY)))))) Q g w :=
 lB (kr := no) (l := []) h hn lW trivial
def rK (kn : K5) (k0 : K2) (kB nS b9 c0 c1 : aDt) (w : aDs) : Prop :=
 gI pg (hZ .lss 3 jC jC c1 c0) w fun c2 w =>
 mK c2
  (gI pg (jS 137 b9 c1) w fun c3 w =>
  gI pg (jF 22 c3) w fun c4 w =>
  gI pg (oF .len #[22] 3 [c4]) w fun c7 w =>
  gI pg (hZ .add 3 jC jC nS c7) w fun c8 w =>
  gI pg (hZ .lss 3 jC jC c8 (aDu 0)) w fun d0 w =>
  mK d0
   (gI pg (VL 9 (.string ⟨#[108, 101, 110, 32, 111, 117, 116, 32, 111, 102, 32, 114, 97, 110, 103, 101]⟩)) w fun d1 w =>
   gI pg (V (Instr.panic d1)) w fun _u w =>
   kn kB c8 b9 c0 c1 w)
   (kn kB c8 b9 c0 c1 w))
  (k0 kB nS w)
theorem L5 (kn : K5) (k0 : K2) (hn : N5 Q kn 0 3 9 10 11) (h0 : E2 Q k0 0 0 3) (h : rK kn k0 (g 0) (g 3) (g 9) (g 10) (g 11) w) : jO pg kJ (hU 3 (bI (bI (gH 1 (hU 1 (gH 2 jY)))))) Q g w :=
 lB (kr := no) (l := [(0, fun g w => k0 (g 0) (g 3) w)]) h hn lW ⟨h0, trivial⟩
def qC (kn : K5) (k0 : K2) (kB nS b9 c0 c1 : aDt) (w : aDs) : Prop :=
 rK (fun kB nS b9 c0 c1 w => rL kn kB nS b9 c0 c1 w) k0 kB nS b9 c0 c1 w
def zX (k0 : K2) (kB nS b9 c0 c1 : aDt) (w : aDs) : Prop :=
 kO (fun (X : (aDt × aDt) -> K0) (t : aDt × aDt) (w : aDs) => qC (fun _ nS _ _ c1 w => X (nS, c1) w) k0 kB t.1 b9 c0 t.2 w) (nS, c1) w
theorem L8 (kn : K5) (k0 : K2) (hn : N5 Q kn 0 3 9 10 11) (h0 : E2 Q k0 0 0 3) (h : qC kn k0 (g 0) (g 3) (g 9) (g 10) (g 11) w) : jO pg kJ (bI (bI (gH 1 (hU 1 (gH 2 jY))))) Q g w :=
 nP 3 (L5 _ g w (rL kn) k0 (fun g w h => iZ (LM _ g w kn hn h)) h0 h)
theorem Me (k0 : K2) (h0 : E2 Q k0 0 0 3) (h : zX k0 (g 0) (g 3) (g 9) (g 10) (g 11) w) : jO pg kJ (bI (gH 1 (hU 1 (gH 2 jY)))) Q g w := by
 refine Od (fun g : Env => (g 3, g 11)) (fun X t w => qC (fun _ nS _ _ c1 w => X (nS, c1) w) k0 (g 0) t.1 (g 9) (g 10) t.2 w) h (fun X g1 w1 ha hL => ?_)
 rw [<- rG 0 ha, <- rG 9 ha, <- rG 10 ha] at hL
 exact (L8 _ g1 w1 (fun _ nS _ _ c1 w => X (nS, c1) w) k0 (fun _ _ h => h) h0 hL)
def zM (kn : K2) (kB nS b9 c0 c1 : aDt) (w : aDs) : Prop :=
 zX kn kB nS b9 c0 c1 w
def Ag (kn : K5) (kB nS : aDt) (w : aDs) : Prop :=
 gI pg (oF .len #[137] 3 [kB]) w fun c0 w =>
 kn kB nS kB c0 (aDu 0) w
theorem Mf (kn : K5) (hn : N5 Q kn 0 3 9 10 11) (h : Ag kn (g 0) (g 3) w) : jO pg kJ (hU 1 (hU 1 (gH 2 jY))) Q g w :=
 lB (kr := no) (l := []) h hn lW trivial
def Ai (kn : K2) (kB nS : aDt) (w : aDs) : Prop :=
 Ag (fun kB nS b9 c0 c1 w => zM kn kB nS b9 c0 c1 w) kB nS w
def zR (R : K1) (kB nS : aDt) (w : aDs) : Prop :=
 Ai (fun kB nS w => Bp R kB nS w) kB nS w
theorem LJ (kn : K2) (hn : N2 Q kn 0 3) (h : Ai kn (g 0) (g 3) w) : jO pg kJ (hU 1 (gH 2 jY)) Q g w :=
 nP 1 (Mf _ g w (zM kn) (fun g w h => iZ (Iu 0 (Me _ g w kn hn h))) h)
def zY (kn : K2) (kB : aDt) (w : aDs) : Prop :=
 kn kB (aDu 0) w
theorem LY (kn : K2) (hn : N2 Q kn 0 3) (h : zY kn (g 0) w) : jO pg kJ (hU 2 jY) Q g w :=
 lB (kr := no) (l := []) h hn lW trivial
def zC (R : K1) (kB : aDt) (w : aDs) : Prop :=
 zY (fun kB nS w => zR R kB nS w) kB w
theorem L1 (R : K1) (hr : HR Bf R Q) (h : zC R (g 0) w) : jO pg kJ jY Q g w :=
 nP 2 (LY _ g w (zR R) (fun g w h => iZ (nP 1 (LJ _ g w (Bp R) (fun g w h => iZ (nP 1 (MZ _ g w (Bg R) (fun g w h => iZ (nP 1 (Nd _ g w (vA R) (fun g w h => iZ (MX _ g w R hr h)) h))) h))) h))) h)
def Kd (a0 : aDt) (w : aDs) (R : K1) : Prop :=
 zC R a0 w
theorem Oz {a0 : aDt} {w : aDs} {R : K1} (h : Kd a0 w R) : jE pg wB #[a0] w R := by
 refine yX (ann := kJ) Tryz.f48 jY [a0] Bf 36 TryzM.mixed Tryz.func48 ?_
 exact (L1 _ _ _ R (fun _ _ h => h) h)
def UJ : FA := ⟨Ff, fun i => .leaf ([], []) []⟩
def WJ : List ResultVar := [.tmp 4]
noncomputable def SM : Code := kA Tryz.f49
def QH (R : K1) (v_0 DJ : aDt) (w : aDs) : Prop :=
 gI pg (hZ .mul 32 jC jC DJ (.int .u64 14029467366897019727)) w fun b7 w =>
 gI pg (hZ .add 32 jC jC v_0 b7) w fun b8 w =>
 jE pg mS #[b8, (aDu 31)] w fun b9 w =>
 gI pg (hZ .mul 32 jC jC b9 (.int .u64 11400714785074694791)) w fun c0 w =>
 R c0 w
theorem Zn (R : K1) (hr : HR WJ R Q) (h : QH R (g 0) (g 1) w) : jO pg UJ SM Q g w :=
 lB (kn := no) (l := []) h lW hr trivial
def acQ (a0 a1 : aDt) (w : aDs) (R : K1) : Prop :=
 QH R a0 a1 w
theorem Z2 {a0 a1 : aDt} {w : aDs} {R : K1} (h : acQ a0 a1 w R) : jE pg Ff #[a0, a1] w R := by
 refine yX (ann := UJ) Tryz.f49 SM [a0, a1] WJ 11 TryzM.mixed Tryz.func49 ?_
 exact (Zn _ _ _ R (fun _ _ h => h) h)
def sX : FA := ⟨CB, fun i => .leaf ([], []) []⟩
def NX : List ResultVar := [.tmp 2]
noncomputable def rS : Code := kA Tryz.f50
def Ig (R : K1) (pE : aDt) (w : aDs) : Prop :=
 R pE w
theorem Ya (R : K1) (hr : HR NX R Q) (h : Ig R (g 3) w) : jO pg sX (gH 1 (gH 2 rS)) Q g w :=
 lB (kn := no) (l := []) h lW hr trivial
def DT (kn : K4) (k0 : K1) (pE b6 b7 b8 : aDt) (w : aDs) : Prop :=
 gI pg (hZ .lss 3 jC jC b8 b7) w fun b9 w =>
 mK b9
  (gI pg (jS 22 b6 b8) w fun c1 w =>
  gI pg (jF 5 c1) w fun c2 w =>
  gI pg (nI 5 32 c2) w fun c5 w =>
  gI pg (hZ .mul 3 jC jC (aDu 8) b8) w fun c7 w =>
  gI pg (nI 3 50 c7) w fun c8 w =>
  gI pg (hZ .shl 32 jC jC c5 c8) w fun c9 w =>
  gI pg (hZ .or 32 jC jC pE c9) w fun d0 w =>
  gI pg (hZ .add 3 jC jC b8 (aDu 1)) w fun d1 w =>
  kn d0 b6 b7 d1 w)
  (k0 pE w)
theorem Yd (kn : K4) (k0 : K1) (hn : N4 Q kn 3 6 7 8) (h0 : E1 Q k0 0 3) (h : DT kn k0 (g 3) (g 6) (g 7) (g 8) w) : jO pg sX (bI (bI (gH 1 (hU 1 (gH 2 rS))))) Q g w :=
 lB (kr := no) (l := [(0, fun g w => k0 (g 3) w)]) h hn lW ⟨h0, trivial⟩
def NZ (k0 : K1) (pE b6 b7 b8 : aDt) (w : aDs) : Prop :=
 kO (fun (X : (aDt × aDt) -> K0) (t : aDt × aDt) (w : aDs) => DT (fun pE _ _ b8 w => X (pE, b8) w) k0 t.1 b6 b7 t.2 w) (pE, b8) w
theorem Yr (k0 : K1) (h0 : E1 Q k0 0 3) (h : NZ k0 (g 3) (g 6) (g 7) (g 8) w) : jO pg sX (bI (gH 1 (hU 1 (gH 2 rS)))) Q g w := by
 refine Od (fun g : Env => (g 3, g 8)) (fun X t w => DT (fun pE _ _ b8 w => X (pE, b8) w) k0 t.1 (g 6) (g 7) t.2 w) h (fun X g1 w1 ha hL => ?_)
 rw [<- rG 6 ha, <- rG 7 ha] at hL
 exact (Yd _ g1 w1 (fun pE _ _ b8 w => X (pE, b8) w) k0 (fun _ _ h => h) h0 hL)
def Ni (kn : K1) (pE b6 b7 b8 : aDt) (w : aDs) : Prop :=
 NZ kn pE b6 b7 b8 w
def Na (kn : K4) (nQ pE : aDt) (w : aDs) : Prop :=
 gI pg (oF .len #[22] 3 [nQ]) w fun b7 w =>
 kn pE nQ b7 (aDu 0) w
theorem Yi (kn : K4) (hn : N4 Q kn 3 6 7 8) (h : Na kn (g 0) (g 3) w) : jO pg sX (hU 1 (hU 1 (gH 2 rS))) Q g w :=
 lB (kr := no) (l := []) h hn lW trivial
def Nu (kn : K1) (nQ pE : aDt) (w : aDs) : Prop :=
 Na (fun pE b6 b7 b8 w => Ni kn pE b6 b7 b8 w) nQ pE w
def M6 (R : K1) (nQ pE : aDt) (w : aDs) : Prop :=
 Nu (fun pE w => Ig R pE w) nQ pE w
theorem Yx (kn : K1) (hn : N1 Q kn 3) (h : Nu kn (g 0) (g 3) w) : jO pg sX (hU 1 (gH 2 rS)) Q g w :=
 nP 1 (Yi _ g w (Ni kn) (fun g w h => iZ (Iu 0 (Yr _ g w kn hn h))) h)
def Np (kn : K2) (nQ : aDt) (w : aDs) : Prop :=
 kn nQ (.int .u64 0) w
theorem XO (kn : K2) (hn : N2 Q kn 0 3) (h : Np kn (g 0) w) : jO pg sX (hU 2 rS) Q g w :=
 lB (kr := no) (l := []) h hn lW trivial
def NN (R : K1) (nQ : aDt) (w : aDs) : Prop :=
 Np (fun nQ pE w => M6 R nQ pE w) nQ w
theorem XD (R : K1) (hr : HR NX R Q) (h : NN R (g 0) w) : jO pg sX rS Q g w :=
 nP 2 (XO _ g w (M6 R) (fun g w h => iZ (nP 1 (Yx _ g w (Ig R) (fun g w h => iZ (Ya _ g w R hr h)) h))) h)
def ZP (a0 : aDt) (w : aDs) (R : K1) : Prop :=
 NN R a0 w
theorem Zd {a0 : aDt} {w : aDs} {R : K1} (h : ZP a0 w R) : jE pg CB #[a0] w R := by
 refine yX (ann := sX) Tryz.f50 rS [a0] NX 23 TryzM.mixed Tryz.func50 ?_
 exact (XD _ _ _ R (fun _ _ h => h) h)
def lX : FA := ⟨BD, fun i => .leaf ([], []) []⟩
def As : List ResultVar := [.tmp 2]
noncomputable def lR : Code := kA Tryz.f51
def Ay (R : K1) (pE : aDt) (w : aDs) : Prop :=
 R pE w
theorem RA (R : K1) (hr : HR As R Q) (h : Ay R (g 3) w) : jO pg lX (gH 1 (gH 1 (gH 3 lR))) Q g w :=
 lB (kn := no) (l := []) h lW hr trivial
def uP (kn : K3) (k2 : K1) (pE e2 e3 : aDt) (w : aDs) : Prop :=
 gI pg (hZ .lss 3 jC jC e3 (aDu 4)) w fun e4 w =>
 mK e4
  (gI pg (Ry 90 e2 e3) w fun e5 w =>
  jE pg Ff #[(.int .u64 0), e5] w fun e8 w =>
  gI pg (hZ .xor 32 jC jC pE e8) w fun e9 w =>
  gI pg (hZ .mul 32 jC jC e9 (.int .u64 11400714785074694791)) w fun f0 w =>
  gI pg (hZ .add 32 jC jC f0 (.int .u64 9650029242287828579)) w fun f1 w =>
  gI pg (hZ .add 3 jC jC e3 (aDu 1)) w fun f2 w =>
  kn f1 e2 f2 w)
  (k2 pE w)
theorem RZ (kn : K3) (k2 : K1) (hn : N3 Q kn 3 32 33) (h2 : E1 Q k2 2 3) (h : uP kn k2 (g 3) (g 32) (g 33) w) : jO pg lX (bI (bI (gH 1 (hU 1 (gH 1 (gH 3 lR)))))) Q g w :=
 lB (kr := no) (l := [(2, fun g w => k2 (g 3) w)]) h hn lW ⟨h2, trivial⟩
def EU (k2 : K1) (pE e2 e3 : aDt) (w : aDs) : Prop :=
 kO (fun (X : (aDt × aDt) -> K0) (t : aDt × aDt) (w : aDs) => uP (fun pE _ e3 w => X (pE, e3) w) k2 t.1 e2 t.2 w) (pE, e3) w
theorem Q9 (k2 : K1) (h2 : E1 Q k2 2 3) (h : EU k2 (g 3) (g 32) (g 33) w) : jO pg lX (bI (gH 1 (hU 1 (gH 1 (gH 3 lR))))) Q g w := by
 refine Od (fun g : Env => (g 3, g 33)) (fun X t w => uP (fun pE _ e3 w => X (pE, e3) w) k2 t.1 (g 32) t.2 w) h (fun X g1 w1 ha hL => ?_)
 rw [<- rG 32 ha] at hL
 exact (RZ _ g1 w1 (fun pE _ e3 w => X (pE, e3) w) k2 (fun _ _ h => h) h2 hL)
def El (kn : K1) (pE e2 e3 : aDt) (w : aDs) : Prop :=
 EU kn pE e2 e3 w
def EN (kn : K3) (rM pE : aDt) (w : aDs) : Prop :=
 gI pg (nO rM) w fun e0 w =>
 gI pg (jH 93 e0 0) w fun e1 w =>
 gI pg (jF 90 e1) w fun e2 w =>
 kn pE e2 (aDu 0) w
theorem RO (kn : K3) (hn : N3 Q kn 3 32 33) (h : EN kn (g 0) (g 3) w) : jO pg lX (hU 1 (hU 1 (gH 1 (gH 3 lR)))) Q g w :=
 lB (kr := no) (l := []) h hn lW trivial
def Eo (kn : K1) (rM pE : aDt) (w : aDs) : Prop :=
 EN (fun pE e2 e3 w => El kn pE e2 e3 w) rM pE w
def Et (R : K1) (rM pE : aDt) (w : aDs) : Prop :=
 Eo (fun pE w => Ay R pE w) rM pE w
theorem RM (kn : K1) (hn : N1 Q kn 3) (h : Eo kn (g 0) (g 3) w) : jO pg lX (hU 1 (gH 1 (gH 3 lR))) Q g w :=
 nP 1 (RO _ g w (El kn) (fun g w h => iZ (Iu 2 (Q9 _ g w kn hn h))) h)
def uL (kn : K4) (k0 : K2) (rM pE c3 c4 : aDt) (w : aDs) : Prop :=
 gI pg (hZ .lss 3 jC jC c4 (aDu 4)) w fun c5 w =>
 mK c5
  (gI pg (Ry 139 c3 c4) w fun c7 w =>
  gI pg (nO rM) w fun d1 w =>
  gI pg (jH 93 d1 0) w fun d2 w =>
  gI pg (jS 90 d2 c4) w fun d3 w =>
  gI pg (jF 32 d3) w fun d4 w =>
  jE pg mS #[d4, c7] w fun d6 w =>
  gI pg (hZ .add 32 jC jC pE d6) w fun d7 w =>
  gI pg (hZ .add 3 jC jC c4 (aDu 1)) w fun d8 w =>
  kn rM d7 c3 d8 w)
  (k0 rM pE w)
theorem RK (kn : K4) (k0 : K2) (hn : N4 Q kn 0 3 13 14) (h0 : E2 Q k0 0 0 3) (h : uL kn k0 (g 0) (g 3) (g 13) (g 14) w) : jO pg lX (bI (bI (gH 1 (hU 1 (gH 3 lR))))) Q g w :=
 lB (kr := no) (l := [(0, fun g w => k0 (g 0) (g 3) w)]) h hn lW ⟨h0, trivial⟩
def EH (k0 : K2) (rM pE c3 c4 : aDt) (w : aDs) : Prop :=
 kO (fun (X : (aDt × aDt) -> K0) (t : aDt × aDt) (w : aDs) => uL (fun _ pE _ c4 w => X (pE, c4) w) k0 rM t.1 c3 t.2 w) (pE, c4) w
theorem Rv (k0 : K2) (h0 : E2 Q k0 0 0 3) (h : EH k0 (g 0) (g 3) (g 13) (g 14) w) : jO pg lX (bI (gH 1 (hU 1 (gH 3 lR)))) Q g w := by
 refine Od (fun g : Env => (g 3, g 14)) (fun X t w => uL (fun _ pE _ c4 w => X (pE, c4) w) k0 (g 0) t.1 (g 13) t.2 w) h (fun X g1 w1 ha hL => ?_)
 rw [<- rG 0 ha, <- rG 13 ha] at hL
 exact (RK _ g1 w1 (fun _ pE _ c4 w => X (pE, c4) w) k0 (fun _ _ h => h) h0 hL)
def DA (kn : K2) (rM pE c3 c4 : aDt) (w : aDs) : Prop :=
 EH kn rM pE c3 c4 w
def Dw (kn : K4) (rM pE : aDt) (w : aDs) : Prop :=
 gI pg (kY 139 [(0, (aDu 1)), (1, (aDu 7)), (2, (aDu 12)), (3, (aDu 18))]) w fun c3 w =>
 kn rM pE c3 (aDu 0) w
theorem Pv (kn : K4) (hn : N4 Q kn 0 3 13 14) (h : Dw kn (g 0) (g 3) w) : jO pg lX (hU 1 (hU 1 (gH 3 lR))) Q g w :=
 lB (kr := no) (l := []) h hn lW trivial
def C5 (kn : K2) (rM pE : aDt) (w : aDs) : Prop :=
 Dw (fun rM pE c3 c4 w => DA kn rM pE c3 c4 w) rM pE w
def Dx (R : K1) (rM pE : aDt) (w : aDs) : Prop :=
 C5 (fun rM pE w => Et R rM pE w) rM pE w
theorem P9 (kn : K2) (hn : N2 Q kn 0 3) (h : C5 kn (g 0) (g 3) w) : jO pg lX (hU 1 (gH 3 lR)) Q g w :=
 nP 1 (Pv _ g w (DA kn) (fun g w h => iZ (Iu 0 (Rv _ g w kn hn h))) h)
def wY (kn : K2) (R : K1) (rM : aDt) (w : aDs) : Prop :=
 gI pg (nO rM) w fun b9 w =>
 gI pg (jH 93 b9 3) w fun c0 w =>
 gI pg (jF 32 c0) w fun c1 w =>
 gI pg (hZ .lss 32 jC jC c1 (.int .u64 32)) w fun c2 w =>
 mK c2
  (R (.int .u64 2870177450012600261) w)
  (kn rM (.int .u64 0) w)
theorem P7 (kn : K2) (R : K1) (hn : N2 Q kn 0 3) (hr : HR As R Q) (h : wY kn R (g 0) w) : jO pg lX (hU 3 lR) Q g w :=
 lB (l := []) h hn hr trivial
def wU (R : K1) (rM : aDt) (w : aDs) : Prop :=
 wY (fun rM pE w => Dx R rM pE w) R rM w
theorem Qv (R : K1) (hr : HR As R Q) (h : wU R (g 0) w) : jO pg lX lR Q g w :=
 nP 3 (P7 _ g w (Dx R) R (fun g w h => iZ (nP 1 (P9 _ g w (Et R) (fun g w h => iZ (nP 1 (RM _ g w (Ay R) (fun g w h => iZ (RA _ g w R hr h)) h))) h))) hr h)
def Ji (a0 : aDt) (w : aDs) (R : K1) : Prop :=
 wU R a0 w
theorem Tb {a0 : aDt} {w : aDs} {R : K1} (h : Ji a0 w R) : jE pg BD #[a0] w R := by
 refine yX (ann := lX) Tryz.f51 lR [a0] As 44 TryzM.mixed Tryz.func51 ?_
 exact (Qv _ _ _ R (fun _ _ h => h) h)
def Ck : FA := ⟨mS, fun i => .leaf ([], []) []⟩
def CT : List ResultVar := [.tmp 4]
noncomputable def BP : Code := kA Tryz.f52
def vI (R : K1) (mZ k_1 : aDt) (w : aDs) : Prop :=
 gI pg (nI 3 50 k_1) w fun b7 w =>
 gI pg (hZ .and 50 jC jC b7 (.int .u64 63)) w fun b8 w =>
 gI pg (hZ .shl 32 jC jC mZ b8) w fun c1 w =>
 gI pg (hZ .sub 50 jC jC (.int .u64 64) b8) w fun c4 w =>
 gI pg (hZ .shr 32 jC jC mZ c4) w fun c5 w =>
 gI pg (hZ .or 32 jC jC c1 c5) w fun c6 w =>
 R c6 w
theorem I3 (R : K1) (hr : HR CT R Q) (h : vI R (g 0) (g 1) w) : jO pg Ck BP Q g w :=
 lB (kn := no) (l := []) h lW hr trivial
def FM (a0 a1 : aDt) (w : aDs) (R : K1) : Prop :=
 vI R a0 a1 w
theorem JL {a0 a1 : aDt} {w : aDs} {R : K1} (h : FM a0 a1 w R) : jE pg mS #[a0, a1] w R := by
 refine yX (ann := Ck) Tryz.f52 BP [a0, a1] CT 17 TryzM.mixed Tryz.func52 ?_
 exact (I3 _ _ _ R (fun _ _ h => h) h)
def GJ : FA := ⟨sR, fun i => .leaf ([], []) []⟩
def G1 : List ResultVar := [.tmp 6]
noncomputable def Fk : Code := kA Tryz.f53
def Ba (R : K1) (Vf G2 azY : aDt) (w : aDs) : Prop :=
 gI pg (nO Vf) w fun c0 w =>
 gI pg (jH 97 c0 1) w fun c1 w =>
 gI pg (jF 24 c1) w fun c2 w =>
 gI pg (hZ .neq 24 (.tmp 12) (.const (aDu 0)) c2 (aDu 0)) w fun c3 w =>
 mK c3
  (R (.slice none 0 0) w)
  (gI pg (sUn .not azY) w fun c6 w =>
  mK c6
   (gI pg (nO Vf) w fun c8 w =>
   gI pg (jH 97 c8 1) w fun c9 w =>
   gI pg (jQ 24 c9 (aDu 1)) w fun _u w =>
   R (.slice none 0 0) w)
   (gI pg (nO Vf) w fun d3 w =>
   gI pg (jH 97 d3 0) w fun d4 w =>
   gI pg (jF 22 d4) w fun d5 w =>
   gI pg (oF .len #[22] 3 [d5]) w fun d6 w =>
   gI pg (hZ .gtr 3 jC jC G2 d6) w fun d7 w =>
   mK d7
    (gI pg (nO Vf) w fun d9 w =>
    gI pg (jH 97 d9 1) w fun e0 w =>
    gI pg (jQ 24 e0 (aDu 10)) w fun _u w =>
    R (.slice none 0 0) w)
    (gI pg (nO Vf) w fun e2 w =>
    gI pg (jH 97 e2 0) w fun e3 w =>
    gI pg (jF 22 e3) w fun e4 w =>
    gI pg (lP 22 e4 none (some G2) (some G2)) w fun e7 w =>
    gI pg (nO Vf) w fun f0 w =>
    gI pg (jH 97 f0 0) w fun f1 w =>
    gI pg (jF 22 f1) w fun f2 w =>
    gI pg (lP 22 f2 (some G2) none none) w fun f4 w =>
    gI pg (nO Vf) w fun f5 w =>
    gI pg (jH 97 f5 0) w fun f6 w =>
    gI pg (jQ 22 f6 f4) w fun _u w =>
    R e7 w)))
theorem M8 (R : K1) (hr : HR G1 R Q) (h : Ba R (g 0) (g 1) (g 2) w) : jO pg GJ Fk Q g w :=
 lB (kn := no) (l := []) h lW hr trivial
def Ka (a0 a1 a2 : aDt) (w : aDs) (R : K1) : Prop :=
 Ba R a0 a1 a2 w
theorem OM {a0 a1 a2 : aDt} {w : aDs} {R : K1} (h : Ka a0 a1 a2 w R) : jE pg sR #[a0, a1, a2] w R := by
 refine yX (ann := GJ) Tryz.f53 Fk [a0, a1, a2] G1 48 TryzM.mixed Tryz.func53 ?_
 exact (M8 _ _ _ R (fun _ _ h => h) h)
def Fi : FA := ⟨qK, fun i => .leaf ([], []) []⟩
def FE : List ResultVar := [.tmp 4]
noncomputable def DX : Code := kA Tryz.f54
def Aa (R : K1) (Vf G2 : aDt) (w : aDs) : Prop :=
 gI pg (hZ .eql 54 (.tmp 5) (.const (.pointer none)) Vf (.pointer none)) w fun b6 w =>
 mK b6
  (R (.slice none 0 0) w)
  (gI pg (hZ .geq 3 jC jC G2 (aDu 0)) w fun c0 w =>
  jE pg sR #[Vf, G2, c0] w fun c1 w =>
  R c1 w)
theorem Mc (R : K1) (hr : HR FE R Q) (h : Aa R (g 0) (g 1) w) : jO pg Fi DX Q g w :=
 lB (kn := no) (l := []) h lW hr trivial
def JC (a0 a1 : aDt) (w : aDs) (R : K1) : Prop :=
 Aa R a0 a1 w
theorem Nb {a0 a1 : aDt} {w : aDs} {R : K1} (h : JC a0 a1 w R) : jE pg qK #[a0, a1] w R := by
 refine yX (ann := Fi) Tryz.f54 DX [a0, a1] FE 12 TryzM.mixed Tryz.func54 ?_
 exact (Mc _ _ _ R (fun _ _ h => h) h)
def rJ : FA := ⟨JF, fun i => match Nat.beq i 28 with | true => .leaf ([4, 6], [(0, 4), (2, 4), (2, 6), (5, 6)]) [(false, []), (false, []), (false, []), (false, []), (true, [1, 3]), (false, []), (true, [0, 3]), (false, []), (false, [])] | false => .leaf ([], []) []⟩
def Im : List ResultVar := [.cell 2 101, .tmp 3, .tmp 4]
noncomputable def qN : Code := kA Tryz.f55
def DN (R : K1) (nQ b2 Iw Fl oE : aDt) (w : aDs) : Prop :=
 jE pg lY #[Iw] w fun l9 w =>
 gI pg (hZ .neq 24 (.tmp 79) (.const (aDu 0)) l9 (aDu 0)) w fun m0 w =>
 mK m0
  (gI pg (kY 101 []) w fun m1 w =>
  jE pg lY #[Iw] w fun m3 w =>
  gI pg (jQ 101 b2 m1) w fun _u w =>
  MO pg 101 b2 w fun r0 => R (.tuple #[r0, (aDu 0), m3]) w)
  (gI pg (hZ .neq 32 (.tmp 85) (.const (.int .u64 0)) oE (.int .u64 0)) w fun m6 w =>
  mK m6
   (gI pg (kY 101 []) w fun m7 w =>
   gI pg (jQ 101 b2 m7) w fun _u w =>
   MO pg 101 b2 w fun r0 => R (.tuple #[r0, (aDu 0), (aDu 14)]) w)
   (gI pg (jF 101 Fl) (dr w) fun m8 w_ => w_ = (dr w) /\
   (dr w) = (dr w) /\
   gI pg (oF .len #[22] 3 [nQ]) (dr w) fun n0 w_ => w_ = (dr w) /\
   (dr w) = (dr w) /\
   jE pg oR #[Iw] (dr w) fun n2 afS =>
   (jD pg (oF .len #[22] 3 [nQ]) n0 afS /\ jD pg (jF 101 Fl) m8 afS /\ True) /\
   gI pg (hZ .sub 3 jC jC n0 n2) afS fun n3 w_ => w_ = afS /\
   gI pg (jQ 101 b2 m8) afS fun _u6 Y2 =>
   (jD pg (hZ .sub 3 jC jC n0 n2) n3 Y2 /\ jD pg (oF .len #[22] 3 [nQ]) n0 Y2 /\ True) /\
   Y2 = Y2 /\
   Y2 = Y2 /\
   MO pg 101 b2 Y2 fun r0 => R (.tuple #[r0, n3, (aDu 0)]) Y2))
theorem Xy (R : K1) (hr : HR Im R Q) (h : DN R (g 0) (g 2) (g 5) (g 7) (g 9) w) : jO pg rJ (gH 1 (gH 1 (gH 1 (gH 2 (gH 2 (gH 7 qN)))))) Q g w :=
 lB (kn := no) (l := []) h lW hr trivial
def M9 (kn : K5) (nQ b2 Iw Fl qB oE : aDt) (w : aDs) : Prop :=
 mK qB
  (gI pg (jH 101 Fl 1) w fun l4 w =>
  gI pg (jF 32 l4) w fun l5 w =>
  gI pg (jH 101 Fl 0) w fun l6 w =>
  gI pg (jQ 32 l6 l5) w fun _u w =>
  kn nQ b2 Iw Fl oE w)
  (kn nQ b2 Iw Fl oE w)
theorem X3 (kn : K5) (hn : N5 Q kn 0 2 5 7 9) (h : M9 kn (g 0) (g 2) (g 5) (g 7) (g 8) (g 9) w) : jO pg rJ (hU 1 (gH 1 (gH 1 (gH 2 (gH 2 (gH 7 qN)))))) Q g w :=
 lB (kr := no) (l := []) h hn lW trivial
def Ir (R : K1) (nQ b2 Iw Fl qB oE : aDt) (w : aDs) : Prop :=
 M9 (fun nQ b2 Iw Fl oE w => DN R nQ b2 Iw Fl oE w) nQ b2 Iw Fl qB oE w
def Ny (kn : K6) (nQ b2 Iw Fl qB oE RU : aDt) (w : aDs) : Prop :=
 gI pg (hZ .eql 3 (.tmp 67) (.const (aDu 2)) RU (aDu 2)) w fun j8 w =>
 mK j8
  (gI pg (jH 101 Fl 1) w fun j9 w =>
  gI pg (jF 32 j9) w fun l0 w =>
  gI pg (hZ .add 32 jC jC l0 (.int .u64 256)) w fun l1 w =>
  gI pg (jH 101 Fl 1) w fun l2 w =>
  gI pg (jQ 32 l2 l1) w fun _u w =>
  kn nQ b2 Iw Fl qB oE w)
  (kn nQ b2 Iw Fl qB oE w)
theorem Ys (kn : K6) (hn : N6 Q kn 0 2 5 7 8 9) (h : Ny kn (g 0) (g 2) (g 5) (g 7) (g 8) (g 9) (g 11) w) : jO pg rJ (hU 1 (gH 1 (gH 2 (gH 2 (gH 7 qN))))) Q g w :=
 lB (kr := no) (l := []) h hn lW trivial
def It (R : K1) (nQ b2 Iw Fl qB oE RU : aDt) (w : aDs) : Prop :=
 Ny (fun nQ b2 Iw Fl qB oE w => Ir R nQ b2 Iw Fl qB oE w) nQ b2 Iw Fl qB oE RU w
def NU (kn : K7) (nQ b2 Iw Fl qB oE RU : aDt) (w : aDs) : Prop :=
 gI pg (hZ .gtr 3 jC jC RU (aDu 0)) w fun j1 w =>
 mK j1
  (jE pg lA #[Iw, RU] w fun j4 w =>
  gI pg (jH 101 Fl 1) w fun j5 w =>
  gI pg (jQ 32 j5 j4) w fun _u w =>
  gI pg (jH 101 Fl 2) w fun j6 w =>
  gI pg (jQ 4 j6 (.bool true)) w fun _u w =>
  kn nQ b2 Iw Fl qB oE RU w)
  (kn nQ b2 Iw Fl qB oE RU w)
theorem Yy (kn : K7) (hn : N7 Q kn 0 2 5 7 8 9 11) (h : NU kn (g 0) (g 2) (g 5) (g 7) (g 8) (g 9) (g 11) w) : jO pg rJ (hU 1 (gH 2 (gH 2 (gH 7 qN)))) Q g w :=
 lB (kr := no) (l := []) h hn lW trivial
def DU (R : K1) (nQ b2 Iw Fl qB oE RU : aDt) (w : aDs) : Prop :=
 NU (fun nQ b2 Iw Fl qB oE RU w => It R nQ b2 Iw Fl qB oE RU w) nQ b2 Iw Fl qB oE RU w
def MT (kn : K7) (nQ b2 Iw d_6 Fl qB oE : aDt) (w : aDs) : Prop :=
 gI pg (kY 139 [(0, (aDu 0)), (1, (aDu 2)), (2, (aDu 4)), (3, (aDu 8))]) w fun i1 w =>
 gI pg (hZ .shr 3 jC jC d_6 (.int .u64 6)) w fun i3 w =>
 gI pg (Ry 139 i1 i3) w fun i4 w =>
 Gd (kR qB true) (fun K => K i4 w) w fun i7 w =>
 Gd (kR qB true) (fun K => gI pg (hZ .eql 3 (.tmp 57) (.const (aDu 0)) i7 (aDu 0)) w K) w fun i8 w =>
 gI pg (nD qB i8 (.bool false)) w fun i9 w =>
 mK i9
  (kn nQ b2 Iw Fl qB oE (aDu 1) w)
  (kn nQ b2 Iw Fl qB oE i4 w)
theorem XZ (kn : K7) (hn : N7 Q kn 0 2 5 7 8 9 11) (h : MT kn (g 0) (g 2) (g 5) (g 6) (g 7) (g 8) (g 9) w) : jO pg rJ (hU 2 (gH 2 (gH 7 qN))) Q g w :=
 lB (kr := no) (l := []) h hn lW trivial
def D1 (R : K1) (nQ b2 Iw d_6 Fl qB oE : aDt) (w : aDs) : Prop :=
 MT (fun nQ b2 Iw Fl qB oE RU w => DU R nQ b2 Iw Fl qB oE RU w) nQ b2 Iw d_6 Fl qB oE w
def Ko (kn : K7) (nQ b2 Iw d_6 Fl qB : aDt) (w : aDs) : Prop :=
 gI pg (kY 139 [(0, (aDu 0)), (1, (aDu 1)), (2, (aDu 2)), (3, (aDu 4))]) w fun f2 w =>
 gI pg (hZ .and 3 jC jC d_6 (aDu 3)) w fun f4 w =>
 gI pg (Ry 139 f2 f4) w fun f5 w =>
 gI pg (hZ .gtr 3 jC jC f5 (aDu 0)) w fun f7 w =>
 mK f7
  (jE pg lA #[Iw, f5] w fun i0 w =>
  kn nQ b2 Iw d_6 Fl qB i0 w)
  (kn nQ b2 Iw d_6 Fl qB (.int .u64 0) w)
theorem Wg (kn : K7) (hn : N7 Q kn 0 2 5 6 7 8 9) (h : Ko kn (g 0) (g 2) (g 5) (g 6) (g 7) (g 8) w) : jO pg rJ (hU 2 (gH 7 qN)) Q g w :=
 lB (kr := no) (l := []) h hn lW trivial
def GK (R : K1) (nQ b2 Iw d_6 Fl qB : aDt) (w : aDs) : Prop :=
 Ko (fun nQ b2 Iw d_6 Fl qB oE w => D1 R nQ b2 Iw d_6 Fl qB oE w) nQ b2 Iw d_6 Fl qB w
def Lf (kn : K6) (R : K1) (nQ : aDt) (w : aDs) : Prop :=
 gI pg (oM 101) w fun b2 w =>
 jE pg pX #[nQ] w fun c3 w =>
 jE pg lA #[c3, (aDu 1)] w fun c5 w =>
 gI pg (nI 32 3 c5) w fun c6 w =>
 jE pg lY #[c3] w fun c9 w =>
 gI pg (hZ .neq 24 (.tmp 19) (.const (aDu 0)) c9 (aDu 0)) w fun d0 w =>
 mK d0
  (gI pg (kY 101 []) w fun d1 w =>
  jE pg lY #[c3] w fun d3 w =>
  gI pg (jQ 101 b2 d1) w fun _u w =>
  MO pg 101 b2 w fun r0 => R (.tuple #[r0, (aDu 0), d3]) w)
  (gI pg (hZ .and 3 jC jC c6 (aDu 8)) w fun d6 w =>
  gI pg (hZ .neq 3 (.tmp 26) (.const (aDu 0)) d6 (aDu 0)) w fun d7 w =>
  mK d7
   (gI pg (kY 101 []) w fun d8 w =>
   gI pg (jQ 101 b2 d8) w fun _u w =>
   MO pg 101 b2 w fun r0 => R (.tuple #[r0, (aDu 0), (aDu 11)]) w)
   (gI pg (hZ .and 3 jC jC c6 (aDu 4)) w fun e0 w =>
   gI pg (hZ .neq 3 (.tmp 30) (.const (aDu 0)) e0 (aDu 0)) w fun e1 w =>
   gI pg (kY 101 [(3, e1)]) w fun e2 w =>
   gI pg (oM 101) w fun Fl w =>
   gI pg (jQ 101 Fl e2) w fun _u w =>
   gI pg (hZ .and 3 jC jC c6 (aDu 32)) w fun e4 w =>
   gI pg (hZ .neq 3 (.tmp 34) (.const (aDu 0)) e4 (aDu 0)) w fun e5 w =>
   gI pg (sUn .not e5) w fun e7 w =>
   mK e7
    (jE pg lA #[c3, (aDu 1)] w fun e9 w =>
    jE pg FX #[e9] w fun f0 w =>
    gI pg (jH 101 Fl 0) w fun f1 w =>
    gI pg (jQ 32 f1 f0) w fun _u w =>
    kn nQ b2 c3 c6 Fl e5 w)
    (kn nQ b2 c3 c6 Fl e5 w)))
theorem V7 (kn : K6) (R : K1) (hn : N6 Q kn 0 2 5 6 7 8) (hr : HR Im R Q) (h : Lf kn R (g 0) w) : jO pg rJ (hU 7 qN) Q g w :=
 lB (l := []) h hn hr trivial
def J1 (R : K1) (nQ : aDt) (w : aDs) : Prop :=
 Lf (fun nQ b2 Iw d_6 Fl qB w => GK R nQ b2 Iw d_6 Fl qB w) R nQ w
theorem Xh (R : K1) (hr : HR Im R Q) (h : J1 R (g 0) w) : jO pg rJ qN Q g w :=
 nP 7 (V7 _ g w (GK R) R (fun g w h => iZ (nP 2 (Wg _ g w (D1 R) (fun g w h => iZ (nP 2 (XZ _ g w (DU R) (fun g w h => iZ (nP 1 (Yy _ g w (It R) (fun g w h => iZ (nP 1 (Ys _ g w (Ir R) (fun g w h => iZ (nP 1 (X3 _ g w (DN R) (fun g w h => iZ (Xy _ g w R hr h)) h))) h))) h))) h))) h))) hr h)
def ZG (a0 : aDt) (w : aDs) (R : K1) : Prop :=
 J1 R a0 w
theorem Za {a0 : aDt} {w : aDs} {R : K1} (h : ZG a0 w R) : jE pg JF #[a0] w R := by
 refine yX (ann := rJ) Tryz.f55 qN [a0] Im 94 TryzM.mixed Tryz.func55 ?_
 exact (Xh _ _ _ R (fun _ _ h => h) h)
def rH : FA := ⟨vR, fun i => match Nat.beq i 24 with | true => .leaf ([], []) [(false, []), (false, []), (false, []), (false, []), (false, []), (false, []), (false, []), (false, []), (false, []), (false, []), (false, []), (false, []), (false, [])] | false => match Nat.beq i 26 with | true => .leaf ([5], [(2, 5), (3, 5)]) [(false, []), (false, []), (false, []), (false, []), (false, []), (true, [1, 2]), (false, []), (false, [])] | false => .leaf ([], []) []⟩
def rY : List ResultVar := [.tmp 8, .cell 9 110, .tmp 10, .tmp 11]
noncomputable def qW : Code := kA Tryz.f56
def qI (R : K1) (pN Cp g_6 b9 Ja : aDt) (w : aDs) : Prop :=
 (dr w) = (dr w) /\
 gI pg (nO pN) (dr w) fun m8 w_ => w_ = (dr w) /\
 gI pg (jH 56 m8 3) (dr w) fun m9 w_ => w_ = (dr w) /\
 gI pg (jF 22 m9) (dr w) fun n0 w_ => w_ = (dr w) /\
 gI pg (oF .len #[22] 3 [n0]) (dr w) fun n1 w_ => w_ = (dr w) /\
 (dr w) = (dr w) /\
 gI pg (oF .len #[22] 3 [Cp]) (dr w) fun n3 w_ => w_ = (dr w) /\
 gI pg (hZ .add 3 jC jC n1 n3) (dr w) fun n4 w_ => w_ = (dr w) /\
 (dr w) = (dr w) /\
 gI pg (nO pN) (dr w) fun n6 w_ => w_ = (dr w) /\
 gI pg (jH 56 n6 2) (dr w) fun n7 w_ => w_ = (dr w) /\
 gI pg (jF 3 n7) (dr w) fun n8 w_ => w_ = (dr w) /\
 gI pg (hZ .gtr 3 jC jC n4 n8) (dr w) fun n9 w_ => w_ = (dr w) /\
 mK n9
  (gI pg (kY 110 []) (dr w) fun o0 w =>
  gI pg (jQ 110 b9 o0) w fun _u w =>
  MO pg 110 b9 w fun r1 => R (.tuple #[(.slice none 0 0), r1, (.bool false), (aDu 12)]) w)
  ((dr (dr w)) = (dr (dr w)) /\
  gI pg (jF 110 g_6) (dr (dr w)) fun o2 w_ => w_ = (dr (dr w)) /\
  gI pg (jH 65 Ja 0) (dr (dr w)) fun o3 w_ => w_ = (dr (dr w)) /\
  gI pg (jF 4 o3) (dr (dr w)) fun o4 w_ => w_ = (dr (dr w)) /\
  (dr (dr w)) = (dr (dr w)) /\
  gI pg (jQ 110 b9 o2) (dr (dr w)) fun _u5 YK =>
  (jD pg (jF 4 o3) o4 YK /\ jD pg (jH 65 Ja 0) o3 YK /\ True) /\
  YK = YK /\
  YK = YK /\
  MO pg 110 b9 YK fun r1 => R (.tuple #[Cp, r1, o4, (aDu 0)]) YK)
theorem NG (R : K1) (hr : HR rY R Q) (h : qI R (g 0) (g 1) (g 6) (g 9) (g 15) w) : jO pg rH (gH 2 (gH 9 qW)) Q g w :=
 lB (kn := no) (l := []) h lW hr trivial
def AX (kn : K5) (R : K1) (pN Cp xZ g_6 b9 KT Ja IS : aDt) (w : aDs) : Prop :=
 jE pg qZ #[pN, IS] w fun i1 w =>
 gI pg (jZ i1 0) w fun i2 w =>
 gI pg (jZ i1 1) w fun i3 w =>
 gI pg (hZ .neq 24 (.tmp 54) (.const (aDu 0)) i3 (aDu 0)) w fun i5 w =>
 mK i5
  (gI pg (kY 110 []) w fun i6 w =>
  gI pg (jQ 110 b9 i6) w fun _u w =>
  MO pg 110 b9 w fun r1 => R (.tuple #[(.slice none 0 0), r1, (.bool false), i3]) w)
  (gI pg (jH 65 Ja 1) w fun i8 w =>
  gI pg (jF 3 i8) w fun i9 w =>
  gI pg (hZ .eql 3 (.tmp 59) (.const (aDu 0)) i9 (aDu 0)) w fun l5 w =>
  mK l5
   (gI pg (oF .append #[22, 22] 22 [Cp, i2]) w fun l8 w =>
   kn pN l8 g_6 b9 Ja w)
   (gI pg (hZ .eql 3 (.tmp 59) (.const (aDu 1)) i9 (aDu 1)) w fun m0 w =>
   mK m0
    (gI pg (jH 65 Ja 2) w fun m3 w =>
    gI pg (jF 3 m3) w fun m4 w =>
    jE pg vP #[i2, m4] w fun m5 w =>
    gI pg (oF .append #[22, 22] 22 [Cp, m5]) w fun m6 w =>
    kn pN m6 g_6 b9 Ja w)
    (gI pg (jF 110 g_6) w fun j3 w =>
    jE pg Y7 #[i2, Cp, j3, xZ, KT] w fun j6 w =>
    gI pg (jZ j6 0) w fun j7 w =>
    gI pg (jZ j6 1) w fun j8 w =>
    gI pg (jZ j6 2) w fun j9 w =>
    gI pg (jQ 110 g_6 j8) w fun _u w =>
    gI pg (hZ .neq 24 (.tmp 70) (.const (aDu 0)) j9 (aDu 0)) w fun l1 w =>
    mK l1
     (gI pg (kY 110 []) w fun l2 w =>
     gI pg (jQ 110 b9 l2) w fun _u w =>
     MO pg 110 b9 w fun r1 => R (.tuple #[(.slice none 0 0), r1, (.bool false), j9]) w)
     (kn pN j7 g_6 b9 Ja w))))
theorem MM (kn : K5) (R : K1) (hn : N5 Q kn 0 1 6 9 15) (hr : HR rY R Q) (h : AX kn R (g 0) (g 1) (g 3) (g 6) (g 9) (g 12) (g 15) (g 16) w) : jO pg rH (hU 2 (gH 9 qW)) Q g w :=
 lB (l := []) h hn hr trivial
def rZ (R : K1) (pN Cp xZ g_6 b9 KT Ja IS : aDt) (w : aDs) : Prop :=
 AX (fun pN Cp g_6 b9 Ja w => qI R pN Cp g_6 b9 Ja w) R pN Cp xZ g_6 b9 KT Ja IS w
def AS (kn : K8) (R : K1) (pN Cp g_2 xZ : aDt) (w : aDs) : Prop :=
 gI pg (Ru 110 g_2) w fun g_6 w =>
 gI pg (oM 110) w fun b9 w =>
 gI pg (oF .min #[32, 32] 32 [xZ, (.int .u64 131072)]) w fun c8 w =>
 gI pg (nI 32 3 c8) w fun c9 w =>
 jE pg qZ #[pN, (aDu 3)] w fun d2 w =>
 gI pg (jZ d2 0) w fun d3 w =>
 gI pg (jZ d2 1) w fun d4 w =>
 gI pg (hZ .neq 24 (.tmp 25) (.const (aDu 0)) d4 (aDu 0)) w fun d6 w =>
 mK d6
  (gI pg (kY 110 []) w fun d7 w =>
  gI pg (jQ 110 b9 d7) w fun _u w =>
  MO pg 110 b9 w fun r1 => R (.tuple #[(.slice none 0 0), r1, (.bool false), d4]) w)
  (jE pg BH #[d3] w fun e1 w =>
  gI pg (jZ e1 0) w fun e2 w =>
  gI pg (jZ e1 1) w fun e3 w =>
  gI pg (oM 65) w fun Ja w =>
  gI pg (jQ 65 Ja e2) w fun _u w =>
  gI pg (hZ .neq 24 (.tmp 34) (.const (aDu 0)) e3 (aDu 0)) w fun e5 w =>
  mK e5
   (gI pg (kY 110 []) w fun e6 w =>
   gI pg (jQ 110 b9 e6) w fun _u w =>
   MO pg 110 b9 w fun r1 => R (.tuple #[(.slice none 0 0), r1, (.bool false), e3]) w)
   (gI pg (jH 65 Ja 2) w fun e8 w =>
   gI pg (jF 3 e8) w fun e9 w =>
   gI pg (hZ .gtr 3 jC jC e9 c9) w fun f1 w =>
   mK f1
    (gI pg (kY 110 []) w fun f2 w =>
    gI pg (jQ 110 b9 f2) w fun _u w =>
    MO pg 110 b9 w fun r1 => R (.tuple #[(.slice none 0 0), r1, (.bool false), (aDu 12)]) w)
    (gI pg (jH 65 Ja 2) w fun f3 w =>
    gI pg (jF 3 f3) w fun f4 w =>
    gI pg (jH 65 Ja 1) w fun f5 w =>
    gI pg (jF 3 f5) w fun f6 w =>
    gI pg (hZ .eql 3 (.tmp 46) (.const (aDu 1)) f6 (aDu 1)) w fun f7 w =>
    mK f7
     (kn pN Cp xZ g_6 b9 c9 Ja (aDu 1) w)
     (kn pN Cp xZ g_6 b9 c9 Ja f4 w))))
theorem NR (kn : K8) (R : K1) (hn : N8 Q kn 0 1 3 6 9 12 15 16) (hr : HR rY R Q) (h : AS kn R (g 0) (g 1) (g 2) (g 3) w) : jO pg rH (hU 9 qW) Q g w :=
 lB (l := []) h hn hr trivial
def A6 (R : K1) (pN Cp g_2 xZ : aDt) (w : aDs) : Prop :=
 AS (fun pN Cp xZ g_6 b9 KT Ja IS w => rZ R pN Cp xZ g_6 b9 KT Ja IS w) R pN Cp g_2 xZ w
theorem MY (R : K1) (hr : HR rY R Q) (h : A6 R (g 0) (g 1) (g 2) (g 3) w) : jO pg rH qW Q g w :=
 nP 9 (NR _ g w (rZ R) R (fun g w h => iZ (nP 2 (MM _ g w (qI R) R (fun g w h => iZ (NG _ g w R hr h)) hr h))) hr h)
def Kr (a0 a1 a2 a3 : aDt) (w : aDs) (R : K1) : Prop :=
 A6 R a0 a1 a2 a3 w
theorem Pj {a0 a1 a2 a3 : aDt} {w : aDs} {R : K1} (h : Kr a0 a1 a2 a3 w R) : jE pg vR #[a0, a1, a2, a3] w R := by
 refine yX (ann := rH) Tryz.f56 qW [a0, a1, a2, a3] rY 105 TryzM.mixed Tryz.func56 ?_
 exact (MY _ _ _ R (fun _ _ h => h) h)
def Fb : FA := ⟨rV, fun i => .leaf ([], []) []⟩
def Fz : List ResultVar := [.tmp 4]
noncomputable def DZ : Code := kA Tryz.f57
def zJ (R : K1) (pN Cp : aDt) (w : aDs) : Prop :=
 jE pg qZ #[pN, (aDu 4)] w fun c0 w =>
 gI pg (jZ c0 0) w fun c1 w =>
 gI pg (jZ c0 1) w fun c2 w =>
 gI pg (hZ .neq 24 (.tmp 13) (.const (aDu 0)) c2 (aDu 0)) w fun c4 w =>
 mK c4
  (R c2 w)
  (jE pg pX #[c1] w fun c7 w =>
  jE pg lA #[c7, (aDu 4)] w fun c8 w =>
  jE pg Om #[Cp] w fun d1 w =>
  gI pg (hZ .and 32 jC jC d1 (.int .u64 4294967295)) w fun d2 w =>
  gI pg (hZ .neq 32 (.tmp 19) (.tmp 22) c8 d2) w fun d3 w =>
  mK d3
   (R (aDu 13) w)
   (R (aDu 0) w))
theorem LX (R : K1) (hr : HR Fz R Q) (h : zJ R (g 0) (g 1) w) : jO pg Fb DZ Q g w :=
 lB (kn := no) (l := []) h lW hr trivial
def Js (a0 a1 : aDt) (w : aDs) (R : K1) : Prop :=
 zJ R a0 a1 w
theorem NF {a0 a1 : aDt} {w : aDs} {R : K1} (h : Js a0 a1 w R) : jE pg rV #[a0, a1] w R := by
 refine yX (ann := Fb) Tryz.f57 DZ [a0, a1] Fz 24 TryzM.mixed Tryz.func57 ?_
 exact (LX _ _ _ R (fun _ _ h => h) h)
def mL : FA := ⟨yF, fun i => .leaf ([], []) []⟩
def pF : List ResultVar := [.tmp 4]
noncomputable def mB : Code := kA Tryz.f58
def sI (R : K1)  (w : aDs) : Prop :=
 R (aDu (-1)) w
theorem JK (R : K1) (hr : HR pF R Q) (h : sI R w) : jO pg mL (gH 1 (gH 1 mB)) Q g w :=
 lB (kn := no) (l := []) h lW hr trivial
def sJ (kn : K4) (k0 : K0) (R : K1) (pN YI b7 b8 : aDt) (w : aDs) : Prop :=
 gI pg (hZ .lss 3 jC jC b8 b7) w fun b9 w =>
 mK b9
  (gI pg (jS 22 pN b8) w fun c4 w =>
  gI pg (jF 5 c4) w fun c5 w =>
  gI pg (ES YI [c5]) w fun c6 w =>
  mK c6
   (R b8 w)
   (gI pg (hZ .add 3 jC jC b8 (aDu 1)) w fun c8 w =>
   kn pN YI b7 c8 w))
  (k0 w)
theorem JD (kn : K4) (k0 : K0) (R : K1) (hn : N4 Q kn 0 1 7 8) (h0 : E0 Q k0 0) (hr : HR pF R Q) (h : sJ kn k0 R (g 0) (g 1) (g 7) (g 8) w) : jO pg mL (bI (bI (gH 1 (hU 1 (gH 1 mB))))) Q g w :=
 lB (l := [(0, fun g w => k0 w)]) h hn hr ⟨h0, trivial⟩
def wM (k0 : K0) (R : K1) (pN YI b7 b8 : aDt) (w : aDs) : Prop :=
 kO (fun (X : aDt -> K0) (t : aDt) (w : aDs) => sJ (fun _ _ _ b8 w => X b8 w) k0 R pN YI b7 t w) b8 w
theorem JJ (k0 : K0) (R : K1) (h0 : E0 Q k0 0) (hr : HR pF R Q) (h : wM k0 R (g 0) (g 1) (g 7) (g 8) w) : jO pg mL (bI (gH 1 (hU 1 (gH 1 mB)))) Q g w := by
 refine Od (fun g : Env => g 8) (fun X t w => sJ (fun _ _ _ b8 w => X b8 w) k0 R (g 0) (g 1) (g 7) t w) h (fun X g1 w1 ha hL => ?_)
 rw [<- rG 0 ha, <- rG 1 ha, <- rG 7 ha] at hL
 exact (JD _ g1 w1 (fun _ _ _ b8 w => X b8 w) k0 R (fun _ _ h => h) h0 hr hL)
def wN (kn : K0) (R : K1) (pN YI b7 b8 : aDt) (w : aDs) : Prop :=
 wM kn R pN YI b7 b8 w
def wJ (kn : K4) (pN YI : aDt) (w : aDs) : Prop :=
 gI pg (oF .len #[22] 3 [pN]) w fun b7 w =>
 kn pN YI b7 (aDu 0) w
theorem JO (kn : K4) (hn : N4 Q kn 0 1 7 8) (h : wJ kn (g 0) (g 1) w) : jO pg mL (hU 1 (hU 1 (gH 1 mB))) Q g w :=
 lB (kr := no) (l := []) h hn lW trivial
def wP (kn : K0) (R : K1) (pN YI : aDt) (w : aDs) : Prop :=
 wJ (fun pN YI b7 b8 w => wN kn R pN YI b7 b8 w) pN YI w
def wK (R : K1) (pN YI : aDt) (w : aDs) : Prop :=
 wP (fun  w => sI R w) R pN YI w
theorem JM (kn : K0) (R : K1) (hn : N0 Q kn) (hr : HR pF R Q) (h : wP kn R (g 0) (g 1) w) : jO pg mL (hU 1 (gH 1 mB)) Q g w :=
 nP 1 (JO _ g w (wN kn R) (fun g w h => iZ (Iu 0 (JJ _ g w kn R hn hr h))) h)
def wO (kn : K2) (pN YI : aDt) (w : aDs) : Prop :=
 kn pN YI w
theorem JQ (kn : K2) (hn : N2 Q kn 0 1) (h : wO kn (g 0) (g 1) w) : jO pg mL (hU 1 mB) Q g w :=
 lB (kr := no) (l := []) h hn lW trivial
def wI (R : K1) (pN YI : aDt) (w : aDs) : Prop :=
 wO (fun pN YI w => wK R pN YI w) pN YI w
theorem JN (R : K1) (hr : HR pF R Q) (h : wI R (g 0) (g 1) w) : jO pg mL mB Q g w :=
 nP 1 (JQ _ g w (wK R) (fun g w h => iZ (nP 1 (JM _ g w (fun  w => sI R w) R (fun g w h => iZ (JK _ g w R hr h)) hr h))) h)
def G7 (a0 a1 : aDt) (w : aDs) (R : K1) : Prop :=
 wI R a0 a1 w
theorem Kc {a0 a1 : aDt} {w : aDs} {R : K1} (h : G7 a0 a1 w R) : jE pg yF #[a0, a1] w R := by
 refine yX (ann := mL) Tryz.f58 mB [a0, a1] pF 19 TryzM.mixed Tryz.func58 ?_
 exact (JN _ _ _ R (fun _ _ h => h) h)
def vD : FA := ⟨pG, fun i => match Nat.beq i 1 with | true => .leaf ([], []) [(false, []), (false, []), (false, []), (false, []), (false, []), (false, []), (false, []), (false, []), (false, []), (false, []), (false, [])] | false => match Nat.beq i 7 with | true => .leaf ([6], []) [(false, []), (false, []), (false, []), (false, []), (false, []), (false, []), (true, [])] | false => .leaf ([], []) []⟩
def Ts : List ResultVar := []
noncomputable def tR : Code := kA Tryz.f59
def pP (kn : K0) (tG oD k_4 apS : aDt) (w : aDs) : Prop :=
 mK apS
  ((dr w) = (dr w) /\
  gI pg (nO tG) (dr w) fun f9 w_ => w_ = (dr w) /\
  gI pg (jH 119 f9 2) (dr w) fun i0 w_ => w_ = (dr w) /\
  gI pg (jF 116 i0) (dr w) fun i1 w_ => w_ = (dr w) /\
  gI pg (jF 146 k_4) (dr w) fun i2 w_ => w_ = (dr w) /\
  (dr w) = (dr w) /\
  gI pg (ZB 116 i1 i2 oD) (dr w) fun _u6 aAu =>
  kn aAu)
  (kn w)
theorem O3 (kn : K0) (hn : N0 Q kn) (h : pP kn (g 0) (g 1) (g 4) (g 5) w) : jO pg vD (gH 3 tR) Q g w :=
 lB (kr := no) (l := []) h hn lW trivial
def sL (kn : K4) (tG oD : aDt) (w : aDs) : Prop :=
 jE pg sU #[tG, oD] w fun c1 w =>
 gI pg (jZ c1 0) w fun c2 w =>
 gI pg (jZ c1 1) w fun c3 w =>
 gI pg (oM 146) w fun k_4 w =>
 gI pg (jQ 146 k_4 c2) w fun _u w =>
 (dr w) = (dr w) /\
 gI pg (nO tG) (dr w) fun c6 w_ => w_ = (dr w) /\
 gI pg (jH 119 c6 2) (dr w) fun c7 w_ => w_ = (dr w) /\
 gI pg (jF 116 c7) (dr w) fun c8 w_ => w_ = (dr w) /\
 gI pg (jF 146 k_4) (dr w) fun c9 w_ => w_ = (dr w) /\
 gI pg (aeT 116 c8 c9 true) (dr w) fun d0 w_ => w_ = (dr w) /\
 (dr w) = (dr w) /\
 gI pg (jZ d0 0) (dr w) fun d1 w_ => w_ = (dr w) /\
 gI pg (jZ d0 1) (dr w) fun d2 w_ => w_ = (dr w) /\
 (dr w) = (dr w) /\
 (dr w) = (dr w) /\
 gI pg (sUn .not c3) (dr w) fun d5 w =>
 Gd (kR d5 false) (fun K => K d2 w) w fun d7 w =>
 Gd (kR d5 false) (fun K => gI pg (sUn .not d7) w K) w fun d8 w =>
 gI pg (nD d5 (.bool true) d8) w fun d9 w =>
 mK d9
  (gI pg (nO tG) w fun e1 w =>
  gI pg (jH 119 e1 3) w fun e2 w =>
  gI pg (jF 117 e2) w fun e3 w =>
  gI pg (jS 117 e3 oD) w fun e5 w =>
  gI pg (jQ 3 e5 (aDu (-1))) w fun _u w =>
  kn tG oD k_4 c3 w)
  (gI pg (hZ .lss 3 jC jC d1 oD) w fun e9 w =>
  mK e9
   (gI pg (nO tG) w fun f1 w =>
   gI pg (jH 119 f1 3) w fun f2 w =>
   gI pg (jF 117 f2) w fun f3 w =>
   gI pg (jS 117 f3 oD) w fun f6 w =>
   gI pg (jQ 3 f6 d1) w fun _u w =>
   kn tG oD k_4 c3 w)
   (kn tG oD k_4 c3 w))
theorem OG (kn : K4) (hn : N4 Q kn 0 1 4 5) (h : sL kn (g 0) (g 1) w) : jO pg vD (hU 3 tR) Q g w :=
 lB (kr := no) (l := []) h hn lW trivial
def sV (kn : K0) (tG oD : aDt) (w : aDs) : Prop :=
 sL (fun tG oD k_4 apS w => pP kn tG oD k_4 apS w) tG oD w
theorem O4 (kn : K0) (hn : N0 Q kn) (h : sV kn (g 0) (g 1) w) : jO pg vD tR Q g w :=
 nP 3 (OG _ g w (pP kn) (fun g w h => iZ (O3 _ g w kn hn h)) h)
def By (a0 a1 : aDt) (w : aDs) (R : K1) : Prop :=
 sV (fun  w => R (.tuple #[]) w) a0 a1 w
theorem PO {a0 a1 : aDt} {w : aDs} {R : K1} (h : By a0 a1 w R) : jE pg pG #[a0, a1] w R := by
 refine yX (ann := vD) Tryz.f59 tR [a0, a1] Ts 54 TryzM.mixed Tryz.func59 ?_
 exact (O4 _ _ _ (fun  w => R (.tuple #[]) w) (fun _ _ h => h) h)
def kP : FA := ⟨tN, fun i => match Nat.beq i 4 with | true => .leaf ([], []) [(false, []), (false, []), (false, []), (false, []), (false, []), (false, []), (false, []), (false, []), (false, []), (false, []), (false, [])] | false => .leaf ([], []) []⟩
def vU : List ResultVar := [.tmp 4, .tmp 5]
noncomputable def kM : Code := kA Tryz.f60
def Cq (R : K1) (kK lJ : aDt) (w : aDs) : Prop :=
 R (.tuple #[kK, lJ]) w
theorem O1 (R : K1) (hr : HR vU R Q) (h : Cq R (g 10) (g 11) w) : jO pg kP (gH 1 (gH 6 (bI (gH 1 kM)))) Q g w :=
 lB (kn := no) (l := []) h lW hr trivial
def pQ (kn : K7) (tG oD nW kK lJ e5 e6 : aDt) (w : aDs) : Prop :=
 gI pg (hZ .add 3 jC jC e6 (aDu 1)) w fun i8 w =>
 kn tG oD nW kK lJ e5 i8 w
theorem Og (kn : K7) (hn : N7 Q kn 0 1 8 10 11 35 36) (h : pQ kn (g 0) (g 1) (g 8) (g 10) (g 11) (g 35) (g 36) w) : jO pg kP (gH 1 (gH 2 (bI (bI (gH 1 (hU 1 (gH 6 (bI (gH 1 kM))))))))) Q g w :=
 lB (kr := no) (l := []) h hn lW trivial
def mV (kn : K7) (k0 : K2) (tG oD nW kK lJ e5 e6 : aDt) (w : aDs) : Prop :=
 gI pg (nO tG) w fun i0 w =>
 gI pg (jH 119 i0 3) w fun i1 w =>
 gI pg (jF 117 i1) w fun i2 w =>
 gI pg (jS 117 i2 nW) w fun i4 w =>
 gI pg (jF 3 i4) w fun i5 w =>
 gI pg (hZ .lss 3 jC jC i5 (aDu 0)) w fun i7 w =>
 mK i7
  (k0 kK lJ w)
  (kn tG oD i5 kK lJ e5 e6 w)
theorem ON (kn : K7) (k0 : K2) (hn : N7 Q kn 0 1 8 10 11 35 36) (h0 : E2 Q k0 0 10 11) (h : mV kn k0 (g 0) (g 1) (g 8) (g 10) (g 11) (g 35) (g 36) w) : jO pg kP (gH 1 (bI (hU 1 (gH 2 (bI (bI (gH 1 (hU 1 (gH 6 (bI (gH 1 kM))))))))))) Q g w :=
 lB (kr := no) (l := [(0, fun g w => k0 (g 10) (g 11) w)]) h hn lW ⟨h0, trivial⟩
def qX (kn : K7) (tG oD nW kK lJ e5 e6 : aDt) (w : aDs) : Prop :=
 jE pg xB #[tG, nW, oD] w fun f1 w =>
 gI pg (hZ .gtr 3 jC jC f1 kK) w fun f4 w =>
 mK f4
  (gI pg (hZ .sub 3 jC jC oD nW) w fun f8 w =>
  kn tG oD nW f1 f8 e5 e6 w)
  (kn tG oD nW kK lJ e5 e6 w)
theorem Pr (kn : K7) (hn : N7 Q kn 0 1 8 10 11 35 36) (h : qX kn (g 0) (g 1) (g 8) (g 10) (g 11) (g 35) (g 36) w) : jO pg kP (hU 1 (bI (hU 1 (gH 2 (bI (bI (gH 1 (hU 1 (gH 6 (bI (gH 1 kM))))))))))) Q g w :=
 lB (kr := no) (l := []) h hn lW trivial
def sQ (kn : K7) (k0 : K2) (tG oD nW kK lJ e5 e6 : aDt) (w : aDs) : Prop :=
 qX (fun tG oD nW kK lJ e5 e6 w => mV kn k0 tG oD nW kK lJ e5 e6 w) tG oD nW kK lJ e5 e6 w
def qV (kn : K7) (k0 : K2) (tG oD nW kK lJ e5 e6 : aDt) (w : aDs) : Prop :=
 sQ kn k0 tG oD nW kK lJ e5 e6 w
def rA (kn : K7) (k0 : K2) (tG oD nW kK lJ e5 e6 : aDt) (w : aDs) : Prop :=
 qV (fun tG oD nW kK lJ e5 e6 w => pQ kn tG oD nW kK lJ e5 e6 w) k0 tG oD nW kK lJ e5 e6 w
theorem Ol (kn : K7) (k0 : K2) (hn : N7 Q kn 0 1 8 10 11 35 36) (h0 : E2 Q k0 0 10 11) (h : qV kn k0 (g 0) (g 1) (g 8) (g 10) (g 11) (g 35) (g 36) w) : jO pg kP (hU 1 (gH 2 (bI (bI (gH 1 (hU 1 (gH 6 (bI (gH 1 kM))))))))) Q g w :=
 Iu 1 (nP 1 (Pr _ g w (mV kn k0) (fun g w h => iZ (ON _ g w kn k0 hn h0 h)) h))
def qR (kn : K7) (k0 : K2) (tG oD nW kK lJ e5 e6 : aDt) (w : aDs) : Prop :=
 gI pg (hZ .lss 3 jC jC e6 e5) w fun e7 w =>
 mK e7
  (kn tG oD nW kK lJ e5 e6 w)
  (k0 kK lJ w)
theorem OW (kn : K7) (k0 : K2) (hn : N7 Q kn 0 1 8 10 11 35 36) (h0 : E2 Q k0 0 10 11) (h : qR kn k0 (g 0) (g 1) (g 8) (g 10) (g 11) (g 35) (g 36) w) : jO pg kP (hU 2 (bI (bI (gH 1 (hU 1 (gH 6 (bI (gH 1 kM)))))))) Q g w :=
 lB (kr := no) (l := [(0, fun g w => k0 (g 10) (g 11) w)]) h hn lW ⟨h0, trivial⟩
def pY (kn : K7) (k0 : K2) (tG oD nW kK lJ e5 e6 : aDt) (w : aDs) : Prop :=
 qR (fun tG oD nW kK lJ e5 e6 w => rA kn k0 tG oD nW kK lJ e5 e6 w) k0 tG oD nW kK lJ e5 e6 w
def vC (k0 : K2) (tG oD nW kK lJ e5 e6 : aDt) (w : aDs) : Prop :=
 kO (fun (X : (aDt × aDt × aDt × aDt) -> K0) (t : aDt × aDt × aDt × aDt) (w : aDs) => pY (fun _ _ nW kK lJ _ e6 w => X (nW, kK, lJ, e6) w) k0 tG oD t.1 t.2.1 t.2.2.1 e5 t.2.2.2 w) (nW, kK, lJ, e6) w
theorem Ok (kn : K7) (k0 : K2) (hn : N7 Q kn 0 1 8 10 11 35 36) (h0 : E2 Q k0 0 10 11) (h : pY kn k0 (g 0) (g 1) (g 8) (g 10) (g 11) (g 35) (g 36) w) : jO pg kP (bI (bI (gH 1 (hU 1 (gH 6 (bI (gH 1 kM))))))) Q g w :=
 nP 2 (OW _ g w (rA kn k0) k0 (fun g w h => iZ (nP 1 (Ol _ g w (pQ kn) k0 (fun g w h => iZ (Og _ g w kn hn h)) h0 h))) h0 h)
theorem ML (k0 : K2) (h0 : E2 Q k0 0 10 11) (h : vC k0 (g 0) (g 1) (g 8) (g 10) (g 11) (g 35) (g 36) w) : jO pg kP (bI (gH 1 (hU 1 (gH 6 (bI (gH 1 kM)))))) Q g w := by
 refine Od (fun g : Env => (g 8, g 10, g 11, g 36)) (fun X t w => pY (fun _ _ nW kK lJ _ e6 w => X (nW, kK, lJ, e6) w) k0 (g 0) (g 1) t.1 t.2.1 t.2.2.1 (g 35) t.2.2.2 w) h (fun X g1 w1 ha hL => ?_)
 rw [<- rG 0 ha, <- rG 1 ha, <- rG 35 ha] at hL
 exact (Ok _ g1 w1 (fun _ _ nW kK lJ _ e6 w => X (nW, kK, lJ, e6) w) k0 (fun _ _ h => h) h0 hL)
def GS (kn : K2) (tG oD nW kK lJ e5 e6 : aDt) (w : aDs) : Prop :=
 vC kn tG oD nW kK lJ e5 e6 w
def Bl (kn : K7) (tG oD nW kK lJ : aDt) (w : aDs) : Prop :=
 gI pg (nO tG) w fun e3 w =>
 gI pg (jH 119 e3 4) w fun e4 w =>
 gI pg (jF 3 e4) w fun e5 w =>
 kn tG oD nW kK lJ e5 (aDu 0) w
theorem Nn (kn : K7) (hn : N7 Q kn 0 1 8 10 11 35 36) (h : Bl kn (g 0) (g 1) (g 8) (g 10) (g 11) w) : jO pg kP (hU 1 (hU 1 (gH 6 (bI (gH 1 kM))))) Q g w :=
 lB (kr := no) (l := []) h hn lW trivial
def Bq (kn : K2) (tG oD nW kK lJ : aDt) (w : aDs) : Prop :=
 Bl (fun tG oD nW kK lJ e5 e6 w => GS kn tG oD nW kK lJ e5 e6 w) tG oD nW kK lJ w
def Bi (R : K1) (tG oD nW kK lJ : aDt) (w : aDs) : Prop :=
 Bq (fun kK lJ w => Cq R kK lJ w) tG oD nW kK lJ w
theorem M7 (kn : K2) (hn : N2 Q kn 10 11) (h : Bq kn (g 0) (g 1) (g 8) (g 10) (g 11) w) : jO pg kP (hU 1 (gH 6 (bI (gH 1 kM)))) Q g w :=
 nP 1 (Nn _ g w (GS kn) (fun g w h => iZ (Iu 0 (ML _ g w kn hn h))) h)
def A9 (kn : K5) (R : K1) (tG oD : aDt) (w : aDs) : Prop :=
 jE pg sU #[tG, oD] w fun c6 w =>
 gI pg (jZ c6 0) w fun c7 w =>
 gI pg (jZ c6 1) w fun c8 w =>
 gI pg (oM 146) w fun k_6 w =>
 gI pg (jQ 146 k_6 c7) w fun _u w =>
 gI pg (sUn .not c8) w fun d0 w =>
 mK d0
  (R (.tuple #[(aDu 0), (aDu 0)]) w)
  ((dr w) = (dr w) /\
  gI pg (nO tG) (dr w) fun d3 w_ => w_ = (dr w) /\
  gI pg (jH 119 d3 2) (dr w) fun d4 w_ => w_ = (dr w) /\
  gI pg (jF 116 d4) (dr w) fun d5 w_ => w_ = (dr w) /\
  gI pg (jF 146 k_6) (dr w) fun d6 w_ => w_ = (dr w) /\
  gI pg (aeT 116 d5 d6 true) (dr w) fun d7 w_ => w_ = (dr w) /\
  (dr w) = (dr w) /\
  gI pg (jZ d7 0) (dr w) fun d8 w_ => w_ = (dr w) /\
  gI pg (jZ d7 1) (dr w) fun d9 w_ => w_ = (dr w) /\
  (dr w) = (dr w) /\
  (dr w) = (dr w) /\
  gI pg (sUn .not d9) (dr w) fun e1 w =>
  mK e1
   (R (.tuple #[(aDu 0), (aDu 0)]) w)
   (kn tG oD d8 (aDu 0) (aDu 0) w))
theorem NY (kn : K5) (R : K1) (hn : N5 Q kn 0 1 8 10 11) (hr : HR vU R Q) (h : A9 kn R (g 0) (g 1) w) : jO pg kP (hU 6 (bI (gH 1 kM))) Q g w :=
 lB (l := []) h hn hr trivial
def G4 (R : K1) (tG oD : aDt) (w : aDs) : Prop :=
 A9 (fun tG oD nW kK lJ w => Bi R tG oD nW kK lJ w) R tG oD w
def Bb (R : K1) (tG oD : aDt) (w : aDs) : Prop :=
 G4 R tG oD w
def Be (kn : K2) (tG oD : aDt) (w : aDs) : Prop :=
 kn tG oD w
theorem Nj (kn : K2) (hn : N2 Q kn 0 1) (h : Be kn (g 0) (g 1) w) : jO pg kP (hU 1 kM) Q g w :=
 lB (kr := no) (l := []) h hn lW trivial
def Bj (R : K1) (tG oD : aDt) (w : aDs) : Prop :=
 Be (fun tG oD w => Bb R tG oD w) tG oD w
theorem NA (R : K1) (hr : HR vU R Q) (h : Bj R (g 0) (g 1) w) : jO pg kP kM Q g w :=
 nP 1 (Nj _ g w (Bb R) (fun g w h => iZ (scD (nP 6 (NY _ g w (Bi R) R (fun g w h => iZ (nP 1 (M7 _ g w (Cq R) (fun g w h => iZ (O1 _ g w R hr h)) h))) hr h)))) h)
def Mu (a0 a1 : aDt) (w : aDs) (R : K1) : Prop :=
 Bj R a0 a1 w
theorem PC {a0 a1 : aDt} {w : aDs} {R : K1} (h : Mu a0 a1 w R) : jE pg tN #[a0, a1] w R := by
 refine yX (ann := kP) Tryz.f60 kM [a0, a1] vU 61 TryzM.mixed Tryz.func60 ?_
 exact (NA _ _ _ R (fun _ _ h => h) h)
def Pc : FA := ⟨Gy, fun i => .leaf ([], []) []⟩
def Q5 : List ResultVar := [.tmp 2, .tmp 3]
noncomputable def Mm : Code := kA Tryz.f63
def Jm (R : K1) (lK : aDt) (w : aDs) : Prop :=
 gI pg (oF .len #[22] 3 [lK]) w fun b5 w =>
 gI pg (hZ .gtr 3 jC jC b5 (aDu 131072)) w fun b6 w =>
 mK b6
  (R (.tuple #[(.slice none 0 0), (aDu 1)]) w)
  (gI pg (oF .len #[22] 3 [lK]) w fun b8 w =>
  jE pg xR #[(aDu 0), b8] w fun b9 w =>
  gI pg (oF .append #[22, 22] 22 [b9, lK]) w fun c1 w =>
  R (.tuple #[c1, (aDu 0)]) w)
theorem Vy (R : K1) (hr : HR Q5 R Q) (h : Jm R (g 0) w) : jO pg Pc Mm Q g w :=
 lB (kn := no) (l := []) h lW hr trivial
def WA (a0 : aDt) (w : aDs) (R : K1) : Prop :=
 Jm R a0 w
theorem Wj {a0 : aDt} {w : aDs} {R : K1} (h : WA a0 w R) : jE pg Gy #[a0] w R := by
 refine yX (ann := Pc) Tryz.f63 Mm [a0] Q5 12 TryzM.mixed Tryz.func63 ?_
 exact (Vy _ _ _ R (fun _ _ h => h) h)
def IV : FA := ⟨qQ, fun i => .leaf ([], []) []⟩
def TP : List ResultVar := []
noncomputable def GW : Code := kA Tryz.f64
def xE (kn : K0) (nQ e_1 b2 : aDt) (w : aDs) : Prop :=
 gI pg (hZ .eql 24 (.tmp 5) (.const (aDu 0)) e_1 (aDu 0)) w fun b6 w =>
 mK b6
  (gI pg (jF 22 b2) w fun b7 w =>
  gI pg (lT 137 2 [(0, b7), (1, nQ)]) w fun b9 w =>
  jE pg BV #[b9] w fun c0 w =>
  gI pg (jQ 22 b2 c0) w fun _u w =>
  kn w)
  (kn w)
theorem PR (kn : K0) (hn : N0 Q kn) (h : xE kn (g 0) (g 1) (g 2) w) : jO pg IV GW Q g w :=
 lB (kr := no) (l := []) h hn lW trivial
def Hk (a0 a1 a2 : aDt) (w : aDs) (R : K1) : Prop :=
 xE (fun  w => R (.tuple #[]) w) a0 a1 a2 w
theorem G3 {a0 a1 a2 : aDt} {w : aDs} {R : K1} (h : Hk a0 a1 a2 w R) : jE pg qQ #[a0, a1, a2] w R := by
 refine yX (ann := IV) Tryz.f64 GW [a0, a1, a2] TP 11 TryzM.mixed Tryz.func64 ?_
 exact (PR _ _ _ (fun  w => R (.tuple #[]) w) (fun _ _ h => h) h)
def Jv : FA := ⟨BV, fun i => .leaf ([], []) []⟩
def KJ : List ResultVar := [.tmp 2]
noncomputable def IC : Code := kA Tryz.f65
def Ez (R : K1) (lK : aDt) (w : aDs) : Prop :=
 jE pg A4 #[lK, (.func (.func 83) #[] #[])] w fun b4 w =>
 R b4 w
theorem RY (R : K1) (hr : HR KJ R Q) (h : Ez R (g 0) w) : jO pg Jv IC Q g w :=
 lB (kn := no) (l := []) h lW hr trivial
def QR (a0 : aDt) (w : aDs) (R : K1) : Prop :=
 Ez R a0 w
theorem Sg {a0 : aDt} {w : aDs} {R : K1} (h : QR a0 w R) : jE pg BV #[a0] w R := by
 refine yX (ann := Jv) Tryz.f65 IC [a0] KJ 5 TryzM.mixed Tryz.func65 ?_
 exact (RY _ _ _ R (fun _ _ h => h) h)
def Mw : FA := ⟨Ec, fun i => .leaf ([], []) []⟩
def OJ : List ResultVar := [.tmp 4, .tmp 5]
noncomputable def Lw : Code := kA Tryz.f66
def H7 (R : K1) (Xw G2 : aDt) (w : aDs) : Prop :=
 gI pg (hZ .lss 3 jC jC G2 (aDu 0)) w fun b7 w =>
 Gd (kR b7 false) (fun K => K G2 w) w fun b9 w =>
 Gd (kR b7 false) (fun K => gI pg (hZ .gtr 3 jC jC b9 (aDu 131072)) w K) w fun c0 w =>
 gI pg (nD b7 (.bool true) c0) w fun c1 w =>
 mK c1
  (R (.tuple #[(.slice none 0 0), (aDu 1)]) w)
  (jE pg xR #[(aDu 1), G2] w fun c3 w =>
  gI pg (lT 22 1 [(0, Xw)]) w fun c5 w =>
  gI pg (oF .append #[22, 22] 22 [c3, c5]) w fun c6 w =>
  R (.tuple #[c6, (aDu 0)]) w)
theorem Ut (R : K1) (hr : HR OJ R Q) (h : H7 R (g 0) (g 1) w) : jO pg Mw Lw Q g w :=
 lB (kn := no) (l := []) h lW hr trivial
def UW (a0 a1 : aDt) (w : aDs) (R : K1) : Prop :=
 H7 R a0 a1 w
theorem U6 {a0 a1 : aDt} {w : aDs} {R : K1} (h : UW a0 a1 w R) : jE pg Ec #[a0, a1] w R := by
 refine yX (ann := Mw) Tryz.f66 Lw [a0, a1] OJ 17 TryzM.mixed Tryz.func66 ?_
 exact (Ut _ _ _ R (fun _ _ h => h) h)
def lF : FA := ⟨JP, fun i => .leaf ([], []) []⟩
def Ix : List ResultVar := [.tmp 2, .tmp 3]
noncomputable def kS : Code := kA Tryz.f67
def Iz (R : K1) (lL : aDt) (w : aDs) : Prop :=
 R (.tuple #[lL, (aDu 0)]) w
theorem XS (R : K1) (hr : HR Ix R Q) (h : Iz R (g 11) w) : jO pg lF (gH 1 (gH 4 (gH 1 (gH 3 kS)))) Q g w :=
 lB (kn := no) (l := []) h lW hr trivial
def DL (kn : K5) (uO lL i1 i2 i3 : aDt) (w : aDs) : Prop :=
 gI pg (hZ .add 3 jC jC i3 (aDu 1)) w fun j8 w =>
 kn uO lL i1 i2 j8 w
theorem Yw (kn : K5) (hn : N5 Q kn 10 11 51 52 53) (h : DL kn (g 10) (g 11) (g 51) (g 52) (g 53) w) : jO pg lF (gH 1 (gH 2 (bI (bI (gH 1 (hU 1 (gH 4 (gH 1 (gH 3 kS))))))))) Q g w :=
 lB (kr := no) (l := []) h hn lW trivial
def D0 (kn : K5) (uO lL apU i1 i2 i3 : aDt) (w : aDs) : Prop :=
 gI pg (nI 3 5 apU) w fun j5 w =>
 gI pg (lT 22 1 [(0, j5)]) w fun j6 w =>
 gI pg (oF .append #[22, 22] 22 [lL, j6]) w fun j7 w =>
 kn uO j7 i1 i2 i3 w
theorem X1 (kn : K5) (hn : N5 Q kn 10 11 51 52 53) (h : D0 kn (g 10) (g 11) (g 14) (g 51) (g 52) (g 53) w) : jO pg lF (gH 3 (bI (hU 1 (gH 2 (bI (bI (gH 1 (hU 1 (gH 4 (gH 1 (gH 3 kS))))))))))) Q g w :=
 lB (kr := no) (l := []) h hn lW trivial
def M3 (kn : K6) (uO lL i1 i2 i3 : aDt) (w : aDs) : Prop :=
 gI pg (jS 117 i1 i3) w fun i5 w =>
 gI pg (jF 3 i5) w fun i6 w =>
 gI pg (hZ .gtr 3 jC jC i6 (aDu 0)) w fun i8 w =>
 mK i8
  (gI pg (hZ .add 3 jC jC uO (aDu 1)) w fun j0 w =>
  gI pg (hZ .sub 3 jC jC j0 i6) w fun j2 w =>
  kn uO lL j2 i1 i2 i3 w)
  (kn uO lL (aDu 0) i1 i2 i3 w)
theorem Yc (kn : K6) (hn : N6 Q kn 10 11 14 51 52 53) (h : M3 kn (g 10) (g 11) (g 51) (g 52) (g 53) w) : jO pg lF (hU 3 (bI (hU 1 (gH 2 (bI (bI (gH 1 (hU 1 (gH 4 (gH 1 (gH 3 kS))))))))))) Q g w :=
 lB (kr := no) (l := []) h hn lW trivial
def UM (kn : K5) (uO lL i1 i2 i3 : aDt) (w : aDs) : Prop :=
 M3 (fun uO lL apU i1 i2 i3 w => D0 kn uO lL apU i1 i2 i3 w) uO lL i1 i2 i3 w
def MU (kn : K5) (uO lL i1 i2 i3 : aDt) (w : aDs) : Prop :=
 UM kn uO lL i1 i2 i3 w
def Nq (kn : K5) (uO lL i1 i2 i3 : aDt) (w : aDs) : Prop :=
 MU (fun uO lL i1 i2 i3 w => DL kn uO lL i1 i2 i3 w) uO lL i1 i2 i3 w
theorem YD (kn : K5) (hn : N5 Q kn 10 11 51 52 53) (h : MU kn (g 10) (g 11) (g 51) (g 52) (g 53) w) : jO pg lF (hU 1 (gH 2 (bI (bI (gH 1 (hU 1 (gH 4 (gH 1 (gH 3 kS))))))))) Q g w :=
 Iu 3 (nP 3 (Yc _ g w (D0 kn) (fun g w h => iZ (X1 _ g w kn hn h)) h))
def MQ (kn : K5) (k2 : K1) (uO lL i1 i2 i3 : aDt) (w : aDs) : Prop :=
 gI pg (hZ .lss 3 jC jC i3 i2) w fun i4 w =>
 mK i4
  (kn uO lL i1 i2 i3 w)
  (k2 lL w)
theorem Yl (kn : K5) (k2 : K1) (hn : N5 Q kn 10 11 51 52 53) (h2 : E1 Q k2 2 11) (h : MQ kn k2 (g 10) (g 11) (g 51) (g 52) (g 53) w) : jO pg lF (hU 2 (bI (bI (gH 1 (hU 1 (gH 4 (gH 1 (gH 3 kS)))))))) Q g w :=
 lB (kr := no) (l := [(2, fun g w => k2 (g 11) w)]) h hn lW ⟨h2, trivial⟩
def Ih (kn : K5) (k2 : K1) (uO lL i1 i2 i3 : aDt) (w : aDs) : Prop :=
 MQ (fun uO lL i1 i2 i3 w => Nq kn uO lL i1 i2 i3 w) k2 uO lL i1 i2 i3 w
def KK (k2 : K1) (uO lL i1 i2 i3 : aDt) (w : aDs) : Prop :=
 kO (fun (X : (aDt × aDt) -> K0) (t : aDt × aDt) (w : aDs) => Ih (fun _ lL _ _ i3 w => X (lL, i3) w) k2 uO t.1 i1 i2 t.2 w) (lL, i3) w
theorem XU (kn : K5) (k2 : K1) (hn : N5 Q kn 10 11 51 52 53) (h2 : E1 Q k2 2 11) (h : Ih kn k2 (g 10) (g 11) (g 51) (g 52) (g 53) w) : jO pg lF (bI (bI (gH 1 (hU 1 (gH 4 (gH 1 (gH 3 kS))))))) Q g w :=
 nP 2 (Yl _ g w (Nq kn) k2 (fun g w h => iZ (nP 1 (YD _ g w (DL kn) (fun g w h => iZ (Yw _ g w kn hn h)) h))) h2 h)
theorem Xg (k2 : K1) (h2 : E1 Q k2 2 11) (h : KK k2 (g 10) (g 11) (g 51) (g 52) (g 53) w) : jO pg lF (bI (gH 1 (hU 1 (gH 4 (gH 1 (gH 3 kS)))))) Q g w := by
 refine Od (fun g : Env => (g 11, g 53)) (fun X t w => Ih (fun _ lL _ _ i3 w => X (lL, i3) w) k2 (g 10) t.1 (g 51) (g 52) t.2 w) h (fun X g1 w1 ha hL => ?_)
 rw [<- rG 10 ha, <- rG 51 ha, <- rG 52 ha] at hL
 exact (XU _ g1 w1 (fun _ lL _ _ i3 w => X (lL, i3) w) k2 (fun _ _ h => h) h2 hL)
def Ki (kn : K1) (uO lL i1 i2 i3 : aDt) (w : aDs) : Prop :=
 KK kn uO lL i1 i2 i3 w
def Lg (kn : K5) (l_9 uO lL : aDt) (w : aDs) : Prop :=
 gI pg (oF .len #[117] 3 [l_9]) w fun i2 w =>
 kn uO lL l_9 i2 (aDu 0) w
theorem Xj (kn : K5) (hn : N5 Q kn 10 11 51 52 53) (h : Lg kn (g 9) (g 10) (g 11) w) : jO pg lF (hU 1 (hU 1 (gH 4 (gH 1 (gH 3 kS))))) Q g w :=
 lB (kr := no) (l := []) h hn lW trivial
def J0 (kn : K1) (l_9 uO lL : aDt) (w : aDs) : Prop :=
 Lg (fun uO lL i1 i2 i3 w => Ki kn uO lL i1 i2 i3 w) l_9 uO lL w
def LD (R : K1) (l_9 uO lL : aDt) (w : aDs) : Prop :=
 J0 (fun lL w => Iz R lL w) l_9 uO lL w
theorem Xt (kn : K1) (hn : N1 Q kn 11) (h : J0 kn (g 9) (g 10) (g 11) w) : jO pg lF (hU 1 (gH 4 (gH 1 (gH 3 kS)))) Q g w :=
 nP 1 (Xj _ g w (Ki kn) (fun g w h => iZ (Iu 2 (Xg _ g w kn hn h))) h)
def Lr (kn : K3) (R : K1) (iD lC b5 nT : aDt) (w : aDs) : Prop :=
 gI pg (oF .len #[128] 3 [iD]) w fun e3 w =>
 gI pg (hZ .gtr 3 jC jC e3 (aDu 256)) w fun e4 w =>
 Gd (kR e4 false) (fun K => K b5 w) w fun e6 w =>
 Gd (kR e4 false) (fun K => gI pg (hZ .lss 3 jC jC e6 (aDu 2)) w K) w fun e7 w =>
 gI pg (nD e4 (.bool true) e7) w fun e8 w =>
 Gd (kR e8 false) (fun K => K lC w) w fun f0 w =>
 Gd (kR e8 false) (fun K => gI pg (hZ .gtr 32 jC jC f0 (.int .u64 2147483647)) w K) w fun f1 w =>
 gI pg (nD e8 (.bool true) f1) w fun f2 w =>
 mK f2
  (R (.tuple #[(.slice none 0 0), (aDu 1)]) w)
  (gI pg (hZ .add 3 jC jC nT (aDu 1)) w fun f5 w =>
  gI pg (lP 128 iD none (some f5) none) w fun f6 w =>
  jE pg BJ #[f6, lC] w fun f8 w =>
  jE pg BA #[f8] w fun i0 w =>
  kn f8 i0 (.slice none 0 0) w)
theorem Xb (kn : K3) (R : K1) (hn : N3 Q kn 9 10 11) (hr : HR Ix R Q) (h : Lr kn R (g 0) (g 4) (g 5) (g 6) w) : jO pg lF (hU 4 (gH 1 (gH 3 kS))) Q g w :=
 lB (l := []) h hn hr trivial
def GA (R : K1) (iD lC b5 nT : aDt) (w : aDs) : Prop :=
 Lr (fun l_9 uO lL w => LD R l_9 uO lL w) R iD lC b5 nT w
def Cf (kn : K7) (iD lC b5 nT c5 c6 c7 : aDt) (w : aDs) : Prop :=
 gI pg (hZ .add 3 jC jC c7 (aDu 1)) w fun e1 w =>
 kn iD lC b5 nT c5 c6 e1 w
theorem Xk (kn : K7) (hn : N7 Q kn 0 4 5 6 15 16 17) (h : Cf kn (g 0) (g 4) (g 5) (g 6) (g 15) (g 16) (g 17) w) : jO pg lF (gH 3 (bI (bI (gH 1 (hU 1 (gH 3 kS)))))) Q g w :=
 lB (kr := no) (l := []) h hn lW trivial
def Kj (kn : K7) (k0 : K4) (iD lC b5 nT c5 c6 c7 : aDt) (w : aDs) : Prop :=
 gI pg (hZ .lss 3 jC jC c7 c6) w fun c8 w =>
 mK c8
  (gI pg (jS 128 c5 c7) w fun d0 w =>
  gI pg (jF 38 d0) w fun d1 w =>
  gI pg (nI 38 32 d1) w fun d4 w =>
  gI pg (hZ .add 32 jC jC lC d4) w fun d5 w =>
  gI pg (hZ .gtr 38 jC jC d1 (.int .u32 0)) w fun d7 w =>
  mK d7
   (gI pg (hZ .add 3 jC jC b5 (aDu 1)) w fun d9 w =>
   kn iD d5 d9 c7 c5 c6 c7 w)
   (kn iD d5 b5 nT c5 c6 c7 w))
  (k0 iD lC b5 nT w)
theorem V9 (kn : K7) (k0 : K4) (hn : N7 Q kn 0 4 5 6 15 16 17) (h0 : E4 Q k0 0 0 4 5 6) (h : Kj kn k0 (g 0) (g 4) (g 5) (g 6) (g 15) (g 16) (g 17) w) : jO pg lF (hU 3 (bI (bI (gH 1 (hU 1 (gH 3 kS)))))) Q g w :=
 lB (kr := no) (l := [(0, fun g w => k0 (g 0) (g 4) (g 5) (g 6) w)]) h hn lW ⟨h0, trivial⟩
def FT (kn : K7) (k0 : K4) (iD lC b5 nT c5 c6 c7 : aDt) (w : aDs) : Prop :=
 Kj (fun iD lC b5 nT c5 c6 c7 w => Cf kn iD lC b5 nT c5 c6 c7 w) k0 iD lC b5 nT c5 c6 c7 w
def JW (k0 : K4) (iD lC b5 nT c5 c6 c7 : aDt) (w : aDs) : Prop :=
 kO (fun (X : (aDt × aDt × aDt × aDt) -> K0) (t : aDt × aDt × aDt × aDt) (w : aDs) => FT (fun _ lC b5 nT _ _ c7 w => X (lC, b5, nT, c7) w) k0 iD t.1 t.2.1 t.2.2.1 c5 c6 t.2.2.2 w) (lC, b5, nT, c7) w
theorem Xc (kn : K7) (k0 : K4) (hn : N7 Q kn 0 4 5 6 15 16 17) (h0 : E4 Q k0 0 0 4 5 6) (h : FT kn k0 (g 0) (g 4) (g 5) (g 6) (g 15) (g 16) (g 17) w) : jO pg lF (bI (bI (gH 1 (hU 1 (gH 3 kS))))) Q g w :=
 nP 3 (V9 _ g w (Cf kn) k0 (fun g w h => iZ (Xk _ g w kn hn h)) h0 h)
theorem Wb (k0 : K4) (h0 : E4 Q k0 0 0 4 5 6) (h : JW k0 (g 0) (g 4) (g 5) (g 6) (g 15) (g 16) (g 17) w) : jO pg lF (bI (gH 1 (hU 1 (gH 3 kS)))) Q g w := by
 refine Od (fun g : Env => (g 4, g 5, g 6, g 17)) (fun X t w => FT (fun _ lC b5 nT _ _ c7 w => X (lC, b5, nT, c7) w) k0 (g 0) t.1 t.2.1 t.2.2.1 (g 15) (g 16) t.2.2.2 w) h (fun X g1 w1 ha hL => ?_)
 rw [<- rG 0 ha, <- rG 15 ha, <- rG 16 ha] at hL
 exact (Xc _ g1 w1 (fun _ lC b5 nT _ _ c7 w => X (lC, b5, nT, c7) w) k0 (fun _ _ h => h) h0 hL)
def Ld (kn : K4) (iD lC b5 nT c5 c6 c7 : aDt) (w : aDs) : Prop :=
 JW kn iD lC b5 nT c5 c6 c7 w
def J9 (kn : K7) (iD lC b5 nT : aDt) (w : aDs) : Prop :=
 gI pg (oF .len #[128] 3 [iD]) w fun c6 w =>
 kn iD lC b5 nT iD c6 (aDu 0) w
theorem W0 (kn : K7) (hn : N7 Q kn 0 4 5 6 15 16 17) (h : J9 kn (g 0) (g 4) (g 5) (g 6) w) : jO pg lF (hU 1 (hU 1 (gH 3 kS))) Q g w :=
 lB (kr := no) (l := []) h hn lW trivial
def KF (kn : K4) (iD lC b5 nT : aDt) (w : aDs) : Prop :=
 J9 (fun iD lC b5 nT c5 c6 c7 w => Ld kn iD lC b5 nT c5 c6 c7 w) iD lC b5 nT w
def Gm (R : K1) (iD lC b5 nT : aDt) (w : aDs) : Prop :=
 KF (fun iD lC b5 nT w => GA R iD lC b5 nT w) iD lC b5 nT w
theorem Wm (kn : K4) (hn : N4 Q kn 0 4 5 6) (h : KF kn (g 0) (g 4) (g 5) (g 6) w) : jO pg lF (hU 1 (gH 3 kS)) Q g w :=
 nP 1 (W0 _ g w (Ld kn) (fun g w h => iZ (Iu 0 (Wb _ g w kn hn h))) h)
def JV (kn : K4) (iD : aDt) (w : aDs) : Prop :=
 kn iD (.int .u64 0) (aDu 0) (aDu 0) w
theorem Wi (kn : K4) (hn : N4 Q kn 0 4 5 6) (h : JV kn (g 0) w) : jO pg lF (hU 3 kS) Q g w :=
 lB (kr := no) (l := []) h hn lW trivial
def Ly (R : K1) (iD : aDt) (w : aDs) : Prop :=
 JV (fun iD lC b5 nT w => Gm R iD lC b5 nT w) iD w
theorem Wx (R : K1) (hr : HR Ix R Q) (h : Ly R (g 0) w) : jO pg lF kS Q g w :=
 nP 3 (Wi _ g w (Gm R) (fun g w h => iZ (nP 1 (Wm _ g w (GA R) (fun g w h => iZ (nP 4 (Xb _ g w (LD R) R (fun g w h => iZ (nP 1 (Xt _ g w (Iz R) (fun g w h => iZ (XS _ g w R hr h)) h))) hr h))) h))) h)
def aaR (a0 : aDt) (w : aDs) (R : K1) : Prop :=
 Ly R a0 w
theorem Zo {a0 : aDt} {w : aDs} {R : K1} (h : aaR a0 w R) : jE pg JP #[a0] w R := by
 refine yX (ann := lF) Tryz.f67 kS [a0] Ix 70 TryzM.mixed Tryz.func67 ?_
 exact (Wx _ _ _ R (fun _ _ h => h) h)
def tK : FA := ⟨Bx, fun i => .leaf ([], []) []⟩
def uR : List ResultVar := [.tmp 6, .tmp 7]
noncomputable def sP : Code := kA Tryz.f68
def sE (R : K1) (mX Dt M0 Wd WO Xf : aDt) (w : aDs) : Prop :=
 jE pg oY #[] w fun l5 w =>
 gI pg (hZ .shl 3 jC jC Wd (.int .u64 2)) w fun l9 w =>
 gI pg (hZ .or 3 jC jC Dt l9) w fun m0 w =>
 gI pg (oF .len #[22] 3 [mX]) w fun m2 w =>
 gI pg (hZ .shl 3 jC jC m2 (.int .u64 4)) w fun m3 w =>
 gI pg (hZ .or 3 jC jC m0 m3) w fun m4 w =>
 gI pg (nI 3 32 m4) w fun m5 w =>
 gI pg (oF .len #[22] 3 [M0]) w fun m7 w =>
 gI pg (nI 3 32 m7) w fun m8 w =>
 gI pg (hZ .add 3 jC jC (aDu 4) WO) w fun n0 w =>
 gI pg (hZ .shl 32 jC jC m8 n0) w fun n1 w =>
 gI pg (hZ .or 32 jC jC m5 n1) w fun n2 w =>
 jE pg jR #[l5, n2, Xf] w fun n4 w =>
 jE pg pK #[l5, M0] w fun n7 w =>
 jE pg oA #[l5] w fun n9 w =>
 R (.tuple #[n9, (aDu 0)]) w
theorem R6 (R : K1) (hr : HR uR R Q) (h : sE R (g 0) (g 8) (g 9) (g 14) (g 15) (g 16) w) : jO pg tK (gH 6 (gH 5 sP)) Q g w :=
 lB (kn := no) (l := []) h lW hr trivial
def EG (kn : K6) (R : K1) (mX XG Dt M0 : aDt) (w : aDs) : Prop :=
 jE pg xC #[XG, mX] w fun f0 w =>
 gI pg (jZ f0 0) w fun f1 w =>
 gI pg (jZ f0 1) w fun f2 w =>
 gI pg (hZ .neq 24 (.tmp 43) (.const (aDu 0)) f2 (aDu 0)) w fun f4 w =>
 mK f4
  (R (.tuple #[(.slice none 0 0), f2]) w)
  (gI pg (oF .append #[22, 22] 22 [M0, f1]) w fun f8 w =>
  gI pg (oF .len #[22] 3 [f8]) w fun i0 w =>
  gI pg (hZ .geq 3 jC jC i0 (aDu 262144)) w fun i1 w =>
  mK i1
   (R (.tuple #[(.slice none 0 0), (aDu 1)]) w)
   (gI pg (oF .len #[22] 3 [mX]) w fun i3 w =>
   gI pg (oF .len #[22] 3 [f8]) w fun i5 w =>
   gI pg (oF .max #[3, 3] 3 [i3, i5]) w fun i6 w =>
   gI pg (oF .len #[22] 3 [mX]) w fun i9 w =>
   gI pg (hZ .lss 3 jC jC i9 (aDu 256)) w fun j0 w =>
   Gd (kR j0 true) (fun K => K i6 w) w fun j2 w =>
   Gd (kR j0 true) (fun K => gI pg (hZ .lss 3 jC jC j2 (aDu 1024)) w K) w fun j3 w =>
   gI pg (nD j0 j3 (.bool false)) w fun j4 w =>
   mK j4
    (kn mX Dt f8 (aDu 0) (aDu 10) (aDu 3) w)
    (gI pg (oF .len #[22] 3 [mX]) w fun j7 w =>
    gI pg (hZ .lss 3 jC jC j7 (aDu 256)) w fun j8 w =>
    mK j8
     (R (.tuple #[(.slice none 0 0), (aDu 1)]) w)
     (gI pg (hZ .lss 3 jC jC i6 (aDu 1024)) w fun l1 w =>
     mK l1
      (kn mX Dt f8 (aDu 1) (aDu 10) (aDu 3) w)
      (gI pg (hZ .lss 3 jC jC i6 (aDu 16384)) w fun l4 w =>
      mK l4
       (kn mX Dt f8 (aDu 2) (aDu 14) (aDu 4) w)
       (kn mX Dt f8 (aDu 3) (aDu 18) (aDu 5) w))))))
theorem RX (kn : K6) (R : K1) (hn : N6 Q kn 0 8 9 14 15 16) (hr : HR uR R Q) (h : EG kn R (g 0) (g 1) (g 8) (g 9) w) : jO pg tK (hU 6 (gH 5 sP)) Q g w :=
 lB (l := []) h hn hr trivial
def Ak (R : K1) (mX XG Dt M0 : aDt) (w : aDs) : Prop :=
 EG (fun mX Dt M0 Wd WO Xf w => sE R mX Dt M0 Wd WO Xf w) R mX XG Dt M0 w
def Es (kn : K4) (R : K1) (mX XG adI : aDt) (w : aDs) : Prop :=
 gI pg (oF .len #[22] 3 [mX]) w fun d0 w =>
 gI pg (hZ .eql 3 (.tmp 20) (.const (aDu 0)) d0 (aDu 0)) w fun d1 w =>
 Gd (kR d1 false) (fun K => K mX w) w fun d3 w =>
 Gd (kR d1 false) (fun K => gI pg (oF .len #[22] 3 [d3]) w K) w fun d4 w =>
 Gd (kR d1 false) (fun K => gI pg (hZ .gtr 3 jC jC d4 (aDu 131072)) w K) w fun d5 w =>
 gI pg (nD d1 (.bool true) d5) w fun d6 w =>
 mK d6
  (R (.tuple #[(.slice none 0 0), (aDu 1)]) w)
  (mK adI
   (jE pg AN #[XG] w fun e0 w =>
   gI pg (jZ e0 0) w fun e1 w =>
   gI pg (jZ e0 1) w fun e2 w =>
   gI pg (hZ .neq 24 (.tmp 33) (.const (aDu 0)) e2 (aDu 0)) w fun e4 w =>
   mK e4
    (R (.tuple #[(.slice none 0 0), e2]) w)
    (kn mX XG (aDu 2) e1 w))
   (kn mX XG (aDu 3) (.slice none 0 0) w))
theorem R5 (kn : K4) (R : K1) (hn : N4 Q kn 0 1 8 9) (hr : HR uR R Q) (h : Es kn R (g 0) (g 1) (g 2) w) : jO pg tK (hU 5 sP) Q g w :=
 lB (l := []) h hn hr trivial
def EO (R : K1) (mX XG adI : aDt) (w : aDs) : Prop :=
 Es (fun mX XG Dt M0 w => Ak R mX XG Dt M0 w) R mX XG adI w
theorem Ra (R : K1) (hr : HR uR R Q) (h : EO R (g 0) (g 1) (g 2) w) : jO pg tK sP Q g w :=
 nP 5 (R5 _ g w (Ak R) R (fun g w h => iZ (nP 6 (RX _ g w (sE R) R (fun g w h => iZ (R6 _ g w R hr h)) hr h))) hr h)
def Q6 (a0 a1 a2 : aDt) (w : aDs) (R : K1) : Prop :=
 EO R a0 a1 a2 w
theorem Sa {a0 a1 a2 : aDt} {w : aDs} {R : K1} (h : Q6 a0 a1 a2 w R) : jE pg Bx #[a0, a1, a2] w R := by
 refine yX (ann := tK) Tryz.f68 sP [a0, a1, a2] uR 100 TryzM.mixed Tryz.func68 ?_
 exact (Ra _ _ _ R (fun _ _ h => h) h)
def Fa : FA := ⟨pK, fun i => .leaf ([], []) []⟩
def PL : List ResultVar := []
noncomputable def DK : Code := kA Tryz.f72
def AD (kn : K0) (yY BG : aDt) (w : aDs) : Prop :=
 gI pg (hZ .neq 60 (.tmp 4) (.const (.pointer none)) yY (.pointer none)) w fun b5 w =>
 mK b5
  (gI pg (nO yY) w fun b8 w =>
  gI pg (jH 77 b8 0) w fun b9 w =>
  gI pg (jF 22 b9) w fun c0 w =>
  gI pg (oF .append #[22, 22] 22 [c0, BG]) w fun c2 w =>
  gI pg (nO yY) w fun c3 w =>
  gI pg (jH 77 c3 0) w fun c4 w =>
  gI pg (jQ 22 c4 c2) w fun _u w =>
  kn w)
  (kn w)
theorem Mb (kn : K0) (hn : N0 Q kn) (h : AD kn (g 0) (g 1) w) : jO pg Fa DK Q g w :=
 lB (kr := no) (l := []) h hn lW trivial
def Jz (a0 a1 : aDt) (w : aDs) (R : K1) : Prop :=
 AD (fun  w => R (.tuple #[]) w) a0 a1 w
theorem NM {a0 a1 : aDt} {w : aDs} {R : K1} (h : Jz a0 a1 w R) : jE pg pK #[a0, a1] w R := by
 refine yX (ann := Fa) Tryz.f72 DK [a0, a1] PL 15 TryzM.mixed Tryz.func72 ?_
 exact (Mb _ _ _ (fun  w => R (.tuple #[]) w) (fun _ _ h => h) h)
def sK : FA := ⟨Ar, fun i => .leaf ([], []) []⟩
def C2 : List ResultVar := [.tmp 4]
noncomputable def rW : Code := kA Tryz.f73
def wR (R : K1) (pN : aDt) (w : aDs) : Prop :=
 R pN w
theorem PT (R : K1) (hr : HR C2 R Q) (h : wR R (g 0) w) : jO pg sK (gH 1 (gH 2 rW)) Q g w :=
 lB (kn := no) (l := []) h lW hr trivial
def CX (kn : K1) (pN G2 : aDt) (w : aDs) : Prop :=
 gI pg (oF .cap #[22] 3 [pN]) w fun c0 w =>
 gI pg (oF .len #[22] 3 [pN]) w fun c2 w =>
 gI pg (hZ .sub 3 jC jC c0 c2) w fun c3 w =>
 gI pg (hZ .sub 3 jC jC G2 c3) w fun c4 w =>
 gI pg (hZ .gtr 3 jC jC c4 (aDu 0)) w fun c6 w =>
 mK c6
  (gI pg (oF .cap #[22] 3 [pN]) w fun c9 w =>
  gI pg (lP 22 pN none (some c9) none) w fun d0 w =>
  gI pg (oF .append #[22, 3] 22 [d0, c4]) w fun d2 w =>
  gI pg (oF .len #[22] 3 [pN]) w fun d4 w =>
  gI pg (lP 22 d2 none (some d4) none) w fun d5 w =>
  kn d5 w)
  (kn pN w)
theorem Qe (kn : K1) (hn : N1 Q kn 0) (h : CX kn (g 0) (g 1) w) : jO pg sK (hU 1 (gH 2 rW)) Q g w :=
 lB (kr := no) (l := []) h hn lW trivial
def C3 (R : K1) (pN G2 : aDt) (w : aDs) : Prop :=
 CX (fun pN w => wR R pN w) pN G2 w
def C6 (kn : K2) (pN G2 : aDt) (w : aDs) : Prop :=
 gI pg (hZ .lss 3 jC jC G2 (aDu 0)) w fun b6 w =>
 mK b6
  (gI pg (VL 9 (.string ⟨#[99, 97, 110, 110, 111, 116, 32, 98, 101, 32, 110, 101, 103, 97, 116, 105, 118, 101]⟩)) w fun b7 w =>
  gI pg (V (Instr.panic b7)) w fun _u w =>
  kn pN G2 w)
  (kn pN G2 w)
theorem Qf (kn : K2) (hn : N2 Q kn 0 1) (h : C6 kn (g 0) (g 1) w) : jO pg sK (hU 2 rW) Q g w :=
 lB (kr := no) (l := []) h hn lW trivial
def Dj (R : K1) (pN G2 : aDt) (w : aDs) : Prop :=
 C6 (fun pN G2 w => C3 R pN G2 w) pN G2 w
theorem Py (R : K1) (hr : HR C2 R Q) (h : Dj R (g 0) (g 1) w) : jO pg sK rW Q g w :=
 nP 2 (Qf _ g w (C3 R) (fun g w h => iZ (nP 1 (Qe _ g w (wR R) (fun g w h => iZ (PT _ g w R hr h)) h))) h)
def OI (a0 a1 : aDt) (w : aDs) (R : K1) : Prop :=
 Dj R a0 a1 w
theorem Rf {a0 a1 : aDt} {w : aDs} {R : K1} (h : OI a0 a1 w R) : jE pg Ar #[a0, a1] w R := by
 refine yX (ann := sK) Tryz.f73 rW [a0, a1] C2 27 TryzM.mixed Tryz.func73 ?_
 exact (Py _ _ _ R (fun _ _ h => h) h)
def Oi : FA := ⟨FX, fun i => .leaf ([], []) []⟩
def QY : List ResultVar := [.tmp 2]
noncomputable def MB : Code := kA Tryz.f74
def I5 (R : K1) (yY : aDt) (w : aDs) : Prop :=
 gI pg (hZ .shr 32 jC jC yY (.int .u64 3)) w fun b5 w =>
 gI pg (hZ .add 32 jC jC (.int .u64 10) b5) w fun b6 w =>
 gI pg (hZ .shl 32 jC jC (.int .u64 1) b6) w fun b7 w =>
 gI pg (hZ .quo 32 jC jC b7 (.int .u64 8)) w fun c0 w =>
 gI pg (hZ .and 32 jC jC yY (.int .u64 7)) w fun c2 w =>
 gI pg (hZ .mul 32 jC jC c0 c2) w fun c3 w =>
 gI pg (hZ .add 32 jC jC b7 c3) w fun c4 w =>
 R c4 w
theorem Vv (R : K1) (hr : HR QY R Q) (h : I5 R (g 0) w) : jO pg Oi MB Q g w :=
 lB (kn := no) (l := []) h lW hr trivial
def Xi (a0 : aDt) (w : aDs) (R : K1) : Prop :=
 I5 R a0 w
theorem W4 {a0 : aDt} {w : aDs} {R : K1} (h : Xi a0 w R) : jE pg FX #[a0] w R := by
 refine yX (ann := Oi) Tryz.f74 MB [a0] QY 15 TryzM.mixed Tryz.func74 ?_
 exact (Vv _ _ _ R (fun _ _ h => h) h)
def Ga : FA := ⟨qZ, fun i => .leaf ([], []) []⟩
def G8 : List ResultVar := [.tmp 4, .tmp 5]
noncomputable def Fg : Code := kA Tryz.f75
def Bc (R : K1) (pN G2 : aDt) (w : aDs) : Prop :=
 gI pg (nO pN) w fun b8 w =>
 gI pg (jH 56 b8 0) w fun b9 w =>
 gI pg (jF 54 b9) w fun c0 w =>
 jE pg oR #[c0] w fun c1 w =>
 gI pg (hZ .gtr 3 jC jC G2 c1) w fun c2 w =>
 mK c2
  (R (.tuple #[(.slice none 0 0), (aDu 10)]) w)
  (gI pg (nO pN) w fun c4 w =>
  gI pg (jH 56 c4 0) w fun c5 w =>
  gI pg (jF 54 c5) w fun c6 w =>
  jE pg qK #[c6, G2] w fun c8 w =>
  R (.tuple #[c8, (aDu 0)]) w)
theorem NQ (R : K1) (hr : HR G8 R Q) (h : Bc R (g 0) (g 1) w) : jO pg Ga Fg Q g w :=
 lB (kn := no) (l := []) h lW hr trivial
def Ky (a0 a1 : aDt) (w : aDs) (R : K1) : Prop :=
 Bc R a0 a1 w
theorem OA {a0 a1 : aDt} {w : aDs} {R : K1} (h : Ky a0 a1 w R) : jE pg qZ #[a0, a1] w R := by
 refine yX (ann := Ga) Tryz.f75 Fg [a0, a1] G8 19 TryzM.mixed Tryz.func75 ?_
 exact (NQ _ _ _ R (fun _ _ h => h) h)
def JA : FA := ⟨BH, fun i => .leaf ([], []) []⟩
def Kw : List ResultVar := [.cell 2 65, .tmp 3]
noncomputable def I0 : Code := kA Tryz.f76
def ET (R : K1) (nQ : aDt) (w : aDs) : Prop :=
 gI pg (oM 65) w fun b2 w =>
 jE pg pX #[nQ] w fun b7 w =>
 jE pg lA #[b7, (aDu 3)] w fun b9 w =>
 gI pg (nI 32 3 b9) w fun c0 w =>
 jE pg lY #[b7] w fun c3 w =>
 gI pg (hZ .neq 24 (.tmp 13) (.const (aDu 0)) c3 (aDu 0)) w fun c4 w =>
 mK c4
  (gI pg (kY 65 []) w fun c5 w =>
  jE pg lY #[b7] w fun c7 w =>
  gI pg (jQ 65 b2 c5) w fun _u w =>
  MO pg 65 b2 w fun r0 => R (.tuple #[r0, c7]) w)
  (gI pg (hZ .shr 3 jC jC c0 (.int .u64 1)) w fun d0 w =>
  gI pg (hZ .and 3 jC jC d0 (aDu 3)) w fun d1 w =>
  gI pg (hZ .gtr 3 jC jC d1 (aDu 2)) w fun d2 w =>
  mK d2
   (gI pg (kY 65 []) w fun d3 w =>
   gI pg (jQ 65 b2 d3) w fun _u w =>
   MO pg 65 b2 w fun r0 => R (.tuple #[r0, (aDu 11)]) w)
   (gI pg (hZ .and 3 jC jC c0 (aDu 1)) w fun d5 w =>
   gI pg (hZ .eql 3 (.tmp 25) (.const (aDu 1)) d5 (aDu 1)) w fun d6 w =>
   gI pg (hZ .shr 3 jC jC c0 (.int .u64 1)) w fun d8 w =>
   gI pg (hZ .and 3 jC jC d8 (aDu 3)) w fun d9 w =>
   gI pg (hZ .shr 3 jC jC c0 (.int .u64 3)) w fun e1 w =>
   gI pg (kY 65 [(0, d6), (1, d9), (2, e1)]) w fun e2 w =>
   gI pg (jQ 65 b2 e2) w fun _u w =>
   MO pg 65 b2 w fun r0 => R (.tuple #[r0, (aDu 0)]) w))
theorem RD (R : K1) (hr : HR Kw R Q) (h : ET R (g 0) w) : jO pg JA I0 Q g w :=
 lB (kn := no) (l := []) h lW hr trivial
def QJ (a0 : aDt) (w : aDs) (R : K1) : Prop :=
 ET R a0 w
theorem Tc {a0 : aDt} {w : aDs} {R : K1} (h : QJ a0 w R) : jE pg BH #[a0] w R := by
 refine yX (ann := JA) Tryz.f76 I0 [a0] Kw 33 TryzM.mixed Tryz.func76 ?_
 exact (RD _ _ _ R (fun _ _ h => h) h)
def mQ : FA := ⟨vP, fun i => match Nat.beq i 9 with | true => .leaf ([7], []) [(false, []), (false, []), (false, []), (false, []), (false, []), (false, []), (false, []), (true, []), (false, []), (false, [])] | false => .leaf ([], []) []⟩
def Bm : List ResultVar := [.tmp 4]
noncomputable def mE : Code := kA Tryz.f77
def vB (R : K1) (nM : aDt) (w : aDs) : Prop :=
 R nM w
theorem NJ (R : K1) (hr : HR Bm R Q) (h : vB R (g 7) w) : jO pg mQ (gH 1 (gH 2 (gH 2 (gH 2 mE)))) Q g w :=
 lB (kn := no) (l := []) h lW hr trivial
def uU (kn : K2) (k0 : K1) (nM n_8 : aDt) (w : aDs) : Prop :=
 gI pg (oF .len #[22] 3 [nM]) w fun e6 w =>
 gI pg (hZ .lss 3 jC jC n_8 e6) w fun e7 w =>
 mK e7
  ((dr w) = (dr w) /\
  (dr w) = (dr w) /\
  (dr w) = (dr w) /\
  gI pg (lP 22 nM (some n_8) none none) (dr w) fun f1 w_ => w_ = (dr w) /\
  (dr w) = (dr w) /\
  (dr w) = (dr w) /\
  gI pg (lP 22 nM none (some n_8) none) (dr w) fun f4 w_ => w_ = (dr w) /\
  gI pg (oF .copy #[22, 22] 3 [f1, f4]) (dr w) fun f5 asA =>
  gI pg (hZ .add 3 jC jC n_8 f5) asA fun f6 w_ => w_ = asA /\
  asA = asA /\
  kn nM f6 asA)
  (k0 nM w)
theorem NW (kn : K2) (k0 : K1) (hn : N2 Q kn 7 8) (h0 : E1 Q k0 0 7) (h : uU kn k0 (g 7) (g 8) w) : jO pg mQ (bI (bI (hU 1 (gH 2 (gH 2 (gH 2 mE)))))) Q g w :=
 lB (kr := no) (l := [(0, fun g w => k0 (g 7) w)]) h hn lW ⟨h0, trivial⟩
def Br (k0 : K1) (nM n_8 : aDt) (w : aDs) : Prop :=
 kO (fun (X : aDt -> K0) (t : aDt) (w : aDs) => uU (fun _ n_8 w => X n_8 w) k0 nM t w) n_8 w
theorem Oa (k0 : K1) (h0 : E1 Q k0 0 7) (h : Br k0 (g 7) (g 8) w) : jO pg mQ (bI (hU 1 (gH 2 (gH 2 (gH 2 mE))))) Q g w := by
 refine Od (fun g : Env => g 8) (fun X t w => uU (fun _ n_8 w => X n_8 w) k0 (g 7) t w) h (fun X g1 w1 ha hL => ?_)
 rw [<- rG 7 ha] at hL
 exact (NW _ g1 w1 (fun _ n_8 w => X n_8 w) k0 (fun _ _ h => h) h0 hL)
def A7 (kn : K1) (nM n_8 : aDt) (w : aDs) : Prop :=
 Br kn nM n_8 w
def uZ (R : K1) (nM n_8 : aDt) (w : aDs) : Prop :=
 A7 (fun nM w => vB R nM w) nM n_8 w
theorem MV (kn : K1) (hn : N1 Q kn 7) (h : A7 kn (g 7) (g 8) w) : jO pg mQ (hU 1 (gH 2 (gH 2 (gH 2 mE)))) Q g w :=
 Iu 0 (Oa _ g w kn hn h)
def Bn (kn : K2) (mZ ajA : aDt) (w : aDs) : Prop :=
 gI pg (nI 50 3 ajA) w fun d9 w =>
 gI pg (sS 22 d9 d9) w fun e0 w =>
 gI pg (oF .copy #[22, 22] 3 [e0, mZ]) w fun e3 w =>
 kn e0 e3 w
theorem Oc (kn : K2) (hn : N2 Q kn 7 8) (h : Bn kn (g 0) (g 6) w) : jO pg mQ (hU 2 (gH 2 (gH 2 mE))) Q g w :=
 lB (kr := no) (l := []) h hn lW trivial
def A5 (R : K1) (mZ ajA : aDt) (w : aDs) : Prop :=
 Bn (fun nM n_8 w => uZ R nM n_8 w) mZ ajA w
def Bd (kn : K2) (mZ Cy : aDt) (w : aDs) : Prop :=
 gI pg (oF .len #[22] 3 [mZ]) w fun c4 w =>
 gI pg (nI 3 50 c4) w fun c5 w =>
 gI pg (nI 3 50 Cy) w fun c7 w =>
 jE pg Ee #[c5, c7] w fun c8 w =>
 gI pg (jZ c8 0) w fun c9 w =>
 gI pg (jZ c8 1) w fun d0 w =>
 gI pg (hZ .gtr 50 jC jC c9 (.int .u64 0)) w fun d2 w =>
 Gd (kR d2 false) (fun K => K d0 w) w fun d4 w =>
 Gd (kR d2 false) (fun K => gI pg (hZ .gtr 50 jC jC d4 (.int .u64 9223372036854775807)) w K) w fun d5 w =>
 gI pg (nD d2 (.bool true) d5) w fun d6 w =>
 mK d6
  (gI pg (VL 9 (.string ⟨#[116, 104, 101, 32, 114, 101, 115, 117, 108, 116, 32, 111, 102, 32, 40, 108, 101, 110, 40, 120, 41, 32, 42, 32, 99, 111, 117, 110, 116, 41, 32, 111, 118, 101, 114, 102, 108, 111, 119, 115]⟩)) w fun d7 w =>
  gI pg (V (Instr.panic d7)) w fun _u w =>
  kn mZ d0 w)
  (kn mZ d0 w)
theorem M1 (kn : K2) (hn : N2 Q kn 0 6) (h : Bd kn (g 0) (g 1) w) : jO pg mQ (hU 2 (gH 2 mE)) Q g w :=
 lB (kr := no) (l := []) h hn lW trivial
def A0 (R : K1) (mZ Cy : aDt) (w : aDs) : Prop :=
 Bd (fun mZ ajA w => A5 R mZ ajA w) mZ Cy w
def AA (kn : K2) (mZ Cy : aDt) (w : aDs) : Prop :=
 gI pg (hZ .lss 3 jC jC Cy (aDu 0)) w fun c0 w =>
 mK c0
  (gI pg (VL 9 (.string ⟨#[99, 97, 110, 110, 111, 116, 32, 98, 101, 32, 110, 101, 103, 97, 116, 105, 118, 101]⟩)) w fun c1 w =>
  gI pg (V (Instr.panic c1)) w fun _u w =>
  kn mZ Cy w)
  (kn mZ Cy w)
theorem LO (kn : K2) (hn : N2 Q kn 0 1) (h : AA kn (g 0) (g 1) w) : jO pg mQ (hU 2 mE) Q g w :=
 lB (kr := no) (l := []) h hn lW trivial
def Ad (R : K1) (mZ Cy : aDt) (w : aDs) : Prop :=
 AA (fun mZ Cy w => A0 R mZ Cy w) mZ Cy w
theorem L3 (R : K1) (hr : HR Bm R Q) (h : Ad R (g 0) (g 1) w) : jO pg mQ mE Q g w :=
 nP 2 (LO _ g w (A0 R) (fun g w h => iZ (nP 2 (M1 _ g w (A5 R) (fun g w h => iZ (nP 2 (Oc _ g w (uZ R) (fun g w h => iZ (nP 1 (MV _ g w (vB R) (fun g w h => iZ (NJ _ g w R hr h)) h))) h))) h))) h)
def JX (a0 a1 : aDt) (w : aDs) (R : K1) : Prop :=
 Ad R a0 a1 w
theorem Pq {a0 a1 : aDt} {w : aDs} {R : K1} (h : JX a0 a1 w R) : jE pg vP #[a0, a1] w R := by
 refine yX (ann := mQ) Tryz.f77 mE [a0, a1] Bm 48 TryzM.mixed Tryz.func77 ?_
 exact (L3 _ _ _ R (fun _ _ h => h) h)
def FD : FA := ⟨sU, fun i => .leaf ([], []) []⟩
def GX : List ResultVar := [.cell 4 146, .tmp 5]
noncomputable def Fc : Code := kA Tryz.f79
def Bk (R : K1) (tG oD : aDt) (w : aDs) : Prop :=
 gI pg (oM 146) w fun b4 w =>
 gI pg (hZ .add 3 jC jC oD (aDu 4)) w fun b7 w =>
 gI pg (nO tG) w fun b9 w =>
 gI pg (jH 119 b9 0) w fun c0 w =>
 gI pg (jF 22 c0) w fun c1 w =>
 gI pg (oF .len #[22] 3 [c1]) w fun c2 w =>
 gI pg (hZ .gtr 3 jC jC b7 c2) w fun c3 w =>
 mK c3
  (gI pg (kY 146 []) w fun c4 w =>
  gI pg (jQ 146 b4 c4) w fun _u w =>
  MO pg 146 b4 w fun r0 => R (.tuple #[r0, (.bool false)]) w)
  (gI pg (nO tG) w fun c6 w =>
  gI pg (jH 119 c6 0) w fun c7 w =>
  gI pg (jF 22 c7) w fun c8 w =>
  gI pg (hZ .add 3 jC jC oD (aDu 4)) w fun d1 w =>
  gI pg (lP 22 c8 (some oD) (some d1) none) w fun d2 w =>
  gI pg (auK 146 d2) w fun d3 w =>
  gI pg (jF 146 d3) w fun d4 w =>
  gI pg (jQ 146 b4 d4) w fun _u w =>
  MO pg 146 b4 w fun r0 => R (.tuple #[r0, (.bool true)]) w)
theorem Nl (R : K1) (hr : HR GX R Q) (h : Bk R (g 0) (g 1) w) : jO pg FD Fc Q g w :=
 lB (kn := no) (l := []) h lW hr trivial
def LB (a0 a1 : aDt) (w : aDs) (R : K1) : Prop :=
 Bk R a0 a1 w
theorem OB {a0 a1 : aDt} {w : aDs} {R : K1} (h : LB a0 a1 w R) : jE pg sU #[a0, a1] w R := by
 refine yX (ann := FD) Tryz.f79 Fc [a0, a1] GX 25 TryzM.mixed Tryz.func79 ?_
 exact (Nl _ _ _ R (fun _ _ h => h) h)
def pI : FA := ⟨xB, fun i => match Nat.beq i 2 with | true => .leaf ([], []) [(false, []), (false, []), (false, []), (false, []), (false, []), (false, []), (false, []), (false, []), (false, []), (false, []), (false, []), (false, []), (false, []), (false, []), (false, []), (false, []), (false, []), (false, []), (false, []), (false, []), (false, []), (false, []), (false, []), (false, []), (false, []), (false, []), (false, []), (false, []), (false, []), (false, []), (false, []), (false, []), (false, [])] | false => .leaf ([], []) []⟩
def BX : List ResultVar := [.tmp 6]
noncomputable def oU : Code := kA Tryz.f80
def vY (R : K1) (Xv : aDt) (w : aDs) : Prop :=
 R Xv w
theorem OR (R : K1) (hr : HR BX R Q) (h : vY R (g 7) w) : jO pg pI (gH 1 (gH 2 oU)) Q g w :=
 lB (kn := no) (l := []) h lW hr trivial
def pW (kn : K4) (k0 : K1) (tG Jq So Xv : aDt) (w : aDs) : Prop :=
 (dr w) = (dr w) /\
 (dr w) = (dr w) /\
 gI pg (hZ .add 3 jC jC So Xv) (dr w) fun c0 w_ => w_ = (dr w) /\
 (dr w) = (dr w) /\
 gI pg (nO tG) (dr w) fun c2 w_ => w_ = (dr w) /\
 gI pg (jH 119 c2 1) (dr w) fun c3 w_ => w_ = (dr w) /\
 gI pg (jF 3 c3) (dr w) fun c4 w_ => w_ = (dr w) /\
 gI pg (hZ .lss 3 jC jC c0 c4) (dr w) fun c5 w_ => w_ = (dr w) /\
 (dr w) = (dr w) /\
 Gd (kR c5 true) (fun K => K Xv (dr w)) (dr w) fun c7 w_ => w_ = (dr w) /\
 Gd (kR c5 true) (fun K => gI pg (hZ .lss 3 jC jC c7 (aDu 131074)) (dr w) K) (dr w) fun c8 w_ => w_ = (dr w) /\
 gI pg (nD c5 c8 (.bool false)) (dr w) fun c9 w_ => w_ = (dr w) /\
 (dr w) = (dr w) /\
 Gd (kR c9 true) (fun K => K tG (dr w)) (dr w) fun d1 w_ => w_ = (dr w) /\
 Gd (kR c9 true) (fun K => gI pg (nO d1) (dr w) K) (dr w) fun d2 w_ => w_ = (dr w) /\
 Gd (kR c9 true) (fun K => gI pg (jH 119 d2 0) (dr w) K) (dr w) fun d3 w_ => w_ = (dr w) /\
 Gd (kR c9 true) (fun K => gI pg (jF 22 d3) (dr w) K) (dr w) fun d4 w_ => w_ = (dr w) /\
 Gd (kR c9 true) (fun K => K Jq (dr w)) (dr w) fun d5 w_ => w_ = (dr w) /\
 Gd (kR c9 true) (fun K => K Xv (dr w)) (dr w) fun d6 w_ => w_ = (dr w) /\
 Gd (kR c9 true) (fun K => gI pg (hZ .add 3 jC jC d5 d6) (dr w) K) (dr w) fun d7 w_ => w_ = (dr w) /\
 Gd (kR c9 true) (fun K => gI pg (jS 22 d4 d7) (dr w) K) (dr w) fun d8 w_ => w_ = (dr w) /\
 Gd (kR c9 true) (fun K => gI pg (jF 5 d8) (dr w) K) (dr w) fun d9 w_ => w_ = (dr w) /\
 Gd (kR c9 true) (fun K => K tG (dr w)) (dr w) fun e0 w_ => w_ = (dr w) /\
 Gd (kR c9 true) (fun K => gI pg (nO e0) (dr w) K) (dr w) fun e1 w_ => w_ = (dr w) /\
 Gd (kR c9 true) (fun K => gI pg (jH 119 e1 0) (dr w) K) (dr w) fun e2 w_ => w_ = (dr w) /\
 Gd (kR c9 true) (fun K => gI pg (jF 22 e2) (dr w) K) (dr w) fun e3 w_ => w_ = (dr w) /\
 Gd (kR c9 true) (fun K => K So (dr w)) (dr w) fun e4 w_ => w_ = (dr w) /\
 Gd (kR c9 true) (fun K => K Xv (dr w)) (dr w) fun e5 w_ => w_ = (dr w) /\
 Gd (kR c9 true) (fun K => gI pg (hZ .add 3 jC jC e4 e5) (dr w) K) (dr w) fun e6 w_ => w_ = (dr w) /\
 Gd (kR c9 true) (fun K => gI pg (jS 22 e3 e6) (dr w) K) (dr w) fun e7 w_ => w_ = (dr w) /\
 Gd (kR c9 true) (fun K => gI pg (jF 5 e7) (dr w) K) (dr w) fun e8 w_ => w_ = (dr w) /\
 Gd (kR c9 true) (fun K => gI pg (hZ .eql 5 (.tmp 29) (.tmp 38) d9 e8) (dr w) K) (dr w) fun e9 w_ => w_ = (dr w) /\
 gI pg (nD c9 e9 (.bool false)) (dr w) fun f0 w_ => w_ = (dr w) /\
 mK f0
  (gI pg (hZ .add 3 jC jC Xv (aDu 1)) (dr w) fun f2 w =>
  kn tG Jq So f2 w)
  (k0 Xv (dr w))
theorem Ow (kn : K4) (k0 : K1) (hn : N4 Q kn 0 1 2 7) (h0 : E1 Q k0 0 7) (h : pW kn k0 (g 0) (g 1) (g 2) (g 7) w) : jO pg pI (bI (bI (hU 1 (gH 2 oU)))) Q g w :=
 lB (kr := no) (l := [(0, fun g w => k0 (g 7) w)]) h hn lW ⟨h0, trivial⟩
def B0 (k0 : K1) (tG Jq So Xv : aDt) (w : aDs) : Prop :=
 kO (fun (X : aDt -> K0) (t : aDt) (w : aDs) => pW (fun _ _ _ Xv w => X Xv w) k0 tG Jq So t w) Xv w
theorem OH (k0 : K1) (h0 : E1 Q k0 0 7) (h : B0 k0 (g 0) (g 1) (g 2) (g 7) w) : jO pg pI (bI (hU 1 (gH 2 oU))) Q g w := by
 refine Od (fun g : Env => g 7) (fun X t w => pW (fun _ _ _ Xv w => X Xv w) k0 (g 0) (g 1) (g 2) t w) h (fun X g1 w1 ha hL => ?_)
 rw [<- rG 0 ha, <- rG 1 ha, <- rG 2 ha] at hL
 exact (Ow _ g1 w1 (fun _ _ _ Xv w => X Xv w) k0 (fun _ _ h => h) h0 hL)
def Ci (kn : K1) (tG Jq So Xv : aDt) (w : aDs) : Prop :=
 B0 kn tG Jq So Xv w
def B9 (R : K1) (tG Jq So Xv : aDt) (w : aDs) : Prop :=
 Ci (fun Xv w => vY R Xv w) tG Jq So Xv w
theorem Pf (kn : K1) (hn : N1 Q kn 7) (h : Ci kn (g 0) (g 1) (g 2) (g 7) w) : jO pg pI (hU 1 (gH 2 oU)) Q g w :=
 Iu 0 (OH _ g w kn hn h)
def Cn (kn : K4) (tG Jq So : aDt) (w : aDs) : Prop :=
 kn tG Jq So (aDu 0) w
theorem Pb (kn : K4) (hn : N4 Q kn 0 1 2 7) (h : Cn kn (g 0) (g 1) (g 2) w) : jO pg pI (hU 2 oU) Q g w :=
 lB (kr := no) (l := []) h hn lW trivial
def Ce (R : K1) (tG Jq So : aDt) (w : aDs) : Prop :=
 Cn (fun tG Jq So Xv w => B9 R tG Jq So Xv w) tG Jq So w
theorem Pp (R : K1) (hr : HR BX R Q) (h : Ce R (g 0) (g 1) (g 2) w) : jO pg pI oU Q g w :=
 nP 2 (Pb _ g w (B9 R) (fun g w h => iZ (nP 1 (Pf _ g w (vY R) (fun g w h => iZ (OR _ g w R hr h)) h))) h)
def MA (a0 a1 a2 : aDt) (w : aDs) (R : K1) : Prop :=
 Ce R a0 a1 a2 w
theorem Qr {a0 a1 a2 : aDt} {w : aDs} {R : K1} (h : MA a0 a1 a2 w R) : jE pg xB #[a0, a1, a2] w R := by
 refine yX (ann := pI) Tryz.f80 oU [a0, a1, a2] BX 44 TryzM.mixed Tryz.func80 ?_
 exact (Pp _ _ _ R (fun _ _ h => h) h)
def zI : FA := ⟨xR, fun i => .leaf ([], []) []⟩
def FW : List ResultVar := [.tmp 4]
noncomputable def xI : Code := kA Tryz.f81
def vZ (R : K1) (w_5 : aDt) (w : aDs) : Prop :=
 jE pg oA #[w_5] w fun e7 w =>
 R e7 w
theorem Tg (R : K1) (hr : HR FW R Q) (h : vZ R (g 5) w) : jO pg zI (gH 3 xI) Q g w :=
 lB (kn := no) (l := []) h lW hr trivial
def FK (kn : K1) (aaO G2 : aDt) (w : aDs) : Prop :=
 jE pg oY #[] w fun b6 w =>
 gI pg (hZ .lss 3 jC jC G2 (aDu 32)) w fun c7 w =>
 mK c7
  (gI pg (hZ .shl 3 jC jC G2 (.int .u64 3)) w fun d0 w =>
  gI pg (hZ .or 3 jC jC d0 aaO) w fun d2 w =>
  gI pg (nI 3 32 d2) w fun d3 w =>
  jE pg jR #[b6, d3, (aDu 1)] w fun d4 w =>
  kn b6 w)
  (gI pg (hZ .lss 3 jC jC G2 (aDu 4096)) w fun d7 w =>
  mK d7
   (gI pg (hZ .shl 3 jC jC G2 (.int .u64 4)) w fun e0 w =>
   gI pg (hZ .or 3 jC jC e0 (aDu 4)) w fun e1 w =>
   gI pg (hZ .or 3 jC jC e1 aaO) w fun e3 w =>
   gI pg (nI 3 32 e3) w fun e4 w =>
   jE pg jR #[b6, e4, (aDu 2)] w fun e5 w =>
   kn b6 w)
   (gI pg (hZ .shl 3 jC jC G2 (.int .u64 4)) w fun b9 w =>
   gI pg (hZ .or 3 jC jC b9 (aDu 12)) w fun c0 w =>
   gI pg (hZ .or 3 jC jC c0 aaO) w fun c2 w =>
   gI pg (nI 3 32 c2) w fun c3 w =>
   jE pg jR #[b6, c3, (aDu 3)] w fun c4 w =>
   kn b6 w))
theorem SQ (kn : K1) (hn : N1 Q kn 5) (h : FK kn (g 0) (g 1) w) : jO pg zI (hU 3 xI) Q g w :=
 lB (kr := no) (l := []) h hn lW trivial
def Fs (R : K1) (aaO G2 : aDt) (w : aDs) : Prop :=
 FK (fun w_5 w => vZ R w_5 w) aaO G2 w
theorem Sn (R : K1) (hr : HR FW R Q) (h : Fs R (g 0) (g 1) w) : jO pg zI xI Q g w :=
 nP 3 (SQ _ g w (vZ R) (fun g w h => iZ (Tg _ g w R hr h)) h)
def SC (a0 a1 : aDt) (w : aDs) (R : K1) : Prop :=
 Fs R a0 a1 w
theorem UD {a0 a1 : aDt} {w : aDs} {R : K1} (h : SC a0 a1 w R) : jE pg xR #[a0, a1] w R := by
 refine yX (ann := zI) Tryz.f81 xI [a0, a1] FW 38 TryzM.mixed Tryz.func81 ?_
 exact (Sn _ _ _ R (fun _ _ h => h) h)
def lG : FA := ⟨A4, fun i => .leaf ([], []) []⟩
def An : List ResultVar := [.tmp 4]
noncomputable def kW : Code := kA Tryz.f82
def tU (R : K1) (Pg : aDt) (w : aDs) : Prop :=
 R Pg w
theorem Ma (R : K1) (hr : HR An R Q) (h : tU R (g 5) w) : jO pg lG (gH 1 (gH 1 (gH 2 kW))) Q g w :=
 lB (kn := no) (l := []) h lW hr trivial
def tV (kn : K4) (mZ qP Pg zB : aDt) (w : aDs) : Prop :=
 gI pg (hZ .add 3 jC jC zB (aDu 1)) w fun c9 w =>
 kn mZ qP Pg c9 w
theorem Md (kn : K4) (hn : N4 Q kn 0 1 5 6) (h : tV kn (g 0) (g 1) (g 5) (g 6) w) : jO pg lG (gH 2 (bI (bI (gH 1 (hU 1 (gH 1 (gH 2 kW))))))) Q g w :=
 lB (kr := no) (l := []) h hn lW trivial
def tT (kn : K4) (k0 : K1) (mZ qP Pg zB : aDt) (w : aDs) : Prop :=
 gI pg (oF .len #[137] 3 [mZ]) w fun c6 w =>
 gI pg (hZ .lss 3 jC jC zB c6) w fun c7 w =>
 mK c7
  (gI pg (jS 137 mZ zB) w fun d3 w =>
  gI pg (jF 22 d3) w fun d4 w =>
  gI pg (ES qP [d4, Pg]) w fun d6 w =>
  gI pg (hZ .lss 3 jC jC d6 (aDu 0)) w fun d7 w =>
  mK d7
   (gI pg (jS 137 mZ zB) w fun e0 w =>
   gI pg (jF 22 e0) w fun e1 w =>
   kn mZ qP e1 zB w)
   (kn mZ qP Pg zB w))
  (k0 Pg w)
theorem L9 (kn : K4) (k0 : K1) (hn : N4 Q kn 0 1 5 6) (h0 : E1 Q k0 0 5) (h : tT kn k0 (g 0) (g 1) (g 5) (g 6) w) : jO pg lG (hU 2 (bI (bI (gH 1 (hU 1 (gH 1 (gH 2 kW))))))) Q g w :=
 lB (kr := no) (l := [(0, fun g w => k0 (g 5) w)]) h hn lW ⟨h0, trivial⟩
def rI (kn : K4) (k0 : K1) (mZ qP Pg zB : aDt) (w : aDs) : Prop :=
 tT (fun mZ qP Pg zB w => tV kn mZ qP Pg zB w) k0 mZ qP Pg zB w
def Aj (k0 : K1) (mZ qP Pg zB : aDt) (w : aDs) : Prop :=
 kO (fun (X : (aDt × aDt) -> K0) (t : aDt × aDt) (w : aDs) => rI (fun _ _ Pg zB w => X (Pg, zB) w) k0 mZ qP t.1 t.2 w) (Pg, zB) w
theorem LN (kn : K4) (k0 : K1) (hn : N4 Q kn 0 1 5 6) (h0 : E1 Q k0 0 5) (h : rI kn k0 (g 0) (g 1) (g 5) (g 6) w) : jO pg lG (bI (bI (gH 1 (hU 1 (gH 1 (gH 2 kW)))))) Q g w :=
 nP 2 (L9 _ g w (tV kn) k0 (fun g w h => iZ (Md _ g w kn hn h)) h0 h)
theorem LP (k0 : K1) (h0 : E1 Q k0 0 5) (h : Aj k0 (g 0) (g 1) (g 5) (g 6) w) : jO pg lG (bI (gH 1 (hU 1 (gH 1 (gH 2 kW))))) Q g w := by
 refine Od (fun g : Env => (g 5, g 6)) (fun X t w => rI (fun _ _ Pg zB w => X (Pg, zB) w) k0 (g 0) (g 1) t.1 t.2 w) h (fun X g1 w1 ha hL => ?_)
 rw [<- rG 0 ha, <- rG 1 ha] at hL
 exact (LN _ g1 w1 (fun _ _ Pg zB w => X (Pg, zB) w) k0 (fun _ _ h => h) h0 hL)
def zH (kn : K1) (mZ qP Pg zB : aDt) (w : aDs) : Prop :=
 Aj kn mZ qP Pg zB w
def zK (kn : K4) (mZ qP Pg : aDt) (w : aDs) : Prop :=
 kn mZ qP Pg (aDu 1) w
theorem L4 (kn : K4) (hn : N4 Q kn 0 1 5 6) (h : zK kn (g 0) (g 1) (g 5) w) : jO pg lG (hU 1 (hU 1 (gH 1 (gH 2 kW)))) Q g w :=
 lB (kr := no) (l := []) h hn lW trivial
def Ao (kn : K1) (mZ qP Pg : aDt) (w : aDs) : Prop :=
 zK (fun mZ qP Pg zB w => zH kn mZ qP Pg zB w) mZ qP Pg w
def zN (R : K1) (mZ qP Pg : aDt) (w : aDs) : Prop :=
 Ao (fun Pg w => tU R Pg w) mZ qP Pg w
theorem L6 (kn : K1) (hn : N1 Q kn 5) (h : Ao kn (g 0) (g 1) (g 5) w) : jO pg lG (hU 1 (gH 1 (gH 2 kW))) Q g w :=
 nP 1 (L4 _ g w (zH kn) (fun g w h => iZ (Iu 0 (LP _ g w kn hn h))) h)
def yB (kn : K3) (mZ qP : aDt) (w : aDs) : Prop :=
 gI pg (jS 137 mZ (aDu 0)) w fun c2 w =>
 gI pg (jF 22 c2) w fun c3 w =>
 kn mZ qP c3 w
theorem Ln (kn : K3) (hn : N3 Q kn 0 1 5) (h : yB kn (g 0) (g 1) w) : jO pg lG (hU 1 (gH 2 kW)) Q g w :=
 lB (kr := no) (l := []) h hn lW trivial
def yP (R : K1) (mZ qP : aDt) (w : aDs) : Prop :=
 yB (fun mZ qP Pg w => zN R mZ qP Pg w) mZ qP w
def yC (kn : K2) (mZ qP : aDt) (w : aDs) : Prop :=
 gI pg (oF .len #[137] 3 [mZ]) w fun b8 w =>
 gI pg (hZ .lss 3 jC jC b8 (aDu 1)) w fun b9 w =>
 mK b9
  (gI pg (VL 9 (.string ⟨#[115, 108, 105, 99, 101, 115, 46, 77, 105, 110, 70, 117, 110, 99, 58, 32, 101, 109, 112, 116, 121, 32, 108, 105, 115, 116]⟩)) w fun c0 w =>
  gI pg (V (Instr.panic c0)) w fun _u w =>
  kn mZ qP w)
  (kn mZ qP w)
theorem KP (kn : K2) (hn : N2 Q kn 0 1) (h : yC kn (g 0) (g 1) w) : jO pg lG (hU 2 kW) Q g w :=
 lB (kr := no) (l := []) h hn lW trivial
def xO (R : K1) (mZ qP : aDt) (w : aDs) : Prop :=
 yC (fun mZ qP w => yP R mZ qP w) mZ qP w
theorem JZ (R : K1) (hr : HR An R Q) (h : xO R (g 0) (g 1) w) : jO pg lG kW Q g w :=
 nP 2 (KP _ g w (yP R) (fun g w h => iZ (nP 1 (Ln _ g w (zN R) (fun g w h => iZ (nP 1 (L6 _ g w (tU R) (fun g w h => iZ (Ma _ g w R hr h)) h))) h))) h)
def Jo (a0 a1 : aDt) (w : aDs) (R : K1) : Prop :=
 xO R a0 a1 w
theorem Nt {a0 a1 : aDt} {w : aDs} {R : K1} (h : Jo a0 a1 w R) : jE pg A4 #[a0, a1] w R := by
 refine yX (ann := lG) Tryz.f82 kW [a0, a1] An 33 TryzM.mixed Tryz.func82 ?_
 exact (JZ _ _ _ R (fun _ _ h => h) h)
def G5 : FA := ⟨xJ, fun i => .leaf ([], []) []⟩
def IW : List ResultVar := [.tmp 4]
noncomputable def Gj : Code := kA Tryz.f83
def B6 (R : K1) (a_0 BG : aDt) (w : aDs) : Prop :=
 gI pg (oF .len #[22] 3 [a_0]) w fun b6 w =>
 gI pg (oF .len #[22] 3 [BG]) w fun b8 w =>
 gI pg (hZ .sub 3 jC jC b6 b8) w fun b9 w =>
 R b9 w
theorem Of (R : K1) (hr : HR IW R Q) (h : B6 R (g 0) (g 1) w) : jO pg G5 Gj Q g w :=
 lB (kn := no) (l := []) h lW hr trivial
def Mv (a0 a1 : aDt) (w : aDs) (R : K1) : Prop :=
 B6 R a0 a1 w
theorem PH {a0 a1 : aDt} {w : aDs} {R : K1} (h : Mv a0 a1 w R) : jE pg xJ #[a0, a1] w R := by
 refine yX (ann := G5) Tryz.f83 Gj [a0, a1] IW 10 TryzM.mixed Tryz.func83 ?_
 exact (Of _ _ _ R (fun _ _ h => h) h)
def jM : FA := ⟨BJ, fun i => match Nat.beq i 15 with | true => .leaf ([], []) [(false, []), (false, []), (false, []), (false, []), (false, []), (false, []), (false, []), (false, []), (false, []), (false, []), (false, []), (false, []), (false, []), (false, []), (false, []), (false, []), (false, []), (false, []), (false, []), (false, []), (false, []), (false, []), (false, []), (false, []), (false, []), (false, []), (false, []), (false, []), (false, []), (false, []), (false, []), (false, []), (false, []), (false, []), (false, []), (false, []), (false, []), (false, []), (false, []), (false, []), (false, []), (false, []), (false, [])] | false => match Nat.beq i 25 with | true => .leaf ([], []) [(false, []), (false, []), (false, []), (false, []), (false, []), (false, []), (false, []), (false, []), (false, []), (false, []), (false, []), (false, []), (false, []), (false, []), (false, []), (false, []), (false, []), (false, []), (false, []), (false, []), (false, []), (false, []), (false, []), (false, []), (false, []), (false, []), (false, []), (false, []), (false, []), (false, []), (false, []), (false, []), (false, []), (false, []), (false, []), (false, []), (false, []), (false, []), (false, []), (false, []), (false, []), (false, []), (false, []), (false, []), (false, []), (false, [])] | false => .leaf ([], []) []⟩
def EE : List ResultVar := [.tmp 4]
noncomputable def jK : Code := kA Tryz.f84
def AB (R : K1) (iY : aDt) (w : aDs) : Prop :=
 R iY w
theorem RB (R : K1) (hr : HR EE R Q) (h : AB R (g 5) w) : jO pg jM (gH 1 (gH 1 (gH 1 (gH 3 jK)))) Q g w :=
 lB (kn := no) (l := []) h lW hr trivial
def AE (kn : K3) (iD iY jG qA : aDt) (w : aDs) : Prop :=
 gI pg (jS 117 iY qA) w fun y6 w =>
 gI pg (jF 3 y6) w fun y7 w =>
 gI pg (hZ .sub 3 jC jC (aDu 11) y7) w fun y8 w =>
 gI pg (hZ .shl 3 jC jC (aDu 1) y8) w fun y9 w =>
 gI pg (hZ .sub 3 jC jC jG y9) w fun z0 w =>
 gI pg (jS 117 iY qA) w fun z3 w =>
 gI pg (jF 3 z3) w fun z4 w =>
 gI pg (hZ .sub 3 jC jC z4 (aDu 1)) w fun z5 w =>
 gI pg (jS 117 iY qA) w fun z6 w =>
 gI pg (jQ 3 z6 z5) w fun _u w =>
 kn iD iY z0 w
theorem R4 (kn : K3) (hn : N3 Q kn 0 5 6) (h : AE kn (g 0) (g 5) (g 6) (g 12) w) : jO pg jM (gH 1 (gH 1 (bI (gH 1 (bI (bI (hU 1 (gH 1 (gH 1 (gH 3 jK)))))))))) Q g w :=
 lB (kr := no) (l := []) h hn lW trivial
def zE (kn : K7) (iD iY jG qA p8 p9 q0 : aDt) (w : aDs) : Prop :=
 gI pg (hZ .add 3 jC jC q0 (aDu 1)) w fun y2 w =>
 kn iD iY jG qA p8 p9 y2 w
theorem RQ (kn : K7) (hn : N7 Q kn 0 5 6 12 118 119 120) (h : zE kn (g 0) (g 5) (g 6) (g 12) (g 118) (g 119) (g 120) w) : jO pg jM (gH 3 (bI (bI (gH 1 (hU 1 (gH 1 (bI (gH 1 (bI (bI (hU 1 (gH 1 (gH 1 (gH 3 jK)))))))))))))) Q g w :=
 lB (kr := no) (l := []) h hn lW trivial
def Er (kn : K7) (k8 : K4) (iD iY jG qA p8 p9 q0 : aDt) (w : aDs) : Prop :=
 gI pg (hZ .lss 3 jC jC q0 p9) w fun q1 w =>
 mK q1
  (gI pg (jS 128 p8 q0) w fun q3 w =>
  gI pg (jF 38 q3) w fun q4 w =>
  (dr w) = (dr w) /\
  gI pg (hZ .gtr 38 jC jC q4 (.int .u32 0)) (dr w) fun q6 w_ => w_ = (dr w) /\
  (dr w) = (dr w) /\
  Gd (kR q6 true) (fun K => K iY (dr w)) (dr w) fun q8 w_ => w_ = (dr w) /\
  Gd (kR q6 true) (fun K => K q0 (dr w)) (dr w) fun q9 w_ => w_ = (dr w) /\
  Gd (kR q6 true) (fun K => gI pg (jS 117 q8 q9) (dr w) K) (dr w) fun s0 w_ => w_ = (dr w) /\
  Gd (kR q6 true) (fun K => gI pg (jF 3 s0) (dr w) K) (dr w) fun s1 w_ => w_ = (dr w) /\
  Gd (kR q6 true) (fun K => gI pg (hZ .sub 3 jC jC (aDu 11) s1) (dr w) K) (dr w) fun s2 w_ => w_ = (dr w) /\
  Gd (kR q6 true) (fun K => gI pg (hZ .shl 3 jC jC (aDu 1) s2) (dr w) K) (dr w) fun s3 w_ => w_ = (dr w) /\
  Gd (kR q6 true) (fun K => K jG (dr w)) (dr w) fun s4 w_ => w_ = (dr w) /\
  Gd (kR q6 true) (fun K => gI pg (hZ .leq 3 jC jC s3 s4) (dr w) K) (dr w) fun s5 w_ => w_ = (dr w) /\
  gI pg (nD q6 s5 (.bool false)) (dr w) fun s6 w_ => w_ = (dr w) /\
  (dr w) = (dr w) /\
  Gd (kR s6 true) (fun K => K qA (dr w)) (dr w) fun s8 w_ => w_ = (dr w) /\
  Gd (kR s6 true) (fun K => gI pg (hZ .lss 3 jC jC s8 (aDu 0)) (dr w) K) (dr w) fun s9 w_ => w_ = (dr w) /\
  Gd (kR s6 true) (fun K => K s9 (dr w)) (dr w) fun u0 w_ => w_ = (dr w) /\
  Gd (kR u0 false) (fun K => K iY (dr w)) (dr w) fun u1 w_ => w_ = (dr w) /\
  Gd (kR u0 false) (fun K => K q0 (dr w)) (dr w) fun u2 w_ => w_ = (dr w) /\
  Gd (kR u0 false) (fun K => gI pg (jS 117 u1 u2) (dr w) K) (dr w) fun u3 w_ => w_ = (dr w) /\
  Gd (kR u0 false) (fun K => gI pg (jF 3 u3) (dr w) K) (dr w) fun u4 w_ => w_ = (dr w) /\
  Gd (kR u0 false) (fun K => K iY (dr w)) (dr w) fun u5 w_ => w_ = (dr w) /\
  Gd (kR u0 false) (fun K => K qA (dr w)) (dr w) fun u6 w_ => w_ = (dr w) /\
  Gd (kR u0 false) (fun K => gI pg (jS 117 u5 u6) (dr w) K) (dr w) fun u7 w_ => w_ = (dr w) /\
  Gd (kR u0 false) (fun K => gI pg (jF 3 u7) (dr w) K) (dr w) fun u8 w_ => w_ = (dr w) /\
  Gd (kR u0 false) (fun K => gI pg (hZ .gtr 3 jC jC u4 u8) (dr w) K) (dr w) fun u9 w_ => w_ = (dr w) /\
  Gd (kR s6 true) (fun K => gI pg (nD u0 (.bool true) u9) (dr w) K) (dr w) fun v0 w_ => w_ = (dr w) /\
  Gd (kR s6 true) (fun K => K v0 (dr w)) (dr w) fun v1 w_ => w_ = (dr w) /\
  Gd (kR v1 false) (fun K => K iY (dr w)) (dr w) fun v2 w_ => w_ = (dr w) /\
  Gd (kR v1 false) (fun K => K q0 (dr w)) (dr w) fun v3 w_ => w_ = (dr w) /\
  Gd (kR v1 false) (fun K => gI pg (jS 117 v2 v3) (dr w) K) (dr w) fun v4 w_ => w_ = (dr w) /\
  Gd (kR v1 false) (fun K => gI pg (jF 3 v4) (dr w) K) (dr w) fun v5 w_ => w_ = (dr w) /\
  Gd (kR v1 false) (fun K => K iY (dr w)) (dr w) fun v6 w_ => w_ = (dr w) /\
  Gd (kR v1 false) (fun K => K qA (dr w)) (dr w) fun v7 w_ => w_ = (dr w) /\
  Gd (kR v1 false) (fun K => gI pg (jS 117 v6 v7) (dr w) K) (dr w) fun v8 w_ => w_ = (dr w) /\
  Gd (kR v1 false) (fun K => gI pg (jF 3 v8) (dr w) K) (dr w) fun v9 w_ => w_ = (dr w) /\
  Gd (kR v1 false) (fun K => gI pg (hZ .eql 3 (.tmp 155) (.tmp 159) v5 v9) (dr w) K) (dr w) fun x0 w_ => w_ = (dr w) /\
  Gd (kR v1 false) (fun K => K x0 (dr w)) (dr w) fun x1 w_ => w_ = (dr w) /\
  Gd (kR x1 true) (fun K => K q4 (dr w)) (dr w) fun x2 w_ => w_ = (dr w) /\
  Gd (kR x1 true) (fun K => K iD (dr w)) (dr w) fun x3 w_ => w_ = (dr w) /\
  Gd (kR x1 true) (fun K => K qA (dr w)) (dr w) fun x4 w_ => w_ = (dr w) /\
  Gd (kR x1 true) (fun K => gI pg (jS 128 x3 x4) (dr w) K) (dr w) fun x5 w_ => w_ = (dr w) /\
  Gd (kR x1 true) (fun K => gI pg (jF 38 x5) (dr w) K) (dr w) fun x6 w_ => w_ = (dr w) /\
  Gd (kR x1 true) (fun K => gI pg (hZ .gtr 38 jC jC x2 x6) (dr w) K) (dr w) fun x7 w_ => w_ = (dr w) /\
  Gd (kR v1 false) (fun K => gI pg (nD x1 x7 (.bool false)) (dr w) K) (dr w) fun x8 w_ => w_ = (dr w) /\
  Gd (kR s6 true) (fun K => gI pg (nD v1 (.bool true) x8) (dr w) K) (dr w) fun x9 w_ => w_ = (dr w) /\
  gI pg (nD s6 x9 (.bool false)) (dr w) fun y0 w_ => w_ = (dr w) /\
  mK y0
   (kn iD iY jG q0 p8 p9 q0 (dr w))
   (kn iD iY jG qA p8 p9 q0 (dr w)))
  (k8 iD iY jG qA w)
theorem Rg (kn : K7) (k8 : K4) (hn : N7 Q kn 0 5 6 12 118 119 120) (h8 : E4 Q k8 8 0 5 6 12) (h : Er kn k8 (g 0) (g 5) (g 6) (g 12) (g 118) (g 119) (g 120) w) : jO pg jM (hU 3 (bI (bI (gH 1 (hU 1 (gH 1 (bI (gH 1 (bI (bI (hU 1 (gH 1 (gH 1 (gH 3 jK)))))))))))))) Q g w :=
 lB (kr := no) (l := [(8, fun g w => k8 (g 0) (g 5) (g 6) (g 12) w)]) h hn lW ⟨h8, trivial⟩
def Av (kn : K7) (k8 : K4) (iD iY jG qA p8 p9 q0 : aDt) (w : aDs) : Prop :=
 Er (fun iD iY jG qA p8 p9 q0 w => zE kn iD iY jG qA p8 p9 q0 w) k8 iD iY jG qA p8 p9 q0 w
def EC (k8 : K4) (iD iY jG qA p8 p9 q0 : aDt) (w : aDs) : Prop :=
 kO (fun (X : (aDt × aDt) -> K0) (t : aDt × aDt) (w : aDs) => Av (fun _ _ _ qA _ _ q0 w => X (qA, q0) w) k8 iD iY jG t.1 p8 p9 t.2 w) (qA, q0) w
theorem Rt (kn : K7) (k8 : K4) (hn : N7 Q kn 0 5 6 12 118 119 120) (h8 : E4 Q k8 8 0 5 6 12) (h : Av kn k8 (g 0) (g 5) (g 6) (g 12) (g 118) (g 119) (g 120) w) : jO pg jM (bI (bI (gH 1 (hU 1 (gH 1 (bI (gH 1 (bI (bI (hU 1 (gH 1 (gH 1 (gH 3 jK))))))))))))) Q g w :=
 nP 3 (Rg _ g w (zE kn) k8 (fun g w h => iZ (RQ _ g w kn hn h)) h8 h)
theorem RJ (k8 : K4) (h8 : E4 Q k8 8 0 5 6 12) (h : EC k8 (g 0) (g 5) (g 6) (g 12) (g 118) (g 119) (g 120) w) : jO pg jM (bI (gH 1 (hU 1 (gH 1 (bI (gH 1 (bI (bI (hU 1 (gH 1 (gH 1 (gH 3 jK)))))))))))) Q g w := by
 refine Od (fun g : Env => (g 12, g 120)) (fun X t w => Av (fun _ _ _ qA _ _ q0 w => X (qA, q0) w) k8 (g 0) (g 5) (g 6) t.1 (g 118) (g 119) t.2 w) h (fun X g1 w1 ha hL => ?_)
 rw [<- rG 0 ha, <- rG 5 ha, <- rG 6 ha, <- rG 118 ha, <- rG 119 ha] at hL
 exact (Rt _ g1 w1 (fun _ _ _ qA _ _ q0 w => X (qA, q0) w) k8 (fun _ _ h => h) h8 hL)
def ED (kn : K4) (iD iY jG qA p8 p9 q0 : aDt) (w : aDs) : Prop :=
 EC kn iD iY jG qA p8 p9 q0 w
def EJ (kn : K7) (iD iY jG qA : aDt) (w : aDs) : Prop :=
 gI pg (oF .len #[128] 3 [iD]) w fun p9 w =>
 kn iD iY jG qA iD p9 (aDu 0) w
theorem Rr (kn : K7) (hn : N7 Q kn 0 5 6 12 118 119 120) (h : EJ kn (g 0) (g 5) (g 6) (g 12) w) : jO pg jM (hU 1 (hU 1 (gH 1 (bI (gH 1 (bI (bI (hU 1 (gH 1 (gH 1 (gH 3 jK))))))))))) Q g w :=
 lB (kr := no) (l := []) h hn lW trivial
def zS (kn : K4) (iD iY jG qA : aDt) (w : aDs) : Prop :=
 EJ (fun iD iY jG qA p8 p9 q0 w => ED kn iD iY jG qA p8 p9 q0 w) iD iY jG qA w
def Dc (kn : K3) (iD iY jG qA : aDt) (w : aDs) : Prop :=
 zS (fun iD iY jG qA w => AE kn iD iY jG qA w) iD iY jG qA w
theorem RV (kn : K4) (hn : N4 Q kn 0 5 6 12) (h : zS kn (g 0) (g 5) (g 6) (g 12) w) : jO pg jM (hU 1 (gH 1 (bI (gH 1 (bI (bI (hU 1 (gH 1 (gH 1 (gH 3 jK)))))))))) Q g w :=
 nP 1 (Rr _ g w (ED kn) (fun g w h => iZ (Iu 8 (RJ _ g w kn hn h))) h)
def C8 (kn : K4) (iD iY jG : aDt) (w : aDs) : Prop :=
 kn iD iY jG (aDu (-1)) w
theorem Qj (kn : K4) (hn : N4 Q kn 0 5 6 12) (h : C8 kn (g 0) (g 5) (g 6) w) : jO pg jM (hU 1 (bI (gH 1 (bI (bI (hU 1 (gH 1 (gH 1 (gH 3 jK))))))))) Q g w :=
 lB (kr := no) (l := []) h hn lW trivial
def Ju (kn : K3) (iD iY jG : aDt) (w : aDs) : Prop :=
 C8 (fun iD iY jG qA w => Dc kn iD iY jG qA w) iD iY jG w
def Du (kn : K3) (iD iY jG : aDt) (w : aDs) : Prop :=
 Ju kn iD iY jG w
def Dk (kn : K3) (k6 : K1) (iD iY jG : aDt) (w : aDs) : Prop :=
 gI pg (hZ .gtr 3 jC jC jG (aDu 0)) w fun p7 w =>
 mK p7
  (kn iD iY jG w)
  (k6 iY w)
theorem QF (kn : K3) (k6 : K1) (hn : N3 Q kn 0 5 6) (h6 : E1 Q k6 6 5) (h : Dk kn k6 (g 0) (g 5) (g 6) w) : jO pg jM (hU 1 (bI (bI (hU 1 (gH 1 (gH 1 (gH 3 jK))))))) Q g w :=
 lB (kr := no) (l := [(6, fun g w => k6 (g 5) w)]) h hn lW ⟨h6, trivial⟩
def xF (kn : K3) (k6 : K1) (iD iY jG : aDt) (w : aDs) : Prop :=
 Dk (fun iD iY jG w => Du kn iD iY jG w) k6 iD iY jG w
def DD (k6 : K1) (iD iY jG : aDt) (w : aDs) : Prop :=
 kO (fun (X : aDt -> K0) (t : aDt) (w : aDs) => xF (fun _ _ jG w => X jG w) k6 iD iY t w) jG w
theorem Qq (kn : K3) (k6 : K1) (hn : N3 Q kn 0 5 6) (h6 : E1 Q k6 6 5) (h : xF kn k6 (g 0) (g 5) (g 6) w) : jO pg jM (bI (bI (hU 1 (gH 1 (gH 1 (gH 3 jK)))))) Q g w :=
 nP 1 (QF _ g w (Du kn) k6 (fun g w h => iZ (Iu 7 (nP 1 (Qj _ g w (Dc kn) (fun g w h => iZ (nP 1 (RV _ g w (AE kn) (fun g w h => iZ (R4 _ g w kn hn h)) h))) h)))) h6 h)
theorem Ps (k6 : K1) (h6 : E1 Q k6 6 5) (h : DD k6 (g 0) (g 5) (g 6) w) : jO pg jM (bI (hU 1 (gH 1 (gH 1 (gH 3 jK))))) Q g w := by
 refine Od (fun g : Env => g 6) (fun X t w => xF (fun _ _ jG w => X jG w) k6 (g 0) (g 5) t w) h (fun X g1 w1 ha hL => ?_)
 rw [<- rG 0 ha, <- rG 5 ha] at hL
 exact (Qq _ g1 w1 (fun _ _ jG w => X jG w) k6 (fun _ _ h => h) h6 hL)
def DC (kn : K1) (iD iY jG : aDt) (w : aDs) : Prop :=
 DD kn iD iY jG w
def tJ (R : K1) (iD iY jG : aDt) (w : aDs) : Prop :=
 DC (fun iY w => AB R iY w) iD iY jG w
theorem PQ (kn : K1) (hn : N1 Q kn 5) (h : DC kn (g 0) (g 5) (g 6) w) : jO pg jM (hU 1 (gH 1 (gH 1 (gH 3 jK)))) Q g w :=
 Iu 6 (Ps _ g w kn hn h)
def wW (kn : K3) (iD iY jG vF : aDt) (w : aDs) : Prop :=
 gI pg (jS 117 iY vF) w fun o4 w =>
 gI pg (jF 3 o4) w fun o5 w =>
 gI pg (hZ .sub 3 jC jC (aDu 11) o5) w fun o6 w =>
 gI pg (hZ .sub 3 jC jC o6 (aDu 1)) w fun o7 w =>
 gI pg (hZ .shl 3 jC jC (aDu 1) o7) w fun o8 w =>
 gI pg (hZ .add 3 jC jC jG o8) w fun o9 w =>
 gI pg (jS 117 iY vF) w fun p2 w =>
 gI pg (jF 3 p2) w fun p3 w =>
 gI pg (hZ .add 3 jC jC p3 (aDu 1)) w fun p4 w =>
 gI pg (jS 117 iY vF) w fun p5 w =>
 gI pg (jQ 3 p5 p4) w fun _u w =>
 kn iD iY o9 w
theorem P2 (kn : K3) (hn : N3 Q kn 0 5 6) (h : wW kn (g 0) (g 5) (g 6) (g 9) w) : jO pg jM (gH 1 (gH 1 (bI (gH 1 (bI (bI (hU 1 (gH 1 (gH 3 jK))))))))) Q g w :=
 lB (kr := no) (l := []) h hn lW trivial
def xH (kn : K7) (iD iY jG vF f9 i0 i1 : aDt) (w : aDs) : Prop :=
 gI pg (hZ .add 3 jC jC i1 (aDu 1)) w fun o0 w =>
 kn iD iY jG vF f9 i0 o0 w
theorem Qo (kn : K7) (hn : N7 Q kn 0 5 6 9 49 50 51) (h : xH kn (g 0) (g 5) (g 6) (g 9) (g 49) (g 50) (g 51) w) : jO pg jM (gH 3 (bI (bI (gH 1 (hU 1 (gH 1 (bI (gH 1 (bI (bI (hU 1 (gH 1 (gH 3 jK))))))))))))) Q g w :=
 lB (kr := no) (l := []) h hn lW trivial
def Da (kn : K7) (k4 : K4) (iD iY jG vF f9 i0 i1 : aDt) (w : aDs) : Prop :=
 gI pg (hZ .lss 3 jC jC i1 i0) w fun i2 w =>
 mK i2
  (gI pg (jS 128 f9 i1) w fun i4 w =>
  gI pg (jF 38 i4) w fun i5 w =>
  (dr w) = (dr w) /\
  gI pg (hZ .gtr 38 jC jC i5 (.int .u32 0)) (dr w) fun i7 w_ => w_ = (dr w) /\
  (dr w) = (dr w) /\
  Gd (kR i7 true) (fun K => K iY (dr w)) (dr w) fun i9 w_ => w_ = (dr w) /\
  Gd (kR i7 true) (fun K => K i1 (dr w)) (dr w) fun j0 w_ => w_ = (dr w) /\
  Gd (kR i7 true) (fun K => gI pg (jS 117 i9 j0) (dr w) K) (dr w) fun j1 w_ => w_ = (dr w) /\
  Gd (kR i7 true) (fun K => gI pg (jF 3 j1) (dr w) K) (dr w) fun j2 w_ => w_ = (dr w) /\
  Gd (kR i7 true) (fun K => gI pg (hZ .lss 3 jC jC j2 (aDu 11)) (dr w) K) (dr w) fun j3 w_ => w_ = (dr w) /\
  gI pg (nD i7 j3 (.bool false)) (dr w) fun j4 w_ => w_ = (dr w) /\
  (dr w) = (dr w) /\
  Gd (kR j4 true) (fun K => K vF (dr w)) (dr w) fun j6 w_ => w_ = (dr w) /\
  Gd (kR j4 true) (fun K => gI pg (hZ .lss 3 jC jC j6 (aDu 0)) (dr w) K) (dr w) fun j7 w_ => w_ = (dr w) /\
  Gd (kR j4 true) (fun K => K j7 (dr w)) (dr w) fun j8 w_ => w_ = (dr w) /\
  Gd (kR j8 false) (fun K => K iY (dr w)) (dr w) fun j9 w_ => w_ = (dr w) /\
  Gd (kR j8 false) (fun K => K i1 (dr w)) (dr w) fun l0 w_ => w_ = (dr w) /\
  Gd (kR j8 false) (fun K => gI pg (jS 117 j9 l0) (dr w) K) (dr w) fun l1 w_ => w_ = (dr w) /\
  Gd (kR j8 false) (fun K => gI pg (jF 3 l1) (dr w) K) (dr w) fun l2 w_ => w_ = (dr w) /\
  Gd (kR j8 false) (fun K => K iY (dr w)) (dr w) fun l3 w_ => w_ = (dr w) /\
  Gd (kR j8 false) (fun K => K vF (dr w)) (dr w) fun l4 w_ => w_ = (dr w) /\
  Gd (kR j8 false) (fun K => gI pg (jS 117 l3 l4) (dr w) K) (dr w) fun l5 w_ => w_ = (dr w) /\
  Gd (kR j8 false) (fun K => gI pg (jF 3 l5) (dr w) K) (dr w) fun l6 w_ => w_ = (dr w) /\
  Gd (kR j8 false) (fun K => gI pg (hZ .gtr 3 jC jC l2 l6) (dr w) K) (dr w) fun l7 w_ => w_ = (dr w) /\
  Gd (kR j4 true) (fun K => gI pg (nD j8 (.bool true) l7) (dr w) K) (dr w) fun l8 w_ => w_ = (dr w) /\
  Gd (kR j4 true) (fun K => K l8 (dr w)) (dr w) fun l9 w_ => w_ = (dr w) /\
  Gd (kR l9 false) (fun K => K iY (dr w)) (dr w) fun m0 w_ => w_ = (dr w) /\
  Gd (kR l9 false) (fun K => K i1 (dr w)) (dr w) fun m1 w_ => w_ = (dr w) /\
  Gd (kR l9 false) (fun K => gI pg (jS 117 m0 m1) (dr w) K) (dr w) fun m2 w_ => w_ = (dr w) /\
  Gd (kR l9 false) (fun K => gI pg (jF 3 m2) (dr w) K) (dr w) fun m3 w_ => w_ = (dr w) /\
  Gd (kR l9 false) (fun K => K iY (dr w)) (dr w) fun m4 w_ => w_ = (dr w) /\
  Gd (kR l9 false) (fun K => K vF (dr w)) (dr w) fun m5 w_ => w_ = (dr w) /\
  Gd (kR l9 false) (fun K => gI pg (jS 117 m4 m5) (dr w) K) (dr w) fun m6 w_ => w_ = (dr w) /\
  Gd (kR l9 false) (fun K => gI pg (jF 3 m6) (dr w) K) (dr w) fun m7 w_ => w_ = (dr w) /\
  Gd (kR l9 false) (fun K => gI pg (hZ .eql 3 (.tmp 83) (.tmp 87) m3 m7) (dr w) K) (dr w) fun m8 w_ => w_ = (dr w) /\
  Gd (kR l9 false) (fun K => K m8 (dr w)) (dr w) fun m9 w_ => w_ = (dr w) /\
  Gd (kR m9 true) (fun K => K i5 (dr w)) (dr w) fun n0 w_ => w_ = (dr w) /\
  Gd (kR m9 true) (fun K => K iD (dr w)) (dr w) fun n1 w_ => w_ = (dr w) /\
  Gd (kR m9 true) (fun K => K vF (dr w)) (dr w) fun n2 w_ => w_ = (dr w) /\
  Gd (kR m9 true) (fun K => gI pg (jS 128 n1 n2) (dr w) K) (dr w) fun n3 w_ => w_ = (dr w) /\
  Gd (kR m9 true) (fun K => gI pg (jF 38 n3) (dr w) K) (dr w) fun n4 w_ => w_ = (dr w) /\
  Gd (kR m9 true) (fun K => gI pg (hZ .lss 38 jC jC n0 n4) (dr w) K) (dr w) fun n5 w_ => w_ = (dr w) /\
  Gd (kR l9 false) (fun K => gI pg (nD m9 n5 (.bool false)) (dr w) K) (dr w) fun n6 w_ => w_ = (dr w) /\
  Gd (kR j4 true) (fun K => gI pg (nD l9 (.bool true) n6) (dr w) K) (dr w) fun n7 w_ => w_ = (dr w) /\
  gI pg (nD j4 n7 (.bool false)) (dr w) fun n8 w_ => w_ = (dr w) /\
  mK n8
   (kn iD iY jG i1 f9 i0 i1 (dr w))
   (kn iD iY jG vF f9 i0 i1 (dr w)))
  (k4 iD iY jG vF w)
theorem PZ (kn : K7) (k4 : K4) (hn : N7 Q kn 0 5 6 9 49 50 51) (h4 : E4 Q k4 4 0 5 6 9) (h : Da kn k4 (g 0) (g 5) (g 6) (g 9) (g 49) (g 50) (g 51) w) : jO pg jM (hU 3 (bI (bI (gH 1 (hU 1 (gH 1 (bI (gH 1 (bI (bI (hU 1 (gH 1 (gH 3 jK))))))))))))) Q g w :=
 lB (kr := no) (l := [(4, fun g w => k4 (g 0) (g 5) (g 6) (g 9) w)]) h hn lW ⟨h4, trivial⟩
def wT (kn : K7) (k4 : K4) (iD iY jG vF f9 i0 i1 : aDt) (w : aDs) : Prop :=
 Da (fun iD iY jG vF f9 i0 i1 w => xH kn iD iY jG vF f9 i0 i1 w) k4 iD iY jG vF f9 i0 i1 w
def C1 (k4 : K4) (iD iY jG vF f9 i0 i1 : aDt) (w : aDs) : Prop :=
 kO (fun (X : (aDt × aDt) -> K0) (t : aDt × aDt) (w : aDs) => wT (fun _ _ _ vF _ _ i1 w => X (vF, i1) w) k4 iD iY jG t.1 f9 i0 t.2 w) (vF, i1) w
theorem Qp (kn : K7) (k4 : K4) (hn : N7 Q kn 0 5 6 9 49 50 51) (h4 : E4 Q k4 4 0 5 6 9) (h : wT kn k4 (g 0) (g 5) (g 6) (g 9) (g 49) (g 50) (g 51) w) : jO pg jM (bI (bI (gH 1 (hU 1 (gH 1 (bI (gH 1 (bI (bI (hU 1 (gH 1 (gH 3 jK)))))))))))) Q g w :=
 nP 3 (PZ _ g w (xH kn) k4 (fun g w h => iZ (Qo _ g w kn hn h)) h4 h)
theorem P8 (k4 : K4) (h4 : E4 Q k4 4 0 5 6 9) (h : C1 k4 (g 0) (g 5) (g 6) (g 9) (g 49) (g 50) (g 51) w) : jO pg jM (bI (gH 1 (hU 1 (gH 1 (bI (gH 1 (bI (bI (hU 1 (gH 1 (gH 3 jK))))))))))) Q g w := by
 refine Od (fun g : Env => (g 9, g 51)) (fun X t w => wT (fun _ _ _ vF _ _ i1 w => X (vF, i1) w) k4 (g 0) (g 5) (g 6) t.1 (g 49) (g 50) t.2 w) h (fun X g1 w1 ha hL => ?_)
 rw [<- rG 0 ha, <- rG 5 ha, <- rG 6 ha, <- rG 49 ha, <- rG 50 ha] at hL
 exact (Qp _ g1 w1 (fun _ _ _ vF _ _ i1 w => X (vF, i1) w) k4 (fun _ _ h => h) h4 hL)
def Dl (kn : K4) (iD iY jG vF f9 i0 i1 : aDt) (w : aDs) : Prop :=
 C1 kn iD iY jG vF f9 i0 i1 w
def Dz (kn : K7) (iD iY jG vF : aDt) (w : aDs) : Prop :=
 gI pg (oF .len #[128] 3 [iD]) w fun i0 w =>
 kn iD iY jG vF iD i0 (aDu 0) w
theorem PV (kn : K7) (hn : N7 Q kn 0 5 6 9 49 50 51) (h : Dz kn (g 0) (g 5) (g 6) (g 9) w) : jO pg jM (hU 1 (hU 1 (gH 1 (bI (gH 1 (bI (bI (hU 1 (gH 1 (gH 3 jK)))))))))) Q g w :=
 lB (kr := no) (l := []) h hn lW trivial
def xA (kn : K4) (iD iY jG vF : aDt) (w : aDs) : Prop :=
 Dz (fun iD iY jG vF f9 i0 i1 w => Dl kn iD iY jG vF f9 i0 i1 w) iD iY jG vF w
def CZ (kn : K3) (iD iY jG vF : aDt) (w : aDs) : Prop :=
 xA (fun iD iY jG vF w => wW kn iD iY jG vF w) iD iY jG vF w
theorem P0 (kn : K4) (hn : N4 Q kn 0 5 6 9) (h : xA kn (g 0) (g 5) (g 6) (g 9) w) : jO pg jM (hU 1 (gH 1 (bI (gH 1 (bI (bI (hU 1 (gH 1 (gH 3 jK))))))))) Q g w :=
 nP 1 (PV _ g w (Dl kn) (fun g w h => iZ (Iu 4 (P8 _ g w kn hn h))) h)
def Dr (kn : K4) (iD iY jG : aDt) (w : aDs) : Prop :=
 kn iD iY jG (aDu (-1)) w
theorem PM (kn : K4) (hn : N4 Q kn 0 5 6 9) (h : Dr kn (g 0) (g 5) (g 6) w) : jO pg jM (hU 1 (bI (gH 1 (bI (bI (hU 1 (gH 1 (gH 3 jK)))))))) Q g w :=
 lB (kr := no) (l := []) h hn lW trivial
def JB (kn : K3) (iD iY jG : aDt) (w : aDs) : Prop :=
 Dr (fun iD iY jG vF w => CZ kn iD iY jG vF w) iD iY jG w
def DB (kn : K3) (iD iY jG : aDt) (w : aDs) : Prop :=
 JB kn iD iY jG w
def Dp (kn : K3) (k2 : K3) (iD iY jG : aDt) (w : aDs) : Prop :=
 gI pg (hZ .lss 3 jC jC jG (aDu 0)) w fun f8 w =>
 mK f8
  (kn iD iY jG w)
  (k2 iD iY jG w)
theorem QC (kn : K3) (k2 : K3) (hn : N3 Q kn 0 5 6) (h2 : E3 Q k2 2 0 5 6) (h : Dp kn k2 (g 0) (g 5) (g 6) w) : jO pg jM (hU 1 (bI (bI (hU 1 (gH 1 (gH 3 jK)))))) Q g w :=
 lB (kr := no) (l := [(2, fun g w => k2 (g 0) (g 5) (g 6) w)]) h hn lW ⟨h2, trivial⟩
def wZ (kn : K3) (k2 : K3) (iD iY jG : aDt) (w : aDs) : Prop :=
 Dp (fun iD iY jG w => DB kn iD iY jG w) k2 iD iY jG w
def C4 (k2 : K3) (iD iY jG : aDt) (w : aDs) : Prop :=
 kO (fun (X : aDt -> K0) (t : aDt) (w : aDs) => wZ (fun _ _ jG w => X jG w) k2 iD iY t w) jG w
theorem Qt (kn : K3) (k2 : K3) (hn : N3 Q kn 0 5 6) (h2 : E3 Q k2 2 0 5 6) (h : wZ kn k2 (g 0) (g 5) (g 6) w) : jO pg jM (bI (bI (hU 1 (gH 1 (gH 3 jK))))) Q g w :=
 nP 1 (QC _ g w (DB kn) k2 (fun g w h => iZ (Iu 3 (nP 1 (PM _ g w (CZ kn) (fun g w h => iZ (nP 1 (P0 _ g w (wW kn) (fun g w h => iZ (P2 _ g w kn hn h)) h))) h)))) h2 h)
theorem PI (k2 : K3) (h2 : E3 Q k2 2 0 5 6) (h : C4 k2 (g 0) (g 5) (g 6) w) : jO pg jM (bI (hU 1 (gH 1 (gH 3 jK)))) Q g w := by
 refine Od (fun g : Env => g 6) (fun X t w => wZ (fun _ _ jG w => X jG w) k2 (g 0) (g 5) t w) h (fun X g1 w1 ha hL => ?_)
 rw [<- rG 0 ha, <- rG 5 ha] at hL
 exact (Qt _ g1 w1 (fun _ _ jG w => X jG w) k2 (fun _ _ h => h) h2 hL)
def DE (kn : K3) (iD iY jG : aDt) (w : aDs) : Prop :=
 C4 kn iD iY jG w
def tQ (R : K1) (iD iY jG : aDt) (w : aDs) : Prop :=
 DE (fun iD iY jG w => tJ R iD iY jG w) iD iY jG w
theorem PJ (kn : K3) (hn : N3 Q kn 0 5 6) (h : DE kn (g 0) (g 5) (g 6) w) : jO pg jM (hU 1 (gH 1 (gH 3 jK))) Q g w :=
 Iu 2 (PI _ g w kn hn h)
def xK (kn : K7) (iD pM iY jG c8 c9 d0 : aDt) (w : aDs) : Prop :=
 gI pg (hZ .add 3 jC jC d0 (aDu 1)) w fun f6 w =>
 kn iD pM iY jG c8 c9 f6 w
theorem Qx (kn : K7) (hn : N7 Q kn 0 1 5 6 18 19 20) (h : xK kn (g 0) (g 1) (g 5) (g 6) (g 18) (g 19) (g 20) w) : jO pg jM (gH 3 (bI (bI (gH 1 (hU 1 (gH 3 jK)))))) Q g w :=
 lB (kr := no) (l := []) h hn lW trivial
def CV (kn : K7) (k0 : K3) (iD pM iY jG c8 c9 d0 : aDt) (w : aDs) : Prop :=
 gI pg (hZ .lss 3 jC jC d0 c9) w fun d1 w =>
 mK d1
  (gI pg (jS 128 c8 d0) w fun d3 w =>
  gI pg (jF 38 d3) w fun d4 w =>
  gI pg (hZ .gtr 38 jC jC d4 (.int .u32 0)) w fun d6 w =>
  mK d6
   (gI pg (hZ .sub 32 jC jC pM (.int .u64 1)) w fun e0 w =>
   gI pg (nI 38 32 d4) w fun e2 w =>
   gI pg (hZ .quo 32 jC jC e0 e2) w fun e3 w =>
   jE pg wD #[e3] w fun e4 w =>
   gI pg (oF .max #[3, 3] 3 [e4, (aDu 1)]) w fun e5 w =>
   gI pg (oF .min #[3, 3] 3 [e5, (aDu 11)]) w fun e6 w =>
   gI pg (jS 117 iY d0) w fun e7 w =>
   gI pg (jQ 3 e7 e6) w fun _u w =>
   gI pg (jS 117 iY d0) w fun f1 w =>
   gI pg (jF 3 f1) w fun f2 w =>
   gI pg (hZ .sub 3 jC jC (aDu 11) f2) w fun f3 w =>
   gI pg (hZ .shl 3 jC jC (aDu 1) f3) w fun f4 w =>
   gI pg (hZ .sub 3 jC jC jG f4) w fun f5 w =>
   kn iD pM iY f5 c8 c9 d0 w)
   (kn iD pM iY jG c8 c9 d0 w))
  (k0 iD iY jG w)
theorem PY (kn : K7) (k0 : K3) (hn : N7 Q kn 0 1 5 6 18 19 20) (h0 : E3 Q k0 0 0 5 6) (h : CV kn k0 (g 0) (g 1) (g 5) (g 6) (g 18) (g 19) (g 20) w) : jO pg jM (hU 3 (bI (bI (gH 1 (hU 1 (gH 3 jK)))))) Q g w :=
 lB (kr := no) (l := [(0, fun g w => k0 (g 0) (g 5) (g 6) w)]) h hn lW ⟨h0, trivial⟩
def xG (kn : K7) (k0 : K3) (iD pM iY jG c8 c9 d0 : aDt) (w : aDs) : Prop :=
 CV (fun iD pM iY jG c8 c9 d0 w => xK kn iD pM iY jG c8 c9 d0 w) k0 iD pM iY jG c8 c9 d0 w
def CW (k0 : K3) (iD pM iY jG c8 c9 d0 : aDt) (w : aDs) : Prop :=
 kO (fun (X : (aDt × aDt) -> K0) (t : aDt × aDt) (w : aDs) => xG (fun _ _ _ jG _ _ d0 w => X (jG, d0) w) k0 iD pM iY t.1 c8 c9 t.2 w) (jG, d0) w
theorem PA (kn : K7) (k0 : K3) (hn : N7 Q kn 0 1 5 6 18 19 20) (h0 : E3 Q k0 0 0 5 6) (h : xG kn k0 (g 0) (g 1) (g 5) (g 6) (g 18) (g 19) (g 20) w) : jO pg jM (bI (bI (gH 1 (hU 1 (gH 3 jK))))) Q g w :=
 nP 3 (PY _ g w (xK kn) k0 (fun g w h => iZ (Qx _ g w kn hn h)) h0 h)
theorem QB (k0 : K3) (h0 : E3 Q k0 0 0 5 6) (h : CW k0 (g 0) (g 1) (g 5) (g 6) (g 18) (g 19) (g 20) w) : jO pg jM (bI (gH 1 (hU 1 (gH 3 jK)))) Q g w := by
 refine Od (fun g : Env => (g 6, g 20)) (fun X t w => xG (fun _ _ _ jG _ _ d0 w => X (jG, d0) w) k0 (g 0) (g 1) (g 5) t.1 (g 18) (g 19) t.2 w) h (fun X g1 w1 ha hL => ?_)
 rw [<- rG 0 ha, <- rG 1 ha, <- rG 5 ha, <- rG 18 ha, <- rG 19 ha] at hL
 exact (PA _ g1 w1 (fun _ _ _ jG _ _ d0 w => X (jG, d0) w) k0 (fun _ _ h => h) h0 hL)
def Df (kn : K3) (iD pM iY jG c8 c9 d0 : aDt) (w : aDs) : Prop :=
 CW kn iD pM iY jG c8 c9 d0 w
def DG (kn : K7) (iD pM iY jG : aDt) (w : aDs) : Prop :=
 gI pg (oF .len #[128] 3 [iD]) w fun c9 w =>
 kn iD pM iY jG iD c9 (aDu 0) w
theorem Qy (kn : K7) (hn : N7 Q kn 0 1 5 6 18 19 20) (h : DG kn (g 0) (g 1) (g 5) (g 6) w) : jO pg jM (hU 1 (hU 1 (gH 3 jK))) Q g w :=
 lB (kr := no) (l := []) h hn lW trivial
def C9 (kn : K3) (iD pM iY jG : aDt) (w : aDs) : Prop :=
 DG (fun iD pM iY jG c8 c9 d0 w => Df kn iD pM iY jG c8 c9 d0 w) iD pM iY jG w
def wX (R : K1) (iD pM iY jG : aDt) (w : aDs) : Prop :=
 C9 (fun iD iY jG w => tQ R iD iY jG w) iD pM iY jG w
theorem Ql (kn : K3) (hn : N3 Q kn 0 5 6) (h : C9 kn (g 0) (g 1) (g 5) (g 6) w) : jO pg jM (hU 1 (gH 3 jK)) Q g w :=
 nP 1 (Qy _ g w (Df kn) (fun g w h => iZ (Iu 0 (QB _ g w kn hn h))) h)
def DI (kn : K4) (iD pM : aDt) (w : aDs) : Prop :=
 gI pg (oF .len #[128] 3 [iD]) w fun c6 w =>
 gI pg (sS 117 c6 c6) w fun c7 w =>
 kn iD pM c7 (aDu 2048) w
theorem Qb (kn : K4) (hn : N4 Q kn 0 1 5 6) (h : DI kn (g 0) (g 1) w) : jO pg jM (hU 3 jK) Q g w :=
 lB (kr := no) (l := []) h hn lW trivial
def Dd (R : K1) (iD pM : aDt) (w : aDs) : Prop :=
 DI (fun iD pM iY jG w => wX R iD pM iY jG w) iD pM w
theorem QE (R : K1) (hr : HR EE R Q) (h : Dd R (g 0) (g 1) w) : jO pg jM jK Q g w :=
 nP 3 (Qb _ g w (wX R) (fun g w h => iZ (nP 1 (Ql _ g w (tQ R) (fun g w h => iZ (nP 1 (PJ _ g w (tJ R) (fun g w h => iZ (nP 1 (PQ _ g w (AB R) (fun g w h => iZ (RB _ g w R hr h)) h))) h))) h))) h)
def Q4 (a0 a1 : aDt) (w : aDs) (R : K1) : Prop :=
 Dd R a0 a1 w
theorem SF {a0 a1 : aDt} {w : aDs} {R : K1} (h : Q4 a0 a1 w R) : jE pg BJ #[a0, a1] w R := by
 refine yX (ann := jM) Tryz.f84 jK [a0, a1] EE 188 TryzM.mixed Tryz.func84 ?_
 exact (QE _ _ _ R (fun _ _ h => h) h)
def nZ : FA := ⟨BA, fun i => .leaf ([], []) []⟩
def Eg : List ResultVar := [.tmp 2]
noncomputable def nH : Code := kA Tryz.f85
def zF (R : K1) (DQ : aDt) (w : aDs) : Prop :=
 R DQ w
theorem Rl (R : K1) (hr : HR Eg R Q) (h : zF R (g 3) w) : jO pg nZ (gH 1 (gH 1 (gH 2 nH))) Q g w :=
 lB (kn := no) (l := []) h lW hr trivial
def Ah (kn : K3) (k0 : K1) (mZ DQ S1 : aDt) (w : aDs) : Prop :=
 gI pg (oF .len #[117] 3 [mZ]) w fun c4 w =>
 gI pg (hZ .lss 3 jC jC S1 c4) w fun c5 w =>
 mK c5
  (gI pg (jS 117 mZ S1) w fun d1 w =>
  gI pg (jF 3 d1) w fun d2 w =>
  gI pg (oF .max #[3, 3] 3 [DQ, d2]) w fun d3 w =>
  gI pg (hZ .add 3 jC jC S1 (aDu 1)) w fun c7 w =>
  kn mZ d3 c7 w)
  (k0 DQ w)
theorem Rb (kn : K3) (k0 : K1) (hn : N3 Q kn 0 3 4) (h0 : E1 Q k0 0 3) (h : Ah kn k0 (g 0) (g 3) (g 4) w) : jO pg nZ (bI (bI (gH 1 (hU 1 (gH 1 (gH 2 nH)))))) Q g w :=
 lB (kr := no) (l := [(0, fun g w => k0 (g 3) w)]) h hn lW ⟨h0, trivial⟩
def EK (k0 : K1) (mZ DQ S1 : aDt) (w : aDs) : Prop :=
 kO (fun (X : (aDt × aDt) -> K0) (t : aDt × aDt) (w : aDs) => Ah (fun _ DQ S1 w => X (DQ, S1) w) k0 mZ t.1 t.2 w) (DQ, S1) w
theorem Q7 (k0 : K1) (h0 : E1 Q k0 0 3) (h : EK k0 (g 0) (g 3) (g 4) w) : jO pg nZ (bI (gH 1 (hU 1 (gH 1 (gH 2 nH))))) Q g w := by
 refine Od (fun g : Env => (g 3, g 4)) (fun X t w => Ah (fun _ DQ S1 w => X (DQ, S1) w) k0 (g 0) t.1 t.2 w) h (fun X g1 w1 ha hL => ?_)
 rw [<- rG 0 ha] at hL
 exact (Rb _ g1 w1 (fun _ DQ S1 w => X (DQ, S1) w) k0 (fun _ _ h => h) h0 hL)
def Em (kn : K1) (mZ DQ S1 : aDt) (w : aDs) : Prop :=
 EK kn mZ DQ S1 w
def EI (kn : K3) (mZ DQ : aDt) (w : aDs) : Prop :=
 kn mZ DQ (aDu 1) w
theorem RI (kn : K3) (hn : N3 Q kn 0 3 4) (h : EI kn (g 0) (g 3) w) : jO pg nZ (hU 1 (hU 1 (gH 1 (gH 2 nH)))) Q g w :=
 lB (kr := no) (l := []) h hn lW trivial
def EA (kn : K1) (mZ DQ : aDt) (w : aDs) : Prop :=
 EI (fun mZ DQ S1 w => Em kn mZ DQ S1 w) mZ DQ w
def Ei (R : K1) (mZ DQ : aDt) (w : aDs) : Prop :=
 EA (fun DQ w => zF R DQ w) mZ DQ w
theorem Rp (kn : K1) (hn : N1 Q kn 3) (h : EA kn (g 0) (g 3) w) : jO pg nZ (hU 1 (gH 1 (gH 2 nH))) Q g w :=
 nP 1 (RI _ g w (Em kn) (fun g w h => iZ (Iu 0 (Q7 _ g w kn hn h))) h)
def EV (kn : K2) (mZ : aDt) (w : aDs) : Prop :=
 gI pg (jS 117 mZ (aDu 0)) w fun c0 w =>
 gI pg (jF 3 c0) w fun c1 w =>
 kn mZ c1 w
theorem Rx (kn : K2) (hn : N2 Q kn 0 3) (h : EV kn (g 0) w) : jO pg nZ (hU 1 (gH 2 nH)) Q g w :=
 lB (kr := no) (l := []) h hn lW trivial
def Ej (R : K1) (mZ : aDt) (w : aDs) : Prop :=
 EV (fun mZ DQ w => Ei R mZ DQ w) mZ w
def Dy (kn : K1) (mZ : aDt) (w : aDs) : Prop :=
 gI pg (oF .len #[117] 3 [mZ]) w fun b6 w =>
 gI pg (hZ .lss 3 jC jC b6 (aDu 1)) w fun b7 w =>
 mK b7
  (gI pg (VL 9 (.string ⟨#[115, 108, 105, 99, 101, 115, 46, 77, 97, 120, 58, 32, 101, 109, 112, 116, 121, 32, 108, 105, 115, 116]⟩)) w fun b8 w =>
  gI pg (V (Instr.panic b8)) w fun _u w =>
  kn mZ w)
  (kn mZ w)
theorem PF (kn : K1) (hn : N1 Q kn 0) (h : Dy kn (g 0) w) : jO pg nZ (hU 2 nH) Q g w :=
 lB (kr := no) (l := []) h hn lW trivial
def Dg (R : K1) (mZ : aDt) (w : aDs) : Prop :=
 Dy (fun mZ w => Ej R mZ w) mZ w
theorem Qc (R : K1) (hr : HR Eg R Q) (h : Dg R (g 0) w) : jO pg nZ nH Q g w :=
 nP 2 (PF _ g w (Ej R) (fun g w h => iZ (nP 1 (Rx _ g w (Ei R) (fun g w h => iZ (nP 1 (Rp _ g w (zF R) (fun g w h => iZ (Rl _ g w R hr h)) h))) h))) h)
def QT (a0 : aDt) (w : aDs) (R : K1) : Prop :=
 Dg R a0 w
theorem S3 {a0 : aDt} {w : aDs} {R : K1} (h : QT a0 w R) : jE pg BA #[a0] w R := by
 refine yX (ann := nZ) Tryz.f85 nH [a0] Eg 25 TryzM.mixed Tryz.func85 ?_
 exact (Qc _ _ _ R (fun _ _ h => h) h)
def mG : FA := ⟨AN, fun i => .leaf ([], []) []⟩
def CQ : List ResultVar := [.tmp 2, .tmp 3]
noncomputable def lV : Code := kA Tryz.f86
def CJ (R : K1) (iY : aDt) (w : aDs) : Prop :=
 R (.tuple #[iY, (aDu 0)]) w
theorem TK (R : K1) (hr : HR CQ R Q) (h : CJ R (g 5) w) : jO pg mG (gH 1 (gH 4 lV)) Q g w :=
 lB (kn := no) (l := []) h lW hr trivial
def yT (kn : K4) (lK IA iY zB : aDt) (w : aDs) : Prop :=
 gI pg (hZ .add 3 jC jC zB (aDu 2)) w fun d7 w =>
 kn lK IA iY d7 w
theorem TI (kn : K4) (hn : N4 Q kn 0 4 5 6) (h : yT kn (g 0) (g 4) (g 5) (g 6) w) : jO pg mG (gH 1 (gH 1 (bI (bI (gH 1 (hU 1 (gH 4 lV))))))) Q g w :=
 lB (kr := no) (l := []) h hn lW trivial
def yE (kn : K4) (lK IA iY zB c_7 : aDt) (w : aDs) : Prop :=
 gI pg (lT 22 1 [(0, c_7)]) w fun f6 w =>
 gI pg (oF .append #[22, 22] 22 [iY, f6]) w fun f7 w =>
 kn lK IA f7 zB w
theorem Uu (kn : K4) (hn : N4 Q kn 0 4 5 6) (h : yE kn (g 0) (g 4) (g 5) (g 6) (g 7) w) : jO pg mG (gH 2 (bI (hU 1 (gH 1 (bI (bI (gH 1 (hU 1 (gH 4 lV))))))))) Q g w :=
 lB (kr := no) (l := []) h hn lW trivial
def Hg (kn : K5) (lK IA iY zB : aDt) (w : aDs) : Prop :=
 gI pg (jS 22 lK zB) w fun e0 w =>
 gI pg (jF 5 e0) w fun e1 w =>
 gI pg (hZ .shl 5 jC jC e1 (.int .u64 4)) w fun e2 w =>
 gI pg (hZ .add 3 jC jC zB (aDu 1)) w fun e4 w =>
 gI pg (hZ .lss 3 jC jC e4 IA) w fun e6 w =>
 mK e6
  (gI pg (hZ .add 3 jC jC zB (aDu 1)) w fun f0 w =>
  gI pg (jS 22 lK f0) w fun f1 w =>
  gI pg (jF 5 f1) w fun f2 w =>
  gI pg (hZ .or 5 jC jC e2 f2) w fun f3 w =>
  kn lK IA iY zB f3 w)
  (kn lK IA iY zB e2 w)
theorem Uj (kn : K5) (hn : N5 Q kn 0 4 5 6 7) (h : Hg kn (g 0) (g 4) (g 5) (g 6) w) : jO pg mG (hU 2 (bI (hU 1 (gH 1 (bI (bI (gH 1 (hU 1 (gH 4 lV))))))))) Q g w :=
 lB (kr := no) (l := []) h hn lW trivial
def OL (kn : K4) (lK IA iY zB : aDt) (w : aDs) : Prop :=
 Hg (fun lK IA iY zB c_7 w => yE kn lK IA iY zB c_7 w) lK IA iY zB w
def H8 (kn : K4) (lK IA iY zB : aDt) (w : aDs) : Prop :=
 OL kn lK IA iY zB w
def Ic (kn : K4) (lK IA iY zB : aDt) (w : aDs) : Prop :=
 H8 (fun lK IA iY zB w => yT kn lK IA iY zB w) lK IA iY zB w
theorem TZ (kn : K4) (hn : N4 Q kn 0 4 5 6) (h : H8 kn (g 0) (g 4) (g 5) (g 6) w) : jO pg mG (hU 1 (gH 1 (bI (bI (gH 1 (hU 1 (gH 4 lV))))))) Q g w :=
 Iu 2 (nP 2 (Uj _ g w (yE kn) (fun g w h => iZ (Uu _ g w kn hn h)) h))
def HG (kn : K4) (k1 : K1) (lK IA iY zB : aDt) (w : aDs) : Prop :=
 gI pg (hZ .lss 3 jC jC zB IA) w fun d5 w =>
 mK d5
  (kn lK IA iY zB w)
  (k1 iY w)
theorem T8 (kn : K4) (k1 : K1) (hn : N4 Q kn 0 4 5 6) (h1 : E1 Q k1 1 5) (h : HG kn k1 (g 0) (g 4) (g 5) (g 6) w) : jO pg mG (hU 1 (bI (bI (gH 1 (hU 1 (gH 4 lV)))))) Q g w :=
 lB (kr := no) (l := [(1, fun g w => k1 (g 5) w)]) h hn lW ⟨h1, trivial⟩
def Cv (kn : K4) (k1 : K1) (lK IA iY zB : aDt) (w : aDs) : Prop :=
 HG (fun lK IA iY zB w => Ic kn lK IA iY zB w) k1 lK IA iY zB w
def Fx (k1 : K1) (lK IA iY zB : aDt) (w : aDs) : Prop :=
 kO (fun (X : (aDt × aDt) -> K0) (t : aDt × aDt) (w : aDs) => Cv (fun _ _ iY zB w => X (iY, zB) w) k1 lK IA t.1 t.2 w) (iY, zB) w
theorem TN (kn : K4) (k1 : K1) (hn : N4 Q kn 0 4 5 6) (h1 : E1 Q k1 1 5) (h : Cv kn k1 (g 0) (g 4) (g 5) (g 6) w) : jO pg mG (bI (bI (gH 1 (hU 1 (gH 4 lV))))) Q g w :=
 nP 1 (T8 _ g w (Ic kn) k1 (fun g w h => iZ (nP 1 (TZ _ g w (yT kn) (fun g w h => iZ (TI _ g w kn hn h)) h))) h1 h)
theorem Tl (k1 : K1) (h1 : E1 Q k1 1 5) (h : Fx k1 (g 0) (g 4) (g 5) (g 6) w) : jO pg mG (bI (gH 1 (hU 1 (gH 4 lV)))) Q g w := by
 refine Od (fun g : Env => (g 5, g 6)) (fun X t w => Cv (fun _ _ iY zB w => X (iY, zB) w) k1 (g 0) (g 4) t.1 t.2 w) h (fun X g1 w1 ha hL => ?_)
 rw [<- rG 0 ha, <- rG 4 ha] at hL
 exact (TN _ g1 w1 (fun _ _ iY zB w => X (iY, zB) w) k1 (fun _ _ h => h) h1 hL)
def FV (kn : K1) (lK IA iY zB : aDt) (w : aDs) : Prop :=
 Fx kn lK IA iY zB w
def Gg (kn : K4) (lK IA iY : aDt) (w : aDs) : Prop :=
 kn lK IA iY (aDu 0) w
theorem Sx (kn : K4) (hn : N4 Q kn 0 4 5 6) (h : Gg kn (g 0) (g 4) (g 5) w) : jO pg mG (hU 1 (hU 1 (gH 4 lV))) Q g w :=
 lB (kr := no) (l := []) h hn lW trivial
def Gr (kn : K1) (lK IA iY : aDt) (w : aDs) : Prop :=
 Gg (fun lK IA iY zB w => FV kn lK IA iY zB w) lK IA iY w
def GF (R : K1) (lK IA iY : aDt) (w : aDs) : Prop :=
 Gr (fun iY w => CJ R iY w) lK IA iY w
theorem Tp (kn : K1) (hn : N1 Q kn 5) (h : Gr kn (g 0) (g 4) (g 5) w) : jO pg mG (hU 1 (gH 4 lV)) Q g w :=
 nP 1 (Sx _ g w (FV kn) (fun g w h => iZ (Iu 1 (Tl _ g w kn hn h))) h)
def BO (kn : K3) (R : K1) (lK : aDt) (w : aDs) : Prop :=
 jE pg AL #[lK] w fun c0 w =>
 gI pg (hZ .eql 3 (.tmp 10) (.const (aDu 0)) c0 (aDu 0)) w fun c1 w =>
 mK c1
  (R (.tuple #[(.slice none 0 0), (aDu 1)]) w)
  (gI pg (oF .len #[22] 3 [lK]) w fun c4 w =>
  gI pg (hZ .gtr 3 jC jC c4 (aDu 129)) w fun c5 w =>
  mK c5
   (R (.tuple #[(.slice none 0 0), (aDu 12)]) w)
   (gI pg (oF .len #[22] 3 [lK]) w fun c7 w =>
   gI pg (hZ .sub 3 jC jC c7 (aDu 1)) w fun c8 w =>
   gI pg (hZ .add 3 jC jC (aDu 127) c8) w fun d0 w =>
   gI pg (nI 3 5 d0) w fun d1 w =>
   gI pg (lT 22 1 [(0, d1)]) w fun d2 w =>
   kn lK c8 d2 w))
theorem SU (kn : K3) (R : K1) (hn : N3 Q kn 0 4 5) (hr : HR CQ R Q) (h : BO kn R (g 0) w) : jO pg mG (hU 4 lV) Q g w :=
 lB (l := []) h hn hr trivial
def BI (R : K1) (lK : aDt) (w : aDs) : Prop :=
 BO (fun lK IA iY w => GF R lK IA iY w) R lK w
theorem Tw (R : K1) (hr : HR CQ R Q) (h : BI R (g 0) w) : jO pg mG lV Q g w :=
 nP 4 (SU _ g w (GF R) R (fun g w h => iZ (nP 1 (Tp _ g w (CJ R) (fun g w h => iZ (TK _ g w R hr h)) h))) hr h)
def MP (a0 : aDt) (w : aDs) (R : K1) : Prop :=
 BI R a0 w
theorem Le {a0 : aDt} {w : aDs} {R : K1} (h : MP a0 w R) : jE pg AN #[a0] w R := by
 refine yX (ann := mG) Tryz.f86 lV [a0] CQ 49 TryzM.mixed Tryz.func86 ?_
 exact (Tw _ _ _ R (fun _ _ h => h) h)
def GV : FA := ⟨xC, fun i => .leaf ([], []) []⟩
def IM : List ResultVar := [.tmp 4, .tmp 5]
noncomputable def GI : Code := kA Tryz.f87
def B8 (R : K1) (lK jP : aDt) (w : aDs) : Prop :=
 gI pg (oF .len #[22] 3 [jP]) w fun b7 w =>
 gI pg (hZ .lss 3 jC jC b7 (aDu 256)) w fun b8 w =>
 mK b8
  (jE pg Is #[lK, jP] w fun c1 w =>
  gI pg (jZ c1 0) w fun c2 w =>
  gI pg (jZ c1 1) w fun c3 w =>
  R (.tuple #[c2, c3]) w)
  (jE pg Gv #[lK, jP] w fun c6 w =>
  gI pg (jZ c6 0) w fun c7 w =>
  gI pg (jZ c6 1) w fun c8 w =>
  R (.tuple #[c7, c8]) w)
theorem OX (R : K1) (hr : HR IM R Q) (h : B8 R (g 0) (g 1) w) : jO pg GV GI Q g w :=
 lB (kn := no) (l := []) h lW hr trivial
def MC (a0 a1 : aDt) (w : aDs) (R : K1) : Prop :=
 B8 R a0 a1 w
theorem Qz {a0 a1 : aDt} {w : aDs} {R : K1} (h : MC a0 a1 w R) : jE pg xC #[a0, a1] w R := by
 refine yX (ann := GV) Tryz.f87 GI [a0, a1] IM 19 TryzM.mixed Tryz.func87 ?_
 exact (OX _ _ _ R (fun _ _ h => h) h)
def J6 : FA := ⟨CL, fun i => .leaf ([], []) []⟩
def Mo : List ResultVar := [.tmp 0]
noncomputable def Jr : Code := kA Tryz.f97
def Gx (R : K1)  (w : aDs) : Prop :=
 gI pg (kY 201 []) w fun b1 w =>
 gI pg (Ru 201 b1) w fun b2 w =>
 R b2 w
theorem S8 (R : K1) (hr : HR Mo R Q) (h : Gx R w) : jO pg J6 Jr Q g w :=
 lB (kn := no) (l := []) h lW hr trivial
def Sb (w : aDs) (R : K1) : Prop :=
 Gx R w
theorem TS {w : aDs} {R : K1} (h : Sb w R) : jE pg CL #[] w R := by
 refine yX (ann := J6) Tryz.f97 Jr [] Mo 3 TryzM.mixed Tryz.func97 ?_
 exact (S8 _ _ _ R (fun _ _ h => h) h)
def mJ : FA := ⟨rP, fun i => match Nat.beq i 6 with | true => .leaf ([25], []) [(false, []), (false, []), (false, []), (false, []), (false, []), (false, []), (false, []), (false, []), (false, []), (false, []), (false, []), (false, []), (false, []), (false, []), (false, []), (false, []), (false, []), (false, []), (false, []), (false, []), (false, []), (false, []), (false, []), (false, []), (false, []), (true, [])] | false => .leaf ([], []) []⟩
def B3 : List ResultVar := []
noncomputable def mA : Code := kA Tryz.f100
def sN (kn : K4) (yY DJ c7 c8 : aDt) (w : aDs) : Prop :=
 gI pg (hZ .add 3 jC jC c8 (aDu 1)) w fun j8 w =>
 kn yY DJ c7 j8 w
theorem Oj (kn : K4) (hn : N4 Q kn 0 1 17 18) (h : sN kn (g 0) (g 1) (g 17) (g 18) w) : jO pg mJ (gH 1 (gH 2 (bI (bI (gH 2 mA))))) Q g w :=
 lB (kr := no) (l := []) h hn lW trivial
def pR (kn : K4) (yY DJ zB c7 c8 : aDt) (w : aDs) : Prop :=
 (dr w) = (dr w) /\
 gI pg (nO yY) (dr w) fun e7 w_ => w_ = (dr w) /\
 gI pg (jH 201 e7 0) (dr w) fun e8 w_ => w_ = (dr w) /\
 gI pg (jF 22 e8) (dr w) fun e9 w_ => w_ = (dr w) /\
 (dr w) = (dr w) /\
 gI pg (nO yY) (dr w) fun f1 w_ => w_ = (dr w) /\
 gI pg (jH 201 f1 1) (dr w) fun f2 w_ => w_ = (dr w) /\
 gI pg (jF 3 f2) (dr w) fun f3 w_ => w_ = (dr w) /\
 gI pg (hZ .quo 3 jC jC f3 (aDu 8)) (dr w) fun f4 w_ => w_ = (dr w) /\
 gI pg (jS 22 e9 f4) (dr w) fun f5 w_ => w_ = (dr w) /\
 gI pg (jF 5 f5) (dr w) fun f6 w_ => w_ = (dr w) /\
 (dr w) = (dr w) /\
 (dr w) = (dr w) /\
 gI pg (nI 3 50 zB) (dr w) fun f9 w_ => w_ = (dr w) /\
 gI pg (hZ .shr 32 jC jC DJ f9) (dr w) fun i0 w_ => w_ = (dr w) /\
 gI pg (hZ .and 32 jC jC i0 (.int .u64 1)) (dr w) fun i1 w_ => w_ = (dr w) /\
 gI pg (nI 32 5 i1) (dr w) fun i2 w_ => w_ = (dr w) /\
 (dr w) = (dr w) /\
 gI pg (nO yY) (dr w) fun i4 w_ => w_ = (dr w) /\
 gI pg (jH 201 i4 1) (dr w) fun i5 w_ => w_ = (dr w) /\
 gI pg (jF 3 i5) (dr w) fun i6 w_ => w_ = (dr w) /\
 gI pg (hZ .rem 3 jC jC i6 (aDu 8)) (dr w) fun i7 w_ => w_ = (dr w) /\
 gI pg (hZ .shl 5 jC jC i2 i7) (dr w) fun i8 w_ => w_ = (dr w) /\
 gI pg (hZ .or 5 jC jC f6 i8) (dr w) fun i9 w_ => w_ = (dr w) /\
 gI pg (jS 22 e9 f4) (dr w) fun j0 w_ => w_ = (dr w) /\
 gI pg (jQ 5 j0 i9) (dr w) fun _u25 azL =>
 gI pg (nO yY) azL fun j2 w =>
 gI pg (jH 201 j2 1) w fun j3 w =>
 gI pg (jF 3 j3) w fun j4 w =>
 gI pg (hZ .add 3 jC jC j4 (aDu 1)) w fun j5 w =>
 gI pg (nO yY) w fun j6 w =>
 gI pg (jH 201 j6 1) w fun j7 w =>
 gI pg (jQ 3 j7 j5) w fun _u w =>
 kn yY DJ c7 c8 w
theorem Pe (kn : K4) (hn : N4 Q kn 0 1 17 18) (h : pR kn (g 0) (g 1) (g 6) (g 17) (g 18) w) : jO pg mJ (gH 2 (bI (hU 1 (gH 2 (bI (bI (gH 2 mA))))))) Q g w :=
 lB (kr := no) (l := []) h hn lW trivial
def wF (kn : K5) (yY DJ c7 c8 : aDt) (w : aDs) : Prop :=
 gI pg (nO yY) w fun d2 w =>
 gI pg (jH 201 d2 1) w fun d3 w =>
 gI pg (jF 3 d3) w fun d4 w =>
 gI pg (hZ .rem 3 jC jC d4 (aDu 8)) w fun d5 w =>
 gI pg (hZ .eql 3 (.tmp 25) (.const (aDu 0)) d5 (aDu 0)) w fun d6 w =>
 mK d6
  (gI pg (nO yY) w fun d9 w =>
  gI pg (jH 201 d9 0) w fun e0 w =>
  gI pg (jF 22 e0) w fun e1 w =>
  gI pg (lT 22 1 [(0, (.int .u8 0))]) w fun e2 w =>
  gI pg (oF .append #[22, 22] 22 [e1, e2]) w fun e3 w =>
  gI pg (nO yY) w fun e4 w =>
  gI pg (jH 201 e4 0) w fun e5 w =>
  gI pg (jQ 22 e5 e3) w fun _u w =>
  kn yY DJ c8 c7 c8 w)
  (kn yY DJ c8 c7 c8 w)
theorem Ov (kn : K5) (hn : N5 Q kn 0 1 6 17 18) (h : wF kn (g 0) (g 1) (g 17) (g 18) w) : jO pg mJ (hU 2 (bI (hU 1 (gH 2 (bI (bI (gH 2 mA))))))) Q g w :=
 lB (kr := no) (l := []) h hn lW trivial
def sM (kn : K4) (yY DJ c7 c8 : aDt) (w : aDs) : Prop :=
 wF (fun yY DJ zB c7 c8 w => pR kn yY DJ zB c7 c8 w) yY DJ c7 c8 w
def vX (kn : K4) (yY DJ c7 c8 : aDt) (w : aDs) : Prop :=
 sM kn yY DJ c7 c8 w
def vT (kn : K4) (yY DJ c7 c8 : aDt) (w : aDs) : Prop :=
 vX (fun yY DJ c7 c8 w => sN kn yY DJ c7 c8 w) yY DJ c7 c8 w
theorem OD (kn : K4) (hn : N4 Q kn 0 1 17 18) (h : vX kn (g 0) (g 1) (g 17) (g 18) w) : jO pg mJ (hU 1 (gH 2 (bI (bI (gH 2 mA))))) Q g w :=
 Iu 1 (nP 2 (Ov _ g w (pR kn) (fun g w h => iZ (Pe _ g w kn hn h)) h))
def vS (kn : K4) (k0 : K0) (yY DJ c7 c8 : aDt) (w : aDs) : Prop :=
 gI pg (hZ .lss 3 jC jC c8 c7) w fun c9 w =>
 mK c9
  (kn yY DJ c7 c8 w)
  (k0 w)
theorem O8 (kn : K4) (k0 : K0) (hn : N4 Q kn 0 1 17 18) (h0 : E0 Q k0 0) (h : vS kn k0 (g 0) (g 1) (g 17) (g 18) w) : jO pg mJ (hU 2 (bI (bI (gH 2 mA)))) Q g w :=
 lB (kr := no) (l := [(0, fun g w => k0 w)]) h hn lW ⟨h0, trivial⟩
def sO (kn : K4) (k0 : K0) (yY DJ c7 c8 : aDt) (w : aDs) : Prop :=
 vS (fun yY DJ c7 c8 w => vT kn yY DJ c7 c8 w) k0 yY DJ c7 c8 w
def vM (k0 : K0) (yY DJ c7 c8 : aDt) (w : aDs) : Prop :=
 kO (fun (X : aDt -> K0) (t : aDt) (w : aDs) => sO (fun _ _ _ c8 w => X c8 w) k0 yY DJ c7 t w) c8 w
theorem O9 (kn : K4) (k0 : K0) (hn : N4 Q kn 0 1 17 18) (h0 : E0 Q k0 0) (h : sO kn k0 (g 0) (g 1) (g 17) (g 18) w) : jO pg mJ (bI (bI (gH 2 mA))) Q g w :=
 nP 2 (O8 _ g w (vT kn) k0 (fun g w h => iZ (nP 1 (OD _ g w (sN kn) (fun g w h => iZ (Oj _ g w kn hn h)) h))) h0 h)
theorem Oq (k0 : K0) (h0 : E0 Q k0 0) (h : vM k0 (g 0) (g 1) (g 17) (g 18) w) : jO pg mJ (bI (gH 2 mA)) Q g w := by
 refine Od (fun g : Env => g 18) (fun X t w => sO (fun _ _ _ c8 w => X c8 w) k0 (g 0) (g 1) (g 17) t w) h (fun X g1 w1 ha hL => ?_)
 rw [<- rG 0 ha, <- rG 1 ha, <- rG 17 ha] at hL
 exact (O9 _ g1 w1 (fun _ _ _ c8 w => X c8 w) k0 (fun _ _ h => h) h0 hL)
def uW (kn : K0) (yY DJ c7 c8 : aDt) (w : aDs) : Prop :=
 vM kn yY DJ c7 c8 w
def uY (kn : K4) (R : K1) (yY DJ SI : aDt) (w : aDs) : Prop :=
 gI pg (hZ .eql 170 (.tmp 7) (.const (.pointer none)) yY (.pointer none)) w fun b8 w =>
 Gd (kR b8 false) (fun K => K SI w) w fun c0 w =>
 Gd (kR b8 false) (fun K => gI pg (hZ .lss 3 jC jC c0 (aDu 1)) w K) w fun c1 w =>
 gI pg (nD b8 (.bool true) c1) w fun c2 w =>
 Gd (kR c2 false) (fun K => K SI w) w fun c4 w =>
 Gd (kR c2 false) (fun K => gI pg (hZ .gtr 3 jC jC c4 (aDu 56)) w K) w fun c5 w =>
 gI pg (nD c2 (.bool true) c5) w fun c6 w =>
 mK c6
  (R (.tuple #[]) w)
  (kn yY DJ SI (aDu 0) w)
theorem M4 (kn : K4) (R : K1) (hn : N4 Q kn 0 1 17 18) (hr : HR B3 R Q) (h : uY kn R (g 0) (g 1) (g 2) w) : jO pg mJ (hU 2 mA) Q g w :=
 lB (l := []) h hn hr trivial
def vE (kn : K0) (R : K1) (yY DJ SI : aDt) (w : aDs) : Prop :=
 uY (fun yY DJ c7 c8 w => uW kn yY DJ c7 c8 w) R yY DJ SI w
theorem NP (kn : K0) (R : K1) (hn : N0 Q kn) (hr : HR B3 R Q) (h : vE kn R (g 0) (g 1) (g 2) w) : jO pg mJ mA Q g w :=
 nP 2 (M4 _ g w (uW kn) R (fun g w h => iZ (Iu 0 (Oq _ g w kn hn h))) hr h)
def Gn (a0 a1 a2 : aDt) (w : aDs) (R : K1) : Prop :=
 vE (fun  w => R (.tuple #[]) w) R a0 a1 a2 w
theorem F8 {a0 a1 a2 : aDt} {w : aDs} {R : K1} (h : Gn a0 a1 a2 w R) : jE pg rP #[a0, a1, a2] w R := by
 refine yX (ann := mJ) Tryz.f100 mA [a0, a1, a2] B3 69 TryzM.mixed Tryz.func100 ?_
 exact (NP _ _ _ (fun  w => R (.tuple #[]) w) R (fun _ _ h => h) (fun _ _ h => h) h)
def Ft : FA := ⟨vN, fun i => match Nat.beq i 3 with | true => .leaf ([4, 10], [(4, 6), (4, 7), (4, 8)]) [(false, []), (false, []), (false, []), (false, []), (true, []), (false, []), (false, [1]), (false, [2]), (false, [3]), (false, []), (true, []), (false, [])] | false => .leaf ([], []) []⟩
def G0 : List ResultVar := [.tmp 2]
noncomputable def Fo : Code := kA Tryz.f102
def AW (R : K1) (yY : aDt) (w : aDs) : Prop :=
 gI pg (hZ .eql 170 (.tmp 4) (.const (.pointer none)) yY (.pointer none)) w fun b5 w =>
 mK b5
  (R (.slice none 0 0) w)
  ((dr w) = (dr w) /\
  gI pg (nO yY) (dr w) fun b7 w_ => w_ = (dr w) /\
  gI pg (jH 201 b7 0) (dr w) fun b8 w_ => w_ = (dr w) /\
  gI pg (jF 22 b8) (dr w) fun b9 w_ => w_ = (dr w) /\
  jE pg rN #[b9] (dr w) fun c0 aaM =>
  aaM = aaM /\
  gI pg (nO yY) aaM fun c2 w_ => w_ = aaM /\
  (jD pg (nO yY) c2 (dr w) /\ True) /\
  gI pg (jH 201 c2 1) aaM fun c3 w_ => w_ = aaM /\
  (jD pg (jH 201 c2 1) c3 (dr w) /\ True) /\
  gI pg (jF 3 c3) aaM fun c4 w_ => w_ = aaM /\
  (jD pg (jF 3 c3) c4 (dr w) /\ True) /\
  gI pg (kY 201 [(0, c0), (1, c4)]) aaM fun c5 w_ => w_ = aaM /\
  gI pg (Ru 201 c5) aaM fun c6 aqD =>
  aqD = aqD /\
  jE pg rP #[c6, (.int .u64 1), (aDu 1)] aqD fun c8 w =>
  gI pg (nO c6) w fun d0 w =>
  gI pg (jH 201 d0 0) w fun d1 w =>
  gI pg (jF 22 d1) w fun d2 w =>
  R d2 w)
theorem Ob (R : K1) (hr : HR G0 R Q) (h : AW R (g 0) w) : jO pg Ft Fo Q g w :=
 lB (kn := no) (l := []) h lW hr trivial
def Lq (a0 : aDt) (w : aDs) (R : K1) : Prop :=
 AW R a0 w
theorem Pa {a0 : aDt} {w : aDs} {R : K1} (h : Lq a0 w R) : jE pg vN #[a0] w R := by
 refine yX (ann := Ft) Tryz.f102 Fo [a0] G0 23 TryzM.mixed Tryz.func102 ?_
 exact (Ob _ _ _ R (fun _ _ h => h) h)
def MI : FA := ⟨Ee, fun i => .leaf ([], []) []⟩
def O6 : List ResultVar := [.tmp 4, .tmp 5]
noncomputable def KI : Code := kA Tryz.f103
def Hv (R : K1) (mZ y_1 : aDt) (w : aDs) : Prop :=
 mK (.bool false)
  (gI pg (nI 50 38 mZ) w fun c2 w =>
  gI pg (nI 50 38 y_1) w fun c4 w =>
  jE pg WG #[c2, c4] w fun c5 w =>
  gI pg (jZ c5 0) w fun c6 w =>
  gI pg (jZ c5 1) w fun c7 w =>
  gI pg (nI 38 50 c6) w fun c9 w =>
  gI pg (nI 38 50 c7) w fun d1 w =>
  R (.tuple #[c9, d1]) w)
  (jE pg BN #[mZ, y_1] w fun d5 w =>
  gI pg (jZ d5 0) w fun d6 w =>
  gI pg (jZ d5 1) w fun d7 w =>
  R (.tuple #[d6, d7]) w)
theorem Uz (R : K1) (hr : HR O6 R Q) (h : Hv R (g 0) (g 1) w) : jO pg MI KI Q g w :=
 lB (kn := no) (l := []) h lW hr trivial
def UQ (a0 a1 : aDt) (w : aDs) (R : K1) : Prop :=
 Hv R a0 a1 w
theorem VJ {a0 a1 : aDt} {w : aDs} {R : K1} (h : UQ a0 a1 w R) : jE pg Ee #[a0, a1] w R := by
 refine yX (ann := MI) Tryz.f103 KI [a0, a1] O6 30 TryzM.mixed Tryz.func103 ?_
 exact (Uz _ _ _ R (fun _ _ h => h) h)
def rO : FA := ⟨wD, fun i => .leaf ([], []) []⟩
def EL : List ResultVar := [.tmp 2]
noncomputable def qU : Code := kA Tryz.f107
def uN (R : K1) (mZ SI : aDt) (w : aDs) : Prop :=
 gI pg (nI 32 5 mZ) w fun d1 w =>
 gI pg (Ry 9 (.string ⟨#[0, 1, 2, 2, 3, 3, 3, 3, 4, 4, 4, 4, 4, 4, 4, 4, 5, 5, 5, 5, 5, 5, 5, 5, 5, 5, 5, 5, 5, 5, 5, 5, 6, 6, 6, 6, 6, 6, 6, 6, 6, 6, 6, 6, 6, 6, 6, 6, 6, 6, 6, 6, 6, 6, 6, 6, 6, 6, 6, 6, 6, 6, 6, 6, 7, 7, 7, 7, 7, 7, 7, 7, 7, 7, 7, 7, 7, 7, 7, 7, 7, 7, 7, 7, 7, 7, 7, 7, 7, 7, 7, 7, 7, 7, 7, 7, 7, 7, 7, 7, 7, 7, 7, 7, 7, 7, 7, 7, 7, 7, 7, 7, 7, 7, 7, 7, 7, 7, 7, 7, 7, 7, 7, 7, 7, 7, 7, 7, 8, 8, 8, 8, 8, 8, 8, 8, 8, 8, 8, 8, 8, 8, 8, 8, 8, 8, 8, 8, 8, 8, 8, 8, 8, 8, 8, 8, 8, 8, 8, 8, 8, 8, 8, 8, 8, 8, 8, 8, 8, 8, 8, 8, 8, 8, 8, 8, 8, 8, 8, 8, 8, 8, 8, 8, 8, 8, 8, 8, 8, 8, 8, 8, 8, 8, 8, 8, 8, 8, 8, 8, 8, 8, 8, 8, 8, 8, 8, 8, 8, 8, 8, 8, 8, 8, 8, 8, 8, 8, 8, 8, 8, 8, 8, 8, 8, 8, 8, 8, 8, 8, 8, 8, 8, 8, 8, 8, 8, 8, 8, 8, 8, 8, 8, 8, 8, 8, 8, 8, 8, 8, 8, 8, 8, 8, 8, 8]⟩) d1) w fun d2 w =>
 gI pg (nI 5 3 d2) w fun d3 w =>
 gI pg (hZ .add 3 jC jC SI d3) w fun d4 w =>
 R d4 w
theorem Rc (R : K1) (hr : HR EL R Q) (h : uN R (g 0) (g 2) w) : jO pg rO (gH 1 (gH 1 (gH 2 qU))) Q g w :=
 lB (kn := no) (l := []) h lW hr trivial
def EB (kn : K2) (mZ SI : aDt) (w : aDs) : Prop :=
 gI pg (hZ .geq 32 jC jC mZ (.int .u64 256)) w fun c4 w =>
 mK c4
  (gI pg (hZ .shr 32 jC jC mZ (.int .u64 8)) w fun c6 w =>
  gI pg (hZ .add 3 jC jC SI (aDu 8)) w fun c8 w =>
  kn c6 c8 w)
  (kn mZ SI w)
theorem R3 (kn : K2) (hn : N2 Q kn 0 2) (h : EB kn (g 0) (g 2) w) : jO pg rO (hU 1 (gH 1 (gH 2 qU))) Q g w :=
 lB (kr := no) (l := []) h hn lW trivial
def zU (R : K1) (mZ SI : aDt) (w : aDs) : Prop :=
 EB (fun mZ SI w => uN R mZ SI w) mZ SI w
def EW (kn : K2) (mZ SI : aDt) (w : aDs) : Prop :=
 gI pg (hZ .geq 32 jC jC mZ (.int .u64 65536)) w fun b8 w =>
 mK b8
  (gI pg (hZ .shr 32 jC jC mZ (.int .u64 16)) w fun c0 w =>
  gI pg (hZ .add 3 jC jC SI (aDu 16)) w fun c2 w =>
  kn c0 c2 w)
  (kn mZ SI w)
theorem RW (kn : K2) (hn : N2 Q kn 0 2) (h : EW kn (g 0) (g 2) w) : jO pg rO (hU 1 (gH 2 qU)) Q g w :=
 lB (kr := no) (l := []) h hn lW trivial
def zZ (R : K1) (mZ SI : aDt) (w : aDs) : Prop :=
 EW (fun mZ SI w => zU R mZ SI w) mZ SI w
def EY (kn : K2) (mZ : aDt) (w : aDs) : Prop :=
 gI pg (hZ .geq 32 jC jC mZ (.int .u64 4294967296)) w fun b4 w =>
 mK b4
  (gI pg (hZ .shr 32 jC jC mZ (.int .u64 32)) w fun b6 w =>
  kn b6 (aDu 32) w)
  (kn mZ (aDu 0) w)
theorem RL (kn : K2) (hn : N2 Q kn 0 2) (h : EY kn (g 0) w) : jO pg rO (hU 2 qU) Q g w :=
 lB (kr := no) (l := []) h hn lW trivial
def EF (R : K1) (mZ : aDt) (w : aDs) : Prop :=
 EY (fun mZ SI w => zZ R mZ SI w) mZ w
theorem RP (R : K1) (hr : HR EL R Q) (h : EF R (g 0) w) : jO pg rO qU Q g w :=
 nP 2 (RL _ g w (zZ R) (fun g w h => iZ (nP 1 (RW _ g w (zU R) (fun g w h => iZ (nP 1 (R3 _ g w (uN R) (fun g w h => iZ (Rc _ g w R hr h)) h))) h))) h)
def QP (a0 : aDt) (w : aDs) (R : K1) : Prop :=
 EF R a0 w
theorem SZ {a0 : aDt} {w : aDs} {R : K1} (h : QP a0 w R) : jE pg wD #[a0] w R := by
 refine yX (ann := rO) Tryz.f107 qU [a0] EL 25 TryzM.mixed Tryz.func107 ?_
 exact (RP _ _ _ R (fun _ _ h => h) h)
def MG : FA := ⟨AL, fun i => .leaf ([], []) []⟩
def OV : List ResultVar := [.tmp 2]
noncomputable def Lc : Code := kA Tryz.f108
def HN (R : K1) (lK : aDt) (w : aDs) : Prop :=
 jE pg Ea #[lK] w fun b8 w =>
 gI pg (jZ b8 0) w fun b9 w =>
 gI pg (jZ b8 1) w fun c0 w =>
 gI pg (sUn .not c0) w fun c2 w =>
 Gd (kR c2 false) (fun K => K lK w) w fun c4 w =>
 Gd (kR c2 false) (fun K => gI pg (oF .len #[22] 3 [c4]) w K) w fun c5 w =>
 Gd (kR c2 false) (fun K => gI pg (hZ .lss 3 jC jC c5 (aDu 2)) w K) w fun c6 w =>
 gI pg (nD c2 (.bool true) c6) w fun c7 w =>
 Gd (kR c7 false) (fun K => K lK w) w fun c9 w =>
 Gd (kR c7 false) (fun K => gI pg (oF .len #[22] 3 [c9]) w K) w fun d0 w =>
 Gd (kR c7 false) (fun K => gI pg (hZ .gtr 3 jC jC d0 (aDu 256)) w K) w fun d1 w =>
 gI pg (nD c7 (.bool true) d1) w fun d2 w =>
 Gd (kR d2 false) (fun K => K lK w) w fun d4 w =>
 Gd (kR d2 false) (fun K => K lK w) w fun d5 w =>
 Gd (kR d2 false) (fun K => gI pg (oF .len #[22] 3 [d5]) w K) w fun d6 w =>
 Gd (kR d2 false) (fun K => gI pg (hZ .sub 3 jC jC d6 (aDu 1)) w K) w fun d7 w =>
 Gd (kR d2 false) (fun K => gI pg (jS 22 d4 d7) w K) w fun d8 w =>
 Gd (kR d2 false) (fun K => gI pg (jF 5 d8) w K) w fun d9 w =>
 Gd (kR d2 false) (fun K => gI pg (hZ .eql 5 (.tmp 29) (.const (.int .u8 0)) d9 (.int .u8 0)) w K) w fun e0 w =>
 gI pg (nD d2 (.bool true) e0) w fun e1 w =>
 Gd (kR e1 false) (fun K => K b9 w) w fun e3 w =>
 Gd (kR e1 false) (fun K => K b9 w) w fun e4 w =>
 Gd (kR e1 false) (fun K => gI pg (hZ .sub 3 jC jC e4 (aDu 1)) w K) w fun e5 w =>
 Gd (kR e1 false) (fun K => gI pg (hZ .and 3 jC jC e3 e5) w K) w fun e6 w =>
 Gd (kR e1 false) (fun K => gI pg (hZ .neq 3 (.tmp 36) (.const (aDu 0)) e6 (aDu 0)) w K) w fun e7 w =>
 gI pg (nD e1 (.bool true) e7) w fun e8 w =>
 mK e8
  (R (aDu 0) w)
  (gI pg (nI 3 50 b9) w fun f0 w =>
  jE pg D7 #[f0] w fun f1 w =>
  gI pg (hZ .sub 3 jC jC f1 (aDu 1)) w fun f2 w =>
  gI pg (hZ .gtr 3 jC jC f2 (aDu 11)) w fun f4 w =>
  Gd (kR f4 false) (fun K => K lK w) w fun f6 w =>
  Gd (kR f4 false) (fun K => jE pg uS #[f6] w K) w fun f7 w =>
  Gd (kR f4 false) (fun K => gI pg (nI 5 3 f7) w K) w fun f8 w =>
  Gd (kR f4 false) (fun K => K f2 w) w fun f9 w =>
  Gd (kR f4 false) (fun K => gI pg (hZ .gtr 3 jC jC f8 f9) w K) w fun i0 w =>
  gI pg (nD f4 (.bool true) i0) w fun i1 w =>
  mK i1
   (R (aDu 0) w)
   (R f2 w))
theorem Uq (R : K1) (hr : HR OV R Q) (h : HN R (g 0) w) : jO pg MG Lc Q g w :=
 lB (kn := no) (l := []) h lW hr trivial
def UK (a0 : aDt) (w : aDs) (R : K1) : Prop :=
 HN R a0 w
theorem VM {a0 : aDt} {w : aDs} {R : K1} (h : UK a0 w R) : jE pg AL #[a0] w R := by
 refine yX (ann := MG) Tryz.f108 Lc [a0] OV 53 TryzM.mixed Tryz.func108 ?_
 exact (Uq _ _ _ R (fun _ _ h => h) h)
def QK : FA := ⟨Is, fun i => .leaf ([], []) []⟩
def Sj : List ResultVar := [.tmp 4, .tmp 5]
noncomputable def OE : Code := kA Tryz.f109
def J5 (R : K1) (lK jP : aDt) (w : aDs) : Prop :=
 jE pg vJ #[lK] w fun c0 w =>
 gI pg (jZ c0 0) w fun c1 w =>
 gI pg (jZ c0 1) w fun c2 w =>
 gI pg (hZ .neq 24 (.tmp 14) (.const (aDu 0)) c2 (aDu 0)) w fun c5 w =>
 mK c5
  (R (.tuple #[(.slice none 0 0), c2]) w)
  (gI pg (oF .len #[22] 3 [jP]) w fun c9 w =>
  gI pg (hZ .gtr 3 jC jC c9 (aDu 131072)) w fun d0 w =>
  mK d0
   (R (.tuple #[(.slice none 0 0), (aDu 1)]) w)
   (jE pg oH #[c1, jP] w fun d3 w =>
   gI pg (jZ d3 0) w fun d4 w =>
   gI pg (jZ d3 1) w fun d5 w =>
   R (.tuple #[d4, d5]) w))
theorem Xd (R : K1) (hr : HR Sj R Q) (h : J5 R (g 0) (g 1) w) : jO pg QK OE Q g w :=
 lB (kn := no) (l := []) h lW hr trivial
def Y1 (a0 a1 : aDt) (w : aDs) (R : K1) : Prop :=
 J5 R a0 a1 w
theorem Yq {a0 a1 : aDt} {w : aDs} {R : K1} (h : Y1 a0 a1 w R) : jE pg Is #[a0, a1] w R := by
 refine yX (ann := QK) Tryz.f109 OE [a0, a1] Sj 26 TryzM.mixed Tryz.func109 ?_
 exact (Xd _ _ _ R (fun _ _ h => h) h)
def mW : FA := ⟨Gv, fun i => .leaf ([], []) []⟩
def qO : List ResultVar := [.tmp 4, .tmp 5]
noncomputable def mD : Code := kA Tryz.f110
def AF (R : K1) (rT lI : aDt) (w : aDs) : Prop :=
 jE pg pK #[rT, lI] w fun l3 w =>
 jE pg oA #[rT] w fun l5 w =>
 R (.tuple #[l5, (aDu 0)]) w
theorem Ve (R : K1) (hr : HR qO R Q) (h : AF R (g 10) (g 11) w) : jO pg mW (gH 1 (gH 7 mD)) Q g w :=
 lB (kn := no) (l := []) h lW hr trivial
def AG (kn : K6) (jP lM rT lI e8 e9 : aDt) (w : aDs) : Prop :=
 gI pg (hZ .add 3 jC jC e9 (aDu 1)) w fun l0 w =>
 kn jP lM rT lI e8 l0 w
theorem VP (kn : K6) (hn : N6 Q kn 1 6 10 11 38 39) (h : AG kn (g 1) (g 6) (g 10) (g 11) (g 38) (g 39) w) : jO pg mW (gH 1 (gH 2 (bI (bI (gH 1 (hU 1 (gH 7 mD))))))) Q g w :=
 lB (kr := no) (l := []) h hn lW trivial
def AO (kn : K6) (jP lM rT lI asL e8 e9 : aDt) (w : aDs) : Prop :=
 gI pg (oF .append #[22, 22] 22 [lI, asL]) w fun j9 w =>
 kn jP lM rT j9 e8 e9 w
theorem Vs (kn : K6) (hn : N6 Q kn 1 6 10 11 38 39) (h : AO kn (g 1) (g 6) (g 10) (g 11) (g 14) (g 38) (g 39) w) : jO pg mW (gH 5 (bI (hU 1 (gH 2 (bI (bI (gH 1 (hU 1 (gH 7 mD))))))))) Q g w :=
 lB (kr := no) (l := []) h hn lW trivial
def I8 (kn : K7) (R : K1) (jP lM rT lI e8 e9 : aDt) (w : aDs) : Prop :=
 gI pg (Ry 139 e8 e9) w fun f2 w =>
 gI pg (lP 22 jP none (some f2) none) w fun f7 w =>
 jE pg oH #[lM, f7] w fun f8 w =>
 gI pg (jZ f8 0) w fun f9 w =>
 gI pg (jZ f8 1) w fun i0 w =>
 gI pg (hZ .neq 24 (.tmp 51) (.const (aDu 0)) i0 (aDu 0)) w fun i2 w =>
 mK i2
  (R (.tuple #[(.slice none 0 0), i0]) w)
  (gI pg (lP 22 jP (some f2) none none) w fun i6 w =>
  gI pg (hZ .lss 3 jC jC e9 (aDu 3)) w fun i8 w =>
  mK i8
   (gI pg (oF .len #[22] 3 [f9]) w fun j0 w =>
   gI pg (hZ .geq 3 jC jC j0 (aDu 65536)) w fun j1 w =>
   mK j1
    (R (.tuple #[(.slice none 0 0), (aDu 1)]) w)
    (gI pg (oF .len #[22] 3 [f9]) w fun j4 w =>
    gI pg (nI 3 32 j4) w fun j5 w =>
    jE pg jR #[rT, j5, (aDu 2)] w fun j6 w =>
    kn i6 lM rT lI f9 e8 e9 w))
   (kn i6 lM rT lI f9 e8 e9 w))
theorem VK (kn : K7) (R : K1) (hn : N7 Q kn 1 6 10 11 14 38 39) (hr : HR qO R Q) (h : I8 kn R (g 1) (g 6) (g 10) (g 11) (g 38) (g 39) w) : jO pg mW (hU 5 (bI (hU 1 (gH 2 (bI (bI (gH 1 (hU 1 (gH 7 mD))))))))) Q g w :=
 lB (l := []) h hn hr trivial
def QN (kn : K6) (R : K1) (jP lM rT lI e8 e9 : aDt) (w : aDs) : Prop :=
 I8 (fun jP lM rT lI asL e8 e9 w => AO kn jP lM rT lI asL e8 e9 w) R jP lM rT lI e8 e9 w
def Jj (kn : K6) (R : K1) (jP lM rT lI e8 e9 : aDt) (w : aDs) : Prop :=
 QN kn R jP lM rT lI e8 e9 w
def Jh (kn : K6) (R : K1) (jP lM rT lI e8 e9 : aDt) (w : aDs) : Prop :=
 Jj (fun jP lM rT lI e8 e9 w => AG kn jP lM rT lI e8 e9 w) R jP lM rT lI e8 e9 w
theorem VO (kn : K6) (R : K1) (hn : N6 Q kn 1 6 10 11 38 39) (hr : HR qO R Q) (h : Jj kn R (g 1) (g 6) (g 10) (g 11) (g 38) (g 39) w) : jO pg mW (hU 1 (gH 2 (bI (bI (gH 1 (hU 1 (gH 7 mD))))))) Q g w :=
 Iu 1 (nP 5 (VK _ g w (AO kn) R (fun g w h => iZ (Vs _ g w kn hn h)) hr h))
def I2 (kn : K6) (k0 : K2) (jP lM rT lI e8 e9 : aDt) (w : aDs) : Prop :=
 gI pg (hZ .lss 3 jC jC e9 (aDu 4)) w fun f0 w =>
 mK f0
  (kn jP lM rT lI e8 e9 w)
  (k0 rT lI w)
theorem U4 (kn : K6) (k0 : K2) (hn : N6 Q kn 1 6 10 11 38 39) (h0 : E2 Q k0 0 10 11) (h : I2 kn k0 (g 1) (g 6) (g 10) (g 11) (g 38) (g 39) w) : jO pg mW (hU 2 (bI (bI (gH 1 (hU 1 (gH 7 mD)))))) Q g w :=
 lB (kr := no) (l := [(0, fun g w => k0 (g 10) (g 11) w)]) h hn lW ⟨h0, trivial⟩
def D4 (kn : K6) (k0 : K2) (R : K1) (jP lM rT lI e8 e9 : aDt) (w : aDs) : Prop :=
 I2 (fun jP lM rT lI e8 e9 w => Jh kn R jP lM rT lI e8 e9 w) k0 jP lM rT lI e8 e9 w
def Hx (k0 : K2) (R : K1) (jP lM rT lI e8 e9 : aDt) (w : aDs) : Prop :=
 kO (fun (X : (aDt × aDt × aDt) -> K0) (t : aDt × aDt × aDt) (w : aDs) => D4 (fun jP _ _ lI _ e9 w => X (jP, lI, e9) w) k0 R t.1 lM rT t.2.1 e8 t.2.2 w) (jP, lI, e9) w
theorem U1 (kn : K6) (k0 : K2) (R : K1) (hn : N6 Q kn 1 6 10 11 38 39) (h0 : E2 Q k0 0 10 11) (hr : HR qO R Q) (h : D4 kn k0 R (g 1) (g 6) (g 10) (g 11) (g 38) (g 39) w) : jO pg mW (bI (bI (gH 1 (hU 1 (gH 7 mD))))) Q g w :=
 nP 2 (U4 _ g w (Jh kn R) k0 (fun g w h => iZ (nP 1 (VO _ g w (AG kn) R (fun g w h => iZ (VP _ g w kn hn h)) hr h))) h0 h)
theorem TJ (k0 : K2) (R : K1) (h0 : E2 Q k0 0 10 11) (hr : HR qO R Q) (h : Hx k0 R (g 1) (g 6) (g 10) (g 11) (g 38) (g 39) w) : jO pg mW (bI (gH 1 (hU 1 (gH 7 mD)))) Q g w := by
 refine Od (fun g : Env => (g 1, g 11, g 39)) (fun X t w => D4 (fun jP _ _ lI _ e9 w => X (jP, lI, e9) w) k0 R t.1 (g 6) (g 10) t.2.1 (g 38) t.2.2 w) h (fun X g1 w1 ha hL => ?_)
 rw [<- rG 6 ha, <- rG 10 ha, <- rG 38 ha] at hL
 exact (U1 _ g1 w1 (fun jP _ _ lI _ e9 w => X (jP, lI, e9) w) k0 R (fun _ _ h => h) h0 hr hL)
def Cz (kn : K2) (R : K1) (jP lM rT lI e8 e9 : aDt) (w : aDs) : Prop :=
 Hx kn R jP lM rT lI e8 e9 w
def H2 (kn : K6) (jP lM Jb rT lI : aDt) (w : aDs) : Prop :=
 gI pg (jF 139 Jb) w fun e8 w =>
 kn jP lM rT lI e8 (aDu 0) w
theorem T4 (kn : K6) (hn : N6 Q kn 1 6 10 11 38 39) (h : H2 kn (g 1) (g 6) (g 8) (g 10) (g 11) w) : jO pg mW (hU 1 (hU 1 (gH 7 mD))) Q g w :=
 lB (kr := no) (l := []) h hn lW trivial
def HA (kn : K2) (R : K1) (jP lM Jb rT lI : aDt) (w : aDs) : Prop :=
 H2 (fun jP lM rT lI e8 e9 w => Cz kn R jP lM rT lI e8 e9 w) jP lM Jb rT lI w
def H4 (R : K1) (jP lM Jb rT lI : aDt) (w : aDs) : Prop :=
 HA (fun rT lI w => AF R rT lI w) R jP lM Jb rT lI w
theorem T1 (kn : K2) (R : K1) (hn : N2 Q kn 10 11) (hr : HR qO R Q) (h : HA kn R (g 1) (g 6) (g 8) (g 10) (g 11) w) : jO pg mW (hU 1 (gH 7 mD)) Q g w :=
 nP 1 (T4 _ g w (Cz kn R) (fun g w h => iZ (Iu 0 (TJ _ g w kn R hn hr h))) h)
def Ia (kn : K5) (R : K1) (lK jP : aDt) (w : aDs) : Prop :=
 jE pg vJ #[lK] w fun c8 w =>
 gI pg (jZ c8 0) w fun c9 w =>
 gI pg (jZ c8 1) w fun d0 w =>
 gI pg (hZ .neq 24 (.tmp 21) (.const (aDu 0)) d0 (aDu 0)) w fun d2 w =>
 mK d2
  (R (.tuple #[(.slice none 0 0), d0]) w)
  (gI pg (oF .len #[22] 3 [jP]) w fun d6 w =>
  jE pg JH #[d6] w fun d7 w =>
  gI pg (jZ d7 0) w fun d8 w =>
  gI pg (jZ d7 1) w fun d9 w =>
  gI pg (oM 139) w fun Jb w =>
  gI pg (jQ 139 Jb d8) w fun _u w =>
  gI pg (sUn .not d9) w fun e1 w =>
  Gd (kR e1 false) (fun K => K jP w) w fun e3 w =>
  Gd (kR e1 false) (fun K => gI pg (oF .len #[22] 3 [e3]) w K) w fun e4 w =>
  Gd (kR e1 false) (fun K => gI pg (hZ .gtr 3 jC jC e4 (aDu 131072)) w K) w fun e5 w =>
  gI pg (nD e1 (.bool true) e5) w fun e6 w =>
  mK e6
   (R (.tuple #[(.slice none 0 0), (aDu 1)]) w)
   (jE pg oY #[] w fun e7 w =>
   kn jP c9 Jb e7 (.slice none 0 0) w))
theorem Um (kn : K5) (R : K1) (hn : N5 Q kn 1 6 8 10 11) (hr : HR qO R Q) (h : Ia kn R (g 0) (g 1) w) : jO pg mW (hU 7 mD) Q g w :=
 lB (l := []) h hn hr trivial
def HJ (R : K1) (lK jP : aDt) (w : aDs) : Prop :=
 Ia (fun jP lM Jb rT lI w => H4 R jP lM Jb rT lI w) R lK jP w
theorem Ux (R : K1) (hr : HR qO R Q) (h : HJ R (g 0) (g 1) w) : jO pg mW mD Q g w :=
 nP 7 (Um _ g w (H4 R) R (fun g w h => iZ (nP 1 (T1 _ g w (AF R) R (fun g w h => iZ (Ve _ g w R hr h)) hr h))) hr h)
def W7 (a0 a1 : aDt) (w : aDs) (R : K1) : Prop :=
 HJ R a0 a1 w
theorem WB {a0 a1 : aDt} {w : aDs} {R : K1} (h : W7 a0 a1 w R) : jE pg Gv #[a0, a1] w R := by
 refine yX (ann := mW) Tryz.f110 mD [a0, a1] qO 76 TryzM.mixed Tryz.func110 ?_
 exact (Ux _ _ _ R (fun _ _ h => h) h)
def MK : FA := ⟨D7, fun i => .leaf ([], []) []⟩
def Pm : List ResultVar := [.tmp 2]
noncomputable def LI : Code := kA Tryz.f115
def HZ (R : K1) (mZ : aDt) (w : aDs) : Prop :=
 mK (.bool false)
  (gI pg (nI 50 38 mZ) w fun b4 w =>
  jE pg VU #[b4] w fun b5 w =>
  R b5 w)
  (jE pg wD #[mZ] w fun b7 w =>
  R b7 w)
theorem T9 (R : K1) (hr : HR Pm R Q) (h : HZ R (g 0) w) : jO pg MK LI Q g w :=
 lB (kn := no) (l := []) h lW hr trivial
def UU (a0 : aDt) (w : aDs) (R : K1) : Prop :=
 HZ R a0 w
theorem Vb {a0 : aDt} {w : aDs} {R : K1} (h : UU a0 w R) : jE pg D7 #[a0] w R := by
 refine yX (ann := MK) Tryz.f115 LI [a0] Pm 8 TryzM.mixed Tryz.func115 ?_
 exact (T9 _ _ _ R (fun _ _ h => h) h)
def Jt : FA := ⟨BN, fun i => .leaf ([], []) []⟩
def Kt : List ResultVar := [.tmp 4, .tmp 5]
noncomputable def IL : Code := kA Tryz.f120
def Ep (R : K1) (mZ y_1 : aDt) (w : aDs) : Prop :=
 gI pg (hZ .and 32 jC jC mZ (.int .u64 4294967295)) w fun c5 w =>
 gI pg (hZ .shr 32 jC jC mZ (.int .u64 32)) w fun c7 w =>
 gI pg (hZ .and 32 jC jC y_1 (.int .u64 4294967295)) w fun c9 w =>
 gI pg (hZ .shr 32 jC jC y_1 (.int .u64 32)) w fun d1 w =>
 gI pg (hZ .mul 32 jC jC c5 c9) w fun d4 w =>
 gI pg (hZ .mul 32 jC jC c7 c9) w fun d7 w =>
 gI pg (hZ .shr 32 jC jC d4 (.int .u64 32)) w fun d9 w =>
 gI pg (hZ .add 32 jC jC d7 d9) w fun e0 w =>
 gI pg (hZ .and 32 jC jC e0 (.int .u64 4294967295)) w fun e2 w =>
 gI pg (hZ .shr 32 jC jC e0 (.int .u64 32)) w fun e4 w =>
 gI pg (hZ .mul 32 jC jC c5 d1) w fun e8 w =>
 gI pg (hZ .add 32 jC jC e2 e8) w fun e9 w =>
 gI pg (hZ .mul 32 jC jC c7 d1) w fun f2 w =>
 gI pg (hZ .add 32 jC jC f2 e4) w fun f4 w =>
 gI pg (hZ .shr 32 jC jC e9 (.int .u64 32)) w fun f6 w =>
 gI pg (hZ .add 32 jC jC f4 f6) w fun f7 w =>
 gI pg (hZ .mul 32 jC jC mZ y_1) w fun i0 w =>
 R (.tuple #[f7, i0]) w
theorem RN (R : K1) (hr : HR Kt R Q) (h : Ep R (g 0) (g 1) w) : jO pg Jt IL Q g w :=
 lB (kn := no) (l := []) h lW hr trivial
def Q3 (a0 a1 : aDt) (w : aDs) (R : K1) : Prop :=
 Ep R a0 a1 w
theorem Tj {a0 a1 : aDt} {w : aDs} {R : K1} (h : Q3 a0 a1 w R) : jE pg BN #[a0, a1] w R := by
 refine yX (ann := Jt) Tryz.f120 IL [a0, a1] Kt 51 TryzM.mixed Tryz.func120 ?_
 exact (RN _ _ _ R (fun _ _ h => h) h)
def oJ : FA := ⟨Ea, fun i => .leaf ([], []) []⟩
def sF : List ResultVar := [.tmp 2, .tmp 3]
noncomputable def nL : Code := kA Tryz.f132
def CH (R : K1) (lC : aDt) (w : aDs) : Prop :=
 R (.tuple #[lC, (.bool true)]) w
theorem T3 (R : K1) (hr : HR sF R Q) (h : CH R (g 4) w) : jO pg oJ (gH 1 (gH 2 nL)) Q g w :=
 lB (kn := no) (l := []) h lW hr trivial
def CP (kn : K4) (lC b7 b8 b9 : aDt) (w : aDs) : Prop :=
 gI pg (hZ .add 3 jC jC b9 (aDu 1)) w fun d2 w =>
 kn lC b7 b8 d2 w
theorem Ur (kn : K4) (hn : N4 Q kn 4 7 8 9) (h : CP kn (g 4) (g 7) (g 8) (g 9) w) : jO pg oJ (gH 3 (bI (bI (gH 1 (hU 1 (gH 2 nL)))))) Q g w :=
 lB (kr := no) (l := []) h hn lW trivial
def Hw (kn : K4) (k0 : K1) (R : K1) (lC b7 b8 b9 : aDt) (w : aDs) : Prop :=
 gI pg (hZ .lss 3 jC jC b9 b8) w fun c0 w =>
 mK c0
  (gI pg (jS 22 b7 b9) w fun c1 w =>
  gI pg (jF 5 c1) w fun c2 w =>
  gI pg (hZ .gtr 5 jC jC c2 (.int .u8 11)) w fun c4 w =>
  mK c4
   (R (.tuple #[(aDu 0), (.bool false)]) w)
   (gI pg (hZ .gtr 5 jC jC c2 (.int .u8 0)) w fun c6 w =>
   mK c6
    (gI pg (hZ .sub 5 jC jC c2 (.int .u8 1)) w fun c9 w =>
    gI pg (hZ .shl 3 jC jC (aDu 1) c9) w fun d0 w =>
    gI pg (hZ .add 3 jC jC lC d0) w fun d1 w =>
    kn d1 b7 b8 b9 w)
    (kn lC b7 b8 b9 w)))
  (k0 lC w)
theorem Ub (kn : K4) (k0 : K1) (R : K1) (hn : N4 Q kn 4 7 8 9) (h0 : E1 Q k0 0 4) (hr : HR sF R Q) (h : Hw kn k0 R (g 4) (g 7) (g 8) (g 9) w) : jO pg oJ (hU 3 (bI (bI (gH 1 (hU 1 (gH 2 nL)))))) Q g w :=
 lB (l := [(0, fun g w => k0 (g 4) w)]) h hn hr ⟨h0, trivial⟩
def CC (kn : K4) (k0 : K1) (R : K1) (lC b7 b8 b9 : aDt) (w : aDs) : Prop :=
 Hw (fun lC b7 b8 b9 w => CP kn lC b7 b8 b9 w) k0 R lC b7 b8 b9 w
def Hn (k0 : K1) (R : K1) (lC b7 b8 b9 : aDt) (w : aDs) : Prop :=
 kO (fun (X : (aDt × aDt) -> K0) (t : aDt × aDt) (w : aDs) => CC (fun lC _ _ b9 w => X (lC, b9) w) k0 R t.1 b7 b8 t.2 w) (lC, b9) w
theorem TO (kn : K4) (k0 : K1) (R : K1) (hn : N4 Q kn 4 7 8 9) (h0 : E1 Q k0 0 4) (hr : HR sF R Q) (h : CC kn k0 R (g 4) (g 7) (g 8) (g 9) w) : jO pg oJ (bI (bI (gH 1 (hU 1 (gH 2 nL))))) Q g w :=
 nP 3 (Ub _ g w (CP kn) k0 R (fun g w h => iZ (Ur _ g w kn hn h)) h0 hr h)
theorem Uo (k0 : K1) (R : K1) (h0 : E1 Q k0 0 4) (hr : HR sF R Q) (h : Hn k0 R (g 4) (g 7) (g 8) (g 9) w) : jO pg oJ (bI (gH 1 (hU 1 (gH 2 nL)))) Q g w := by
 refine Od (fun g : Env => (g 4, g 9)) (fun X t w => CC (fun lC _ _ b9 w => X (lC, b9) w) k0 R t.1 (g 7) (g 8) t.2 w) h (fun X g1 w1 ha hL => ?_)
 rw [<- rG 7 ha, <- rG 8 ha] at hL
 exact (TO _ g1 w1 (fun lC _ _ b9 w => X (lC, b9) w) k0 R (fun _ _ h => h) h0 hr hL)
def HQ (kn : K1) (R : K1) (lC b7 b8 b9 : aDt) (w : aDs) : Prop :=
 Hn kn R lC b7 b8 b9 w
def H3 (kn : K4) (lK lC : aDt) (w : aDs) : Prop :=
 gI pg (oF .len #[22] 3 [lK]) w fun b8 w =>
 kn lC lK b8 (aDu 0) w
theorem T6 (kn : K4) (hn : N4 Q kn 4 7 8 9) (h : H3 kn (g 0) (g 4) w) : jO pg oJ (hU 1 (hU 1 (gH 2 nL))) Q g w :=
 lB (kr := no) (l := []) h hn lW trivial
def Hp (kn : K1) (R : K1) (lK lC : aDt) (w : aDs) : Prop :=
 H3 (fun lC b7 b8 b9 w => HQ kn R lC b7 b8 b9 w) lK lC w
def HO (R : K1) (lK lC : aDt) (w : aDs) : Prop :=
 Hp (fun lC w => CH R lC w) R lK lC w
theorem TX (kn : K1) (R : K1) (hn : N1 Q kn 4) (hr : HR sF R Q) (h : Hp kn R (g 0) (g 4) w) : jO pg oJ (hU 1 (gH 2 nL)) Q g w :=
 nP 1 (T6 _ g w (HQ kn R) (fun g w h => iZ (Iu 0 (Uo _ g w kn R hn hr h))) h)
def Gp (kn : K2) (lK : aDt) (w : aDs) : Prop :=
 kn lK (aDu 0) w
theorem SK (kn : K2) (hn : N2 Q kn 0 4) (h : Gp kn (g 0) w) : jO pg oJ (hU 2 nL) Q g w :=
 lB (kr := no) (l := []) h hn lW trivial
def F0 (R : K1) (lK : aDt) (w : aDs) : Prop :=
 Gp (fun lK lC w => HO R lK lC w) lK w
theorem S5 (R : K1) (hr : HR sF R Q) (h : F0 R (g 0) w) : jO pg oJ nL Q g w :=
 nP 2 (SK _ g w (HO R) (fun g w h => iZ (nP 1 (TX _ g w (CH R) R (fun g w h => iZ (T3 _ g w R hr h)) hr h))) h)
def UL (a0 : aDt) (w : aDs) (R : K1) : Prop :=
 F0 R a0 w
theorem U5 {a0 : aDt} {w : aDs} {R : K1} (h : UL a0 w R) : jE pg Ea #[a0] w R := by
 refine yX (ann := oJ) Tryz.f132 nL [a0] sF 24 TryzM.mixed Tryz.func132 ?_
 exact (S5 _ _ _ R (fun _ _ h => h) h)
def mH : FA := ⟨uS, fun i => .leaf ([], []) []⟩
def Aw : List ResultVar := [.tmp 2]
noncomputable def lZ : Code := kA Tryz.f133
def tZ (R : K1) (DQ : aDt) (w : aDs) : Prop :=
 R DQ w
theorem LQ (R : K1) (hr : HR Aw R Q) (h : tZ R (g 3) w) : jO pg mH (gH 1 (gH 1 (gH 2 lZ))) Q g w :=
 lB (kn := no) (l := []) h lW hr trivial
def tY (kn : K3) (k0 : K1) (mZ DQ S1 : aDt) (w : aDs) : Prop :=
 gI pg (oF .len #[22] 3 [mZ]) w fun c4 w =>
 gI pg (hZ .lss 3 jC jC S1 c4) w fun c5 w =>
 mK c5
  (gI pg (jS 22 mZ S1) w fun d1 w =>
  gI pg (jF 5 d1) w fun d2 w =>
  gI pg (oF .max #[5, 5] 5 [DQ, d2]) w fun d3 w =>
  gI pg (hZ .add 3 jC jC S1 (aDu 1)) w fun c7 w =>
  kn mZ d3 c7 w)
  (k0 DQ w)
theorem L2 (kn : K3) (k0 : K1) (hn : N3 Q kn 0 3 4) (h0 : E1 Q k0 0 3) (h : tY kn k0 (g 0) (g 3) (g 4) w) : jO pg mH (bI (bI (gH 1 (hU 1 (gH 1 (gH 2 lZ)))))) Q g w :=
 lB (kr := no) (l := [(0, fun g w => k0 (g 3) w)]) h hn lW ⟨h0, trivial⟩
def Aq (k0 : K1) (mZ DQ S1 : aDt) (w : aDs) : Prop :=
 kO (fun (X : (aDt × aDt) -> K0) (t : aDt × aDt) (w : aDs) => tY (fun _ DQ S1 w => X (DQ, S1) w) k0 mZ t.1 t.2 w) (DQ, S1) w
theorem Mh (k0 : K1) (h0 : E1 Q k0 0 3) (h : Aq k0 (g 0) (g 3) (g 4) w) : jO pg mH (bI (gH 1 (hU 1 (gH 1 (gH 2 lZ))))) Q g w := by
 refine Od (fun g : Env => (g 3, g 4)) (fun X t w => tY (fun _ DQ S1 w => X (DQ, S1) w) k0 (g 0) t.1 t.2 w) h (fun X g1 w1 ha hL => ?_)
 rw [<- rG 0 ha] at hL
 exact (L2 _ g1 w1 (fun _ DQ S1 w => X (DQ, S1) w) k0 (fun _ _ h => h) h0 hL)
def Af (kn : K1) (mZ DQ S1 : aDt) (w : aDs) : Prop :=
 Aq kn mZ DQ S1 w
def Al (kn : K3) (mZ DQ : aDt) (w : aDs) : Prop :=
 kn mZ DQ (aDu 1) w
theorem LZ (kn : K3) (hn : N3 Q kn 0 3 4) (h : Al kn (g 0) (g 3) w) : jO pg mH (hU 1 (hU 1 (gH 1 (gH 2 lZ)))) Q g w :=
 lB (kr := no) (l := []) h hn lW trivial
def zT (kn : K1) (mZ DQ : aDt) (w : aDs) : Prop :=
 Al (fun mZ DQ S1 w => Af kn mZ DQ S1 w) mZ DQ w
def zG (R : K1) (mZ DQ : aDt) (w : aDs) : Prop :=
 zT (fun DQ w => tZ R DQ w) mZ DQ w
theorem LK (kn : K1) (hn : N1 Q kn 3) (h : zT kn (g 0) (g 3) w) : jO pg mH (hU 1 (gH 1 (gH 2 lZ))) Q g w :=
 nP 1 (LZ _ g w (Af kn) (fun g w h => iZ (Iu 0 (Mh _ g w kn hn h))) h)
def Ae (kn : K2) (mZ : aDt) (w : aDs) : Prop :=
 gI pg (jS 22 mZ (aDu 0)) w fun c0 w =>
 gI pg (jF 5 c0) w fun c1 w =>
 kn mZ c1 w
theorem LW (kn : K2) (hn : N2 Q kn 0 3) (h : Ae kn (g 0) w) : jO pg mH (hU 1 (gH 2 lZ)) Q g w :=
 lB (kr := no) (l := []) h hn lW trivial
def zP (R : K1) (mZ : aDt) (w : aDs) : Prop :=
 Ae (fun mZ DQ w => zG R mZ DQ w) mZ w
def yG (kn : K1) (mZ : aDt) (w : aDs) : Prop :=
 gI pg (oF .len #[22] 3 [mZ]) w fun b6 w =>
 gI pg (hZ .lss 3 jC jC b6 (aDu 1)) w fun b7 w =>
 mK b7
  (gI pg (VL 9 (.string ⟨#[115, 108, 105, 99, 101, 115, 46, 77, 97, 120, 58, 32, 101, 109, 112, 116, 121, 32, 108, 105, 115, 116]⟩)) w fun b8 w =>
  gI pg (V (Instr.panic b8)) w fun _u w =>
  kn mZ w)
  (kn mZ w)
theorem KH (kn : K1) (hn : N1 Q kn 0) (h : yG kn (g 0) w) : jO pg mH (hU 2 lZ) Q g w :=
 lB (kr := no) (l := []) h hn lW trivial
def yQ (R : K1) (mZ : aDt) (w : aDs) : Prop :=
 yG (fun mZ w => zP R mZ w) mZ w
theorem Ll (R : K1) (hr : HR Aw R Q) (h : yQ R (g 0) w) : jO pg mH lZ Q g w :=
 nP 2 (KH _ g w (zP R) (fun g w h => iZ (nP 1 (LW _ g w (zG R) (fun g w h => iZ (nP 1 (LK _ g w (tZ R) (fun g w h => iZ (LQ _ g w R hr h)) h))) h))) h)
def Jx (a0 : aDt) (w : aDs) (R : K1) : Prop :=
 yQ R a0 w
theorem Nz {a0 : aDt} {w : aDs} {R : K1} (h : Jx a0 w R) : jE pg uS #[a0] w R := by
 refine yX (ann := mH) Tryz.f133 lZ [a0] Aw 25 TryzM.mixed Tryz.func133 ?_
 exact (Ll _ _ _ R (fun _ _ h => h) h)
def lE : FA := ⟨vJ, fun i => .leaf ([], []) []⟩
def CG : List ResultVar := [.tmp 2, .tmp 3]
noncomputable def kT : Code := kA Tryz.f134
def Cu (R : K1) (iY : aDt) (w : aDs) : Prop :=
 R (.tuple #[iY, (aDu 0)]) w
theorem TG (R : K1) (hr : HR CG R Q) (h : Cu R (g 5) w) : jO pg lE (gH 1 (gH 5 kT)) Q g w :=
 lB (kn := no) (l := []) h lW hr trivial
def CA (kn : K5) (lK Fp iY pO Fq : aDt) (w : aDs) : Prop :=
 gI pg (hZ .add 3 jC jC Fq (aDu 1)) w fun d0 w =>
 kn lK Fp iY pO d0 w
theorem Uk (kn : K5) (hn : N5 Q kn 0 4 5 6 7) (h : CA kn (g 0) (g 4) (g 5) (g 6) (g 7) w) : jO pg lE (gH 1 (gH 1 (bI (bI (gH 1 (hU 1 (gH 5 kT))))))) Q g w :=
 lB (kr := no) (l := []) h hn lW trivial
def CN (kn : K7) (lK Fp iY pO Fq d2 d3 : aDt) (w : aDs) : Prop :=
 gI pg (hZ .add 3 jC jC d3 (aDu 1)) w fun i0 w =>
 kn lK Fp iY pO Fq d2 i0 w
theorem Us (kn : K7) (hn : N7 Q kn 0 4 5 6 7 22 23) (h : CN kn (g 0) (g 4) (g 5) (g 6) (g 7) (g 22) (g 23) w) : jO pg lE (gH 3 (bI (bI (gH 1 (bI (hU 1 (gH 1 (bI (bI (gH 1 (hU 1 (gH 5 kT)))))))))))) Q g w :=
 lB (kr := no) (l := []) h hn lW trivial
def HE (kn : K7) (k2 : K5) (lK Fp iY pO Fq d2 d3 : aDt) (w : aDs) : Prop :=
 gI pg (hZ .lss 3 jC jC d3 d2) w fun d4 w =>
 mK d4
  (gI pg (jS 22 lK d3) w fun d8 w =>
  gI pg (jF 5 d8) w fun d9 w =>
  gI pg (nI 5 3 d9) w fun e0 w =>
  gI pg (hZ .neq 3 (.tmp 30) (.tmp 31) e0 Fq) w fun e2 w =>
  mK e2
   (kn lK Fp iY pO Fq d2 d3 w)
   (gI pg (hZ .add 3 jC jC Fp (aDu 1)) w fun e6 w =>
   gI pg (hZ .sub 3 jC jC e6 Fq) w fun e8 w =>
   gI pg (hZ .sub 3 jC jC Fq (aDu 1)) w fun f1 w =>
   gI pg (hZ .shr 3 jC jC pO f1) w fun f2 w =>
   gI pg (kY 241 [(0, e8), (1, f2)]) w fun f3 w =>
   gI pg (jS 225 iY d3) w fun f4 w =>
   gI pg (jQ 241 f4 f3) w fun _u w =>
   gI pg (hZ .sub 3 jC jC Fq (aDu 1)) w fun f7 w =>
   gI pg (hZ .shl 3 jC jC (aDu 1) f7) w fun f8 w =>
   gI pg (hZ .add 3 jC jC pO f8) w fun f9 w =>
   kn lK Fp iY f9 Fq d2 d3 w))
  (k2 lK Fp iY pO Fq w)
theorem Ue (kn : K7) (k2 : K5) (hn : N7 Q kn 0 4 5 6 7 22 23) (h2 : E5 Q k2 2 0 4 5 6 7) (h : HE kn k2 (g 0) (g 4) (g 5) (g 6) (g 7) (g 22) (g 23) w) : jO pg lE (hU 3 (bI (bI (gH 1 (bI (hU 1 (gH 1 (bI (bI (gH 1 (hU 1 (gH 5 kT)))))))))))) Q g w :=
 lB (kr := no) (l := [(2, fun g w => k2 (g 0) (g 4) (g 5) (g 6) (g 7) w)]) h hn lW ⟨h2, trivial⟩
def Cr (kn : K7) (k2 : K5) (lK Fp iY pO Fq d2 d3 : aDt) (w : aDs) : Prop :=
 HE (fun lK Fp iY pO Fq d2 d3 w => CN kn lK Fp iY pO Fq d2 d3 w) k2 lK Fp iY pO Fq d2 d3 w
def Hq (k2 : K5) (lK Fp iY pO Fq d2 d3 : aDt) (w : aDs) : Prop :=
 kO (fun (X : (aDt × aDt) -> K0) (t : aDt × aDt) (w : aDs) => Cr (fun _ _ _ pO _ _ d3 w => X (pO, d3) w) k2 lK Fp iY t.1 Fq d2 t.2 w) (pO, d3) w
theorem TV (kn : K7) (k2 : K5) (hn : N7 Q kn 0 4 5 6 7 22 23) (h2 : E5 Q k2 2 0 4 5 6 7) (h : Cr kn k2 (g 0) (g 4) (g 5) (g 6) (g 7) (g 22) (g 23) w) : jO pg lE (bI (bI (gH 1 (bI (hU 1 (gH 1 (bI (bI (gH 1 (hU 1 (gH 5 kT))))))))))) Q g w :=
 nP 3 (Ue _ g w (CN kn) k2 (fun g w h => iZ (Us _ g w kn hn h)) h2 h)
theorem T2 (k2 : K5) (h2 : E5 Q k2 2 0 4 5 6 7) (h : Hq k2 (g 0) (g 4) (g 5) (g 6) (g 7) (g 22) (g 23) w) : jO pg lE (bI (gH 1 (bI (hU 1 (gH 1 (bI (bI (gH 1 (hU 1 (gH 5 kT)))))))))) Q g w := by
 refine Od (fun g : Env => (g 6, g 23)) (fun X t w => Cr (fun _ _ _ pO _ _ d3 w => X (pO, d3) w) k2 (g 0) (g 4) (g 5) t.1 (g 7) (g 22) t.2 w) h (fun X g1 w1 ha hL => ?_)
 rw [<- rG 0 ha, <- rG 4 ha, <- rG 5 ha, <- rG 7 ha, <- rG 22 ha] at hL
 exact (TV _ g1 w1 (fun _ _ _ pO _ _ d3 w => X (pO, d3) w) k2 (fun _ _ h => h) h2 hL)
def HF (kn : K5) (lK Fp iY pO Fq d2 d3 : aDt) (w : aDs) : Prop :=
 Hq kn lK Fp iY pO Fq d2 d3 w
def HX (kn : K7) (lK Fp iY pO Fq : aDt) (w : aDs) : Prop :=
 gI pg (oF .len #[22] 3 [lK]) w fun d2 w =>
 kn lK Fp iY pO Fq d2 (aDu 0) w
theorem UE (kn : K7) (hn : N7 Q kn 0 4 5 6 7 22 23) (h : HX kn (g 0) (g 4) (g 5) (g 6) (g 7) w) : jO pg lE (hU 1 (bI (hU 1 (gH 1 (bI (bI (gH 1 (hU 1 (gH 5 kT))))))))) Q g w :=
 lB (kr := no) (l := []) h hn lW trivial
def Oh (kn : K5) (lK Fp iY pO Fq : aDt) (w : aDs) : Prop :=
 HX (fun lK Fp iY pO Fq d2 d3 w => HF kn lK Fp iY pO Fq d2 d3 w) lK Fp iY pO Fq w
def Gw (kn : K5) (lK Fp iY pO Fq : aDt) (w : aDs) : Prop :=
 Oh kn lK Fp iY pO Fq w
def Ge (kn : K5) (lK Fp iY pO Fq : aDt) (w : aDs) : Prop :=
 Gw (fun lK Fp iY pO Fq w => CA kn lK Fp iY pO Fq w) lK Fp iY pO Fq w
theorem Sm (kn : K5) (hn : N5 Q kn 0 4 5 6 7) (h : Gw kn (g 0) (g 4) (g 5) (g 6) (g 7) w) : jO pg lE (hU 1 (gH 1 (bI (bI (gH 1 (hU 1 (gH 5 kT))))))) Q g w :=
 Iu 1 (nP 1 (UE _ g w (HF kn) (fun g w h => iZ (Iu 2 (T2 _ g w kn hn h))) h))
def GH (kn : K5) (k0 : K1) (lK Fp iY pO Fq : aDt) (w : aDs) : Prop :=
 gI pg (hZ .leq 3 jC jC Fq Fp) w fun c8 w =>
 mK c8
  (kn lK Fp iY pO Fq w)
  (k0 iY w)
theorem Th (kn : K5) (k0 : K1) (hn : N5 Q kn 0 4 5 6 7) (h0 : E1 Q k0 0 5) (h : GH kn k0 (g 0) (g 4) (g 5) (g 6) (g 7) w) : jO pg lE (hU 1 (bI (bI (gH 1 (hU 1 (gH 5 kT)))))) Q g w :=
 lB (kr := no) (l := [(0, fun g w => k0 (g 5) w)]) h hn lW ⟨h0, trivial⟩
def Bz (kn : K5) (k0 : K1) (lK Fp iY pO Fq : aDt) (w : aDs) : Prop :=
 GH (fun lK Fp iY pO Fq w => Ge kn lK Fp iY pO Fq w) k0 lK Fp iY pO Fq w
def FR (k0 : K1) (lK Fp iY pO Fq : aDt) (w : aDs) : Prop :=
 kO (fun (X : (aDt × aDt) -> K0) (t : aDt × aDt) (w : aDs) => Bz (fun _ _ _ pO Fq w => X (pO, Fq) w) k0 lK Fp iY t.1 t.2 w) (pO, Fq) w
theorem SL (kn : K5) (k0 : K1) (hn : N5 Q kn 0 4 5 6 7) (h0 : E1 Q k0 0 5) (h : Bz kn k0 (g 0) (g 4) (g 5) (g 6) (g 7) w) : jO pg lE (bI (bI (gH 1 (hU 1 (gH 5 kT))))) Q g w :=
 nP 1 (Th _ g w (Ge kn) k0 (fun g w h => iZ (nP 1 (Sm _ g w (CA kn) (fun g w h => iZ (Uk _ g w kn hn h)) h))) h0 h)
theorem S6 (k0 : K1) (h0 : E1 Q k0 0 5) (h : FR k0 (g 0) (g 4) (g 5) (g 6) (g 7) w) : jO pg lE (bI (gH 1 (hU 1 (gH 5 kT)))) Q g w := by
 refine Od (fun g : Env => (g 6, g 7)) (fun X t w => Bz (fun _ _ _ pO Fq w => X (pO, Fq) w) k0 (g 0) (g 4) (g 5) t.1 t.2 w) h (fun X g1 w1 ha hL => ?_)
 rw [<- rG 0 ha, <- rG 4 ha, <- rG 5 ha] at hL
 exact (SL _ g1 w1 (fun _ _ _ pO Fq w => X (pO, Fq) w) k0 (fun _ _ h => h) h0 hL)
def Gh (kn : K1) (lK Fp iY pO Fq : aDt) (w : aDs) : Prop :=
 FR kn lK Fp iY pO Fq w
def Fw (kn : K5) (lK Fp iY pO : aDt) (w : aDs) : Prop :=
 kn lK Fp iY pO (aDu 1) w
theorem Tm (kn : K5) (hn : N5 Q kn 0 4 5 6 7) (h : Fw kn (g 0) (g 4) (g 5) (g 6) w) : jO pg lE (hU 1 (hU 1 (gH 5 kT))) Q g w :=
 lB (kr := no) (l := []) h hn lW trivial
def Gc (kn : K1) (lK Fp iY pO : aDt) (w : aDs) : Prop :=
 Fw (fun lK Fp iY pO Fq w => Gh kn lK Fp iY pO Fq w) lK Fp iY pO w
def GC (R : K1) (lK Fp iY pO : aDt) (w : aDs) : Prop :=
 Gc (fun iY w => Cu R iY w) lK Fp iY pO w
theorem To (kn : K1) (hn : N1 Q kn 5) (h : Gc kn (g 0) (g 4) (g 5) (g 6) w) : jO pg lE (hU 1 (gH 5 kT)) Q g w :=
 nP 1 (Tm _ g w (Gh kn) (fun g w h => iZ (Iu 0 (S6 _ g w kn hn h))) h)
def BR (kn : K4) (R : K1) (lK : aDt) (w : aDs) : Prop :=
 jE pg AL #[lK] w fun c0 w =>
 gI pg (hZ .eql 3 (.tmp 11) (.const (aDu 0)) c0 (aDu 0)) w fun c2 w =>
 mK c2
  (R (.tuple #[(.slice none 0 0), (aDu 1)]) w)
  (gI pg (oF .len #[22] 3 [lK]) w fun c4 w =>
  gI pg (sS 225 c4 c4) w fun c5 w =>
  kn lK c0 c5 (aDu 0) w)
theorem SY (kn : K4) (R : K1) (hn : N4 Q kn 0 4 5 6) (hr : HR CG R Q) (h : BR kn R (g 0) w) : jO pg lE (hU 5 kT) Q g w :=
 lB (l := []) h hn hr trivial
def BF (R : K1) (lK : aDt) (w : aDs) : Prop :=
 BR (fun lK Fp iY pO w => GC R lK Fp iY pO w) R lK w
theorem SH (R : K1) (hr : HR CG R Q) (h : BF R (g 0) w) : jO pg lE kT Q g w :=
 nP 5 (SY _ g w (GC R) R (fun g w h => iZ (nP 1 (To _ g w (Cu R) (fun g w h => iZ (TG _ g w R hr h)) h))) hr h)
def NC (a0 : aDt) (w : aDs) (R : K1) : Prop :=
 BF R a0 w
theorem Km {a0 : aDt} {w : aDs} {R : K1} (h : NC a0 w R) : jE pg vJ #[a0] w R := by
 refine yX (ann := lE) Tryz.f134 kT [a0] CG 52 TryzM.mixed Tryz.func134 ?_
 exact (SH _ _ _ R (fun _ _ h => h) h)
def pA : FA := ⟨oH, fun i => match Nat.beq i 6 with | true => .leaf ([12], []) [(false, []), (false, []), (false, []), (false, []), (false, []), (false, []), (false, []), (false, []), (false, []), (false, []), (false, []), (false, []), (true, [])] | false => .leaf ([], []) []⟩
def BY : List ResultVar := [.cell 4 22, .cell 5 24]
noncomputable def jT : Code := kA Tryz.f135
def Bu (kn : K0) (R : K1) (oI b4 b5 R7 ID : aDt) (w : aDs) : Prop :=
 gI pg (nI 5 3 ID) w fun c5 w =>
 gI pg (jF 225 oI) w fun c6 w =>
 gI pg (oF .len #[225] 3 [c6]) w fun c7 w =>
 gI pg (hZ .geq 3 jC jC c5 c7) w fun c8 w =>
 Gd (kR c8 false) (fun K => gI pg (jF 225 oI) w K) w fun d0 w =>
 Gd (kR c8 false) (fun K => K ID w) w fun d1 w =>
 Gd (kR c8 false) (fun K => gI pg (jS 225 d0 d1) w K) w fun d2 w =>
 Gd (kR c8 false) (fun K => gI pg (jH 241 d2 0) w K) w fun d3 w =>
 Gd (kR c8 false) (fun K => gI pg (jF 3 d3) w K) w fun d4 w =>
 Gd (kR c8 false) (fun K => gI pg (hZ .eql 3 (.tmp 24) (.const (aDu 0)) d4 (aDu 0)) w K) w fun d5 w =>
 gI pg (nD c8 (.bool true) d5) w fun d6 w =>
 mK d6
  (gI pg (jQ 22 b4 (.slice none 0 0)) w fun _u w =>
  gI pg (jQ 24 b5 (aDu 1)) w fun _u w =>
  R (.tuple #[]) w)
  (gI pg (jF 170 R7) (dr w) fun d7 w_ => w_ = (dr w) /\
  gI pg (jF 225 oI) (dr w) fun d8 w_ => w_ = (dr w) /\
  (dr w) = (dr w) /\
  gI pg (jS 225 d8 ID) (dr w) fun e0 w_ => w_ = (dr w) /\
  gI pg (jH 241 e0 1) (dr w) fun e1 w_ => w_ = (dr w) /\
  gI pg (jF 3 e1) (dr w) fun e2 w_ => w_ = (dr w) /\
  gI pg (nI 3 32 e2) (dr w) fun e3 w_ => w_ = (dr w) /\
  gI pg (jF 225 oI) (dr w) fun e4 w_ => w_ = (dr w) /\
  (dr w) = (dr w) /\
  gI pg (jS 225 e4 ID) (dr w) fun e6 w_ => w_ = (dr w) /\
  gI pg (jH 241 e6 0) (dr w) fun e7 w_ => w_ = (dr w) /\
  gI pg (jF 3 e7) (dr w) fun e8 w_ => w_ = (dr w) /\
  jE pg rP #[d7, e3, e8] (dr w) fun e9 ayV =>
  kn ayV)
theorem Ty (kn : K0) (R : K1) (hn : N0 Q kn) (hr : HR awS R Q) (h : Bu kn R (g 2) (g 4) (g 5) (g 6) (g 8) w) : jO pg pA (aiQ jT) Q g w :=
 lB (l := []) h hn hr trivial
def F7 (kn : K5) (oI b4 b5 R7 c3 : aDt) (w : aDs) : Prop :=
 kn oI b4 b5 R7 c3 w
theorem Tk (kn : K5) (hn : N5 Q kn 2 4 5 6 8) (h : F7 kn (g 2) (g 4) (g 5) (g 6) (g 13) w) : jO pg pA (amB jT) Q g w :=
 lB (kr := no) (l := []) h hn lW trivial
def Q2 (l : Nat) (R : K1) (oI b4 b5 R7 c3 : aDt) (w : aDs) : Prop :=
 F7 (fun oI b4 b5 R7 ID w => Rdy l w fun w => Bu (fun w => afT l none R w) (fun _ w => afT l (some .ret) R w) oI b4 b5 R7 ID w) oI b4 b5 R7 c3 w
theorem Xn {l : Nat} {tmps : Array aDt} {w : aDs} {R : K1} (hsz : tmps.size = 42) (h : Q2 l R (Ro tmps 2) (Ro tmps 4) (Ro tmps 5) (Ro tmps 6) (Ro tmps 13) w) : adB pg l oH tmps (amB jT) (aiQ jT) w R :=
 dsR (ann := pA) 42 TryzM.mixed hsz (Tk (asQ pg pA l (aiQ jT) R) (Ro tmps) w (fun oI b4 b5 R7 ID w => Rdy l w fun w => Bu (afT l none R) (fun _ w => afT l (some .ret) R w) oI b4 b5 R7 ID w) (fun g w h => let ⟨r, h1, h2, h3⟩ := h; ⟨r, h1, h2, (Ty (aeO l R) g _ (afT l none R) (fun _ w => afT l (some .ret) R w) (fun _ _ h => h) (fun _ _ h => h) h3)⟩) h) (by kernel_rfl) (by kernel_rfl) (by kernel_rfl)
def BZ (R : K1) (b4 b5 R7 t1000003 : aDt) (w : aDs) : Prop :=
 gI pg (jF 170 R7) w fun f0 w =>
 jE pg vN #[f0] w fun f1 w =>
 gI pg (jQ 22 b4 f1) w fun _u w =>
 gI pg (jQ 24 b5 (aDu 0)) w fun _u w =>
 GR t1000003 w fun w => MO pg 22 b4 w fun r0 => MO pg 24 b5 w fun r1 => R (.tuple #[r0, r1]) w
theorem WD (R : K1) (hr : HRF BY R Q) (h : BZ R (g 4) (g 5) (g 6) (g 1000003) w) : jO pg pA (gH 1 (gH 2 jT)) Q g w :=
 lB (kn := no) (l := []) h lW hr trivial
def LG (kn : K4) (R : K1) (oI b4 b5 R7 c1 t1000003 : aDt) (w : aDs) : Prop :=
 ∀ g : Env, g 2 = oI -> g 4 = b4 -> g 5 = b5 -> g 6 = R7 -> g 11 = c1 -> g 1000003 = t1000003 -> RF pg oH (.tmp 11) (asZ jT) (amB jT) (aiQ jT) (exQ (fun g w => kn (g 4) (g 5) (g 6) (g 1000003) w) (fun g w => GR (g 1000003) w fun w => MO pg 22 (g 4) w fun r0 => MO pg 24 (g 5) w fun r1 => R (.tuple #[r0, r1]) w) []) g w
theorem Wn (kn : K4) (R : K1) (hn : N4 Q kn 4 5 6 1000003) (hr : HRF BY R Q) (h : LG kn R (g 2) (g 4) (g 5) (g 6) (g 11) (g 1000003) w) : jO pg pA (bI (gH 1 (hU 1 (gH 2 jT)))) Q g w :=
 lB (l := []) (h g rfl rfl rfl rfl rfl rfl) hn hr trivial
def Ks (kn : K4) (R : K1) (oI b4 b5 R7 c1 t1000003 : aDt) (w : aDs) : Prop :=
 LG kn R oI b4 b5 R7 c1 t1000003 w
def Lx (kn : K6) (XG oI b4 b5 R7 t1000003 : aDt) (w : aDs) : Prop :=
 jE pg zL #[XG] w fun c1 w =>
 kn oI b4 b5 R7 c1 t1000003 w
theorem Wv (kn : K6) (hn : N6 Q kn 2 4 5 6 11 1000003) (h : Lx kn (g 1) (g 2) (g 4) (g 5) (g 6) (g 1000003) w) : jO pg pA (hU 1 (hU 1 (gH 2 jT))) Q g w :=
 lB (kr := no) (l := []) h hn lW trivial
def KE (kn : K4) (R : K1) (XG oI b4 b5 R7 t1000003 : aDt) (w : aDs) : Prop :=
 Lx (fun oI b4 b5 R7 c1 t1000003 w => Ks kn R oI b4 b5 R7 c1 t1000003 w) XG oI b4 b5 R7 t1000003 w
def KQ (R : K1) (XG oI b4 b5 R7 t1000003 : aDt) (w : aDs) : Prop :=
 KE (fun b4 b5 R7 t1000003 w => BZ R b4 b5 R7 t1000003 w) R XG oI b4 b5 R7 t1000003 w
theorem Xs (kn : K4) (R : K1) (hn : N4 Q kn 4 5 6 1000003) (hr : HRF BY R Q) (h : KE kn R (g 1) (g 2) (g 4) (g 5) (g 6) (g 1000003) w) : jO pg pA (hU 1 (gH 2 jT)) Q g w :=
 nP 1 (Wv _ g w (Ks kn R) (fun g w h => iZ (Iu 0 (Wn _ g w kn R hn hr h))) h)
def LC (kn : K6) (aeE XG t1000003 : aDt) (w : aDs) : Prop :=
 gI pg (Ru 225 aeE) w fun oI w =>
 gI pg (oM 22) w fun b4 w =>
 gI pg (oM 24) w fun b5 w =>
 jE pg CL #[] w fun b9 w =>
 gI pg (oM 170) w fun R7 w =>
 gI pg (jQ 170 R7 b9) w fun _u w =>
 kn XG oI b4 b5 R7 t1000003 w
theorem WE (kn : K6) (hn : N6 Q kn 1 2 4 5 6 1000003) (h : LC kn (g 0) (g 1) (g 1000003) w) : jO pg pA (hU 2 jT) Q g w :=
 lB (kr := no) (l := []) h hn lW trivial
def KY (R : K1) (aeE XG t1000003 : aDt) (w : aDs) : Prop :=
 LC (fun XG oI b4 b5 R7 t1000003 w => KQ R XG oI b4 b5 R7 t1000003 w) aeE XG t1000003 w
theorem WK (R : K1) (hr : HRF BY R Q) (h : KY R (g 0) (g 1) (g 1000003) w) : jO pg pA jT Q g w :=
 nP 2 (WE _ g w (KQ R) (fun g w h => iZ (nP 1 (Xs _ g w (BZ R) R (fun g w h => iZ (WD _ g w R hr h)) hr h))) h)
def YT (a0 a1 : aDt) (w : aDs) (R : K1) : Prop :=
 KY R a0 a1 undef w
theorem X9 {a0 a1 : aDt} {w : aDs} {R : K1} (h : YT a0 a1 w R) : jE pg oH #[a0, a1] w R := by
 refine dsF (ann := pA) Tryz.f135 jT [a0, a1] BY 42 TryzM.mixed Tryz.func135 ?_
 exact (WK _ _ _ R (fun _ _ h => h) h)
def Sz : FA := ⟨JH, fun i => .leaf ([], []) []⟩
def UT : List ResultVar := [.cell 2 139, .tmp 3]
noncomputable def QX : Code := kA Tryz.f136
def NO (R : K1) (n_0 : aDt) (w : aDs) : Prop :=
 gI pg (oM 139) w fun b2 w =>
 gI pg (hZ .add 3 jC jC n_0 (aDu 4)) w fun b6 w =>
 gI pg (hZ .sub 3 jC jC b6 (aDu 1)) w fun b7 w =>
 gI pg (hZ .quo 3 jC jC b7 (aDu 4)) w fun b8 w =>
 gI pg (hZ .mul 3 jC jC (aDu 3) b8) w fun c4 w =>
 gI pg (hZ .sub 3 jC jC n_0 c4) w fun c5 w =>
 gI pg (kY 139 [(0, b8), (1, b8), (2, b8), (3, c5)]) w fun c6 w =>
 gI pg (hZ .mul 3 jC jC (aDu 3) b8) w fun c9 w =>
 gI pg (hZ .geq 3 jC jC n_0 c9) w fun d0 w =>
 gI pg (jQ 139 b2 c6) w fun _u w =>
 MO pg 139 b2 w fun r0 => R (.tuple #[r0, d0]) w
theorem XA (R : K1) (hr : HR UT R Q) (h : NO R (g 0) w) : jO pg Sz QX Q g w :=
 lB (kn := no) (l := []) h lW hr trivial
def ZL (a0 : aDt) (w : aDs) (R : K1) : Prop :=
 NO R a0 w
theorem Zg {a0 : aDt} {w : aDs} {R : K1} (h : ZL a0 w R) : jE pg JH #[a0] w R := by
 refine yX (ann := Sz) Tryz.f136 QX [a0] UT 21 TryzM.mixed Tryz.func136 ?_
 exact (XA _ _ _ R (fun _ _ h => h) h)
def DR : FA := ⟨zL, fun i => .leaf ([], []) []⟩
def Fm : List ResultVar := [.tmp 2]
noncomputable def CU : Code := kA Tryz.f145
def xV (R : K1) (pN : aDt) (w : aDs) : Prop :=
 gI pg (Ru 22 pN) w fun s_1 w =>
 gI pg (aaG (.func 151) [] [s_1]) w fun b3 w =>
 R b3 w
theorem KS (R : K1) (hr : HR Fm R Q) (h : xV R (g 0) w) : jO pg DR CU Q g w :=
 lB (kn := no) (l := []) h lW hr trivial
def IZ (a0 : aDt) (w : aDs) (R : K1) : Prop :=
 xV R a0 w
theorem LL {a0 : aDt} {w : aDs} {R : K1} (h : IZ a0 w R) : jE pg zL #[a0] w R := by
 refine yX (ann := DR) Tryz.f145 CU [a0] Fm 4 TryzM.mixed Tryz.func145 ?_
 exact (KS _ _ _ R (fun _ _ h => h) h)
def pB : FA := ⟨pU, fun i => .leaf ([], []) []⟩
def rB : List ResultVar := []
noncomputable def oN : Code := kA Tryz.f151
def rC (kn : K3) (k0 : K0) (R : K1) (BS b1 i_3 : aDt) (w : aDs) : Prop :=
 gI pg (hZ .geq 3 jC jC i_3 (aDu 0)) w fun b8 w =>
 mK b8
  (gI pg (jF 22 b1) w fun c3 w =>
  gI pg (jS 22 c3 i_3) w fun c5 w =>
  gI pg (jF 5 c5) w fun c6 w =>
  gI pg (ES BS [i_3, c6]) w fun c7 w =>
  gI pg (sUn .not c7) w fun c8 w =>
  mK c8
   (R (.tuple #[]) w)
   (gI pg (hZ .sub 3 jC jC i_3 (aDu 1)) w fun c0 w =>
   kn BS b1 c0 w))
  (k0 w)
theorem HW (kn : K3) (k0 : K0) (R : K1) (hn : N3 Q kn 0 1 3) (h0 : E0 Q k0 0) (hr : HR rB R Q) (h : rC kn k0 R (g 0) (g 1) (g 3) w) : jO pg pB (bI (bI (gH 1 oN))) Q g w :=
 lB (l := [(0, fun g w => k0 w)]) h hn hr ⟨h0, trivial⟩
def tW (k0 : K0) (R : K1) (BS b1 i_3 : aDt) (w : aDs) : Prop :=
 kO (fun (X : aDt -> K0) (t : aDt) (w : aDs) => rC (fun _ _ i_3 w => X i_3 w) k0 R BS b1 t w) i_3 w
theorem HV (k0 : K0) (R : K1) (h0 : E0 Q k0 0) (hr : HR rB R Q) (h : tW k0 R (g 0) (g 1) (g 3) w) : jO pg pB (bI (gH 1 oN)) Q g w := by
 refine Od (fun g : Env => g 3) (fun X t w => rC (fun _ _ i_3 w => X i_3 w) k0 R (g 0) (g 1) t w) h (fun X g1 w1 ha hL => ?_)
 rw [<- rG 0 ha, <- rG 1 ha] at hL
 exact (HW _ g1 w1 (fun _ _ i_3 w => X i_3 w) k0 R (fun _ _ h => h) h0 hr hL)
def tS (kn : K0) (R : K1) (BS b1 i_3 : aDt) (w : aDs) : Prop :=
 tW kn R BS b1 i_3 w
def uA (kn : K3) (BS b1 : aDt) (w : aDs) : Prop :=
 gI pg (jF 22 b1) w fun b4 w =>
 gI pg (oF .len #[22] 3 [b4]) w fun b5 w =>
 gI pg (hZ .sub 3 jC jC b5 (aDu 1)) w fun b6 w =>
 kn BS b1 b6 w
theorem H5 (kn : K3) (hn : N3 Q kn 0 1 3) (h : uA kn (g 0) (g 1) w) : jO pg pB (hU 1 oN) Q g w :=
 lB (kr := no) (l := []) h hn lW trivial
def uB (kn : K0) (R : K1) (BS b1 : aDt) (w : aDs) : Prop :=
 uA (fun BS b1 i_3 w => tS kn R BS b1 i_3 w) BS b1 w
theorem H9 (kn : K0) (R : K1) (hn : N0 Q kn) (hr : HR rB R Q) (h : uB kn R (g 0) (g 1) w) : jO pg pB oN Q g w :=
 nP 1 (H5 _ g w (tS kn R) (fun g w h => iZ (Iu 0 (HV _ g w kn R hn hr h))) h)
def D2 (a0 a1 : aDt) (w : aDs) (R : K1) : Prop :=
 uB (fun  w => R (.tuple #[]) w) R a0 a1 w
theorem IX {a0 a1 : aDt} {w : aDs} {R : K1} (h : D2 a0 a1 w R) : jE pg pU #[a0, a1] w R := by
 refine yX (ann := pB) Tryz.f151 oN [a0, a1] rB 19 TryzM.mixed Tryz.func151 ?_
 exact (H9 _ _ _ (fun  w => R (.tuple #[]) w) R (fun _ _ h => h) (fun _ _ h => h) h)
end Go.Proofs.YtoecppploooloaaGreatDoor
namespace Go.En
open Go
section
variable {P : Program} {w : aDs} {t : TypeId} {ox oy : Operand} {k : IntKind} {a b : Int}
theorem tP (s : Sem aDt) : (V s).run P w = (s.run P w).andThen fun v w => .ok (.value v) w := by
 unfold V; rw [Sem.run_bind] <;> rfl
theorem azE (s : Sem Unit) : (U s).run P w = (s.run P w).andThen fun _ w => .ok .skip w := by
 unfold U; rw [Sem.run_bind] <;> rfl
theorem hJ : (hZ .add t ox oy (.int k a) (.int k b)).run P w = .ok (.value (.int k (k.wrap (a + b)))) w := by
 simp [hZ, LR, tP, binOp, Op.intArith]
theorem iC : (hZ .sub t ox oy (.int k a) (.int k b)).run P w = .ok (.value (.int k (k.wrap (a - b)))) w := by
 simp [hZ, LR, tP, binOp, Op.intArith]
theorem iM : (hZ .mul t ox oy (.int k a) (.int k b)).run P w = .ok (.value (.int k (k.wrap (a * b)))) w := by
 simp [hZ, LR, tP, binOp, Op.intArith]
theorem iP (h : b ≠ 0) : (hZ .quo t ox oy (.int k a) (.int k b)).run P w = .ok (.value (.int k (k.wrap (a.tdiv b)))) w := by
 simp [hZ, LR, tP, binOp, Op.intDiv, h]
theorem iL (h : b ≠ 0) : (hZ .rem t ox oy (.int k a) (.int k b)).run P w = .ok (.value (.int k (a.tmod b))) w := by
 simp [hZ, LR, tP, binOp, Op.intDiv, h]
def GN (k : IntKind) (a b : Int) : Int := k.wrap (BitVec.ofInt k.bits a &&& BitVec.ofInt k.bits b).toNat
def Zt (k : IntKind) (a b : Int) : Int := k.wrap (BitVec.ofInt k.bits a ||| BitVec.ofInt k.bits b).toNat
def Vt (k : IntKind) (a b : Int) : Int := k.wrap (BitVec.ofInt k.bits a ^^^ BitVec.ofInt k.bits b).toNat
def alA (k : IntKind) (a b : Int) : Int := k.wrap (BitVec.ofInt k.bits a &&& ~~~BitVec.ofInt k.bits b).toNat
theorem iO : (hZ .and t ox oy (.int k a) (.int k b)).run P w = .ok (.value (.int k (GN k a b))) w := by
 simp [hZ, LR, tP, binOp, Op.intBits, GN]
theorem jJ : (hZ .or t ox oy (.int k a) (.int k b)).run P w = .ok (.value (.int k (Zt k a b))) w := by
 simp [hZ, LR, tP, binOp, Op.intBits, Zt]
theorem iW : (hZ .xor t ox oy (.int k a) (.int k b)).run P w = .ok (.value (.int k (Vt k a b))) w := by
 simp [hZ, LR, tP, binOp, Op.intBits, Vt]
theorem gM : (hZ .andNot t ox oy (.int k a) (.int k b)).run P w = .ok (.value (.int k (alA k a b))) w := by
 simp [hZ, LR, tP, binOp, Op.intBits, alA]
theorem iG {k' : IntKind} (h : 0 <= b) : (hZ .shl t ox oy (.int k a) (.int k' b)).run P w = .ok (.value (.int k (k.wrap (a * 2 ^ (min b.toNat k.bits))))) w := by
 simp [hZ, LR, tP, binOp, Op.shift, Int.not_lt.2 h]
theorem iI {k' : IntKind} (h : 0 <= b) : (hZ .shr t ox oy (.int k a) (.int k' b)).run P w = .ok (.value (.int k (a.fdiv (2 ^ (min b.toNat k.bits))))) w := by
 simp [hZ, LR, tP, binOp, Op.shift, Int.not_lt.2 h]
theorem iJ : (hZ .eql t ox oy (.int k a) (.int k b)).run P w = .ok (.value (.bool (a == b))) w := by
 simp [hZ, LR, tP, binOp, Op.intCmp, eqGuard]
theorem iH : (hZ .neq t ox oy (.int k a) (.int k b)).run P w = .ok (.value (.bool (a != b))) w := by
 simp [hZ, LR, tP, binOp, Op.intCmp, eqGuard]
theorem gY : (hZ .lss t ox oy (.int k a) (.int k b)).run P w = .ok (.value (.bool (decide (a < b)))) w := by
 simp [hZ, LR, tP, binOp, Op.intCmp]
theorem iN : (hZ .leq t ox oy (.int k a) (.int k b)).run P w = .ok (.value (.bool (decide (a <= b)))) w := by
 simp [hZ, LR, tP, binOp, Op.intCmp]
theorem iA : (hZ .gtr t ox oy (.int k a) (.int k b)).run P w = .ok (.value (.bool (decide (b < a)))) w := by
 simp [hZ, LR, tP, binOp, Op.intCmp]
theorem iF : (hZ .geq t ox oy (.int k a) (.int k b)).run P w = .ok (.value (.bool (decide (b <= a)))) w := by
 simp [hZ, LR, tP, binOp, Op.intCmp]
theorem iX : (sUn .neg (.int k a)).run P w = .ok (.value (.int k (k.wrap (0 - a)))) w := by
 simp [sUn, tP, Op.unary, Op.intArith]
theorem iV : (sUn .xor (.int k a)).run P w = .ok (.value (.int k (Vt k (if k.signed then -1 else k.max) a))) w := by
 simp [sUn, tP, Op.unary, Op.intBits, Vt]
theorem iK (c : Bool) : (sUn .not (.bool c)).run P w = .ok (.value (.bool !c)) w := by
 simp [sUn, tP, Op.unary]
theorem gR (c : Bool) (x y : aDt) : (nD (.bool c) x y).run P w = .ok (.value (if c then x else y)) w := by
 simp [nD, asBool]
theorem afI {x y : aDt} {r : Bool} (hg : eqGuard .eql t ox oy x y = pure ()) (hb : binOp .eql t x y = (do pure (.bool (<- Op.equal t x y)))) (he : (Op.equal t x y).run P w = .ok r w) :
 (hZ .eql t ox oy x y).run P w = .ok (.value (.bool r)) w := by
 unfold hZ
 simp only [LR, tP, hg, hb, pure_bind]
 rw [Sem.run_bind, he] <;> rfl
theorem apO {x y : aDt} {r : Bool} (hg : eqGuard .neq t ox oy x y = pure ()) (hb : binOp .neq t x y = (do pure (.bool (!(<- Op.equal t x y))))) (he : (Op.equal t x y).run P w = .ok r w) :
 (hZ .neq t ox oy x y).run P w = .ok (.value (.bool (!r))) w := by
 unfold hZ
 simp only [LR, tP, hg, hb, pure_bind]
 rw [Sem.run_bind, he] <;> rfl
theorem gX {n : Int} (h0 : -9223372036854775808 <= n) (h1 : n <= 9223372036854775807) : IntKind.i64.wrap n = n := by
 unfold IntKind.wrap; simp [IntKind.bits, IntKind.signed]; split <;> omega
theorem iB {n : Int} (h0 : 0 <= n) (h1 : n <= 18446744073709551615) : IntKind.u64.wrap n = n := by
 unfold IntKind.wrap; simp [IntKind.bits, IntKind.signed]; omega
theorem iU {n : Int} (h0 : -2147483648 <= n) (h1 : n <= 2147483647) : IntKind.i32.wrap n = n := by
 unfold IntKind.wrap; simp [IntKind.bits, IntKind.signed]; split <;> omega
theorem iT {n : Int} (h0 : 0 <= n) (h1 : n <= 4294967295) : IntKind.u32.wrap n = n := by
 unfold IntKind.wrap; simp [IntKind.bits, IntKind.signed]; omega
theorem iS {n : Int} (h0 : 0 <= n) (h1 : n <= 65535) : IntKind.u16.wrap n = n := by
 unfold IntKind.wrap; simp [IntKind.bits, IntKind.signed]; omega
theorem jI {n : Int} (h0 : 0 <= n) (h1 : n <= 255) : IntKind.u8.wrap n = n := by
 unfold IntKind.wrap; simp [IntKind.bits, IntKind.signed]; omega
theorem wu8 (n : Int) : IntKind.u8.wrap n = n % 256 := by
 unfold IntKind.wrap; simp [IntKind.bits, IntKind.signed]
theorem arT (x y : ByteArray) : (hZ .eql t ox oy (.string x) (.string y)).run P w = .ok (.value (.bool (x.toList == y.toList))) w := by
 simp [hZ, LR, tP, binOp, Op.stringOp, eqGuard]
theorem aqM (n : Nat) {e : TypeId} (hu : P.underlying t = some (.pointer e)) (x : Option Addr) : (Op.equalIn (n + 1) t (.pointer x) (.pointer none)).run P w = .ok x.isNone w := by
 simp only [Op.equalIn, underlying]
 cases x <;> simp [hu]
theorem atG {e : TypeId} (hu : P.underlying t = some (.pointer e)) (x : Option Addr) : (Op.equal t (.pointer x) (.pointer none)).run P w = .ok x.isNone w := aqM 9999 hu x
theorem avL (m : Nat) {e : TypeId} (hu : P.underlying t = some (.slice e)) (x : Option Addr) (n c : Nat) : (Op.equalIn (m + 1) t (.slice x n c) (.slice none 0 0)).run P w = .ok x.isNone w := by
 simp only [Op.equalIn, underlying]
 cases x <;> simp [hu]
theorem ayT {e : TypeId} (hu : P.underlying t = some (.slice e)) (x : Option Addr) (n c : Nat) : (Op.equal t (.slice x n c) (.slice none 0 0)).run P w = .ok x.isNone w := avL 9999 hu x n c
theorem adU {e : TypeId} (hu : P.underlying t = some (.pointer e)) (x : Option Addr) : (hZ .eql t ox oy (.pointer x) (.pointer none)).run P w = .ok (.value (.bool x.isNone)) w :=
 afI rfl rfl (atG hu x)
theorem ayL {e : TypeId} (hu : P.underlying t = some (.pointer e)) (x : Option Addr) : (hZ .neq t ox oy (.pointer x) (.pointer none)).run P w = .ok (.value (.bool (!x.isNone))) w :=
 apO rfl rfl (atG hu x)
theorem auO {e : TypeId} (hu : P.underlying t = some (.slice e)) (x : Option Addr) (n c : Nat) : (hZ .eql t ox oy (.slice x n c) (.slice none 0 0)).run P w = .ok (.value (.bool x.isNone)) w :=
 afI rfl rfl (ayT hu x n c)
theorem De {s : TypeId} {d : TypeDesc} {kd : IntKind} (hs : P.underlying s = some d) (hu : P.underlying t = some (.int kd)) : (nI s t (.int k a)).run P w = .ok (.value (.int kd (kd.wrap a))) w := by
 cases d <;> simp [nI, tP, convert, underlying, hs, hu, Conv.intToInt]
theorem Vq {ty : TypeId} {e : TypeId} (hu : P.underlying t = some (.slice e)) (x : Option Addr) (n c : Nat) : (oF .len #[t] ty [.slice x n c]).run P w = .ok (.value (.int .i64 n)) w := by
 simp [oF, builtin, Builtin.len_, underlying, hu, goInt]
theorem iR {ats : Array TypeId} {ty : TypeId} : (oF .min ats ty [.int k a, .int k b]).run P w = .ok (.value (.int k (if b < a then b else a))) w := by
 simp [oF, builtin, Builtin.min_, Builtin.min2]
theorem iQ {ats : Array TypeId} {ty : TypeId} : (oF .max ats ty [.int k a, .int k b]).run P w = .ok (.value (.int k (if b > a then b else a))) w := by
 simp [oF, builtin, Builtin.max_, Builtin.max2]
theorem jW (a b : aDt) : (jZ (.tuple #[a, b]) 0).run P w = .ok (.value a) w := Eq.trans rfl rfl
theorem jV (a b : aDt) : (jZ (.tuple #[a, b]) 1).run P w = .ok (.value b) w := Eq.trans rfl rfl
theorem kH (a b c : aDt) : (jZ (.tuple #[a, b, c]) 0).run P w = .ok (.value a) w := Eq.trans rfl rfl
theorem kC (a b c : aDt) : (jZ (.tuple #[a, b, c]) 1).run P w = .ok (.value b) w := Eq.trans rfl rfl
theorem kG (a b c : aDt) : (jZ (.tuple #[a, b, c]) 2).run P w = .ok (.value c) w := Eq.trans rfl rfl
theorem kF (a b c d : aDt) : (jZ (.tuple #[a, b, c, d]) 0).run P w = .ok (.value a) w := Eq.trans rfl rfl
theorem kI (a b c d : aDt) : (jZ (.tuple #[a, b, c, d]) 1).run P w = .ok (.value b) w := Eq.trans rfl rfl
theorem kE (a b c d : aDt) : (jZ (.tuple #[a, b, c, d]) 2).run P w = .ok (.value c) w := Eq.trans rfl rfl
theorem kD (a b c d : aDt) : (jZ (.tuple #[a, b, c, d]) 3).run P w = .ok (.value d) w := Eq.trans rfl rfl
theorem iE (x : Addr) : (nO (.pointer (some x))).run P w = .ok (.value (.pointer (some x))) w := Eq.trans rfl rfl
theorem mP {fs : Array Field} {f : Field} {i : Nat} {inf : TypeInfo} (hu : P.underlying t = some (.struct fs)) (hf : fs[i]? = some f)
 (hi : P.info? f.type = some inf) (hz : inf.size ≠ 0) (x : Addr) : (jH t (.pointer (some x)) i).run P w = .ok (.value (.pointer (some (x.add f.offset)))) w := by
 simp [jH, tP, Instr.fieldAt, underlying, hu, hf, Instr.sureAddr, fieldPlace, sizeOf, typeInfo, hi, hz]
theorem ahR {e : TypeId} {inf : TypeInfo} (hu : P.underlying t = some (.slice e)) (hi : P.info? e = some inf) (x : Addr) (n c : Nat) (h0 : 0 <= a) (h1 : a < n) :
 (jS t (.slice (some x) n c) (.int k a)).run P w = .ok (.value (.pointer (some (x.add (a.toNat * inf.size))))) w := by
 simp [jS, tP, Instr.indexAt, asIntOf, underlying, hu, h0, h1, sizeOf, typeInfo, hi]
theorem ahD {e : TypeId} {len : Nat} {inf : TypeInfo} (hu : P.underlying t = some (.array len e)) (hi : P.info? e = some inf) (x : Addr) (h0 : 0 <= a) (h1 : a < len) :
 (jS t (.pointer (some x)) (.int k a)).run P w = .ok (.value (.pointer (some (x.add (a.toNat * inf.size))))) w := by
 simp [jS, tP, Instr.indexAt, asIntOf, underlying, hu, h0, h1, sizeOf, typeInfo, hi, Instr.sureAddr]
theorem ayF (hu : P.underlying t = some .string) (x : ByteArray) (h0 : 0 <= a) (h1 : a.toNat < x.size) :
 (Ry t (.string x) (.int k a)).run P w = .ok (.value (.int .u8 (x[a.toNat]'h1).toNat)) w := by
 simp [Ry, tP, Instr.index, asIntOf, underlying, hu, h0, h1]
end
def lN (w : aDs) (b : Nat) (cs : List aDt) : Prop :=
 ∃ T lo hi, w.heap[b]? = some (.cells cs.toArray T (lo, hi)) /\ (cs.length <= lo ∨ hi = lo)
structure jN (w w' : aDs) (M : Nat -> Prop) : Prop where
 os : w'.os = w.os
 tape : w'.tape = w.tape
 output : w'.output = w.output
 size : w.heap.size <= w'.heap.size
 keep : ∀ b, b < w.heap.size -> ¬ M b -> w'.heap[b]? = w.heap[b]?
def mC : Nat -> Prop := fun _ => False
theorem jN.refl (w : aDs) (M : Nat -> Prop) : jN w w M := ⟨rfl, rfl, rfl, aBk _, fun _ _ _ => rfl⟩
theorem jN.mono {w w' : aDs} {M N : Nat -> Prop} (h : jN w w' M) (hm : ∀ b, b < w.heap.size -> M b -> N b) : jN w w' N :=
 ⟨h.os, h.tape, h.output, h.size, fun b hb hn => h.keep b hb fun hM => hn (hm b hb hM)⟩
theorem jN.trans {a b c : aDs} {M N : Nat -> Prop} (h : jN a b M) (k : jN b c N) (hn : ∀ x, x < a.heap.size -> N x -> M x) : jN a c M :=
 ⟨k.os.trans h.os, k.tape.trans h.tape, k.output.trans h.output, aB4 h.size k.size,
   fun x hx hM => (k.keep x (aCE hx h.size) fun h => hM (hn x hx h)).trans (h.keep x hx hM)⟩
theorem jN.seq {a b c : aDs} {M : Nat -> Prop} (h : jN a b M) (k : jN b c M) : jN a c M := h.trans k fun _ _ h => h
theorem jN.new {a b c : aDs} {M : Nat -> Prop} {x : Nat} (h : jN a b M) (k : jN b c (fun y => y = x)) (hx : a.heap.size <= x) : jN a c M :=
 h.trans k fun y hy e => absurd hy (by subst e; omega)
theorem jN.below {w w' : aDs} (h : jN w w' mC) : Go.RowKit.Below w.heap.size w w' :=
 ⟨h.os, h.tape, h.output, h.size, fun k hk => h.keep k hk fun h => h⟩
theorem jN.dr (w : aDs) (M : Nat -> Prop) : jN w (dr w) M := ⟨rfl, rfl, rfl, aBk _, fun _ _ _ => rfl⟩
theorem jN.alloc (w : aDs) (o : Obj) (M : Nat -> Prop) : jN w (w.alloc o) M :=
 ⟨rfl, rfl, rfl, by simp, fun b hb _ => by show (w.heap.push o)[b]? = _; rw [Array.getElem?_push, if_neg (by omega)]⟩
theorem Zk (w : aDs) (a : Addr) (v : aDt) (b : Nat) (h : b ≠ a.block) : (w.setCell a v).heap[b]? = w.heap[b]? := Go.RowKit.Below.heap_setCell w a v b h
theorem jN.setCell (w : aDs) (a : Addr) (v : aDt) {M : Nat -> Prop} (h : a.block < w.heap.size -> M a.block) : jN w (w.setCell a v) M :=
 ⟨rfl, rfl, rfl, by simp, fun b hb hM => Zk w a v b fun e => hM (e ▸ h (e ▸ hb))⟩
theorem lN.lt {w : aDs} {b : Nat} {cs : List aDt} (h : lN w b cs) : b < w.heap.size := by
 obtain ⟨T, lo, hi, h, _⟩ := h
 rcases aBt b w.heap.size with h' | h'
 .exact h'
 .rw [aCa h'] at h; cases h
theorem lN.ext {w w' : aDs} {b : Nat} {cs : List aDt} {M : Nat -> Prop} (h : lN w b cs) (hx : jN w w' M) (hM : ¬ M b) : lN w' b cs := by
 have := h.lt
 obtain ⟨T, lo, hi, h, k⟩ := h
 exact ⟨T, lo, hi, by rw [hx.keep b this hM]; exact h, k⟩
theorem lN.cell {w : aDs} {b off : Nat} {cs : List aDt} (h : lN w b cs) : w.cell? ⟨b, off, none⟩ = cs[off]? := by
 obtain ⟨T, lo, hi, h, _⟩ := h
 simp [World.cell?, h]
theorem lN.free {w : aDs} {b off : Nat} {cs : List aDt} {s : Option Nat} (h : lN w b cs) (ho : off < cs.length) : w.frozen? ⟨b, off, s⟩ = false := by
 obtain ⟨T, lo, hi, h, k⟩ := h
 simp only [World.frozen?, h]
 rcases k with k | k <;> (simp; omega)
theorem lN.setCell {w : aDs} {b off : Nat} {cs : List aDt} (h : lN w b cs) (v : aDt) : lN (w.setCell ⟨b, off, none⟩ v) b (cs.set off v) := by
 have hb := h.lt
 obtain ⟨T, lo, hi, h, k⟩ := h
 refine ⟨T, lo, hi, ?_, by simpa using k⟩
 simp only [World.setCell, aCv, h]
 simp
theorem lN.alloc (w : aDs) (cs : List aDt) (T : TypeId) : lN (w.alloc (.cells cs.toArray T)) w.heap.size cs :=
 ⟨T, 0, 0, by show (w.heap.push _)[w.heap.size]? = _; simp, .inr rfl⟩
theorem aqU {w w' : aDs} {M : Nat -> Prop} {a : Addr} {v : aDt} (h : w.cell? a = some v) (hx : jN w w' M) (hM : ¬ M a.block) : w'.cell? a = some v := by
 have hb := World.block_lt_of_cell? w a h
 have e := hx.keep _ hb hM
 unfold World.cell? at h ⊢
 rw [e]; exact h
section
variable {P : Program} {w : aDs} {t : TypeId}
def aaY (d : TypeDesc) : Bool := match d with | .struct _ | .array _ _ => true | _ => false
theorem Hh {d : TypeDesc} (hu : P.underlying t = some d) : (isAgg t).run P w = .ok (aaY d) w := by
 cases d <;> simp [isAgg, underlying, hu, aaY]
theorem lH {i : TypeInfo} (hi : P.info? t = some i) : (sizeOf t).run P w = .ok i.size w := by simp [sizeOf, typeInfo, hi]
theorem W9 {b off : Nat} {cs : List aDt} (ho : lN w b cs) : ∀ (n i : Nat) (acc : Array aDt), off + i + n <= cs.length →
 (loadCellsFrom ⟨b, off, none⟩ i n acc).run P w = .ok (acc ++ ((cs.drop (off + i)).take n).toArray) w := by
 intro n
 induction n with
 | zero => intro i acc _; simp [loadCellsFrom]
 | succ n ih =>
   intro i acc h
   have hc : w.cell? ((⟨b, off, none⟩ : Addr).add i) = some cs[off + i] := by
    unfold Addr.add
    split
    .rename_i hi; subst hi; rw [ho.cell]; simp
    .show w.cell? ⟨b, off + i, none⟩ = _; rw [ho.cell]; simp
   simp only [loadCellsFrom, Sem.run_bind, run_load, hc, Result.andThen_ok]
   rw [ih (i + 1) _ (by omega)]
   congr 1
   rw [aCj (by omega : off + i < cs.length)]
   simp [aCA]
theorem UP {b off n : Nat} {cs : List aDt} (ho : lN w b cs) (h : off + n <= cs.length) :
 (loadCells ⟨b, off, none⟩ n).run P w = .ok ((cs.drop off).take n).toArray w := by
 unfold loadCells
 rw [W9 ho n 0 #[] (by omega)]
 simp
theorem PD {d : TypeDesc} {i : TypeInfo} (hu : P.underlying t = some d) (hd : aaY d = true) (hi : P.info? t = some i) {b off : Nat} {cs : List aDt} (ho : lN w b cs) (h : off + i.size <= cs.length) :
 (jF t (.pointer (some ⟨b, off, none⟩))).run P w = .ok (.value (.agg ((cs.drop off).take i.size).toArray)) w := by
 unfold jF
 rw [tP]
 simp only [Instr.loadAt, Instr.sureAddr, loadVar, pure_bind, Sem.run_bind, Hh hu, hd, Result.andThen_ok, if_true, lH hi, UP ho h, Sem.run_pure]
def one (v : aDt) : Bool := match v with | .agg _ | .tuple _ => false | _ => true
theorem aiJ {a : Addr} {v x : aDt} (hv : one v = true) (hc : w.cell? a = some x) (hf : w.frozen? a = false) : (store a v).run P w = .ok () (w.setCell a v) := by
 unfold store
 cases v <;> simp [one] at hv <;> simp [Sem.run, hc, hf]
def kV (cs : List aDt) (off : Nat) : List aDt -> List aDt
 | [] => cs
 | v :: vs => kV (cs.set off v) (off + 1) vs
theorem U0 (vs : List aDt) : ∀ (cs : List aDt) (off : Nat), (kV cs off vs).length = cs.length := by
 induction vs with
 | nil => intro cs off; rfl
 | cons v vs ih => intro cs off; simp [kV, ih]
theorem F1 {b : Nat} {M : Nat -> Prop} (hM : M b) : ∀ (vs : List aDt) (w : aDs) (off i : Nat) (cs : List aDt), lN w b cs -> off + i + vs.length <= cs.length -> (∀ v ∈ vs, one v = true) →
 ∃ w', (storeCells ⟨b, off, none⟩ vs i).run P w = .ok () w' /\ lN w' b (kV cs (off + i) vs) /\ jN w w' M /\ w'.heap.size = w.heap.size /\ w'.drawn = w.drawn := by
 intro vs
 induction vs with
 | nil => intro w off i cs ho _ _; exact ⟨w, by simp [storeCells], ho, jN.refl _ _, rfl, rfl⟩
 | cons v vs ih =>
   intro w off i cs ho h hv
   simp only [aBu] at h
   have ha : (⟨b, off, none⟩ : Addr).add i = ⟨b, off + i, none⟩ := by
    unfold Addr.add; split
    .rename_i hi; subst hi; rfl
    .rfl
   have hlt : off + i < cs.length := by omega
   have hc : w.cell? ⟨b, off + i, none⟩ = some cs[off + i] := by rw [ho.cell]; simp
   have hs := aiJ (P := P) (hv v (by simp)) hc (ho.free hlt)
   obtain ⟨w', h1, h2, h3, h4, h5⟩ := ih (w.setCell ⟨b, off + i, none⟩ v) off (i + 1) (cs.set (off + i) v) (ho.setCell v) (by simp; omega) (fun x hx => hv x (aBq _ hx))
   refine ⟨w', ?_, h2, (jN.setCell w _ v fun _ => hM).trans h3 (fun _ _ h => h), by rw [h4]; simp, by rw [h5] <;> rfl⟩
   simp only [storeCells, Sem.run_bind, ha, hs, Result.andThen_ok]
   exact h1
theorem Fh {i : TypeInfo} (hi : P.info? t = some i) {b off : Nat} {cs : List aDt} (ho : lN w b cs) {v : aDt} (hs : v.cells.size = i.size)
 (hv : ∀ x ∈ v.cells.toList, one x = true) (h : off + i.size <= cs.length) {K : aDt -> aDs -> Prop}
 (hk : ∀ w', lN w' b (kV cs off v.cells.toList) -> jN w w' (fun x => x = b) -> w'.heap.size = w.heap.size -> K undef w') : gI P (jQ t (.pointer (some ⟨b, off, none⟩)) v) w K := by
 obtain ⟨w', h1, h2, h3, h4, _⟩ := F1 (P := P) (M := fun x => x = b) rfl v.cells.toList w off 0 cs ho (by simp [hs]; omega) hv
 have : (jQ t (.pointer (some ⟨b, off, none⟩)) v).run P w = .ok .skip w' := by
  unfold jQ
  rw [azE]
  simp only [Instr.storeAt, Instr.sureAddr, storeVar, pure_bind, Sem.run_bind, lH hi, Result.andThen_ok, hs]
  simp [h1]
 unfold gI
 rw [this]
 exact hk w' h2 h3 h4
theorem acS {v : aDt} (hv : one v = true) : v.cells = #[v] := by cases v <;> simp [one] at hv <;> rfl
theorem Ac {i : TypeInfo} (hi : P.info? t = some i) (h1 : i.size = 1) {b off : Nat} {cs : List aDt} (ho : lN w b cs) {v : aDt} (hv : one v = true) (h : off < cs.length) {K : aDt -> aDs -> Prop}
 (hk : ∀ w', lN w' b (cs.set off v) -> jN w w' (fun x => x = b) -> w'.heap.size = w.heap.size -> K undef w') : gI P (jQ t (.pointer (some ⟨b, off, none⟩)) v) w K := by
 have e := acS hv
 refine Fh hi ho (by rw [e, h1] <;> rfl) (by rw [e]; simpa using hv) (by omega) fun w' a b c => hk w' ?_ b c
 rw [e] at a; exact a
def ldC (c : Option aDt) (w : aDs) (far : Result Next) : Result Next := match c with | some v => .ok (.value v) w | none => far
def far (P : Program) (t : TypeId) (x : Addr) (w : aDs) : Result Next := (jF t (.pointer (some x))).run P w
theorem gD (v : aDt) (w : aDs) (f : Result Next) : ldC (some v) w f = .ok (.value v) w := rfl
theorem Yb {d : TypeDesc} (hu : P.underlying t = some d) (hd : aaY d = false) (x : Addr) (w : aDs) :
 (jF t (.pointer (some x))).run P w = ldC (w.cell? x) w (far P t x w) := by
 cases h : w.cell? x with
 | none => rfl
 | some v =>
   unfold jF
   rw [tP]
   simp only [Instr.loadAt, Instr.sureAddr, loadVar, pure_bind, Sem.run_bind, Hh hu, hd, Result.andThen_ok, aA8, if_false, run_load, h, ldC]
theorem TD {d : TypeDesc} {i : TypeInfo} (hu : P.underlying t = some d) (hd : aaY d = true) (hi : P.info? t = some i) {b off : Nat} {cs : List aDt} (ho : lN w b cs) (h : off + i.size <= cs.length) {K : aDt -> Prop}
 (hk : K (.agg ((cs.drop off).take i.size).toArray)) : MO P t (.pointer (some ⟨b, off, none⟩)) w K := by
 refine ⟨_, ?_, hk⟩
 simp only [asAddr, loadVar, pure_bind, Sem.run_bind, Hh hu, hd, Result.andThen_ok, if_true, lH hi, UP ho h, Sem.run_pure]
theorem akR {d : TypeDesc} (hu : P.underlying t = some d) (hd : aaY d = false) {b off : Nat} {cs : List aDt} (ho : lN w b cs) {v : aDt} (h : cs[off]? = some v) {K : aDt -> Prop}
 (hk : K v) : MO P t (.pointer (some ⟨b, off, none⟩)) w K := by
 refine ⟨_, ?_, hk⟩
 simp only [asAddr, loadVar, pure_bind, Sem.run_bind, Hh hu, hd, Result.andThen_ok, aA8, if_false, run_load, ho.cell, h]
theorem Az {v : aDt} {K : aDt -> aDs -> Prop} (hk : ∀ w', lN w' w.heap.size v.cells.toList -> jN w w' mC -> w'.heap.size = w.heap.size + 1 -> K (.pointer (some ⟨w.heap.size, 0, none⟩)) w') :
 gI P (Ru t v) w K := by
 have : (Ru t v).run P w = .ok (.value (.pointer (some ⟨w.heap.size, 0, none⟩))) (w.alloc (.cells v.cells.toList.toArray t)) := by
  unfold Ru; rw [tP]
  simp [Instr.box, newVar, newRow]
 unfold gI
 rw [this]
 exact hk _ (lN.alloc _ _ _) (jN.alloc _ _ _) (by simp)
theorem CO {i : TypeInfo} {z : aDt} (hi : P.info? t = some i) (hz : i.zero = some z) {K : aDt -> aDs -> Prop}
 (hk : ∀ w', lN w' w.heap.size z.cells.toList -> jN w w' mC -> w'.heap.size = w.heap.size + 1 -> K (.pointer (some ⟨w.heap.size, 0, none⟩)) w') :
 gI P (oM t) w K := by
 have : (oM t).run P w = .ok (.value (.pointer (some ⟨w.heap.size, 0, none⟩))) (w.alloc (.cells z.cells.toList.toArray t)) := by
  unfold oM; rw [tP]
  simp [Instr.alloc, zeroValue, typeInfo, hi, hz, newVar, newRow]
 unfold gI
 rw [this]
 exact hk _ (lN.alloc _ _ _) (jN.alloc _ _ _) (by simp)
end
theorem AQ {P : Program} {w : aDs} {k : IntKind} {a : Int} {y : Nat} {code : BoundsCode} (h0 : 0 <= a) (h1 : a <= y) : (Instr.sliceBound (.int k a) y code).run P w = .ok a.toNat w := by
 simp [Instr.sliceBound, asIntOf, h0, h1]
section
variable {P : Program} {w : aDs} {t e : TypeId} {k k' : IntKind} {lo hi : Int} {i : TypeInfo}
def mN (x : Option Addr) (m l sz : Nat) : Option Addr := if m = l then x else x.map (·.add (l * sz))
theorem aiC (hu : P.underlying t = some (.slice e)) (hi' : P.info? e = some i) (x : Option Addr) (n c : Nat) (h0 : 0 <= lo) (h1 : lo <= n) :
 (lP t (.slice x n c) (some (.int k lo)) none none).run P w = .ok (.value (.slice (mN x c lo.toNat i.size) (n - lo.toNat) (c - lo.toNat))) w := by
 simp only [lP, tP, Instr.sliceAt, underlying, hu, Sem.run_bind, run_program, Result.andThen_ok, Sem.run_pure, Instr.slice, Instr.sliceBounds, pure_bind, AQ h0 h1, lH hi', mN]
theorem Vd (hu : P.underlying t = some (.slice e)) (hi' : P.info? e = some i) (x : Option Addr) (n c : Nat) (h0 : 0 <= hi) (h1 : hi <= c) :
 (lP t (.slice x n c) none (some (.int k hi)) none).run P w = .ok (.value (.slice (mN x c 0 i.size) (hi.toNat - 0) (c - 0))) w := by
 simp only [lP, tP, Instr.sliceAt, underlying, hu, Sem.run_bind, run_program, Result.andThen_ok, Sem.run_pure, Instr.slice, Instr.sliceBounds, pure_bind, AQ h0 h1, lH hi', mN]
theorem adL (hu : P.underlying t = some (.slice e)) (hi' : P.info? e = some i) (x : Option Addr) (n c : Nat) (h0 : 0 <= lo) (h1 : lo <= hi) (h2 : hi <= c) :
 (lP t (.slice x n c) (some (.int k lo)) (some (.int k' hi)) none).run P w = .ok (.value (.slice (mN x c lo.toNat i.size) (hi.toNat - lo.toNat) (c - lo.toNat))) w := by
 have h3 : (0 : Int) <= hi := by omega
 have h4 : lo <= (hi.toNat : Int) := by omega
 simp only [lP, tP, Instr.sliceAt, underlying, hu, Sem.run_bind, run_program, Result.andThen_ok, Sem.run_pure, Instr.slice, Instr.sliceBounds, pure_bind, AQ h3 h2, AQ h0 h4, lH hi', mN]
def uI (a : Addr) (m l sz : Nat) : Addr := if m = l then a else a.add (l * sz)
theorem aeX {n : Nat} (hu : P.underlying t = some (.array n e)) (hi' : P.info? e = some i) (x : Addr) (h0 : 0 <= lo) (h1 : lo <= n) :
 (lP t (.pointer (some x)) (some (.int k lo)) none none).run P w = .ok (.value (.slice (some (uI x n lo.toNat i.size)) (n - lo.toNat) (n - lo.toNat))) w := by
 simp only [lP, tP, Instr.sliceAt, Instr.sureAddr, underlying, hu, Sem.run_bind, run_program, Result.andThen_ok, Sem.run_pure, Instr.sliceBounds, pure_bind, AQ h0 h1, lH hi', uI]
theorem Ti {n : Nat} (hu : P.underlying t = some (.array n e)) (hi' : P.info? e = some i) (x : Addr) (h0 : 0 <= hi) (h1 : hi <= n) :
 (lP t (.pointer (some x)) none (some (.int k hi)) none).run P w = .ok (.value (.slice (some (uI x n 0 i.size)) (hi.toNat - 0) (n - 0))) w := by
 simp only [lP, tP, Instr.sliceAt, Instr.sureAddr, underlying, hu, Sem.run_bind, run_program, Result.andThen_ok, Sem.run_pure, Instr.sliceBounds, pure_bind, AQ h0 h1, lH hi', uI]
theorem Gq {n : Nat} (hu : P.underlying t = some (.array n e)) (hi' : P.info? e = some i) (x : Addr) :
 (lP t (.pointer (some x)) none none none).run P w = .ok (.value (.slice (some (uI x n 0 i.size)) (n - 0) (n - 0))) w := by
 simp only [lP, tP, Instr.sliceAt, Instr.sureAddr, underlying, hu, Sem.run_bind, run_program, Result.andThen_ok, Sem.run_pure, Instr.sliceBounds, pure_bind, lH hi', uI]
theorem UG {n : Nat} (hu : P.underlying t = some (.array n e)) (hi' : P.info? e = some i) (x : Addr) (h0 : 0 <= lo) (h1 : lo <= hi) (h2 : hi <= n) :
 (lP t (.pointer (some x)) (some (.int k lo)) (some (.int k' hi)) none).run P w = .ok (.value (.slice (some (uI x n lo.toNat i.size)) (hi.toNat - lo.toNat) (n - lo.toNat))) w := by
 have h3 : (0 : Int) <= hi := by omega
 have h4 : lo <= (hi.toNat : Int) := by omega
 simp only [lP, tP, Instr.sliceAt, Instr.sureAddr, underlying, hu, Sem.run_bind, run_program, Result.andThen_ok, Sem.run_pure, Instr.sliceBounds, pure_bind, AQ h3 h2, AQ h0 h4, lH hi', uI]
end
def Sl (w : aDs) (v : aDt) (l : List aDt) : Prop :=
 ∃ a n c, v = .slice a n c /\ n = l.length /\ n <= c /\ (0 < n -> ∃ b off, a = some ⟨b, off, none⟩ /\ ∀ i, i < n -> w.cell? ⟨b, off + i, none⟩ = l[i]?)
def Mz (v : aDt) (M : Nat -> Prop) : Prop := match v with | .slice (some a) (_ + 1) _ => M a.block | _ => False
theorem Sl.ext {w w' : aDs} {v : aDt} {l : List aDt} {M : Nat -> Prop} (h : Sl w v l) (hx : jN w w' M) (hM : ¬ Mz v M) : Sl w' v l := by
 obtain ⟨a, n, c, rfl, hn, hc, h⟩ := h
 refine ⟨a, n, c, rfl, hn, hc, fun h0 => ?_⟩
 obtain ⟨b, off, rfl, h2⟩ := h h0
 refine ⟨b, off, rfl, fun i hi => ?_⟩
 have h1 := h2 i hi
 obtain ⟨v, hv⟩ : ∃ v, l[i]? = some v := ⟨l[i], by simp⟩
 rw [hv] at h1 ⊢
 refine aqU h1 hx ?_
 obtain ⟨m, rfl⟩ : ∃ m, n = m + 1 := ⟨n - 1, by omega⟩
 exact hM
theorem Sl.old {w : aDs} {v : aDt} {l : List aDt} (h : Sl w v l) : ¬ Mz v (fun b => w.heap.size <= b) := by
 obtain ⟨a, n, c, rfl, hn, hc, h⟩ := h
 unfold Mz
 split
 .rename_i x m _ e
  obtain ⟨rfl, rfl, rfl⟩ : a = some x /\ n = m + 1 /\ c = _ := by simpa using e
  obtain ⟨b, off, e, h2⟩ := h (by omega)
  have e := aBO e; subst e
  have h1 := h2 0 (by omega)
  obtain ⟨v, hv⟩ : ∃ v, l[0]? = some v := ⟨l[0], by simp⟩
  rw [hv] at h1
  have := World.block_lt_of_cell? _ _ h1
  simp at this ⊢; omega
 .simp
def nR (x : UInt8) : aDt := .int .u8 x.toNat
abbrev Bs (w : aDs) (v : aDt) (l : List UInt8) : Prop := Sl w v (l.map nR)
theorem Hy (b o n : Nat) : (⟨b, o, none⟩ : Addr).add n = ⟨b, o + n, none⟩ := by
 unfold Addr.add; split
 .rename_i h; subst h; rfl
 .rfl
section
variable {P : Program} {w : aDs} {t e : TypeId} {k : IntKind} {a : Int}
theorem XB {inf : TypeInfo} {sz : Nat} (hz : inf.size = sz) (hu : P.underlying t = some (.slice e)) (hi : P.info? e = some inf) (b o n c : Nat) (h0 : 0 <= a) (h1 : a < n) :
 (jS t (.slice (some ⟨b, o, none⟩) n c) (.int k a)).run P w = .ok (.value (.pointer (some ⟨b, o + a.toNat * sz, none⟩))) w := by
 rw [ahR hu hi _ n c h0 h1, Hy, hz]
theorem TE {inf : TypeInfo} (hz : inf.size = 1) (hu : P.underlying t = some (.slice e)) (hi : P.info? e = some inf) (b o n c : Nat) (h0 : 0 <= a) (h1 : a < n) :
 (jS t (.slice (some ⟨b, o, none⟩) n c) (.int k a)).run P w = .ok (.value (.pointer (some ⟨b, o + a.toNat, none⟩))) w := by
 rw [ahR hu hi _ n c h0 h1, Hy, hz, aB9]
theorem anM {inf : TypeInfo} {sz len : Nat} (hz : inf.size = sz) (hu : P.underlying t = some (.array len e)) (hi : P.info? e = some inf) (b o : Nat) (h0 : 0 <= a) (h1 : a < (len : Int)) :
 (jS t (.pointer (some ⟨b, o, none⟩)) (.int k a)).run P w = .ok (.value (.pointer (some ⟨b, o + a.toNat * sz, none⟩))) w := by
 rw [ahD hu hi _ h0 h1, Hy, hz]
theorem JS {inf : TypeInfo} {len : Nat} (hz : inf.size = 1) (hu : P.underlying t = some (.array len e)) (hi : P.info? e = some inf) (b o : Nat) (h0 : 0 <= a) (h1 : a < (len : Int)) :
 (jS t (.pointer (some ⟨b, o, none⟩)) (.int k a)).run P w = .ok (.value (.pointer (some ⟨b, o + a.toNat, none⟩))) w := by
 rw [ahD hu hi _ h0 h1, Hy, hz, aB9]
end
section
variable {P : Program} {w : aDs} {s d e : TypeId}
theorem aqR (hs : P.underlying s = some (.slice e)) (hd : P.underlying d = some .string) (he : P.underlying e = some (.int .u8)) {l : List UInt8} {v : aDt} (h : Bs w v l) :
 (nI s d v).run P w = .ok (.value (.string ⟨l.toArray⟩)) w := by
 obtain ⟨a, n, c, rfl, hn, hc, h⟩ := h
 simp only [aBf] at hn
 unfold nI
 rw [tP]
 have key : (convert s d (.slice a n c)).run P w = .ok (.string ⟨l.toArray⟩) w := by
  cases a with
  | none =>
    have hl : l = [] := by
     cases l with
     | nil => rfl
     | cons x l => obtain ⟨b, off, e, _⟩ := h (by rw [hn]; simp); cases e
    subst hl
    rw [run_convert_bytes_string w s d e none n c hs he hd]
    rfl
  | some x =>
    subst hn
    refine run_convert_bytes_back w s d e x c l hs he hd fun j hj => ?_
    obtain ⟨b, off, hx, h2⟩ := h (by omega)
    have hx := aBO hx
    subst hx
    rw [Hy, h2 j hj]
    simp [nR, hj]
 rw [key] <;> rfl
end
theorem F6 (l : List UInt8) : ∀ x ∈ l.map nR, one x = true := by
 intro x hx
 obtain ⟨c, _, rfl⟩ := aB3.1 hx
 rfl
theorem amU {b o m l sz : Nat} (h : l ≠ m) : uI ⟨b, o, none⟩ m l sz = ⟨b, o + l * sz, none⟩ := by
 unfold uI; rw [if_neg (fun e => h e.symm), Hy]
theorem Va {b o m l : Nat} (h : l ≠ m) : uI ⟨b, o, none⟩ m l 1 = ⟨b, o + l, none⟩ := by rw [amU h, aB9]
theorem Sl.drop {w : aDs} {b o n c : Nat} {l : List aDt} (h : Sl w (.slice (some ⟨b, o, none⟩) n c) l) {k : Nat} (hk : k <= n) :
 Sl w (.slice (mN (some ⟨b, o, none⟩) c k 1) (n - k) (c - k)) (l.drop k) := by
 obtain ⟨x, m, c', e, hm, hc, hh⟩ := h
 cases e
 refine ⟨_, _, _, rfl, by rw [aBr]; omega, by omega, fun h0 => ?_⟩
 obtain ⟨b', o', e, h2⟩ := hh (by omega)
 cases e
 have hne : ¬ c = k := by omega
 refine ⟨b, o + k, by unfold mN; rw [if_neg hne, aBJ, Hy, aB9], fun i hi => ?_⟩
 rw [aCA, h2 (k + i) (by omega), aCR]
theorem Sl.take {w : aDs} {b o n c : Nat} {l : List aDt} (h : Sl w (.slice (some ⟨b, o, none⟩) n c) l) {k : Nat} (hk : k <= n) :
 Sl w (.slice (mN (some ⟨b, o, none⟩) c 0 1) (k - 0) (c - 0)) (l.take k) := by
 obtain ⟨x, m, c', e, hm, hc, hh⟩ := h
 cases e
 refine ⟨_, _, _, rfl, by rw [aBo]; omega, by omega, fun h0 => ?_⟩
 obtain ⟨b', o', e, h2⟩ := hh (by omega)
 cases e
 have hne : ¬ c = 0 := by omega
 refine ⟨b, o, by unfold mN; rw [if_neg hne, aBJ, Hy] <;> rfl, fun i hi => ?_⟩
 rw [h2 i (by omega), aBW (by omega)]
theorem amV {b o n c k : Nat} {M : Nat -> Prop} (h : ¬ Mz (.slice (some ⟨b, o, none⟩) n c) M) (hn : 0 < n) (m : Nat) : ¬ Mz (.slice (mN (some ⟨b, o, none⟩) c k 1) m (c - k)) M := by
 have hb : ¬ M b := by
  obtain ⟨n', rfl⟩ : ∃ n', n = n' + 1 := ⟨n - 1, by omega⟩
  exact h
 unfold Mz mN
 split
 .rename_i x q _ e
  simp only [Value.slice.injEq] at e
  obtain ⟨e, _, _⟩ := e
  split at e
  .cases e; exact hb
  .rw [aBJ, Hy] at e; cases e; exact hb
 .simp
theorem lN.bs {w : aDs} {b off c : Nat} {cs : List aDt} {l : List UInt8} (h : lN w b cs) (hc : l.length <= c) (hl : ∀ i (hi : i < l.length), cs[off + i]? = some (nR l[i])) : Bs w (.slice (some ⟨b, off, none⟩) l.length c) l :=
 ⟨_, _, _, rfl, by simp, hc, fun _ => ⟨b, off, rfl, fun i hi => by rw [h.cell, hl i hi]; simp [hi]⟩⟩
section
variable {P : Program} {w : aDs} {t e : TypeId} {k : IntKind} {a : Int}
theorem awT {len : Nat} {d : TypeDesc} {i : TypeInfo} (hu : P.underlying t = some (.array len e)) (hd : P.underlying e = some d) (ha : aaY d = false) (hi : P.info? e = some i) (h1 : i.size = 1)
 (cs : Array aDt) (h0 : 0 <= a) (hl : a < (len : Int)) {v : aDt} (hv : cs[a.toNat]? = some v) : (Ry t (.agg cs) (.int k a)).run P w = .ok (.value v) w := by
 unfold Ry
 rw [tP]
 simp only [Instr.index, asIntOf, pure_bind, underlying, hu, Sem.run_bind, run_program, Result.andThen_ok, Sem.run_pure, h0, hl, and_self, if_true, lH hi, h1, aB9, part, Hh hd, ha, aA8, if_false, hv]
def aqH (P : Program) (t : TypeId) (cs : Array aDt) (k : IntKind) (a : Int) (w : aDs) : Result Next := (Ry t (.agg cs) (.int k a)).run P w
theorem adJ {len : Nat} {d : TypeDesc} {i : TypeInfo} (hu : P.underlying t = some (.array len e)) (hd : P.underlying e = some d) (ha : aaY d = false) (hi : P.info? e = some i) (h1 : i.size = 1)
 (cs : Array aDt) (h0 : 0 <= a) (hl : a < (len : Int)) : (Ry t (.agg cs) (.int k a)).run P w = ldC cs[a.toNat]? w (aqH P t cs k a w) := by
 cases hv : cs[a.toNat]? with
 | none => rfl
 | some v => exact awT hu hd ha hi h1 cs h0 hl hv
theorem Xq {b off : Nat} {l : List aDt} (h : ∀ i, i < l.length -> w.cell? ⟨b, off + i, none⟩ = l[i]?) (n : Nat) (hn : n <= l.length) :
 (loadCells ⟨b, off, none⟩ n).run P w = .ok (l.take n).toArray w := by
 have key : ∀ (m i : Nat) (acc : Array aDt), i + m <= l.length -> (loadCellsFrom ⟨b, off, none⟩ i m acc).run P w = .ok (acc ++ ((l.drop i).take m).toArray) w := by
  intro m
  induction m with
  | zero => intro i acc _; simp [loadCellsFrom]
  | succ m ih =>
    intro i acc hm
    have hc := h i (by omega)
    rw [aBh (by omega)] at hc
    simp only [loadCellsFrom, Sem.run_bind, run_load, Hy, hc, Result.andThen_ok]
    rw [ih (i + 1) _ (by omega), aCj (by omega : i < l.length), aBA]
    simp
 unfold loadCells
 rw [key n 0 #[] (by omega)]
 simp
theorem abG {sz n : Nat} {v : aDt} {l : List aDt} (h1 : sz = 1) (h : Sl w v l) (hn : n <= l.length) : (Builtin.firstCells sz n v).run P w = .ok (l.take n).toArray w := by
 subst h1
 obtain ⟨x, m, c, rfl, hm, hc, hh⟩ := h
 cases x with
 | none =>
   have : l = [] := by
    cases l with
    | nil => rfl
    | cons y l => obtain ⟨b, off, e, _⟩ := hh (by rw [hm]; simp); cases e
   subst this
   simp [Builtin.firstCells]
 | some x =>
   simp only [Builtin.firstCells, aB9]
   by_cases h0 : 0 < m
   .obtain ⟨b, off, e, h2⟩ := hh h0
    have e := aBO e; subst e
    exact Xq (fun i hi => h2 i (by omega)) n hn
   .have h00 : n = 0 := by omega
    subst h00
    simp [loadCells, loadCellsFrom]
theorem axC {v : aDt} {l : List aDt} (h : Sl w v l) : (Builtin.lenOf v).run P w = .ok l.length w := by
 obtain ⟨x, m, c, rfl, hm, hc, hh⟩ := h
 simp [Builtin.lenOf, hm]
theorem arX {ty t2 : TypeId} {i : TypeInfo} (hu : P.underlying t = some (.slice e)) (hi : P.info? e = some i) (h1 : i.size = 1) {b off dl c : Nat} {cs : List aDt} (ho : lN w b cs) (hl : off + dl <= cs.length)
 {v : aDt} {l : List aDt} (h : Sl w v l) (hv : ∀ x ∈ l, one x = true) {K : aDt -> aDs -> Prop}
 (hk : ∀ w', lN w' b (kV cs off (l.take (min l.length dl))) -> jN w w' (fun x => x = b) -> w'.heap.size = w.heap.size -> K (.int .i64 (min l.length dl : Nat)) w') :
 gI P (oF .copy #[t, t2] ty [.slice (some ⟨b, off, none⟩) dl c, v]) w K := by
 have hlen : (l.take (min l.length dl)).length = min l.length dl := by rw [aBo]; omega
 obtain ⟨w', s1, s2, s3, s4, _⟩ := F1 (P := P) (M := fun x => x = b) rfl (l.take (min l.length dl)) w off 0 cs ho (by rw [hlen]; omega) (fun x hx => hv x (aCe hx))
 have : (oF .copy #[t, t2] ty [.slice (some ⟨b, off, none⟩) dl c, v]).run P w = .ok (.value (.int .i64 (min l.length dl : Nat))) w' := by
  unfold oF builtin
  simp only [Builtin.copy_, aB7, aA6, aA7]
  simp only [underlying, Sem.run_bind, run_program, Result.andThen_ok, hu, Sem.run_pure, axC h, lH hi, h1]
  have := abG (P := P) (n := min l.length dl) rfl h (Nat.min_le_left _ _)
  rw [show (Nat.min l.length dl) = min l.length dl from rfl, this]
  simp only [Result.andThen_ok, s1, goInt]
 unfold gI
 rw [this]
 exact hk w' (by simpa using s2) s3 s4
theorem ZV {i : TypeInfo} {z : aDt} (hu : P.underlying t = some (.slice e)) (hi : P.info? e = some i) (h1 : i.size = 1) (hz : i.zero = some z) (hz1 : one z = true) {n : Int} (h0 : 0 <= n) (hn : i.bytes * n <= 2 ^ 48) (hn2 : n <= 9223372036854775807)
 {K : aDt -> aDs -> Prop}
 (hk : ∀ w', lN w' w.heap.size (List.replicate n.toNat z) -> jN w w' mC -> w'.heap.size = w.heap.size + 1 -> K (.slice (some ⟨w.heap.size, 0, none⟩) n.toNat n.toNat) w') :
 gI P (sS t (.int k n) (.int k n)) w K := by
 have hw : IntKind.i64.wrap n = n := gX (by omega) hn2
 have hcells : z.cells = #[z] := acS hz1
 have harr : (Array.range n.toNat).map (fun j => (#[z] : Array aDt)[j % (#[z] : Array aDt).size]!) = (List.replicate n.toNat z).toArray := by
  apply Array.ext
  .simp
  .intro j h1 h2; simp [Nat.mod_one]
 have hz' : (zeroValue e).run P w = .ok z w := by simp [zeroValue, typeInfo, hi, hz]
 have : (sS t (.int k n) (.int k n)).run P w = .ok (.value (.slice (some ⟨w.heap.size, 0, none⟩) n.toNat n.toNat)) (w.alloc (.cells (List.replicate n.toNat z).toArray e)) := by
  unfold sS
  rw [tP]
  have t1 : (decide (n < 0) || decide ((i.bytes : Int) * n > 2 ^ 48) || decide (n < 0) || decide (n > n)) = false := by
   simp only [aC1, decide_eq_false_iff_not]; omega
  by_cases hn0 : n.toNat = 0
  .simp only [Instr.makeSlice, underlying, typeInfo, asInt, asIntOf, pure_bind, Sem.run_bind, run_program, Result.andThen_ok, hu, hi, Sem.run_pure, hw, t1, aA8, if_false, run_askRoom, lH hi, h1, aB9, hn0, if_true, newRow, run_newObj]
   have : (Array.range 0).map (fun x => (#[] : Array aDt)[x % (#[] : Array aDt).size]!) = (List.replicate 0 z).toArray := by simp
   rw [this]
   rfl
  .simp only [Instr.makeSlice, underlying, typeInfo, asInt, asIntOf, pure_bind, Sem.run_bind, run_program, Result.andThen_ok, hu, hi, Sem.run_pure, hw, t1, aA8, if_false, run_askRoom, lH hi, h1, aB9, hn0, hz', hcells, newRow, run_newObj, harr]
   rfl
 unfold gI
 rw [this]
 exact hk _ (lN.alloc _ _ _) (jN.alloc _ _ _) (by simp)
end
def Cl (w : aDs) (sz : Nat) (v : aDt) (n : Nat) (l : List aDt) : Prop :=
 ∃ a c, v = .slice a n c /\ l.length = n * sz /\ (0 < n -> ∃ b off, a = some ⟨b, off, none⟩ /\ ∀ i, i < l.length -> w.cell? ⟨b, off + i, none⟩ = l[i]?)
def yW (w : aDs) (base sz : Nat) (v : aDt) (n : Nat) (l : List aDt) : Prop :=
 l.length = n * sz /\ ((v = .slice none 0 0 /\ n = 0) ∨
   ∃ b c rest, v = .slice (some ⟨b, 0, none⟩) n c /\ base <= b /\ lN w b (l ++ rest) /\ (l ++ rest).length = c * sz /\ n <= c)
def GM (w : aDs) (S : Nat -> Prop) (sz : Nat) (v : aDt) (n : Nat) (l : List aDt) : Prop :=
 l.length = n * sz /\ ((v = .slice none 0 0 /\ n = 0) ∨
   ∃ b c rest, v = .slice (some ⟨b, 0, none⟩) n c /\ S b /\ lN w b (l ++ rest) /\ (l ++ rest).length = c * sz /\ n <= c)
theorem Sl.cl {w : aDs} {v : aDt} {l : List aDt} (h : Sl w v l) : Cl w 1 v l.length l := by
 obtain ⟨a, n, c, rfl, rfl, hc, h⟩ := h
 exact ⟨a, c, rfl, by omega, fun h0 => h h0⟩
theorem lN.cl {w : aDs} {b sz n c off : Nat} {cs l : List aDt} (h : lN w b cs) (hl : l.length = n * sz) (hcs : ∀ i, i < l.length -> cs[off + i]? = l[i]?) : Cl w sz (.slice (some ⟨b, off, none⟩) n c) n l :=
 ⟨_, _, rfl, hl, fun _ => ⟨b, off, rfl, fun i hi => by rw [h.cell, hcs i hi]⟩⟩
theorem yW.nil (w : aDs) (base sz : Nat) : yW w base sz (.slice none 0 0) 0 [] := ⟨by simp, .inl ⟨rfl, rfl⟩⟩
theorem yW.ext {w w' : aDs} {base sz n : Nat} {v : aDt} {l : List aDt} {M : Nat -> Prop} (h : yW w base sz v n l) (hx : jN w w' M) (hM : ∀ b, base <= b -> ¬ M b) : yW w' base sz v n l := by
 refine ⟨h.1, ?_⟩
 rcases h.2 with h2 | ⟨b, c, rest, h1, h2, h3, h4, h5⟩
 .exact .inl h2
 .exact .inr ⟨b, c, rest, h1, h2, h3.ext hx (hM b h2), h4, h5⟩
theorem yW.cl {w : aDs} {base sz n : Nat} {v : aDt} {l : List aDt} (h : yW w base sz v n l) : Cl w sz v n l := by
 rcases h.2 with ⟨rfl, rfl⟩ | ⟨b, c, rest, rfl, h2, h3, h4, h5⟩
 .exact ⟨_, _, rfl, h.1, fun h => by omega⟩
 .refine ⟨_, _, rfl, h.1, fun _ => ⟨b, 0, rfl, fun i hi => ?_⟩⟩
  rw [h3.cell, aBc, aBv hi]
theorem yW.sl {w : aDs} {base n : Nat} {v : aDt} {l : List aDt} (h : yW w base 1 v n l) : Sl w v l := by
 have hl := h.1
 rcases h.2 with ⟨rfl, rfl⟩ | ⟨b, c, rest, rfl, h2, h3, h4, h5⟩
 .exact ⟨_, _, _, rfl, by omega, by omega, fun h => by omega⟩
 .refine ⟨_, _, _, rfl, by omega, h5, fun _ => ⟨b, 0, rfl, fun i hi => ?_⟩⟩
  rw [h3.cell, aBc, aBv (by omega)]
section
variable {P : Program} {w : aDs} {t e : TypeId}
theorem Wf {b off : Nat} {l : List aDt} (h : ∀ i, i < l.length -> w.cell? ⟨b, off + i, none⟩ = l[i]?) : (loadCells ⟨b, off, none⟩ l.length).run P w = .ok l.toArray w := by
 have := Xq (P := P) h l.length (aBk _)
 rwa [aCM] at this
theorem DW {sz n : Nat} {v : aDt} {l : List aDt} (h : Cl w sz v n l) : (Builtin.firstCells sz n v).run P w = .ok l.toArray w := by
 obtain ⟨x, c, rfl, hl, hh⟩ := h
 cases x with
 | none =>
   have : n = 0 := by
    rcases aCl n with h | h
    .exact h
    .obtain ⟨b, off, e, _⟩ := hh h; cases e
   subst this
   have : l = [] := aBT.1 (by omega)
   subst this
   simp [Builtin.firstCells]
 | some x =>
   simp only [Builtin.firstCells]
   rw [<- hl]
   by_cases h0 : 0 < n
   .obtain ⟨b, off, e, h2⟩ := hh h0
    have e := aBO e; subst e
    exact Wf h2
   .have : n = 0 := by omega
    subst this
    have : l = [] := aBT.1 (by omega)
    subst this
    simp [loadCells, loadCellsFrom]
theorem xQ (zs : Array aDt) (n : Nat) : (Builtin.zeroCells zs n).size = n * zs.size := by simp [Builtin.zeroCells]
theorem UR (vs : List aDt) : ∀ (aA5 rest : List aDt), vs.length <= rest.length -> kV (aA5 ++ rest) aA5.length vs = aA5 ++ vs ++ rest.drop vs.length := by
 induction vs with
 | nil => intro aA5 rest _; simp [kV]
 | cons v vs ih =>
   intro aA5 rest h
   cases rest with
   | nil => simp at h
   | cons r rest =>
     have := ih (aA5 ++ [v]) rest (by simpa using h)
     simp only [kV, aBg, aBu, List.length_nil, aBy, aCm, aBZ] at this ⊢
     rw [List.drop_succ_cons, <- this, aBR _ _ (aBk _), aCr, aBj, aBc]
theorem agO {S : Nat -> Prop} {sz n m : Nat} {i : TypeInfo} {z : aDt} {ty t2 e2 : TypeId} (hu : P.underlying t = some (.slice e)) (hu2 : P.underlying t2 = some (.slice e2)) (hi : P.info? e = some i) (hsz : i.size = sz) (hz : i.zero = some z) (hzs : z.cells.size = sz)
 {v x : aDt} {l news : List aDt} (h : GM w S sz v n l) (hx : Cl w sz x m news) (hone : ∀ y ∈ news, one y = true) (hb : ∀ b, w.heap.size <= b -> S b)
 (hn : n + m <= 9223372036854775807) (hbytes : (n + m) * i.bytes <= 140737488355328) (_hpos : i.bytes ≠ 0)
 {K : aDt -> aDs -> Prop} (hk : ∀ v' w', GM w' S sz v' (n + m) (l ++ news) -> jN w w' S -> Cl w' sz v n l -> K v' w') : gI P (oF .append #[t, t2] ty [v, x]) w K := by
 have hlx : (Builtin.lenOf x).run P w = .ok m w := by
  obtain ⟨a, c, rfl, _⟩ := hx; simp [Builtin.lenOf]
 have hnl := hx.choose_spec.choose_spec.2.1
 have hfx := DW (P := P) hx
 have hmax : IntKind.i64.max = 9223372036854775807 := by decide
 have hnot : ¬ (((n + m : Nat) : Int) > IntKind.i64.max /\ (False ∨ i.bytes = 0)) := by rw [hmax]; omega
 have hz' : ∀ w, (zeroValue e).run P w = .ok z w := fun w => by simp [zeroValue, typeInfo, hi, hz]
 have hlen := h.1
 rcases h.2 with ⟨rfl, rfl⟩ | ⟨b, c, rest, rfl, h2, h3, h4, h5⟩
 .
  have hl0 : l = [] := aBT.1 (by omega)
  subst hl0
  by_cases hm : m = 0
  .subst hm
   have hn0 : news = [] := aBT.1 (by omega)
   subst hn0
   have : (oF .append #[t, t2] ty [.slice none 0 0, x]).run P w = .ok (.value (.slice none 0 0)) w := by
    unfold oF builtin
    simp only [Builtin.append_, aB7, aA6, aA7]
    simp only [underlying, Sem.run_bind, run_program, Result.andThen_ok, hu, hu2, Sem.run_pure, lH hi, hsz, aA8, if_false, hlx, aBk, aB1, if_true, aBd, hfx]
   unfold gI
   rw [this]
   exact hk _ _ ⟨by simp, .inl ⟨rfl, by omega⟩⟩ (jN.refl _ _) ⟨none, 0, rfl, hlen, fun h => absurd h (by omega)⟩
  .have hfit := growslice_fits (need := 0 + m) (old := 0) (bytes := i.bytes) (by omega) (by omega)
   have hfit' : ¬ (Builtin.nextslicecap (0 + m) 0 * i.bytes > 2 ^ 48) := by omega
   have hle : ¬ (0 + m <= 0) := by omega
   have hq : (Question.appendCap (0 + m) 0 e).forced = false := rfl
   obtain ⟨r, hr⟩ : ∃ r, (Question.appendCap (0 + m) 0 e).cut (w.tape w.drawn (.appendCap (0 + m) 0 e)) = m + r :=
    ⟨(w.tape w.drawn (.appendCap (0 + m) 0 e)) % (2 ^ 63 - (0 + m)), by simp only [Question.cut]; omega⟩
   have : (oF .append #[t, t2] ty [.slice none 0 0, x]).run P w = .ok (.value (.slice (some ⟨w.heap.size, 0, none⟩) (0 + m) (m + r))) ((dr w).alloc (.cells (news ++ (Builtin.zeroCells z.cells (m + r - (0 + m))).toList).toArray e)) := by
    have hfx' := DW (P := P) (w := dr w) hx
    unfold oF builtin
    simp only [Builtin.append_, aB7, aA6, aA7]
    simp only [underlying, typeInfo, Sem.run_bind, run_program, Result.andThen_ok, hu, hu2, hi, Sem.run_pure, lH hi, hsz, aA8, if_false, hlx, hle, aBd, if_true, hnot, hfit', run_choose, hq, hr, run_askRoom]
    change ((Sem.run P _ (dr w)).andThen _).andThen _ = _
    simp only [Sem.run_bind, hfx', run_firstCells_none, Result.andThen_ok, hz', Sem.run_pure, newRow, run_newObj]
    have e1 : (#[] ++ news.toArray ++ Builtin.zeroCells z.cells (m + r - (0 + m)) : Array aDt) = (news ++ (Builtin.zeroCells z.cells (m + r - (0 + m))).toList).toArray := by
     apply Array.ext'; simp
    rw [e1]
    rfl
   unfold gI
   rw [this]
   refine hk _ _ ⟨by simp only [aBZ]; rw [hnl, aBc], .inr ⟨w.heap.size, m + r, (Builtin.zeroCells z.cells (m + r - (0 + m))).toList, by rw [aBc], hb _ (aBk _), lN.alloc (dr w) _ _, ?_, by omega⟩⟩ ((jN.dr w _).seq (jN.alloc _ _ _)) ⟨none, 0, rfl, hlen, fun h => absurd h (by omega)⟩
   simp only [aBZ, aBg, aCC, xQ, hzs, hnl]
   rw [show m + r - (0 + m) = r from by omega, aB0]
 .by_cases hc : n + m <= c
  .
   have hroom : news.length <= rest.length := by
    rw [aBg, hlen] at h4
    have : (n + m) * sz <= c * sz := aBL _ hc
    rw [aB0] at this; omega
   obtain ⟨w', s1, s2, s3, s4, _⟩ := F1 (P := P) (M := S) h2 news w (n * sz) 0 (l ++ rest) h3 (by rw [aBg, hlen]; omega) hone
   have : (oF .append #[t, t2] ty [.slice (some ⟨b, 0, none⟩) n c, x]).run P w = .ok (.value (.slice (some ⟨b, 0, none⟩) (n + m) c)) w' := by
    unfold oF builtin
    simp only [Builtin.append_, aB7, aA6, aA7]
    simp only [underlying, Sem.run_bind, run_program, Result.andThen_ok, hu, hu2, Sem.run_pure, lH hi, hsz, aA8, if_false, hlx, hc, if_true, aBd, hfx, Hy, aBc, s1]
   unfold gI
   rw [this]
   rw [aB1, <- hlen, UR _ _ _ hroom] at s2
   refine hk _ _ ⟨by rw [aBg, hlen, hnl, aB0], .inr ⟨b, c, rest.drop news.length, rfl, h2, s2, ?_, hc⟩⟩ s3 ⟨_, _, rfl, hlen, fun _ => ⟨b, 0, rfl, fun i hi => by
    rw [s2.cell, aBc, aBy, aBv hi]⟩⟩
   rw [<- h4]; simp; omega
  .
   have hfit := growslice_fits (need := n + m) (old := c) (bytes := i.bytes) (by omega) hbytes
   have hfit' : ¬ (Builtin.nextslicecap (n + m) c * i.bytes > 2 ^ 48) := by omega
   have hq : (Question.appendCap (n + m) c e).forced = false := rfl
   obtain ⟨r, hr⟩ : ∃ r, (Question.appendCap (n + m) c e).cut (w.tape w.drawn (.appendCap (n + m) c e)) = n + m + r :=
    ⟨(w.tape w.drawn (.appendCap (n + m) c e)) % (2 ^ 63 - (n + m)), by simp only [Question.cut]⟩
   have hold : Cl (dr w) sz (.slice (some ⟨b, 0, none⟩) n c) n l := ⟨_, _, rfl, hlen, fun _ => ⟨b, 0, rfl, fun i hi => by
    show w.cell? _ = _
    rw [h3.cell, aBc, aBv hi]⟩⟩
   have : (oF .append #[t, t2] ty [.slice (some ⟨b, 0, none⟩) n c, x]).run P w = .ok (.value (.slice (some ⟨w.heap.size, 0, none⟩) (n + m) (n + m + r))) ((dr w).alloc (.cells (l ++ news ++ (Builtin.zeroCells z.cells (n + m + r - (n + m))).toList).toArray e)) := by
    have hfx' := DW (P := P) (w := dr w) hx
    have hfo := DW (P := P) hold
    unfold oF builtin
    simp only [Builtin.append_, aB7, aA6, aA7]
    simp only [underlying, typeInfo, Sem.run_bind, run_program, Result.andThen_ok, hu, hu2, hi, Sem.run_pure, lH hi, hsz, aA8, if_false, hlx, hc, aBd, if_true, hnot, hfit', run_choose, hq, hr, run_askRoom]
    change ((Sem.run P _ (dr w)).andThen _).andThen _ = _
    simp only [Sem.run_bind, hfx', hfo, Result.andThen_ok, hz', Sem.run_pure, newRow, run_newObj]
    have e1 : (l.toArray ++ news.toArray ++ Builtin.zeroCells z.cells (n + m + r - (n + m)) : Array aDt) = (l ++ news ++ (Builtin.zeroCells z.cells (n + m + r - (n + m))).toList).toArray := by
     apply Array.ext'; simp
    rw [e1]
    rfl
   unfold gI
   rw [this]
   refine hk _ _ ⟨by rw [aBg, hlen, hnl, aB0], .inr ⟨w.heap.size, n + m + r, _, rfl, hb _ (aBk _), lN.alloc (dr w) _ _, ?_, by omega⟩⟩ ((jN.dr w _).seq (jN.alloc _ _ _)) ⟨_, _, rfl, hlen, fun _ => ⟨b, 0, rfl, fun i hi => by
    have o9 := h3.ext ((jN.dr w mC).seq (jN.alloc (dr w) (.cells (l ++ news ++ (Builtin.zeroCells z.cells (n + m + r - (n + m))).toList).toArray e) mC)) (fun h => h)
    rw [o9.cell, aBc, aBv hi]⟩⟩
   simp only [aBg, aCC, xQ, hzs, hnl, hlen]
   rw [show n + m + r - (n + m) = r from by omega, aB0, aB0]
theorem Cb {S : Nat -> Prop} {sz n m : Nat} {i : TypeInfo} {z : aDt} {ty t2 e2 : TypeId} (hu : P.underlying t = some (.slice e)) (hu2 : P.underlying t2 = some (.slice e2)) (hi : P.info? e = some i) (hsz : i.size = sz) (hz : i.zero = some z) (hzs : z.cells.size = sz)
 {v x : aDt} {l news : List aDt} (h : GM w S sz v n l) (hx : Cl w sz x m news) (hone : ∀ y ∈ news, one y = true) (hb : ∀ b, w.heap.size <= b -> S b)
 (hn : n + m <= 9223372036854775807) (hbytes : (n + m) * i.bytes <= 140737488355328) (_hpos : i.bytes ≠ 0)
 {K : aDt -> aDs -> Prop} (hk : ∀ v' w', GM w' S sz v' (n + m) (l ++ news) -> jN w w' S -> K v' w') : gI P (oF .append #[t, t2] ty [v, x]) w K :=
 agO hu hu2 hi hsz hz hzs h hx hone hb hn hbytes _hpos fun v' w' a b _ => hk v' w' a b
theorem ZH {base sz n m : Nat} {i : TypeInfo} {z : aDt} {ty t2 e2 : TypeId} (hu : P.underlying t = some (.slice e)) (hu2 : P.underlying t2 = some (.slice e2)) (hi : P.info? e = some i) (hsz : i.size = sz) (hz : i.zero = some z) (hzs : z.cells.size = sz)
 {v x : aDt} {l news : List aDt} (h : yW w base sz v n l) (hx : Cl w sz x m news) (hone : ∀ y ∈ news, one y = true) (hb : base <= w.heap.size)
 (hn : n + m <= 9223372036854775807) (hbytes : (n + m) * i.bytes <= 140737488355328) (_hpos : i.bytes ≠ 0)
 {K : aDt -> aDs -> Prop} (hk : ∀ v' w', yW w' base sz v' (n + m) (l ++ news) -> jN w w' (fun y => base <= y) -> K v' w') : gI P (oF .append #[t, t2] ty [v, x]) w K :=
 Cb (S := fun y => base <= y) hu hu2 hi hsz hz hzs h hx hone (fun _ h => aB4 hb h) hn hbytes _hpos hk
end
section
variable {P : Program} {w : aDs} {t e : TypeId}
theorem U9 {i : TypeInfo} {z : aDt} {n : Nat} {ps : List (Nat × aDt)} {cells : Array aDt} (hu : P.underlying t = some (.slice e)) (hi : P.info? e = some i) (hz : i.zero = some z)
 (h1 : ¬ n * i.size > 2 ^ 24) (h0 : ¬ n * i.size = 0) (hf : Instr.fill (fun j => some (j * i.size, i.size)) ((Array.range (n * i.size)).map (z.cells[· % z.cells.size]!)) ps = some cells)
 {K : aDt -> aDs -> Prop} (hk : ∀ w', lN w' w.heap.size cells.toList -> jN w w' mC -> w'.heap.size = w.heap.size + 1 -> K (.slice (some ⟨w.heap.size, 0, none⟩) n n) w') :
 gI P (lT t n ps) w K := by
 have hz' : (zeroValue e).run P w = .ok z w := by simp [zeroValue, typeInfo, hi, hz]
 have : (lT t n ps).run P w = .ok (.value (.slice (some ⟨w.heap.size, 0, none⟩) n n)) (w.alloc (.cells cells.toList.toArray e)) := by
  unfold lT; rw [tP]
  simp only [Instr.buildSlice, underlying, pure_bind, Sem.run_bind, run_program, Result.andThen_ok, hu, Sem.run_pure, lH hi, h1, h0, if_false, hz', hf, newRow, run_newObj]
  rfl
 unfold gI
 rw [this]
 exact hk _ (lN.alloc _ _ _) (jN.alloc _ _ _) (by simp)
theorem lN.mark {b : Nat} {cs : List aDt} (h : lN w b cs) : lN (w.freeze ⟨b, cs.length, none⟩ 1) b cs := by
 have hb := h.lt
 obtain ⟨T, lo, hi, h, k⟩ := h
 by_cases hlh : (lo == hi) = true
 .refine ⟨T, cs.length, cs.length + 1, ?_, .inl (aBk _)⟩
  show (w.heap.modify b _)[b]? = _
  rw [aCv, if_pos rfl, h]
  have hlh : lo = hi := by simpa using hlh
  simp [hlh]
 .refine ⟨T, min lo cs.length, max hi (cs.length + 1), ?_, .inl ?_⟩
  .show (w.heap.modify b _)[b]? = _
   rw [aCv, if_pos rfl, h]
   have hlh : ¬ lo = hi := by simpa using hlh
   simp [hlh]
  .rcases k with k | k
   .omega
   .exfalso; apply hlh; rw [k]; simp
theorem jN.mark (w : aDs) (a : Addr) : jN w (w.freeze a 1) (fun y => y = a.block) :=
 ⟨rfl, rfl, rfl, by show _ <= (w.heap.modify _ _).size; simp, fun b hb hn => by
  show (w.heap.modify a.block _)[b]? = _
  rw [aCv]
  rw [if_neg (fun h => hn h.symm)]⟩
end
section
variable {P : Program} {w : aDs} {t e : TypeId}
theorem ZU {d : TypeDesc} (he : P.underlying e = some d) (hd : aaY d = false) {cs : Array aDt} {k : Nat} {v : aDt} (h : cs[k]? = some v) : (part e cs k).run P w = .ok v w := by
 unfold part
 simp only [Sem.run_bind, Hh he, hd, Result.andThen_ok, aA8, if_false, h, Sem.run_pure]
theorem alD {a b : UInt8} : (((a.toNat : Int)) == (b.toNat : Int)) = decide (a = b) := by
 rw [Bool.eq_iff_iff]
 simp only [<- UInt8.toNat_inj, beq_iff_eq, decide_eq_true_eq]
 omega
theorem aiS {i : TypeInfo} (m n : Nat) (hu : P.underlying t = some (.array n e)) (he : P.underlying e = some (.int .u8)) (hi : P.info? e = some i) (h1 : i.size = 1) (l l' : List UInt8) (hl : l.length = n) (hl' : l'.length = n) :
 (Op.equalIn (m + 2) t (.agg (l.map nR).toArray) (.agg (l'.map nR).toArray)).run P w = .ok (decide (l = l')) w := by
 unfold Op.equalIn
 simp only [underlying, Sem.run_bind, run_program, Result.andThen_ok, hu, Sem.run_pure, lH hi, Std.Legacy.Range.forIn_eq_forIn_range', Std.Legacy.Range.size, aCN, Nat.add_one_sub_one, Nat.div_one, h1, aB9]
 have key : ∀ (c k : Nat), k + c = n -> l.take k = l'.take k →
     ∃ r, (forIn (List.range' k c) (none, ()) fun (i : Nat) (_ : Option Bool × Unit) => (do
           let a <- part e (List.map nR l).toArray i
           let b <- part e (List.map nR l').toArray i
           let c <- Op.equalIn (m + 1) e a b
           if (!c) = true then pure (ForInStep.done (some false, ())) else pure (ForInStep.yield (none, ())) : Sem (ForInStep (Option Bool × Unit)))).run P w = .ok (r, ()) w /\ r.getD true = decide (l = l') := by
  intro c
  induction c with
  | zero =>
    intro k hk ht
    refine ⟨none, by simp, ?_⟩
    have : l = l' := by
     rw [aBp (by omega), aBp (by omega)] at ht; exact ht
    simp [this]
  | succ c ih =>
    intro k hk ht
    have g : ∀ (q : List UInt8) (h : k < q.length), (q.map nR).toArray[k]? = some (nR q[k]) := fun q h => by simp [h]
    have hv : (Op.equalIn (m + 1) e (nR (l[k]'(by omega))) (nR (l'[k]'(by omega)))).run P w = .ok (decide (l[k]'(by omega) = l'[k]'(by omega))) w := by
     unfold Op.equalIn nR
     simp only [underlying, Sem.run_bind, run_program, Result.andThen_ok, he, Sem.run_pure, if_true, alD]
    rw [List.range'_succ]
    simp only [List.forIn_cons, Sem.run_bind, ZU he rfl (g l (by omega)), ZU he rfl (g l' (by omega)), Result.andThen_ok, hv]
    by_cases hx : l[k]'(by omega) = l'[k]'(by omega)
    .simp only [hx, decide_true, aBe, aA8, if_false, Sem.run_pure, Result.andThen_ok]
     refine ih (k + 1) (by omega) ?_
     rw [aCK, aCK, ht, aBh (by omega), aBh (by omega), hx]
    .simp only [hx, decide_false, aBd, if_true, Sem.run_pure, Result.andThen_ok]
     refine ⟨some false, rfl, ?_⟩
     have : l ≠ l' := fun h => hx (by subst h; rfl)
     simp [this]
 obtain ⟨r, h1, h2⟩ := key n 0 (by omega) (by simp)
 rw [h1, <- h2]
 cases r <;> simp
structure acP {κ : Type} [DecidableEq κ] (P : Program) (t : TypeId) (enc : κ -> aDt) : Prop where
 eq : ∀ a b (w : aDs), (Op.equal t (enc a) (enc b)).run P w = .ok (decide (a = b)) w
 now : ∃ d, P.underlying t = some d /\ ∀ a b, Instr.sameNow d (enc a) (enc b) = none ∨ Instr.sameNow d (enc a) (enc b) = some (decide (a = b))
 chk : ∀ (e : Bool) a (w : aDs), (Instr.checkKey e 10000 t (enc a)).run P w = .ok () w
 stay : ∀ a, Instr.sameBits 10000 (enc a) (enc a) = true
def assoc {κ : Type} [DecidableEq κ] (k : κ) : List (κ × aDt) -> Option aDt
 | [] => none
 | p :: r => if k = p.1 then some p.2 else assoc k r
def upd {κ : Type} [DecidableEq κ] (k : κ) (v : aDt) : List (κ × aDt) -> List (κ × aDt)
 | [] => [(k, v)]
 | p :: r => if k = p.1 then (k, v) :: r else p :: upd k v r
theorem anH {κ : Type} [DecidableEq κ] (k j : κ) (v : aDt) : ∀ (l : List (κ × aDt)), assoc j (upd k v l) = if j = k then some v else assoc j l := by
 intro l
 induction l with
 | nil => simp only [upd, assoc]
 | cons p r ih =>
   simp only [upd]
   by_cases h : k = p.1
   .rw [if_pos h]
    simp only [assoc]
    by_cases hj : j = k
    .rw [if_pos hj, if_pos hj]
    .rw [if_neg hj, if_neg hj, if_neg (fun e => hj (e.trans h.symm))]
   .rw [if_neg h]
    simp only [assoc, ih]
    by_cases hj : j = p.1
    .rw [if_pos hj, if_pos hj, if_neg (fun e => h (e.symm.trans hj))]
    .rw [if_neg hj, if_neg hj]
theorem alK {κ : Type} [DecidableEq κ] {k : κ} {v : aDt} {l : List (κ × aDt)} {p : κ × aDt} (h : p ∈ upd k v l) : p = (k, v) ∨ p ∈ l := by
 induction l with
 | nil => simp [upd] at h; exact .inl h
 | cons q r ih =>
   simp only [upd] at h
   split at h
   .rcases aB2.1 h with h | h
    .exact .inl h
    .exact .inr (aBq _ h)
   .rcases aB2.1 h with h | h
    .exact .inr (h ▸ aBI)
    .rcases ih h with h | h
     .exact .inl h
     .exact .inr (aBq _ h)
theorem amW {κ : Type} [DecidableEq κ] {k : κ} {v : aDt} {l : List (κ × aDt)} (h : assoc k l = some v) : (k, v) ∈ l := by
 induction l with
 | nil => simp [assoc] at h
 | cons q r ih =>
   simp only [assoc] at h
   split at h
   .rename_i e; cases h; rw [e]; exact aBI
   .exact aBq _ (ih h)
def Grown (es : Array MapEntry) (clock : Nat) : Prop := (es.toList.map (·.born)).Pairwise (· < ·) /\ ∀ e ∈ es.toList, e.born < clock
def Mp {κ : Type} (w : aDs) (m : Nat) (enc : κ -> aDt) (l : List (κ × aDt)) : Prop :=
 ∃ es clock, w.heap[m]? = some (.map es clock) /\ es.toList.map (fun e => (e.key, e.val)) = l.map (fun p => (enc p.1, p.2)) /\ Grown es clock /\ (l.map (·.1)).Nodup
theorem ajS {es : Array MapEntry} {c : Nat} (h : Grown es c) (k v : aDt) : Grown (es.push ⟨k, v, c⟩) (c + 1) := by
 obtain ⟨h1, h2⟩ := h
 refine ⟨?_, ?_⟩
 .rw [Array.toList_push, aBK, List.pairwise_append]
  refine ⟨h1, by simp, fun a ha b hb => ?_⟩
  simp at hb
  subst hb
  obtain ⟨e, he, rfl⟩ := aB3.1 ha
  exact h2 e he
 .intro e he
  rw [Array.toList_push] at he
  rcases aCc.1 he with he | he
  .have := h2 e he; omega
  .simp at he; subst he; exact Nat.lt_succ_self c
theorem aiL {es es' : Array MapEntry} {c : Nat} (h : Grown es c) (he : es'.toList.map (·.born) = es.toList.map (·.born)) : Grown es' c := by
 refine ⟨by rw [he]; exact h.1, fun e h' => ?_⟩
 have : e.born ∈ es'.toList.map (·.born) := aB3.2 ⟨e, h', rfl⟩
 rw [he] at this
 obtain ⟨x, hx, hxe⟩ := aB3.1 this
 rw [<- hxe]; exact h.2 x hx
theorem ahC {κ : Type} [DecidableEq κ] {k : κ} {v : aDt} : ∀ {l : List (κ × aDt)}, (l.map (·.1)).Nodup -> ((upd k v l).map (·.1)).Nodup
 | [], _ => by simp [upd]
 | p :: r, h => by
   simp only [upd]
   have h' := h
   rw [aBH, List.nodup_cons] at h
   split
   .rename_i e
    rw [aBH, List.nodup_cons]
    exact ⟨fun hm => h.1 (e ▸ hm), h.2⟩
   .rename_i e
    rw [aBH, List.nodup_cons]
    refine ⟨fun hm => ?_, ahC h.2⟩
    obtain ⟨q, hq, hqe⟩ := aB3.1 hm
    rcases alK hq with h1 | h1
    .rw [h1] at hqe; exact e hqe
    .exact h.1 (aB3.2 ⟨q, h1, hqe⟩)
theorem Mp.lt {κ : Type} {m : Nat} {enc : κ -> aDt} {l : List (κ × aDt)} (h : Mp w m enc l) : m < w.heap.size := by
 obtain ⟨es, c, h, _⟩ := h
 rcases aBt m w.heap.size with h' | h'
 .exact h'
 .rw [aCa h'] at h; cases h
theorem Mp.ext {κ : Type} {w w' : aDs} {m : Nat} {enc : κ -> aDt} {l : List (κ × aDt)} {M : Nat -> Prop} (h : Mp w m enc l) (hx : jN w w' M) (hM : ¬ M m) : Mp w' m enc l := by
 have := h.lt
 obtain ⟨es, c, h, k⟩ := h
 exact ⟨es, c, by rw [hx.keep m this hM]; exact h, k⟩
theorem Mp.dr {κ : Type} {w : aDs} {m : Nat} {enc : κ -> aDt} {l : List (κ × aDt)} (h : Mp w m enc l) : Mp (dr w) m enc l := h
def WX {κ : Type} [DecidableEq κ] (k : κ) : List (κ × aDt) -> Nat -> Option (Nat × aDt)
 | [], _ => none
 | p :: r, i => if k = p.1 then some (i, p.2) else WX k r (i + 1)
theorem aiG {κ : Type} [DecidableEq κ] (k : κ) : ∀ (l : List (κ × aDt)) (i : Nat), (WX k l i).map (·.2) = assoc k l := by
 intro l
 induction l with
 | nil => intro i; rfl
 | cons p r ih => intro i; simp only [WX, assoc]; split <;> simp [ih]
variable {κ : Type} [DecidableEq κ] {enc : κ -> aDt}
theorem aaU {r : Nat} {es : Array MapEntry} {c : Nat} (hb : w.heap[r]? = some (.map es c)) : (getObj r).run P w = .ok (.map es c) w := by simp [getObj, Sem.run, hb]
theorem Zy {r : Nat} {es : Array MapEntry} {c : Nat} (o : Obj) (hb : w.heap[r]? = some (.map es c)) : (setObj r o).run P w = .ok () { w with heap := w.heap.setIfInBounds r o } := by simp [setObj, Sem.run, hb]
theorem Z9 (K : acP P t enc) (k : κ) : ∀ (es : List MapEntry) (l : List (κ × aDt)) (i : Nat), es.map (fun e => (e.key, e.val)) = l.map (fun p => (enc p.1, p.2)) →
 (Instr.findAsking t (enc k) es i).run P w = .ok (WX k l i) w := by
 intro es
 induction es with
 | nil => intro l i h; cases l with
   | nil => rfl
   | cons p r => simp at h
 | cons x es ih =>
   intro l i h
   cases l with
   | nil => simp at h
   | cons p r =>
     simp only [aBH, List.cons.injEq, Prod.mk.injEq] at h
     obtain ⟨⟨h1, h2⟩, h3⟩ := h
     simp only [Instr.findAsking, Sem.run_bind, h1, K.eq, Result.andThen_ok, WX]
     by_cases hx : k = p.1
     .simp [hx, h2]
     .simp only [hx, decide_false, aA8, if_false]
      exact ih r (i + 1) h3
theorem aeH {d : TypeDesc} (hn : ∀ a b, Instr.sameNow d (enc a) (enc b) = none ∨ Instr.sameNow d (enc a) (enc b) = some (decide (a = b))) (k : κ) : ∀ (es : List MapEntry) (l : List (κ × aDt)) (i : Nat) (r : Option (Nat × aDt)), es.map (fun e => (e.key, e.val)) = l.map (fun p => (enc p.1, p.2)) →
 Instr.findNow d (enc k) es i = some r -> r = WX k l i := by
 intro es
 induction es with
 | nil => intro l i r h hr; cases l with
   | nil => simp [Instr.findNow] at hr; exact hr.symm
   | cons p r => simp at h
 | cons x es ih =>
   intro l i r h hr
   cases l with
   | nil => simp at h
   | cons p q =>
     simp only [aBH, List.cons.injEq, Prod.mk.injEq] at h
     obtain ⟨⟨h1, h2⟩, h3⟩ := h
     simp only [Instr.findNow, h1] at hr
     rcases hn k p.1 with hh | hh
     .rw [hh] at hr; cases hr
     .rw [hh] at hr
      simp only [WX]
      by_cases hx : k = p.1
      .simp only [hx, decide_true, Option.some.injEq] at hr
       rw [if_pos hx, <- hr, h2]
      .simp only [hx, decide_false] at hr
       rw [if_neg hx]
       exact ih q (i + 1) r h3 hr
theorem YZ (K : acP P t enc) (k : κ) (es : List MapEntry) (l : List (κ × aDt)) (h : es.map (fun e => (e.key, e.val)) = l.map (fun p => (enc p.1, p.2))) :
 (Instr.findKey t (enc k) es).run P w = .ok (WX k l 0) w := by
 obtain ⟨d, hd, hn⟩ := K.now
 unfold Instr.findKey
 simp only [underlying, Sem.run_bind, run_program, Result.andThen_ok, hd, Sem.run_pure]
 cases hr : Instr.findNow d (enc k) es 0 with
 | none => exact Z9 K k es l 0 h
 | some r => rw [aeH hn k es l 0 r h hr] <;> rfl
theorem awU {kt et : TypeId} {i : TypeInfo} {z : aDt} (hu : P.underlying t = some (.map kt et)) (hi : P.info? et = some i) (hz : i.zero = some z) (K : acP P kt enc) {m : Nat} {l : List (κ × aDt)} (hm : Mp w m enc l) (k : κ) :
 (aeT t (.map (some m)) (enc k) true).run P w = .ok (.value (.tuple #[(assoc k l).getD z, .bool (assoc k l).isSome])) w := by
 obtain ⟨es, c, hb, he, _⟩ := hm
 unfold aeT; rw [tP]
 unfold Instr.lookup
 simp only [underlying, Sem.run_bind, run_program, Result.andThen_ok, hu, Sem.run_pure, aaU hb, K.chk, YZ K k es.toList l he, <- aiG k l 0]
 cases WX k l 0 with
 | none => simp [zeroValue, typeInfo, hi, hz]
 | some p => simp
omit [DecidableEq κ] in
theorem aoU {K : aDt -> aDs -> Prop} (enc : κ -> aDt) (hk : ∀ w', Mp w' w.heap.size enc ([] : List (κ × aDt)) -> jN w w' mC -> w'.heap.size = w.heap.size + 1 -> K (.map (some w.heap.size)) w') : gI P (XK t none) w K := by
 have : (XK t none).run P w = .ok (.value (.map (some w.heap.size))) (w.alloc (.map #[] 0)) := by
  unfold XK; rw [tP]
  simp [Instr.makeMap]
 unfold gI
 rw [this]
 exact hk _ ⟨#[], 0, by show (w.heap.push _)[w.heap.size]? = _; simp, rfl, ⟨by simp, by simp⟩, by simp⟩ (jN.alloc _ _ _) (by simp)
theorem amK {kt et : TypeId} (hu : P.underlying t = some (.map kt et)) (Ke : acP P kt enc) {m : Nat} {l : List (κ × aDt)} (hm : Mp w m enc l) (k : κ) (v : aDt) {K : aDt -> aDs -> Prop}
 (hk : ∀ w', Mp w' m enc (upd k v l) -> jN w w' (fun y => y = m) -> w'.heap.size = w.heap.size -> K undef w') : gI P (ZB t (.map (some m)) (enc k) v) w K := by
 have hlt := hm.lt
 obtain ⟨es, c, hb, he, hgr, hnd⟩ := hm
 have hext : ∀ o, jN w { w with heap := w.heap.setIfInBounds m o } (fun y => y = m) := fun o =>
  ⟨rfl, rfl, rfl, by simp, fun b hb hn => by
   show (w.heap.setIfInBounds m o)[b]? = _
   rw [aBP (fun e => hn e.symm)]⟩
 have key : ∃ es' c', (ZB t (.map (some m)) (enc k) v).run P w = .ok .skip { w with heap := w.heap.setIfInBounds m (.map es' c') } /\ es'.toList.map (fun e => (e.key, e.val)) = ((upd k v l).map fun p => (enc p.1, p.2)) /\ Grown es' c' := by
  have gen : ∀ (es : List MapEntry) (l : List (κ × aDt)) (i : Nat), es.map (fun e => (e.key, e.val)) = l.map (fun p => (enc p.1, p.2)) →
      (WX k l i = none -> ∀ b, (es ++ [(⟨enc k, v, b⟩ : MapEntry)]).map (fun e => (e.key, e.val)) = (upd k v l).map fun p => (enc p.1, p.2)) /\
      (∀ j x, WX k l i = some (j, x) -> i <= j /\ ∃ old, es[j - i]? = some old /\ old.key = enc k /\ (es.set (j - i) ({ old with key := enc k, val := v } : MapEntry)).map (fun e => (e.key, e.val)) = (upd k v l).map fun p => (enc p.1, p.2)) := by
   intro es
   induction es with
   | nil =>
     intro l i h
     cases l with
     | nil => exact ⟨fun _ b => rfl, fun j x h => by simp [WX] at h⟩
     | cons p r => simp at h
   | cons x es ih =>
     intro l i h
     cases l with
     | nil => simp at h
     | cons p r =>
       simp only [aBH, List.cons.injEq, Prod.mk.injEq] at h
       obtain ⟨⟨h1, h2⟩, h3⟩ := h
       simp only [WX, upd]
       by_cases hx : k = p.1
       .rw [if_pos hx, if_pos hx]
        refine ⟨fun h => by (cases h), fun j y h => ?_⟩
        cases h
        refine ⟨aBk _, x, by simp, by rw [h1, hx], ?_⟩
        simp [h3]
       .rw [if_neg hx, if_neg hx]
        obtain ⟨a, b⟩ := ih r (i + 1) h3
        refine ⟨fun h q => ?_, fun j y h => ?_⟩
        .simp only [aCm, aBH, a h q, h1, h2]
        .obtain ⟨hj, old, o1, o2, o3⟩ := b j y h
         refine ⟨by omega, old, ?_, o2, ?_⟩
         .rw [show j - i = (j - (i + 1)) + 1 from by omega, aA7]; exact o1
         .rw [show j - i = (j - (i + 1)) + 1 from by omega, aBl]
          simp only [aBH, o3, h1, h2]
  obtain ⟨g1, g2⟩ := gen es.toList l 0 he
  unfold ZB
  rw [azE]
  unfold Instr.mapUpdate
  simp only [underlying, Sem.run_bind, run_program, Result.andThen_ok, hu, Sem.run_pure, aaU hb, Ke.chk, YZ Ke k es.toList l he]
  cases hi : WX k l 0 with
  | none =>
    refine ⟨es.push ⟨enc k, v, c⟩, c + 1, ?_, by simpa using g1 hi c, ajS hgr _ _⟩
    simp only [Zy _ hb, Result.andThen_ok]
  | some q =>
    obtain ⟨j, x⟩ := q
    obtain ⟨_, old, o1, o2, o3⟩ := g2 j x hi
    rw [aCN] at o1 o3
    have o1' : es[j]? = some old := by simpa using o1
    refine ⟨es.modify j fun e => { e with key := enc k, val := v }, c, ?_, ?_, aiL hgr ?_⟩
    .simp only [o1', aBJ, aCD, o2, Instr.keyThatStays, Ke.stay, if_true, Sem.run_pure, Result.andThen_ok, Zy _ hb, Sem.run_bind]
    .have hj : j < es.toList.length := by
      rcases aBt j es.toList.length with h | h
      .exact h
      .rw [aBs h] at o1; cases o1
     rw [<- o3]
     congr 1
     apply aCq
     intro y
     rw [aCX, aCv, List.getElem?_set]
     by_cases hy : j = y
     .subst hy
      have hj' : j < es.size := by simpa using hj
      have e1 : es[j] = old := by rw [aBx hj'] at o1'; exact aBO o1'
      simp [hj', e1]
     .simp [hy]
    .apply aCq
     intro y
     rw [aBz, aBz, aCX, aCX, aCv]
     split
     .rename_i h; subst h
      cases es[j]? <;> rfl
     .rfl
 obtain ⟨es', c', h1, h2, h3⟩ := key
 unfold gI
 rw [h1]
 refine hk _ ⟨es', c', by show (w.heap.setIfInBounds m _)[m]? = _; rw [aBG hlt], h2, h3, ahC hnd⟩ (hext _) (by simp)
theorem agJ {κ : Type} [DecidableEq κ] {i : TypeInfo} {n : Nat} (hu : P.underlying t = some (.array n e)) (he : P.underlying e = some (.int .u8)) (hi : P.info? e = some i) (h1 : i.size = 1)
 (bs : κ -> List UInt8) (hb : ∀ k, (bs k).length = n) (hinj : ∀ a b, bs a = bs b -> a = b) : acP P t (fun k => .agg ((bs k).map nR).toArray) := by
 refine ⟨fun a b w => ?_, ⟨_, hu, fun a b => .inl rfl⟩, fun c a w => ?_, fun a => ?_⟩
 .unfold Op.equal Op.maxDepth
  rw [aiS 9998 n hu he hi h1 _ _ (hb a) (hb b)]
  congr 1
  rw [decide_eq_decide]
  exact ⟨hinj a b, fun h => h ▸ rfl⟩
 .unfold Instr.checkKey
  simp only [underlying, Sem.run_bind, run_program, Result.andThen_ok, hu, Sem.run_pure, Std.Legacy.Range.forIn_eq_forIn_range', Std.Legacy.Range.size, aCN, Nat.add_one_sub_one, Nat.div_one]
  have key : ∀ (q k : Nat), k + q = n -> (forIn (List.range' k q) () fun (i : Nat) (_ : Unit) => (do
      let z <- sizeOf e
      let x <- part e (List.map nR (bs a)).toArray (i * z)
      Instr.checkKey c 9999 e x
      pure (ForInStep.yield ()) : Sem (ForInStep Unit))).run P w = .ok () w := by
   intro q
   induction q with
   | zero => intro k _; simp
   | succ q ih =>
     intro k hk
     have g : ((bs a).map nR).toArray[k]? = some (nR ((bs a)[k]'(by rw [hb]; omega))) := by
      have : k < (bs a).length := by rw [hb]; omega
      simp [this]
     have hc : ∀ x : UInt8, (Instr.checkKey c 9999 e (nR x)).run P w = .ok () w := fun x => by
      unfold Instr.checkKey nR
      simp only [underlying, Sem.run_bind, run_program, Result.andThen_ok, he, Sem.run_pure]
     rw [List.range'_succ]
     simp only [List.forIn_cons, Sem.run_bind, lH hi, h1, aB9, ZU he rfl g, Result.andThen_ok, hc, Sem.run_pure]
     exact ih (k + 1) (by omega)
  have := key n 0 (by omega)
  rw [this] <;> rfl
 .unfold Instr.sameBits
  simp only [beq_self_eq_true, Bool.true_and, aBN]
  intro x hx
  have : ∀ l : List aDt, ∀ x ∈ l.zip l, x.1 = x.2 := by
   intro l
   induction l with
   | nil => simp
   | cons a r ih => intro x hx; simp at hx; rcases hx with rfl | hx; · rfl
                    .exact ih x hx
  have e1 := this _ x hx
  have hm := (List.of_mem_zip hx).1
  obtain ⟨x1, x2⟩ := x
  simp only at e1 hm ⊢
  subst e1
  simp at hm
  obtain ⟨u, _, rfl⟩ := hm
  simp [nR, Instr.sameBits]
abbrev Rj (n : Nat) := { l : List UInt8 // l.length = n }
def WS {n : Nat} (k : Rj n) : aDt := .agg (k.1.map nR).toArray
theorem acL {i : TypeInfo} {n : Nat} (hu : P.underlying t = some (.array n e)) (he : P.underlying e = some (.int .u8)) (hi : P.info? e = some i) (h1 : i.size = 1) : acP P t (WS (n := n)) :=
 agJ (κ := Rj n) hu he hi h1 (fun k => k.1) (fun k => k.2) (fun _ _ h => Subtype.ext h)
theorem ayZ {n : Nat} (hu : P.underlying t = some (.array n e)) (x : Option Addr) (m c : Nat) (h : n <= m) : (auK t (.slice x m c)).run P w = .ok (.value (.pointer x)) w := by
 unfold auK; rw [tP]
 simp only [Instr.arrayAt, underlying, Sem.run_bind, run_program, Result.andThen_ok, hu, Sem.run_pure, if_neg (Nat.not_lt.2 h)]
theorem auX {d : TypeDesc} {i : TypeInfo} (hu : P.underlying t = some d) (hd : aaY d = true) (hi : P.info? t = some i) {b off : Nat} {l : List aDt} (hl : i.size = l.length) (h : ∀ j, j < l.length -> w.cell? ⟨b, off + j, none⟩ = l[j]?) :
 (jF t (.pointer (some ⟨b, off, none⟩))).run P w = .ok (.value (.agg l.toArray)) w := by
 unfold jF
 rw [tP]
 simp only [Instr.loadAt, Instr.sureAddr, loadVar, pure_bind, Sem.run_bind, Hh hu, hd, Result.andThen_ok, if_true, lH hi, hl, Wf h, Sem.run_pure]
end
theorem oC {w : aDs} {b : Nat} {cs : List aDt} (h : lN w b cs) : lN (dr w) b cs := h.ext (jN.dr w mC) (fun h => h)
theorem Sl.dr {w : aDs} {v : aDt} {l : List aDt} (h : Sl w v l) : Sl (dr w) v l := h
theorem Sl.open {w : aDs} {v : aDt} {l : List UInt8} (h : Bs w v l) (h0 : 0 < l.length) : ∃ b off c, v = .slice (some ⟨b, off, none⟩) l.length c /\ l.length <= c /\ ∀ i, (h : i < l.length) -> w.cell? ⟨b, off + i, none⟩ = some (nR l[i]) := by
 obtain ⟨a, n, c, rfl, hn, hc, h⟩ := h
 simp only [aBf] at hn
 subst hn
 obtain ⟨b, off, rfl, hh⟩ := h h0
 exact ⟨b, off, c, rfl, hc, fun i hi => by rw [hh i hi]; simp [hi]⟩
theorem Sl.len {w : aDs} {v : aDt} {l : List aDt} (h : Sl w v l) : ∃ a c, v = .slice a l.length c /\ l.length <= c := by
 obtain ⟨a, n, c, rfl, rfl, hc, _⟩ := h
 exact ⟨a, c, rfl, hc⟩
theorem kL (v : aDt) : ¬ Mz v mC := by unfold Mz mC; split <;> simp
theorem Qu {b o m l : Nat} (h : l ≠ m) : mN (some ⟨b, o, none⟩) m l 1 = some ⟨b, o + l, none⟩ := by
 unfold mN; rw [if_neg (fun e => h e.symm)]; simp [Hy]
theorem DO {v : aDt} {M N : Nat -> Prop} (h : Mz v M) (hm : ∀ b, M b -> N b) : Mz v N := by
 unfold Mz at *
 split at h
 .exact hm _ h
 .exact h
theorem yW.len {w : aDs} {b sz n : Nat} {v : aDt} {l : List aDt} (h : yW w b sz v n l) : ∃ a c, v = .slice a n c := by
 rcases h.2 with ⟨rfl, rfl⟩ | ⟨x, c, r, rfl, _⟩
 .exact ⟨_, _, rfl⟩
 .exact ⟨_, _, rfl⟩
theorem yW.lower {w : aDs} {a b sz n : Nat} {v : aDt} {l : List aDt} (h : yW w b sz v n l) (hab : a <= b) : yW w a sz v n l := by
 refine ⟨h.1, ?_⟩
 rcases h.2 with h | ⟨x, c, r, h1, h2, h3⟩
 .exact .inl h
 .exact .inr ⟨x, c, r, h1, by omega, h3⟩
theorem Sl.nil (w : aDs) : Sl w (.slice none 0 0) [] := ⟨none, 0, 0, rfl, rfl, aBk _, fun h => absurd h (by simp)⟩
theorem Sl.take' {w : aDs} {a : Option Addr} {n c : Nat} {l : List aDt} (h : Sl w (.slice a n c) l) {k : Nat} (hk : k <= n) : Sl w (.slice (mN a c 0 1) (k - 0) (c - 0)) (l.take k) := by
 have h' := h
 obtain ⟨a', n', c', e, hn, hc, hh⟩ := h'
 cases e
 by_cases h0 : k = 0
 .subst h0
  exact ⟨_, _, _, rfl, by simp, by omega, fun h => by simp at h⟩
 .obtain ⟨b, off, rfl, _⟩ := hh (by omega)
  exact h.take hk
theorem Sl.drop' {w : aDs} {a : Option Addr} {n c : Nat} {l : List aDt} (h : Sl w (.slice a n c) l) {k : Nat} (hk : k <= n) : Sl w (.slice (mN a c k 1) (n - k) (c - k)) (l.drop k) := by
 have h' := h
 obtain ⟨a', n', c', e, hn, hc, hh⟩ := h'
 cases e
 by_cases h0 : n = 0
 .exact ⟨_, _, _, rfl, by rw [aBr]; omega, by omega, fun h => by omega⟩
 .obtain ⟨b, off, rfl, _⟩ := hh (by omega)
  exact h.drop hk
theorem Sl.openV {w : aDs} {v : aDt} {l : List aDt} (h : Sl w v l) (h0 : 0 < l.length) : ∃ b off c, v = .slice (some ⟨b, off, none⟩) l.length c /\ l.length <= c /\ ∀ i, (h : i < l.length) -> w.cell? ⟨b, off + i, none⟩ = some l[i] := by
 obtain ⟨a, n, c, rfl, hn, hc, h⟩ := h
 subst hn
 obtain ⟨b, off, rfl, hh⟩ := h h0
 exact ⟨b, off, c, rfl, hc, fun i hi => by rw [hh i hi]; simp [hi]⟩
def OF (n : Nat) (l : List aDt) : List aDt := (List.replicate n l).flatten
theorem WU (n : Nat) (l : List aDt) : (OF n l).length = n * l.length := by
 unfold OF; rw [List.length_flatten]; simp
theorem anD : ∀ (n : Nat) (l : List aDt) (j : Nat) (_ : j < n * l.length) (h0 : 0 < l.length), (OF n l)[j]? = some (l[j % l.length]'(Nat.mod_lt _ h0)) := by
 intro n
 induction n with
 | zero => intro l j h; simp at h
 | succ n ih =>
   intro l j h h0
   unfold OF
   rw [aCi, aDf]
   by_cases hj : j < l.length
   .rw [aBv hj, aBh hj]
    simp only [aBC hj]
   .rw [aBD (by omega)]
    have := ih l (j - l.length) (by rw [Nat.succ_mul] at h; omega) h0
    unfold OF at this
    rw [this]
    simp only [<- Nat.mod_eq_sub_mod (show j ≥ l.length by omega)]
theorem anO {P : Program} {w : aDs} {t e : TypeId} {k : IntKind} {i : TypeInfo} {z : aDt} {sz : Nat} (hu : P.underlying t = some (.slice e)) (hi : P.info? e = some i) (h1 : i.size = sz) (hsz : 0 < sz) (hz : i.zero = some z) (hz1 : z.cells.size = sz) {n : Int} (h0 : 0 <= n) (hn : i.bytes * n <= 2 ^ 48) (hn2 : n <= 9223372036854775807)
 {K : aDt -> aDs -> Prop}
 (hk : ∀ w', lN w' w.heap.size (OF n.toNat z.cells.toList) -> jN w w' mC -> w'.heap.size = w.heap.size + 1 -> K (.slice (some ⟨w.heap.size, 0, none⟩) n.toNat n.toNat) w') :
 gI P (sS t (.int k n) (.int k n)) w K := by
 have hw : IntKind.i64.wrap n = n := gX (by omega) hn2
 have hl : z.cells.toList.length = sz := by simpa using hz1
 have harr : (Array.range (n.toNat * sz)).map (fun j => z.cells[j % z.cells.size]!) = (OF n.toNat z.cells.toList).toArray := by
  apply Array.ext
  .simp [WU, hz1]
  .intro j h1 h2
   have hj : j < n.toNat * sz := by simpa using h1
   have := anD n.toNat z.cells.toList j (by rw [hl]; exact hj) (by rw [hl]; exact hsz)
   have hm : j % z.cells.size < z.cells.size := Nat.mod_lt _ (by omega)
   simp only [Array.getElem_map, Array.getElem_range, List.getElem_toArray]
   rw [getElem!_pos z.cells _ hm]
   rw [aBh (by rw [WU, hl]; exact hj)] at this
   have := aBO this
   rw [this]
   simp
 have hz' : (zeroValue e).run P w = .ok z w := by simp [zeroValue, typeInfo, hi, hz]
 have : (sS t (.int k n) (.int k n)).run P w = .ok (.value (.slice (some ⟨w.heap.size, 0, none⟩) n.toNat n.toNat)) (w.alloc (.cells (OF n.toNat z.cells.toList).toArray e)) := by
  unfold sS
  rw [tP]
  have t1 : (decide (n < 0) || decide ((i.bytes : Int) * n > 2 ^ 48) || decide (n < 0) || decide (n > n)) = false := by
   simp only [aC1, decide_eq_false_iff_not]; omega
  by_cases hn0 : n.toNat * sz = 0
  .simp only [Instr.makeSlice, underlying, typeInfo, asInt, asIntOf, pure_bind, Sem.run_bind, run_program, Result.andThen_ok, hu, hi, Sem.run_pure, hw, t1, aA8, if_false, run_askRoom, lH hi, h1, hn0, if_true, newRow, run_newObj]
   have hn : n.toNat = 0 := by rcases Nat.mul_eq_zero.1 hn0 with h | h <;> omega
   have : (Array.range 0).map (fun x => (#[] : Array aDt)[x % (#[] : Array aDt).size]!) = (OF n.toNat z.cells.toList).toArray := by rw [hn]; simp [OF]
   rw [this]
   rfl
  .simp only [Instr.makeSlice, underlying, typeInfo, asInt, asIntOf, pure_bind, Sem.run_bind, run_program, Result.andThen_ok, hu, hi, Sem.run_pure, hw, t1, aA8, if_false, run_askRoom, lH hi, h1, hn0, hz', newRow, run_newObj, harr]
   rfl
 unfold gI
 rw [this]
 exact hk _ (lN.alloc _ _ _) (jN.alloc _ _ _) (by simp)
theorem aiU {P : Program} {w : aDs} {t e : TypeId} {k k' : IntKind} {hi mx : Int} {i : TypeInfo} (hu : P.underlying t = some (.slice e)) (hi' : P.info? e = some i) (x : Option Addr) (n c : Nat) (h0 : 0 <= hi) (h1 : hi <= mx) (h2 : mx <= c) :
 (lP t (.slice x n c) none (some (.int k hi)) (some (.int k' mx))).run P w = .ok (.value (.slice (mN x mx.toNat 0 i.size) (hi.toNat - 0) (mx.toNat - 0))) w := by
 have h3 : (0 : Int) <= mx := by omega
 have h4 : hi <= (mx.toNat : Int) := by omega
 simp only [lP, tP, Instr.sliceAt, underlying, hu, Sem.run_bind, run_program, Result.andThen_ok, Sem.run_pure, Instr.slice, Instr.sliceBounds, pure_bind, AQ h3 h2, AQ h0 h4, lH hi', mN]
section
variable {P : Program} {w : aDs} {t e : TypeId}
variable {κ : Type} [DecidableEq κ] {enc : κ -> aDt}
def Itr {κ : Type} (w : aDs) (it m : Nat) (enc : κ -> aDt) (rest : List (κ × aDt)) : Prop :=
 ∃ es clock seen, w.heap[m]? = some (.map es clock) /\ w.heap[it]? = some (.mapIter (some m) clock seen clock) /\ Grown es clock /\
   (es.toList.filter fun e => !seen.contains e.born).map (fun e => (e.key, e.val)) = rest.map fun p => (enc p.1, p.2)
theorem Itr.ext {κ : Type} {w w' : aDs} {it m : Nat} {enc : κ -> aDt} {rest : List (κ × aDt)} {M : Nat -> Prop} (h : Itr w it m enc rest) (hx : jN w w' M) (hm : ¬ M m) (hi : ¬ M it) : Itr w' it m enc rest := by
 obtain ⟨es, c, seen, h1, h2, h3⟩ := h
 have lt : ∀ {b : Nat} {o : Obj}, w.heap[b]? = some o -> b < w.heap.size := fun {b o} h => by
  rcases aBt b w.heap.size with h' | h'
  .exact h'
  .rw [aCa h'] at h; cases h
 exact ⟨es, c, seen, by rw [hx.keep m (lt h1) hm]; exact h1, by rw [hx.keep it (lt h2) hi]; exact h2, h3⟩
def Cur {κ : Type} (w : aDs) (it m : Nat) (enc : κ -> aDt) (p : κ × aDt) : Prop :=
 ∃ es clock c0 seen e, w.heap[m]? = some (.map es clock) /\ w.heap[it]? = some (.mapIter (some m) c0 seen clock) /\ seen.back? = some e.born /\ es.find? (fun x => x.born == e.born) = some e /\ e.key = enc p.1 /\ e.val = p.2
omit [DecidableEq κ] in
theorem Cur.ext {w w' : aDs} {it m : Nat} {p : κ × aDt} {M : Nat -> Prop} (h : Cur w it m enc p) (hx : jN w w' M) (hm : ¬ M m) (hi : ¬ M it) : Cur w' it m enc p := by
 obtain ⟨es, c, c0, seen, e, h1, h2, h3⟩ := h
 have lt : ∀ {b : Nat} {o : Obj}, w.heap[b]? = some o -> b < w.heap.size := fun {b o} h => by
  rcases aBt b w.heap.size with h' | h'
  .exact h'
  .rw [aCa h'] at h; cases h
 exact ⟨es, c, c0, seen, e, by rw [hx.keep m (lt h1) hm]; exact h1, by rw [hx.keep it (lt h2) hi]; exact h2, h3⟩
omit [DecidableEq κ] in
end
end Go.En

/- Parts of the proof of ChunkSame: merged and given short names by a program of ours. -/
import Derived.Laws.IdiomStrings
import Derived.Test.YtoecppploooloaaGreatDoorZuA
set_option linter.unusedVariables false
set_option linter.unusedSimpArgs false
open Array renaming getElem?_eq_none → aC1, getElem?_setIfInBounds_ne → aCG, getElem?_eq_getElem → aCo, getElem?_setIfInBounds_self_of_lt → aCy, getElem?_toList → aDP, getElem?_modify → aDl, length_toList → aDt
open Bool renaming not_false → aB3, not_true → aB5, false_eq_true → aBZ, or_eq_false_iff → aDT
open List renaming length_map → aB6, length_append → aB7, getElem?_eq_getElem → aB8, getElem?_cons_zero → aBX, getElem?_cons_succ → aBY, mem_append → aC3, mem_of_mem_take → aC5, replicate_succ → aC9, mem_cons_self → aCA, map_append → aCC, all_eq_true → aCE, set_append_right → aCI, length_eq_zero_iff → aCK, getElem?_take_of_lt → aCN, mem_cons → aCS, nil_append → aCT, mem_map → aCU, getElem?_toArray → aCY, set_cons_zero → aCa, set_cons_succ → aCc, length_take → aCf, take_of_length_le → aCg, mem_cons_of_mem → aCh, length_drop → aCi, getElem?_eq_none → aCj, length_cons → aCl, getElem?_append_left → aCm, getElem?_map → aCp, take_succ_cons → aCq, append_assoc → aCr, getElem?_append_right → aCu, map_cons → aCz, take_add_one → aDB, take_length → aDD, getElem?_drop → aDI, drop_eq_getElem_cons → aDa, cons_append → aDd, ext_getElem? → aDg, flatten_cons → aEa
open Nat renaming zero_add → aB4, mul_one → aC0, add_mul → aCQ, add_zero → aCR, le_trans → aCV, le_refl → aCb, lt_or_ge → aCk, mod_eq_of_lt → aCt, mul_le_mul_right → aCv, mod_lt → aD6, sub_zero → aDE, eq_zero_or_pos → aDc, sub_self → aDh, add_assoc → aDr, lt_of_lt_of_le → aDv
open Option renaming map_some → aCB, getD_some → aDu
open Option.some renaming inj → aCF
namespace Go.Proofs.YtoecppploooloaaGreatDoor
open Go Go.En
set_option maxRecDepth 20000
attribute [local irreducible] Go.En.jO
variable (Q : Exit -> Env -> aEl -> Prop) (g : Env) (w : aEl)
def oT : FA := ⟨CA, fun i => .leaf ([], []) []⟩
def BF : List ResultVar := [.tmp 2, .tmp 3]
noncomputable def oA : Code := jX Tryz.f46
def tB (R : K1) (rH : aEm) (w : aEl) : Prop :=
 gI pg (jG 22 rH) w fun j2 w =>
 R (.tuple #[j2, (aEn 0)]) w
theorem Ta (R : K1) (hr : HR BF R Q) (h : tB R (g 4) w) : jO pg oT (gH 1 (gH 1 (gH 6 oA))) Q g w :=
 kZ (kn := no) (l := []) h lU hr trivial
def Gi (kn : K1) (lK rH nR pD : aEm) (w : aEl) : Prop :=
 jE pg JQ #[pD] w fun i0 w =>
 gI pg (jS i0 0) w fun i1 w =>
 gI pg (jS i0 1) w fun i2 w =>
 gI pg (hU .eql 24 (.tmp 53) (.const (aEn 0)) i2 (aEn 0)) w fun i4 w =>
 lX i4
  (jE pg Bz #[lK, i1, (.bool true)] w fun i8 w =>
  gI pg (jS i8 0) w fun i9 w =>
  gI pg (jS i8 1) w fun j0 w =>
  gI pg (EC nR [i9, j0]) w fun j1 w =>
  kn rH w)
  (kn rH w)
theorem SB (kn : K1) (hn : N1 Q kn 4) (h : Gi kn (g 0) (g 4) (g 6) (g 7) w) : jO pg oT (iB 1 (gH 1 (gH 6 oA))) Q g w :=
 kZ (kr := no) (l := []) h hn lU trivial
def FR (R : K1) (lK rH nR pD : aEm) (w : aEl) : Prop :=
 Gi (fun rH w => tB R rH w) lK rH nR pD w
def BM (kn : K7) (k0 : K4) (lK rH nR pD e5 e6 e7 : aEm) (w : aEl) : Prop :=
 gI pg (hU .lss 3 jC jC e7 e6) w fun e8 w =>
 lX e8
  (gI pg (jT 22 e5 e7) w fun e9 w =>
  gI pg (jG 5 e9) w fun f0 w =>
  gI pg (jT 128 pD f0) w fun f3 w =>
  gI pg (jG 38 f3) w fun f4 w =>
  gI pg (hU .add 38 jC jC f4 (.int .u32 1)) w fun f5 w =>
  gI pg (jT 128 pD f0) w fun f6 w =>
  gI pg (jQ 38 f6 f5) w fun _u w =>
  gI pg (hU .add 3 jC jC e7 (aEn 1)) w fun f7 w =>
  kn lK rH nR pD e5 e6 f7 w)
  (k0 lK rH nR pD w)
theorem TS (kn : K7) (k0 : K4) (hn : N7 Q kn 0 4 6 7 35 36 37) (h0 : E4 Q k0 0 0 4 6 7) (h : BM kn k0 (g 0) (g 4) (g 6) (g 7) (g 35) (g 36) (g 37) w) : jO pg oT (bI (bI (gH 1 (iB 1 (gH 6 oA))))) Q g w :=
 kZ (kr := no) (l := [(0, fun g w => k0 (g 0) (g 4) (g 6) (g 7) w)]) h hn lU ⟨h0, trivial⟩
def F0 (k0 : K4) (lK rH nR pD e5 e6 e7 : aEm) (w : aEl) : Prop :=
 kP (fun (X : aEm -> K0) (t : aEm) (w : aEl) => BM (fun _ _ _ _ _ _ e7 w => X e7 w) k0 lK rH nR pD e5 e6 t w) e7 w
theorem Sw (k0 : K4) (h0 : E4 Q k0 0 0 4 6 7) (h : F0 k0 (g 0) (g 4) (g 6) (g 7) (g 35) (g 36) (g 37) w) : jO pg oT (bI (gH 1 (iB 1 (gH 6 oA)))) Q g w := by
 refine Ov (fun g : Env => g 37) (fun X t w => BM (fun _ _ _ _ _ _ e7 w => X e7 w) k0 (g 0) (g 4) (g 6) (g 7) (g 35) (g 36) t w) h (fun X g1 w1 ha hL => ?_)
 rw [<- rI 0 ha, <- rI 4 ha, <- rI 6 ha, <- rI 7 ha, <- rI 35 ha, <- rI 36 ha] at hL
 exact (TS _ g1 w1 (fun _ _ _ _ _ _ e7 w => X e7 w) k0 (fun _ _ h => h) h0 hL)
def GR (kn : K4) (lK rH nR pD e5 e6 e7 : aEm) (w : aEl) : Prop :=
 F0 kn lK rH nR pD e5 e6 e7 w
def Fz (kn : K7) (lK rH nR pD : aEm) (w : aEl) : Prop :=
 gI pg (nX .len #[22] 3 [lK]) w fun e6 w =>
 kn lK rH nR pD lK e6 (aEn 0) w
theorem SX (kn : K7) (hn : N7 Q kn 0 4 6 7 35 36 37) (h : Fz kn (g 0) (g 4) (g 6) (g 7) w) : jO pg oT (iB 1 (iB 1 (gH 6 oA))) Q g w :=
 kZ (kr := no) (l := []) h hn lU trivial
def FE (kn : K4) (lK rH nR pD : aEm) (w : aEl) : Prop :=
 Fz (fun lK rH nR pD e5 e6 e7 w => GR kn lK rH nR pD e5 e6 e7 w) lK rH nR pD w
def GD (R : K1) (lK rH nR pD : aEm) (w : aEl) : Prop :=
 FE (fun lK rH nR pD w => FR R lK rH nR pD w) lK rH nR pD w
theorem Tb (kn : K4) (hn : N4 Q kn 0 4 6 7) (h : FE kn (g 0) (g 4) (g 6) (g 7) w) : jO pg oT (iB 1 (gH 6 oA)) Q g w :=
 nQ 1 (SX _ g w (GR kn) (fun g w h => iZ (Iw 0 (Sw _ g w kn hn h))) h)
def ET (kn : K4) (R : K1) (lK : aEm) (w : aEl) : Prop :=
 jE pg GV #[lK] w fun c4 w =>
 gI pg (jS c4 0) w fun c5 w =>
 gI pg (jS c4 1) w fun c6 w =>
 gI pg (oK 22) w fun rH w =>
 gI pg (jQ 22 rH c5) w fun _u w =>
 gI pg (hU .neq 24 (.tmp 17) (.const (aEn 0)) c6 (aEn 0)) w fun c8 w =>
 lX c8
  (R (.tuple #[(.slice none 0 0), c6]) w)
  (gI pg (abT (.func 64) [] [rH]) w fun d0 w =>
  jE pg B6 #[lK] w fun d2 w =>
  lX d2
   (gI pg (jT 22 lK (aEn 0)) w fun d5 w =>
   gI pg (jG 5 d5) w fun d6 w =>
   gI pg (nX .len #[22] 3 [lK]) w fun d8 w =>
   jE pg Ee #[d6, d8] w fun d9 w =>
   gI pg (jS d9 0) w fun e0 w =>
   gI pg (jS d9 1) w fun e1 w =>
   gI pg (EC d0 [e0, e1]) w fun e2 w =>
   gI pg (jG 22 rH) w fun e3 w =>
   R (.tuple #[e3, (aEn 0)]) w)
   (gI pg (sP 128 (aEn 256) (aEn 256)) w fun e4 w =>
   kn lK rH d0 e4 w))
theorem Sr (kn : K4) (R : K1) (hn : N4 Q kn 0 4 6 7) (hr : HR BF R Q) (h : ET kn R (g 0) w) : jO pg oT (iB 6 oA) Q g w :=
 kZ (l := []) h hn hr trivial
def EI (R : K1) (lK : aEm) (w : aEl) : Prop :=
 ET (fun lK rH nR pD w => GD R lK rH nR pD w) R lK w
theorem Sf (R : K1) (hr : HR BF R Q) (h : EI R (g 0) w) : jO pg oT oA Q g w :=
 nQ 6 (Sr _ g w (GD R) R (fun g w h => iZ (nQ 1 (Tb _ g w (FR R) (fun g w h => iZ (nQ 1 (SB _ g w (tB R) (fun g w h => iZ (Ta _ g w R hr h)) h))) h))) hr h)
def S9 (a0 : aEm) (w : aEl) (R : K1) : Prop :=
 EI R a0 w
theorem UR {a0 : aEm} {w : aEl} {R : K1} (h : S9 a0 w R) : jE pg CA #[a0] w R := by
 refine wQ (ann := oT) Tryz.f46 oA [a0] BF 63 TryzM.mixed Tryz.func46 ?_
 exact (Sf _ _ _ R (fun _ _ h => h) h)
def nZ : FA := ⟨BE, fun i => .leaf ([], []) []⟩
def qA : List ResultVar := [.tmp 2, .tmp 3]
noncomputable def nH : Code := jX Tryz.f47
def EP (R : K1) (lK R9 rG b8 oH c0 : aEm) (w : aEl) : Prop :=
 gI pg (jG 131 rG) w fun n5 w =>
 gI pg (jG 108 b8) w fun n6 w =>
 jE pg Wh #[lK, n5, n6] w fun n7 w =>
 gI pg (jS n7 0) w fun n8 w =>
 gI pg (jS n7 1) w fun n9 w =>
 gI pg (hU .neq 24 (.tmp 100) (.const (aEn 0)) n9 (aEn 0)) w fun o1 w =>
 lX o1
  (R (.tuple #[(.slice none 0 0), n9]) w)
  (gI pg (nE 3 32 oH) w fun o5 w =>
  jE pg jR #[R9, o5, (aEn 1)] w fun o6 w =>
  jE pg pL #[R9, c0] w fun o9 w =>
  jE pg pL #[R9, n8] w fun p2 w =>
  jE pg oB #[R9] w fun p4 w =>
  R (.tuple #[p4, (aEn 0)]) w)
theorem Si (R : K1) (hr : HR qA R Q) (h : EP R (g 0) (g 4) (g 6) (g 8) (g 9) (g 10) w) : jO pg nZ (gH 1 (gH 5 (gH 3 nH))) Q g w :=
 kZ (kn := no) (l := []) h lU hr trivial
def EU (kn : K7) (k1 : K6) (R : K1) (lK R9 rG b8 oH c0 j3 : aEm) (w : aEl) : Prop :=
 gI pg (hU .lss 3 jC jC j3 (aEn 3)) w fun j4 w =>
 lX j4
  (gI pg (jT 131 rG j3) w fun j9 w =>
  gI pg (jG 117 j9) w fun l0 w =>
  jE pg aaM #[j3, l0] w fun l1 w =>
  gI pg (jS l1 0) w fun l2 w =>
  gI pg (jS l1 1) w fun l3 w =>
  gI pg (jS l1 2) w fun l4 w =>
  gI pg (jS l1 3) w fun l5 w =>
  gI pg (oK 106) w fun aA5 w =>
  gI pg (jQ 106 aA5 l2) w fun _u w =>
  gI pg (hU .neq 24 (.tmp 76) (.const (aEn 0)) l5 (aEn 0)) w fun l7 w =>
  lX l7
   (R (.tuple #[(.slice none 0 0), l5]) w)
   (gI pg (jG 106 aA5) w fun m0 w =>
   gI pg (jT 108 b8 j3) w fun m1 w =>
   gI pg (jQ 106 m1 m0) w fun _u w =>
   gI pg (hU .mul 3 jC jC (aEn 2) j3) w fun m5 w =>
   gI pg (hU .sub 3 jC jC (aEn 6) m5) w fun m6 w =>
   gI pg (hU .shl 3 jC jC l3 m6) w fun m7 w =>
   gI pg (hU .or 3 jC jC oH m7) w fun m8 w =>
   gI pg (nX .append #[22, 22] 22 [c0, l4]) w fun n1 w =>
   gI pg (hU .add 3 jC jC j3 (aEn 1)) w fun n2 w =>
   kn lK R9 rG b8 m8 n1 n2 w))
  (k1 lK R9 rG b8 oH c0 w)
theorem Sk (kn : K7) (k1 : K6) (R : K1) (hn : N7 Q kn 0 4 6 8 9 10 63) (h1 : E6 Q k1 1 0 4 6 8 9 10) (hr : HR qA R Q) (h : EU kn k1 R (g 0) (g 4) (g 6) (g 8) (g 9) (g 10) (g 63) w) : jO pg nZ (bI (bI (gH 1 (iB 1 (gH 5 (gH 3 nH)))))) Q g w :=
 kZ (l := [(1, fun g w => k1 (g 0) (g 4) (g 6) (g 8) (g 9) (g 10) w)]) h hn hr ⟨h1, trivial⟩
def Lx (k1 : K6) (R : K1) (lK R9 rG b8 oH c0 j3 : aEm) (w : aEl) : Prop :=
 kP (fun (X : (aEm × aEm × aEm) -> K0) (t : aEm × aEm × aEm) (w : aEl) => EU (fun _ _ _ _ oH c0 j3 w => X (oH, c0, j3) w) k1 R lK R9 rG b8 t.1 t.2.1 t.2.2 w) (oH, c0, j3) w
theorem R5 (k1 : K6) (R : K1) (h1 : E6 Q k1 1 0 4 6 8 9 10) (hr : HR qA R Q) (h : Lx k1 R (g 0) (g 4) (g 6) (g 8) (g 9) (g 10) (g 63) w) : jO pg nZ (bI (gH 1 (iB 1 (gH 5 (gH 3 nH))))) Q g w := by
 refine Ov (fun g : Env => (g 9, g 10, g 63)) (fun X t w => EU (fun _ _ _ _ oH c0 j3 w => X (oH, c0, j3) w) k1 R (g 0) (g 4) (g 6) (g 8) t.1 t.2.1 t.2.2 w) h (fun X g1 w1 ha hL => ?_)
 rw [<- rI 0 ha, <- rI 4 ha, <- rI 6 ha, <- rI 8 ha] at hL
 exact (Sk _ g1 w1 (fun _ _ _ _ oH c0 j3 w => X (oH, c0, j3) w) k1 R (fun _ _ h => h) h1 hr hL)
def LM (kn : K6) (R : K1) (lK R9 rG b8 oH c0 j3 : aEm) (w : aEl) : Prop :=
 Lx kn R lK R9 rG b8 oH c0 j3 w
def Kx (kn : K7) (lK R9 rG b8 oH c0 : aEm) (w : aEl) : Prop :=
 kn lK R9 rG b8 oH c0 (aEn 0) w
theorem Sc (kn : K7) (hn : N7 Q kn 0 4 6 8 9 10 63) (h : Kx kn (g 0) (g 4) (g 6) (g 8) (g 9) (g 10) w) : jO pg nZ (iB 1 (iB 1 (gH 5 (gH 3 nH)))) Q g w :=
 kZ (kr := no) (l := []) h hn lU trivial
def J6 (kn : K6) (R : K1) (lK R9 rG b8 oH c0 : aEm) (w : aEl) : Prop :=
 Kx (fun lK R9 rG b8 oH c0 j3 w => LM kn R lK R9 rG b8 oH c0 j3 w) lK R9 rG b8 oH c0 w
def Lw (R : K1) (lK R9 rG b8 oH c0 : aEm) (w : aEl) : Prop :=
 J6 (fun lK R9 rG b8 oH c0 w => EP R lK R9 rG b8 oH c0 w) R lK R9 rG b8 oH c0 w
theorem RM (kn : K6) (R : K1) (hn : N6 Q kn 0 4 6 8 9 10) (hr : HR qA R Q) (h : J6 kn R (g 0) (g 4) (g 6) (g 8) (g 9) (g 10) w) : jO pg nZ (iB 1 (gH 5 (gH 3 nH))) Q g w :=
 nQ 1 (Sc _ g w (LM kn R) (fun g w h => iZ (Iw 1 (R5 _ g w kn R hn hr h))) h)
def Lo (kn : K6) (R : K1) (lK R9 : aEm) (w : aEl) : Prop :=
 jE pg WS #[lK] w fun i7 w =>
 gI pg (jS i7 0) w fun i8 w =>
 gI pg (jS i7 1) w fun i9 w =>
 gI pg (oK 131) w fun rG w =>
 gI pg (jQ 131 rG i8) w fun _u w =>
 gI pg (hU .neq 24 (.tmp 60) (.const (aEn 0)) i9 (aEn 0)) w fun j1 w =>
 lX j1
  (R (.tuple #[(.slice none 0 0), i9]) w)
  (gI pg (oK 108) w fun b8 w =>
  kn lK R9 rG b8 (aEn 0) (.slice none 0 0) w)
theorem RQ (kn : K6) (R : K1) (hn : N6 Q kn 0 4 6 8 9 10) (hr : HR qA R Q) (h : Lo kn R (g 0) (g 4) w) : jO pg nZ (iB 5 (gH 3 nH)) Q g w :=
 kZ (l := []) h hn hr trivial
def Kh (R : K1) (lK R9 : aEm) (w : aEl) : Prop :=
 Lo (fun lK R9 rG b8 oH c0 w => Lw R lK R9 rG b8 oH c0 w) R lK R9 w
def C9 (kn : K2) (R : K1) (lK : aEm) (w : aEl) : Prop :=
 jE pg oS #[] w fun c7 w =>
 gI pg (nX .len #[80] 3 [lK]) w fun c9 w =>
 gI pg (hU .gtr 3 jC jC c9 (aEn 98047)) w fun d9 w =>
 lX d9
  (R (.tuple #[(.slice none 0 0), (aEn 1)]) w)
  (gI pg (hU .eql 3 (.tmp 31) (.const (aEn 0)) c9 (aEn 0)) w fun e2 w =>
  lX e2
   (gI pg (lT 22 1 [(0, (.int .u8 0))]) w fun e3 w =>
   R (.tuple #[e3, (aEn 0)]) w)
   (gI pg (hU .lss 3 jC jC c9 (aEn 128)) w fun e6 w =>
   lX e6
    (gI pg (nE 3 32 c9) w fun e9 w =>
    jE pg jR #[c7, e9, (aEn 1)] w fun f0 w =>
    kn lK c7 w)
    (gI pg (hU .lss 3 jC jC c9 (aEn 32512)) w fun f3 w =>
    lX f3
     (gI pg (hU .shr 3 jC jC c9 (.int .u64 8)) w fun f6 w =>
     gI pg (hU .add 3 jC jC f6 (aEn 128)) w fun f7 w =>
     gI pg (nE 3 32 f7) w fun f8 w =>
     jE pg jR #[c7, f8, (aEn 1)] w fun f9 w =>
     gI pg (hU .and 3 jC jC c9 (aEn 255)) w fun i2 w =>
     gI pg (nE 3 32 i2) w fun i3 w =>
     jE pg jR #[c7, i3, (aEn 1)] w fun i4 w =>
     kn lK c7 w)
     (jE pg jR #[c7, (.int .u64 255), (aEn 1)] w fun d1 w =>
     gI pg (hU .sub 3 jC jC c9 (aEn 32512)) w fun d4 w =>
     gI pg (nE 3 32 d4) w fun d5 w =>
     jE pg jR #[c7, d5, (aEn 2)] w fun d6 w =>
     kn lK c7 w))))
theorem Qm (kn : K2) (R : K1) (hn : N2 Q kn 0 4) (hr : HR qA R Q) (h : C9 kn R (g 0) w) : jO pg nZ (iB 3 nH) Q g w :=
 kZ (l := []) h hn hr trivial
def Dv (R : K1) (lK : aEm) (w : aEl) : Prop :=
 C9 (fun lK R9 w => Kh R lK R9 w) R lK w
theorem Qf (R : K1) (hr : HR qA R Q) (h : Dv R (g 0) w) : jO pg nZ nH Q g w :=
 nQ 3 (Qm _ g w (Kh R) R (fun g w h => iZ (nQ 5 (RQ _ g w (Lw R) R (fun g w h => iZ (nQ 1 (RM _ g w (EP R) R (fun g w h => iZ (Si _ g w R hr h)) hr h))) hr h))) hr h)
def QS (a0 : aEm) (w : aEl) (R : K1) : Prop :=
 Dv R a0 w
theorem S3 {a0 : aEm} {w : aEl} {R : K1} (h : QS a0 w R) : jE pg BE #[a0] w R := by
 refine wQ (ann := nZ) Tryz.f47 nH [a0] qA 115 TryzM.mixed Tryz.func47 ?_
 exact (Qf _ _ _ R (fun _ _ h => h) h)
def kK : FA := ⟨vX, fun i => .leaf ([], []) []⟩
def AS : List ResultVar := [.tmp 2]
noncomputable def kH : Code := jX Tryz.f48
def uS (R : K1) (kX : aEm) (w : aEl) : Prop :=
 R kX w
theorem Ob (R : K1) (hr : HR AS R Q) (h : uS R (g 6) w) : jO pg kK (gH 1 (gH 1 (gH 1 (gH 2 kH)))) Q g w :=
 kZ (kn := no) (l := []) h lU hr trivial
def qK (kn : K4) (k2 : K1) (kX d5 d6 d7 : aEm) (w : aEl) : Prop :=
 gI pg (hU .lss 3 jC jC d7 d6) w fun d8 w =>
 lX d8
  (gI pg (jT 137 d5 d7) w fun d9 w =>
  gI pg (jG 22 d9) w fun e0 w =>
  gI pg (nX .append #[22, 22] 22 [kX, e0]) w fun e3 w =>
  gI pg (hU .add 3 jC jC d7 (aEn 1)) w fun e4 w =>
  kn e3 d5 d6 e4 w)
  (k2 kX w)
theorem Np (kn : K4) (k2 : K1) (hn : N4 Q kn 6 25 26 27) (h2 : E1 Q k2 2 6) (h : qK kn k2 (g 6) (g 25) (g 26) (g 27) w) : jO pg kK (bI (bI (gH 1 (iB 1 (gH 1 (gH 1 (gH 2 kH))))))) Q g w :=
 kZ (kr := no) (l := [(2, fun g w => k2 (g 6) w)]) h hn lU ⟨h2, trivial⟩
def Bg (k2 : K1) (kX d5 d6 d7 : aEm) (w : aEl) : Prop :=
 kP (fun (X : (aEm × aEm) -> K0) (t : aEm × aEm) (w : aEl) => qK (fun kX _ _ d7 w => X (kX, d7) w) k2 t.1 d5 d6 t.2 w) (kX, d7) w
theorem Nm (k2 : K1) (h2 : E1 Q k2 2 6) (h : Bg k2 (g 6) (g 25) (g 26) (g 27) w) : jO pg kK (bI (gH 1 (iB 1 (gH 1 (gH 1 (gH 2 kH)))))) Q g w := by
 refine Ov (fun g : Env => (g 6, g 27)) (fun X t w => qK (fun kX _ _ d7 w => X (kX, d7) w) k2 t.1 (g 25) (g 26) t.2 w) h (fun X g1 w1 ha hL => ?_)
 rw [<- rI 25 ha, <- rI 26 ha] at hL
 exact (Np _ g1 w1 (fun kX _ _ d7 w => X (kX, d7) w) k2 (fun _ _ h => h) h2 hL)
def A5 (kn : K1) (kX d5 d6 d7 : aEm) (w : aEl) : Prop :=
 Bg kn kX d5 d6 d7 w
def Bl (kn : K4) (kI kX : aEm) (w : aEl) : Prop :=
 gI pg (nX .len #[137] 3 [kI]) w fun d6 w =>
 kn kX kI d6 (aEn 0) w
theorem Oq (kn : K4) (hn : N4 Q kn 6 25 26 27) (h : Bl kn (g 0) (g 6) w) : jO pg kK (iB 1 (iB 1 (gH 1 (gH 1 (gH 2 kH))))) Q g w :=
 kZ (kr := no) (l := []) h hn lU trivial
def A6 (kn : K1) (kI kX : aEm) (w : aEl) : Prop :=
 Bl (fun kX d5 d6 d7 w => A5 kn kX d5 d6 d7 w) kI kX w
def Bc (R : K1) (kI kX : aEm) (w : aEl) : Prop :=
 A6 (fun kX w => uS R kX w) kI kX w
theorem NP (kn : K1) (hn : N1 Q kn 6) (h : A6 kn (g 0) (g 6) w) : jO pg kK (iB 1 (gH 1 (gH 1 (gH 2 kH)))) Q g w :=
 nQ 1 (Oq _ g w (A5 kn) (fun g w h => iZ (Iw 2 (Nm _ g w kn hn h))) h)
def Bq (kn : K2) (kI nS : aEm) (w : aEl) : Prop :=
 jE pg zF #[(.slice none 0 0), nS] w fun d4 w =>
 kn kI d4 w
theorem NG (kn : K2) (hn : N2 Q kn 0 6) (h : Bq kn (g 0) (g 3) w) : jO pg kK (iB 1 (gH 1 (gH 2 kH))) Q g w :=
 kZ (kr := no) (l := []) h hn lU trivial
def Bj (R : K1) (kI nS : aEm) (w : aEl) : Prop :=
 Bq (fun kI kX w => Bc R kI kX w) kI nS w
def rN (kn : K5) (kI nS b9 c0 c1 : aEm) (w : aEl) : Prop :=
 gI pg (hU .add 3 jC jC c1 (aEn 1)) w fun d2 w =>
 kn kI nS b9 c0 d2 w
theorem Mf (kn : K5) (hn : N5 Q kn 0 3 9 10 11) (h : rN kn (g 0) (g 3) (g 9) (g 10) (g 11) w) : jO pg kK (gH 3 (bI (bI (gH 1 (iB 1 (gH 2 kH)))))) Q g w :=
 kZ (kr := no) (l := []) h hn lU trivial
def rJ (kn : K5) (k0 : K2) (kI nS b9 c0 c1 : aEm) (w : aEl) : Prop :=
 gI pg (hU .lss 3 jC jC c1 c0) w fun c2 w =>
 lX c2
  (gI pg (jT 137 b9 c1) w fun c3 w =>
  gI pg (jG 22 c3) w fun c4 w =>
  gI pg (nX .len #[22] 3 [c4]) w fun c7 w =>
  gI pg (hU .add 3 jC jC nS c7) w fun c8 w =>
  gI pg (hU .lss 3 jC jC c8 (aEn 0)) w fun d0 w =>
  lX d0
   (gI pg (VX 9 (.string ⟨#[108, 101, 110, 32, 111, 117, 116, 32, 111, 102, 32, 114, 97, 110, 103, 101]⟩)) w fun d1 w =>
   gI pg (V (Instr.panic d1)) w fun _u w =>
   kn kI c8 b9 c0 c1 w)
   (kn kI c8 b9 c0 c1 w))
  (k0 kI nS w)
theorem L2 (kn : K5) (k0 : K2) (hn : N5 Q kn 0 3 9 10 11) (h0 : E2 Q k0 0 0 3) (h : rJ kn k0 (g 0) (g 3) (g 9) (g 10) (g 11) w) : jO pg kK (iB 3 (bI (bI (gH 1 (iB 1 (gH 2 kH)))))) Q g w :=
 kZ (kr := no) (l := [(0, fun g w => k0 (g 0) (g 3) w)]) h hn lU ⟨h0, trivial⟩
def qF (kn : K5) (k0 : K2) (kI nS b9 c0 c1 : aEm) (w : aEl) : Prop :=
 rJ (fun kI nS b9 c0 c1 w => rN kn kI nS b9 c0 c1 w) k0 kI nS b9 c0 c1 w
def Ai (k0 : K2) (kI nS b9 c0 c1 : aEm) (w : aEl) : Prop :=
 kP (fun (X : (aEm × aEm) -> K0) (t : aEm × aEm) (w : aEl) => qF (fun _ nS _ _ c1 w => X (nS, c1) w) k0 kI t.1 b9 c0 t.2 w) (nS, c1) w
theorem L5 (kn : K5) (k0 : K2) (hn : N5 Q kn 0 3 9 10 11) (h0 : E2 Q k0 0 0 3) (h : qF kn k0 (g 0) (g 3) (g 9) (g 10) (g 11) w) : jO pg kK (bI (bI (gH 1 (iB 1 (gH 2 kH))))) Q g w :=
 nQ 3 (L2 _ g w (rN kn) k0 (fun g w h => iZ (Mf _ g w kn hn h)) h0 h)
theorem Md (k0 : K2) (h0 : E2 Q k0 0 0 3) (h : Ai k0 (g 0) (g 3) (g 9) (g 10) (g 11) w) : jO pg kK (bI (gH 1 (iB 1 (gH 2 kH)))) Q g w := by
 refine Ov (fun g : Env => (g 3, g 11)) (fun X t w => qF (fun _ nS _ _ c1 w => X (nS, c1) w) k0 (g 0) t.1 (g 9) (g 10) t.2 w) h (fun X g1 w1 ha hL => ?_)
 rw [<- rI 0 ha, <- rI 9 ha, <- rI 10 ha] at hL
 exact (L5 _ g1 w1 (fun _ nS _ _ c1 w => X (nS, c1) w) k0 (fun _ _ h => h) h0 hL)
def zG (kn : K2) (kI nS b9 c0 c1 : aEm) (w : aEl) : Prop :=
 Ai kn kI nS b9 c0 c1 w
def zP (kn : K5) (kI nS : aEm) (w : aEl) : Prop :=
 gI pg (nX .len #[137] 3 [kI]) w fun c0 w =>
 kn kI nS kI c0 (aEn 0) w
theorem Ml (kn : K5) (hn : N5 Q kn 0 3 9 10 11) (h : zP kn (g 0) (g 3) w) : jO pg kK (iB 1 (iB 1 (gH 2 kH))) Q g w :=
 kZ (kr := no) (l := []) h hn lU trivial
def Ao (kn : K2) (kI nS : aEm) (w : aEl) : Prop :=
 zP (fun kI nS b9 c0 c1 w => zG kn kI nS b9 c0 c1 w) kI nS w
def zY (R : K1) (kI nS : aEm) (w : aEl) : Prop :=
 Ao (fun kI nS w => Bj R kI nS w) kI nS w
theorem Mc (kn : K2) (hn : N2 Q kn 0 3) (h : Ao kn (g 0) (g 3) w) : jO pg kK (iB 1 (gH 2 kH)) Q g w :=
 nQ 1 (Ml _ g w (zG kn) (fun g w h => iZ (Iw 0 (Md _ g w kn hn h))) h)
def Al (kn : K2) (kI : aEm) (w : aEl) : Prop :=
 kn kI (aEn 0) w
theorem Mi (kn : K2) (hn : N2 Q kn 0 3) (h : Al kn (g 0) w) : jO pg kK (iB 2 kH) Q g w :=
 kZ (kr := no) (l := []) h hn lU trivial
def Aq (R : K1) (kI : aEm) (w : aEl) : Prop :=
 Al (fun kI nS w => zY R kI nS w) kI w
theorem Mn (R : K1) (hr : HR AS R Q) (h : Aq R (g 0) w) : jO pg kK kH Q g w :=
 nQ 2 (Mi _ g w (zY R) (fun g w h => iZ (nQ 1 (Mc _ g w (Bj R) (fun g w h => iZ (nQ 1 (NG _ g w (Bc R) (fun g w h => iZ (nQ 1 (NP _ g w (uS R) (fun g w h => iZ (Ob _ g w R hr h)) h))) h))) h))) h)
def KQ (a0 : aEm) (w : aEl) (R : K1) : Prop :=
 Aq R a0 w
theorem OH {a0 : aEm} {w : aEl} {R : K1} (h : KQ a0 w R) : jE pg vX #[a0] w R := by
 refine wQ (ann := kK) Tryz.f48 kH [a0] AS 36 TryzM.mixed Tryz.func48 ?_
 exact (Mn _ _ _ R (fun _ _ h => h) h)
def Vh : FA := ⟨Fu, fun i => .leaf ([], []) []⟩
def WX : List ResultVar := [.tmp 4]
noncomputable def TR : Code := jX Tryz.f49
def Qd (R : K1) (v_0 DB : aEm) (w : aEl) : Prop :=
 gI pg (hU .mul 32 jC jC DB (.int .u64 14029467366897019727)) w fun b7 w =>
 gI pg (hU .add 32 jC jC v_0 b7) w fun b8 w =>
 jE pg mV #[b8, (aEn 31)] w fun b9 w =>
 gI pg (hU .mul 32 jC jC b9 (.int .u64 11400714785074694791)) w fun c0 w =>
 R c0 w
theorem ZI (R : K1) (hr : HR WX R Q) (h : Qd R (g 0) (g 1) w) : jO pg Vh TR Q g w :=
 kZ (kn := no) (l := []) h lU hr trivial
def aeA (a0 a1 : aEm) (w : aEl) (R : K1) : Prop :=
 Qd R a0 a1 w
theorem abD {a0 a1 : aEm} {w : aEl} {R : K1} (h : aeA a0 a1 w R) : jE pg Fu #[a0, a1] w R := by
 refine wQ (ann := Vh) Tryz.f49 TR [a0, a1] WX 11 TryzM.mixed Tryz.func49 ?_
 exact (ZI _ _ _ R (fun _ _ h => h) h)
def sR : FA := ⟨Cz, fun i => .leaf ([], []) []⟩
def M1 : List ResultVar := [.tmp 2]
noncomputable def rS : Code := jX Tryz.f50
def IJ (R : K1) (pB : aEm) (w : aEl) : Prop :=
 R pB w
theorem YY (R : K1) (hr : HR M1 R Q) (h : IJ R (g 3) w) : jO pg sR (gH 1 (gH 2 rS)) Q g w :=
 kZ (kn := no) (l := []) h lU hr trivial
def DT (kn : K4) (k0 : K1) (pB b6 b7 b8 : aEm) (w : aEl) : Prop :=
 gI pg (hU .lss 3 jC jC b8 b7) w fun b9 w =>
 lX b9
  (gI pg (jT 22 b6 b8) w fun c1 w =>
  gI pg (jG 5 c1) w fun c2 w =>
  gI pg (nE 5 32 c2) w fun c5 w =>
  gI pg (hU .mul 3 jC jC (aEn 8) b8) w fun c7 w =>
  gI pg (nE 3 50 c7) w fun c8 w =>
  gI pg (hU .shl 32 jC jC c5 c8) w fun c9 w =>
  gI pg (hU .or 32 jC jC pB c9) w fun d0 w =>
  gI pg (hU .add 3 jC jC b8 (aEn 1)) w fun d1 w =>
  kn d0 b6 b7 d1 w)
  (k0 pB w)
theorem YI (kn : K4) (k0 : K1) (hn : N4 Q kn 3 6 7 8) (h0 : E1 Q k0 0 3) (h : DT kn k0 (g 3) (g 6) (g 7) (g 8) w) : jO pg sR (bI (bI (gH 1 (iB 1 (gH 2 rS))))) Q g w :=
 kZ (kr := no) (l := [(0, fun g w => k0 (g 3) w)]) h hn lU ⟨h0, trivial⟩
def Nd (k0 : K1) (pB b6 b7 b8 : aEm) (w : aEl) : Prop :=
 kP (fun (X : (aEm × aEm) -> K0) (t : aEm × aEm) (w : aEl) => DT (fun pB _ _ b8 w => X (pB, b8) w) k0 t.1 b6 b7 t.2 w) (pB, b8) w
theorem Y6 (k0 : K1) (h0 : E1 Q k0 0 3) (h : Nd k0 (g 3) (g 6) (g 7) (g 8) w) : jO pg sR (bI (gH 1 (iB 1 (gH 2 rS)))) Q g w := by
 refine Ov (fun g : Env => (g 3, g 8)) (fun X t w => DT (fun pB _ _ b8 w => X (pB, b8) w) k0 t.1 (g 6) (g 7) t.2 w) h (fun X g1 w1 ha hL => ?_)
 rw [<- rI 6 ha, <- rI 7 ha] at hL
 exact (YI _ g1 w1 (fun pB _ _ b8 w => X (pB, b8) w) k0 (fun _ _ h => h) h0 hL)
def M6 (kn : K1) (pB b6 b7 b8 : aEm) (w : aEl) : Prop :=
 Nd kn pB b6 b7 b8 w
def NR (kn : K4) (nJ pB : aEm) (w : aEl) : Prop :=
 gI pg (nX .len #[22] 3 [nJ]) w fun b7 w =>
 kn pB nJ b7 (aEn 0) w
theorem Y5 (kn : K4) (hn : N4 Q kn 3 6 7 8) (h : NR kn (g 0) (g 3) w) : jO pg sR (iB 1 (iB 1 (gH 2 rS))) Q g w :=
 kZ (kr := no) (l := []) h hn lU trivial
def Ol (kn : K1) (nJ pB : aEm) (w : aEl) : Prop :=
 NR (fun pB b6 b7 b8 w => M6 kn pB b6 b7 b8 w) nJ pB w
def NA (R : K1) (nJ pB : aEm) (w : aEl) : Prop :=
 Ol (fun pB w => IJ R pB w) nJ pB w
theorem Y8 (kn : K1) (hn : N1 Q kn 3) (h : Ol kn (g 0) (g 3) w) : jO pg sR (iB 1 (gH 2 rS)) Q g w :=
 nQ 1 (Y5 _ g w (M6 kn) (fun g w h => iZ (Iw 0 (Y6 _ g w kn hn h))) h)
def NC (kn : K2) (nJ : aEm) (w : aEl) : Prop :=
 kn nJ (.int .u64 0) w
theorem Y0 (kn : K2) (hn : N2 Q kn 0 3) (h : NC kn (g 0) w) : jO pg sR (iB 2 rS) Q g w :=
 kZ (kr := no) (l := []) h hn lU trivial
def M0 (R : K1) (nJ : aEm) (w : aEl) : Prop :=
 NC (fun nJ pB w => NA R nJ pB w) nJ w
theorem Yz (R : K1) (hr : HR M1 R Q) (h : M0 R (g 0) w) : jO pg sR rS Q g w :=
 nQ 2 (Y0 _ g w (NA R) (fun g w h => iZ (nQ 1 (Y8 _ g w (IJ R) (fun g w h => iZ (YY _ g w R hr h)) h))) h)
def aaI (a0 : aEm) (w : aEl) (R : K1) : Prop :=
 M0 R a0 w
theorem ZY {a0 : aEm} {w : aEl} {R : K1} (h : aaI a0 w R) : jE pg Cz #[a0] w R := by
 refine wQ (ann := sR) Tryz.f50 rS [a0] M1 23 TryzM.mixed Tryz.func50 ?_
 exact (Yz _ _ _ R (fun _ _ h => h) h)
def lY : FA := ⟨BL, fun i => .leaf ([], []) []⟩
def Az : List ResultVar := [.tmp 2]
noncomputable def lQ : Code := jX Tryz.f51
def zS (R : K1) (pB : aEm) (w : aEl) : Prop :=
 R pB w
theorem RN (R : K1) (hr : HR Az R Q) (h : zS R (g 3) w) : jO pg lY (gH 1 (gH 1 (gH 3 lQ))) Q g w :=
 kZ (kn := no) (l := []) h lU hr trivial
def uP (kn : K3) (k2 : K1) (pB e2 e3 : aEm) (w : aEl) : Prop :=
 gI pg (hU .lss 3 jC jC e3 (aEn 4)) w fun e4 w =>
 lX e4
  (gI pg (Rp 90 e2 e3) w fun e5 w =>
  jE pg Fu #[(.int .u64 0), e5] w fun e8 w =>
  gI pg (hU .xor 32 jC jC pB e8) w fun e9 w =>
  gI pg (hU .mul 32 jC jC e9 (.int .u64 11400714785074694791)) w fun f0 w =>
  gI pg (hU .add 32 jC jC f0 (.int .u64 9650029242287828579)) w fun f1 w =>
  gI pg (hU .add 3 jC jC e3 (aEn 1)) w fun f2 w =>
  kn f1 e2 f2 w)
  (k2 pB w)
theorem RI (kn : K3) (k2 : K1) (hn : N3 Q kn 3 32 33) (h2 : E1 Q k2 2 3) (h : uP kn k2 (g 3) (g 32) (g 33) w) : jO pg lY (bI (bI (gH 1 (iB 1 (gH 1 (gH 3 lQ)))))) Q g w :=
 kZ (kr := no) (l := [(2, fun g w => k2 (g 3) w)]) h hn lU ⟨h2, trivial⟩
def Ef (k2 : K1) (pB e2 e3 : aEm) (w : aEl) : Prop :=
 kP (fun (X : (aEm × aEm) -> K0) (t : aEm × aEm) (w : aEl) => uP (fun pB _ e3 w => X (pB, e3) w) k2 t.1 e2 t.2 w) (pB, e3) w
theorem RE (k2 : K1) (h2 : E1 Q k2 2 3) (h : Ef k2 (g 3) (g 32) (g 33) w) : jO pg lY (bI (gH 1 (iB 1 (gH 1 (gH 3 lQ))))) Q g w := by
 refine Ov (fun g : Env => (g 3, g 33)) (fun X t w => uP (fun pB _ e3 w => X (pB, e3) w) k2 t.1 (g 32) t.2 w) h (fun X g1 w1 ha hL => ?_)
 rw [<- rI 32 ha] at hL
 exact (RI _ g1 w1 (fun pB _ e3 w => X (pB, e3) w) k2 (fun _ _ h => h) h2 hL)
def EK (kn : K1) (pB e2 e3 : aEm) (w : aEl) : Prop :=
 Ef kn pB e2 e3 w
def EZ (kn : K3) (rQ pB : aEm) (w : aEl) : Prop :=
 gI pg (nK rQ) w fun e0 w =>
 gI pg (jI 93 e0 0) w fun e1 w =>
 gI pg (jG 90 e1) w fun e2 w =>
 kn pB e2 (aEn 0) w
theorem R0 (kn : K3) (hn : N3 Q kn 3 32 33) (h : EZ kn (g 0) (g 3) w) : jO pg lY (iB 1 (iB 1 (gH 1 (gH 3 lQ)))) Q g w :=
 kZ (kr := no) (l := []) h hn lU trivial
def Ew (kn : K1) (rQ pB : aEm) (w : aEl) : Prop :=
 EZ (fun pB e2 e3 w => EK kn pB e2 e3 w) rQ pB w
def Ey (R : K1) (rQ pB : aEm) (w : aEl) : Prop :=
 Ew (fun pB w => zS R pB w) rQ pB w
theorem RA (kn : K1) (hn : N1 Q kn 3) (h : Ew kn (g 0) (g 3) w) : jO pg lY (iB 1 (gH 1 (gH 3 lQ))) Q g w :=
 nQ 1 (R0 _ g w (EK kn) (fun g w h => iZ (Iw 2 (RE _ g w kn hn h))) h)
def uN (kn : K4) (k0 : K2) (rQ pB c3 c4 : aEm) (w : aEl) : Prop :=
 gI pg (hU .lss 3 jC jC c4 (aEn 4)) w fun c5 w =>
 lX c5
  (gI pg (Rp 139 c3 c4) w fun c7 w =>
  gI pg (nK rQ) w fun d1 w =>
  gI pg (jI 93 d1 0) w fun d2 w =>
  gI pg (jT 90 d2 c4) w fun d3 w =>
  gI pg (jG 32 d3) w fun d4 w =>
  jE pg mV #[d4, c7] w fun d6 w =>
  gI pg (hU .add 32 jC jC pB d6) w fun d7 w =>
  gI pg (hU .add 3 jC jC c4 (aEn 1)) w fun d8 w =>
  kn rQ d7 c3 d8 w)
  (k0 rQ pB w)
theorem RO (kn : K4) (k0 : K2) (hn : N4 Q kn 0 3 13 14) (h0 : E2 Q k0 0 0 3) (h : uN kn k0 (g 0) (g 3) (g 13) (g 14) w) : jO pg lY (bI (bI (gH 1 (iB 1 (gH 3 lQ))))) Q g w :=
 kZ (kr := no) (l := [(0, fun g w => k0 (g 0) (g 3) w)]) h hn lU ⟨h0, trivial⟩
def Et (k0 : K2) (rQ pB c3 c4 : aEm) (w : aEl) : Prop :=
 kP (fun (X : (aEm × aEm) -> K0) (t : aEm × aEm) (w : aEl) => uN (fun _ pB _ c4 w => X (pB, c4) w) k0 rQ t.1 c3 t.2 w) (pB, c4) w
theorem RC (k0 : K2) (h0 : E2 Q k0 0 0 3) (h : Et k0 (g 0) (g 3) (g 13) (g 14) w) : jO pg lY (bI (gH 1 (iB 1 (gH 3 lQ)))) Q g w := by
 refine Ov (fun g : Env => (g 3, g 14)) (fun X t w => uN (fun _ pB _ c4 w => X (pB, c4) w) k0 (g 0) t.1 (g 13) t.2 w) h (fun X g1 w1 ha hL => ?_)
 rw [<- rI 0 ha, <- rI 13 ha] at hL
 exact (RO _ g1 w1 (fun _ pB _ c4 w => X (pB, c4) w) k0 (fun _ _ h => h) h0 hL)
def Du (kn : K2) (rQ pB c3 c4 : aEm) (w : aEl) : Prop :=
 Et kn rQ pB c3 c4 w
def Dh (kn : K4) (rQ pB : aEm) (w : aEl) : Prop :=
 gI pg (kV 139 [(0, (aEn 1)), (1, (aEn 7)), (2, (aEn 12)), (3, (aEn 18))]) w fun c3 w =>
 kn rQ pB c3 (aEn 0) w
theorem PM (kn : K4) (hn : N4 Q kn 0 3 13 14) (h : Dh kn (g 0) (g 3) w) : jO pg lY (iB 1 (iB 1 (gH 3 lQ))) Q g w :=
 kZ (kr := no) (l := []) h hn lU trivial
def Da (kn : K2) (rQ pB : aEm) (w : aEl) : Prop :=
 Dh (fun rQ pB c3 c4 w => Du kn rQ pB c3 c4 w) rQ pB w
def CV (R : K1) (rQ pB : aEm) (w : aEl) : Prop :=
 Da (fun rQ pB w => Ey R rQ pB w) rQ pB w
theorem QI (kn : K2) (hn : N2 Q kn 0 3) (h : Da kn (g 0) (g 3) w) : jO pg lY (iB 1 (gH 3 lQ)) Q g w :=
 nQ 1 (PM _ g w (Du kn) (fun g w h => iZ (Iw 0 (RC _ g w kn hn h))) h)
def xE (kn : K2) (R : K1) (rQ : aEm) (w : aEl) : Prop :=
 gI pg (nK rQ) w fun b9 w =>
 gI pg (jI 93 b9 3) w fun c0 w =>
 gI pg (jG 32 c0) w fun c1 w =>
 gI pg (hU .lss 32 jC jC c1 (.int .u64 32)) w fun c2 w =>
 lX c2
  (R (.int .u64 2870177450012600261) w)
  (kn rQ (.int .u64 0) w)
theorem Qj (kn : K2) (R : K1) (hn : N2 Q kn 0 3) (hr : HR Az R Q) (h : xE kn R (g 0) w) : jO pg lY (iB 3 lQ) Q g w :=
 kZ (l := []) h hn hr trivial
def xF (R : K1) (rQ : aEm) (w : aEl) : Prop :=
 xE (fun rQ pB w => CV R rQ pB w) R rQ w
theorem Qr (R : K1) (hr : HR Az R Q) (h : xF R (g 0) w) : jO pg lY lQ Q g w :=
 nQ 3 (Qj _ g w (CV R) R (fun g w h => iZ (nQ 1 (QI _ g w (Ey R) (fun g w h => iZ (nQ 1 (RA _ g w (zS R) (fun g w h => iZ (RN _ g w R hr h)) h))) h))) hr h)
def Jf (a0 : aEm) (w : aEl) (R : K1) : Prop :=
 xF R a0 w
theorem Ts {a0 : aEm} {w : aEl} {R : K1} (h : Jf a0 w R) : jE pg BL #[a0] w R := by
 refine wQ (ann := lY) Tryz.f51 lQ [a0] Az 44 TryzM.mixed Tryz.func51 ?_
 exact (Qr _ _ _ R (fun _ _ h => h) h)
def B5 : FA := ⟨mV, fun i => .leaf ([], []) []⟩
def CR : List ResultVar := [.tmp 4]
noncomputable def By : Code := jX Tryz.f52
def vI (R : K1) (nD k_1 : aEm) (w : aEl) : Prop :=
 gI pg (nE 3 50 k_1) w fun b7 w =>
 gI pg (hU .and 50 jC jC b7 (.int .u64 63)) w fun b8 w =>
 gI pg (hU .shl 32 jC jC nD b8) w fun c1 w =>
 gI pg (hU .sub 50 jC jC (.int .u64 64) b8) w fun c4 w =>
 gI pg (hU .shr 32 jC jC nD c4) w fun c5 w =>
 gI pg (hU .or 32 jC jC c1 c5) w fun c6 w =>
 R c6 w
theorem Jo (R : K1) (hr : HR CR R Q) (h : vI R (g 0) (g 1) w) : jO pg B5 By Q g w :=
 kZ (kn := no) (l := []) h lU hr trivial
def GQ (a0 a1 : aEm) (w : aEl) (R : K1) : Prop :=
 vI R a0 a1 w
theorem JT {a0 a1 : aEm} {w : aEl} {R : K1} (h : GQ a0 a1 w R) : jE pg mV #[a0, a1] w R := by
 refine wQ (ann := B5) Tryz.f52 By [a0, a1] CR 17 TryzM.mixed Tryz.func52 ?_
 exact (Jo _ _ _ R (fun _ _ h => h) h)
def Gz : FA := ⟨sN, fun i => .leaf ([], []) []⟩
def Hj : List ResultVar := [.tmp 6]
noncomputable def Fi : Code := jX Tryz.f53
def Bi (R : K1) (V3 G9 aAD : aEm) (w : aEl) : Prop :=
 gI pg (nK V3) w fun c0 w =>
 gI pg (jI 97 c0 1) w fun c1 w =>
 gI pg (jG 24 c1) w fun c2 w =>
 gI pg (hU .neq 24 (.tmp 12) (.const (aEn 0)) c2 (aEn 0)) w fun c3 w =>
 lX c3
  (R (.slice none 0 0) w)
  (gI pg (sUn .not aAD) w fun c6 w =>
  lX c6
   (gI pg (nK V3) w fun c8 w =>
   gI pg (jI 97 c8 1) w fun c9 w =>
   gI pg (jQ 24 c9 (aEn 1)) w fun _u w =>
   R (.slice none 0 0) w)
   (gI pg (nK V3) w fun d3 w =>
   gI pg (jI 97 d3 0) w fun d4 w =>
   gI pg (jG 22 d4) w fun d5 w =>
   gI pg (nX .len #[22] 3 [d5]) w fun d6 w =>
   gI pg (hU .gtr 3 jC jC G9 d6) w fun d7 w =>
   lX d7
    (gI pg (nK V3) w fun d9 w =>
    gI pg (jI 97 d9 1) w fun e0 w =>
    gI pg (jQ 24 e0 (aEn 10)) w fun _u w =>
    R (.slice none 0 0) w)
    (gI pg (nK V3) w fun e2 w =>
    gI pg (jI 97 e2 0) w fun e3 w =>
    gI pg (jG 22 e3) w fun e4 w =>
    gI pg (lR 22 e4 none (some G9) (some G9)) w fun e7 w =>
    gI pg (nK V3) w fun f0 w =>
    gI pg (jI 97 f0 0) w fun f1 w =>
    gI pg (jG 22 f1) w fun f2 w =>
    gI pg (lR 22 f2 (some G9) none none) w fun f4 w =>
    gI pg (nK V3) w fun f5 w =>
    gI pg (jI 97 f5 0) w fun f6 w =>
    gI pg (jQ 22 f6 f4) w fun _u w =>
    R e7 w)))
theorem Nn (R : K1) (hr : HR Hj R Q) (h : Bi R (g 0) (g 1) (g 2) w) : jO pg Gz Fi Q g w :=
 kZ (kn := no) (l := []) h lU hr trivial
def Lv (a0 a1 a2 : aEm) (w : aEl) (R : K1) : Prop :=
 Bi R a0 a1 a2 w
theorem PF {a0 a1 a2 : aEm} {w : aEl} {R : K1} (h : Lv a0 a1 a2 w R) : jE pg sN #[a0, a1, a2] w R := by
 refine wQ (ann := Gz) Tryz.f53 Fi [a0, a1, a2] Hj 48 TryzM.mixed Tryz.func53 ?_
 exact (Nn _ _ _ R (fun _ _ h => h) h)
def Fo : FA := ⟨qL, fun i => .leaf ([], []) []⟩
def Gx : List ResultVar := [.tmp 4]
noncomputable def DQ : Code := jX Tryz.f54
def zT (R : K1) (V3 G9 : aEm) (w : aEl) : Prop :=
 gI pg (hU .eql 54 (.tmp 5) (.const (.pointer none)) V3 (.pointer none)) w fun b6 w =>
 lX b6
  (R (.slice none 0 0) w)
  (gI pg (hU .geq 3 jC jC G9 (aEn 0)) w fun c0 w =>
  jE pg sN #[V3, G9, c0] w fun c1 w =>
  R c1 w)
theorem L7 (R : K1) (hr : HR Gx R Q) (h : zT R (g 0) (g 1) w) : jO pg Fo DQ Q g w :=
 kZ (kn := no) (l := []) h lU hr trivial
def JC (a0 a1 : aEm) (w : aEl) (R : K1) : Prop :=
 zT R a0 a1 w
theorem M4 {a0 a1 : aEm} {w : aEl} {R : K1} (h : JC a0 a1 w R) : jE pg qL #[a0, a1] w R := by
 refine wQ (ann := Fo) Tryz.f54 DQ [a0, a1] Gx 12 TryzM.mixed Tryz.func54 ?_
 exact (L7 _ _ _ R (fun _ _ h => h) h)
def rM : FA := ⟨JO, fun i => match Nat.beq i 28 with | true => .leaf ([4, 6], [(0, 4), (2, 4), (2, 6), (5, 6)]) [(false, []), (false, []), (false, []), (false, []), (true, [1, 3]), (false, []), (true, [0, 3]), (false, []), (false, [])] | false => .leaf ([], []) []⟩
def ID : List ResultVar := [.cell 2 101, .tmp 3, .tmp 4]
noncomputable def qP : Code := jX Tryz.f55
def DO (R : K1) (nJ b2 Ir Ff oD : aEm) (w : aEl) : Prop :=
 jE pg lZ #[Ir] w fun l9 w =>
 gI pg (hU .neq 24 (.tmp 79) (.const (aEn 0)) l9 (aEn 0)) w fun m0 w =>
 lX m0
  (gI pg (kV 101 []) w fun m1 w =>
  jE pg lZ #[Ir] w fun m3 w =>
  gI pg (jQ 101 b2 m1) w fun _u w =>
  Nq pg 101 b2 w fun r0 => R (.tuple #[r0, (aEn 0), m3]) w)
  (gI pg (hU .neq 32 (.tmp 85) (.const (.int .u64 0)) oD (.int .u64 0)) w fun m6 w =>
  lX m6
   (gI pg (kV 101 []) w fun m7 w =>
   gI pg (jQ 101 b2 m7) w fun _u w =>
   Nq pg 101 b2 w fun r0 => R (.tuple #[r0, (aEn 0), (aEn 14)]) w)
   (gI pg (jG 101 Ff) (dr w) fun m8 w_ => w_ = (dr w) /\
   (dr w) = (dr w) /\
   gI pg (nX .len #[22] 3 [nJ]) (dr w) fun n0 w_ => w_ = (dr w) /\
   (dr w) = (dr w) /\
   jE pg oN #[Ir] (dr w) fun n2 agL =>
   (jD pg (nX .len #[22] 3 [nJ]) n0 agL /\ jD pg (jG 101 Ff) m8 agL /\ True) /\
   gI pg (hU .sub 3 jC jC n0 n2) agL fun n3 w_ => w_ = agL /\
   gI pg (jQ 101 b2 m8) agL fun _u6 Zk =>
   (jD pg (hU .sub 3 jC jC n0 n2) n3 Zk /\ jD pg (nX .len #[22] 3 [nJ]) n0 Zk /\ True) /\
   Zk = Zk /\
   Zk = Zk /\
   Nq pg 101 b2 Zk fun r0 => R (.tuple #[r0, n3, (aEn 0)]) Zk))
theorem Y1 (R : K1) (hr : HR ID R Q) (h : DO R (g 0) (g 2) (g 5) (g 7) (g 9) w) : jO pg rM (gH 1 (gH 1 (gH 1 (gH 2 (gH 2 (gH 7 qP)))))) Q g w :=
 kZ (kn := no) (l := []) h lU hr trivial
def NV (kn : K5) (nJ b2 Ir Ff qC oD : aEm) (w : aEl) : Prop :=
 lX qC
  (gI pg (jI 101 Ff 1) w fun l4 w =>
  gI pg (jG 32 l4) w fun l5 w =>
  gI pg (jI 101 Ff 0) w fun l6 w =>
  gI pg (jQ 32 l6 l5) w fun _u w =>
  kn nJ b2 Ir Ff oD w)
  (kn nJ b2 Ir Ff oD w)
theorem Ze (kn : K5) (hn : N5 Q kn 0 2 5 7 9) (h : NV kn (g 0) (g 2) (g 5) (g 7) (g 8) (g 9) w) : jO pg rM (iB 1 (gH 1 (gH 1 (gH 2 (gH 2 (gH 7 qP)))))) Q g w :=
 kZ (kr := no) (l := []) h hn lU trivial
def Iu (R : K1) (nJ b2 Ir Ff qC oD : aEm) (w : aEl) : Prop :=
 NV (fun nJ b2 Ir Ff oD w => DO R nJ b2 Ir Ff oD w) nJ b2 Ir Ff qC oD w
def NY (kn : K6) (nJ b2 Ir Ff qC oD Rk : aEm) (w : aEl) : Prop :=
 gI pg (hU .eql 3 (.tmp 67) (.const (aEn 2)) Rk (aEn 2)) w fun j8 w =>
 lX j8
  (gI pg (jI 101 Ff 1) w fun j9 w =>
  gI pg (jG 32 j9) w fun l0 w =>
  gI pg (hU .add 32 jC jC l0 (.int .u64 256)) w fun l1 w =>
  gI pg (jI 101 Ff 1) w fun l2 w =>
  gI pg (jQ 32 l2 l1) w fun _u w =>
  kn nJ b2 Ir Ff qC oD w)
  (kn nJ b2 Ir Ff qC oD w)
theorem Ym (kn : K6) (hn : N6 Q kn 0 2 5 7 8 9) (h : NY kn (g 0) (g 2) (g 5) (g 7) (g 8) (g 9) (g 11) w) : jO pg rM (iB 1 (gH 1 (gH 2 (gH 2 (gH 7 qP))))) Q g w :=
 kZ (kr := no) (l := []) h hn lU trivial
def IH (R : K1) (nJ b2 Ir Ff qC oD Rk : aEm) (w : aEl) : Prop :=
 NY (fun nJ b2 Ir Ff qC oD w => Iu R nJ b2 Ir Ff qC oD w) nJ b2 Ir Ff qC oD Rk w
def Ou (kn : K7) (nJ b2 Ir Ff qC oD Rk : aEm) (w : aEl) : Prop :=
 gI pg (hU .gtr 3 jC jC Rk (aEn 0)) w fun j1 w =>
 lX j1
  (jE pg lB #[Ir, Rk] w fun j4 w =>
  gI pg (jI 101 Ff 1) w fun j5 w =>
  gI pg (jQ 32 j5 j4) w fun _u w =>
  gI pg (jI 101 Ff 2) w fun j6 w =>
  gI pg (jQ 4 j6 (.bool true)) w fun _u w =>
  kn nJ b2 Ir Ff qC oD Rk w)
  (kn nJ b2 Ir Ff qC oD Rk w)
theorem YW (kn : K7) (hn : N7 Q kn 0 2 5 7 8 9 11) (h : Ou kn (g 0) (g 2) (g 5) (g 7) (g 8) (g 9) (g 11) w) : jO pg rM (iB 1 (gH 2 (gH 2 (gH 7 qP)))) Q g w :=
 kZ (kr := no) (l := []) h hn lU trivial
def DD (R : K1) (nJ b2 Ir Ff qC oD Rk : aEm) (w : aEl) : Prop :=
 Ou (fun nJ b2 Ir Ff qC oD Rk w => IH R nJ b2 Ir Ff qC oD Rk w) nJ b2 Ir Ff qC oD Rk w
def Nf (kn : K7) (nJ b2 Ir d_6 Ff qC oD : aEm) (w : aEl) : Prop :=
 gI pg (kV 139 [(0, (aEn 0)), (1, (aEn 2)), (2, (aEn 4)), (3, (aEn 8))]) w fun i1 w =>
 gI pg (hU .shr 3 jC jC d_6 (.int .u64 6)) w fun i3 w =>
 gI pg (Rp 139 i1 i3) w fun i4 w =>
 Gd (kO qC true) (fun K => K i4 w) w fun i7 w =>
 Gd (kO qC true) (fun K => gI pg (hU .eql 3 (.tmp 57) (.const (aEn 0)) i7 (aEn 0)) w K) w fun i8 w =>
 gI pg (mD qC i8 (.bool false)) w fun i9 w =>
 lX i9
  (kn nJ b2 Ir Ff qC oD (aEn 1) w)
  (kn nJ b2 Ir Ff qC oD i4 w)
theorem X6 (kn : K7) (hn : N7 Q kn 0 2 5 7 8 9 11) (h : Nf kn (g 0) (g 2) (g 5) (g 6) (g 7) (g 8) (g 9) w) : jO pg rM (iB 2 (gH 2 (gH 7 qP))) Q g w :=
 kZ (kr := no) (l := []) h hn lU trivial
def DF (R : K1) (nJ b2 Ir d_6 Ff qC oD : aEm) (w : aEl) : Prop :=
 Nf (fun nJ b2 Ir Ff qC oD Rk w => DD R nJ b2 Ir Ff qC oD Rk w) nJ b2 Ir d_6 Ff qC oD w
def Ki (kn : K7) (nJ b2 Ir d_6 Ff qC : aEm) (w : aEl) : Prop :=
 gI pg (kV 139 [(0, (aEn 0)), (1, (aEn 1)), (2, (aEn 2)), (3, (aEn 4))]) w fun f2 w =>
 gI pg (hU .and 3 jC jC d_6 (aEn 3)) w fun f4 w =>
 gI pg (Rp 139 f2 f4) w fun f5 w =>
 gI pg (hU .gtr 3 jC jC f5 (aEn 0)) w fun f7 w =>
 lX f7
  (jE pg lB #[Ir, f5] w fun i0 w =>
  kn nJ b2 Ir d_6 Ff qC i0 w)
  (kn nJ b2 Ir d_6 Ff qC (.int .u64 0) w)
theorem Wy (kn : K7) (hn : N7 Q kn 0 2 5 6 7 8 9) (h : Ki kn (g 0) (g 2) (g 5) (g 6) (g 7) (g 8) w) : jO pg rM (iB 2 (gH 7 qP)) Q g w :=
 kZ (kr := no) (l := []) h hn lU trivial
def GF (R : K1) (nJ b2 Ir d_6 Ff qC : aEm) (w : aEl) : Prop :=
 Ki (fun nJ b2 Ir d_6 Ff qC oD w => DF R nJ b2 Ir d_6 Ff qC oD w) nJ b2 Ir d_6 Ff qC w
def Ks (kn : K6) (R : K1) (nJ : aEm) (w : aEl) : Prop :=
 gI pg (oK 101) w fun b2 w =>
 jE pg pW #[nJ] w fun c3 w =>
 jE pg lB #[c3, (aEn 1)] w fun c5 w =>
 gI pg (nE 32 3 c5) w fun c6 w =>
 jE pg lZ #[c3] w fun c9 w =>
 gI pg (hU .neq 24 (.tmp 19) (.const (aEn 0)) c9 (aEn 0)) w fun d0 w =>
 lX d0
  (gI pg (kV 101 []) w fun d1 w =>
  jE pg lZ #[c3] w fun d3 w =>
  gI pg (jQ 101 b2 d1) w fun _u w =>
  Nq pg 101 b2 w fun r0 => R (.tuple #[r0, (aEn 0), d3]) w)
  (gI pg (hU .and 3 jC jC c6 (aEn 8)) w fun d6 w =>
  gI pg (hU .neq 3 (.tmp 26) (.const (aEn 0)) d6 (aEn 0)) w fun d7 w =>
  lX d7
   (gI pg (kV 101 []) w fun d8 w =>
   gI pg (jQ 101 b2 d8) w fun _u w =>
   Nq pg 101 b2 w fun r0 => R (.tuple #[r0, (aEn 0), (aEn 11)]) w)
   (gI pg (hU .and 3 jC jC c6 (aEn 4)) w fun e0 w =>
   gI pg (hU .neq 3 (.tmp 30) (.const (aEn 0)) e0 (aEn 0)) w fun e1 w =>
   gI pg (kV 101 [(3, e1)]) w fun e2 w =>
   gI pg (oK 101) w fun Ff w =>
   gI pg (jQ 101 Ff e2) w fun _u w =>
   gI pg (hU .and 3 jC jC c6 (aEn 32)) w fun e4 w =>
   gI pg (hU .neq 3 (.tmp 34) (.const (aEn 0)) e4 (aEn 0)) w fun e5 w =>
   gI pg (sUn .not e5) w fun e7 w =>
   lX e7
    (jE pg lB #[c3, (aEn 1)] w fun e9 w =>
    jE pg F1 #[e9] w fun f0 w =>
    gI pg (jI 101 Ff 0) w fun f1 w =>
    gI pg (jQ 32 f1 f0) w fun _u w =>
    kn nJ b2 c3 c6 Ff e5 w)
    (kn nJ b2 c3 c6 Ff e5 w)))
theorem WZ (kn : K6) (R : K1) (hn : N6 Q kn 0 2 5 6 7 8) (hr : HR ID R Q) (h : Ks kn R (g 0) w) : jO pg rM (iB 7 qP) Q g w :=
 kZ (l := []) h hn hr trivial
def Lh (R : K1) (nJ : aEm) (w : aEl) : Prop :=
 Ks (fun nJ b2 Ir d_6 Ff qC w => GF R nJ b2 Ir d_6 Ff qC w) R nJ w
theorem Xi (R : K1) (hr : HR ID R Q) (h : Lh R (g 0) w) : jO pg rM qP Q g w :=
 nQ 7 (WZ _ g w (GF R) R (fun g w h => iZ (nQ 2 (Wy _ g w (DF R) (fun g w h => iZ (nQ 2 (X6 _ g w (DD R) (fun g w h => iZ (nQ 1 (YW _ g w (IH R) (fun g w h => iZ (nQ 1 (Ym _ g w (Iu R) (fun g w h => iZ (nQ 1 (Ze _ g w (DO R) (fun g w h => iZ (Y1 _ g w R hr h)) h))) h))) h))) h))) h))) hr h)
def aaP (a0 : aEm) (w : aEl) (R : K1) : Prop :=
 Lh R a0 w
theorem Z0 {a0 : aEm} {w : aEl} {R : K1} (h : aaP a0 w R) : jE pg JO #[a0] w R := by
 refine wQ (ann := rM) Tryz.f55 qP [a0] ID 94 TryzM.mixed Tryz.func55 ?_
 exact (Xi _ _ _ R (fun _ _ h => h) h)
def rK : FA := ⟨wB, fun i => match Nat.beq i 24 with | true => .leaf ([], []) [(false, []), (false, []), (false, []), (false, []), (false, []), (false, []), (false, []), (false, []), (false, []), (false, []), (false, []), (false, []), (false, [])] | false => match Nat.beq i 26 with | true => .leaf ([5], [(2, 5), (3, 5)]) [(false, []), (false, []), (false, []), (false, []), (false, []), (true, [1, 2]), (false, []), (false, [])] | false => .leaf ([], []) []⟩
def sC : List ResultVar := [.tmp 8, .cell 9 110, .tmp 10, .tmp 11]
noncomputable def qZ : Code := jX Tryz.f56
def qJ (R : K1) (pO BX g_6 b9 Js : aEm) (w : aEl) : Prop :=
 (dr w) = (dr w) /\
 gI pg (nK pO) (dr w) fun m8 w_ => w_ = (dr w) /\
 gI pg (jI 56 m8 3) (dr w) fun m9 w_ => w_ = (dr w) /\
 gI pg (jG 22 m9) (dr w) fun n0 w_ => w_ = (dr w) /\
 gI pg (nX .len #[22] 3 [n0]) (dr w) fun n1 w_ => w_ = (dr w) /\
 (dr w) = (dr w) /\
 gI pg (nX .len #[22] 3 [BX]) (dr w) fun n3 w_ => w_ = (dr w) /\
 gI pg (hU .add 3 jC jC n1 n3) (dr w) fun n4 w_ => w_ = (dr w) /\
 (dr w) = (dr w) /\
 gI pg (nK pO) (dr w) fun n6 w_ => w_ = (dr w) /\
 gI pg (jI 56 n6 2) (dr w) fun n7 w_ => w_ = (dr w) /\
 gI pg (jG 3 n7) (dr w) fun n8 w_ => w_ = (dr w) /\
 gI pg (hU .gtr 3 jC jC n4 n8) (dr w) fun n9 w_ => w_ = (dr w) /\
 lX n9
  (gI pg (kV 110 []) (dr w) fun o0 w =>
  gI pg (jQ 110 b9 o0) w fun _u w =>
  Nq pg 110 b9 w fun r1 => R (.tuple #[(.slice none 0 0), r1, (.bool false), (aEn 12)]) w)
  ((dr (dr w)) = (dr (dr w)) /\
  gI pg (jG 110 g_6) (dr (dr w)) fun o2 w_ => w_ = (dr (dr w)) /\
  gI pg (jI 65 Js 0) (dr (dr w)) fun o3 w_ => w_ = (dr (dr w)) /\
  gI pg (jG 4 o3) (dr (dr w)) fun o4 w_ => w_ = (dr (dr w)) /\
  (dr (dr w)) = (dr (dr w)) /\
  gI pg (jQ 110 b9 o2) (dr (dr w)) fun _u5 Zw =>
  (jD pg (jG 4 o3) o4 Zw /\ jD pg (jI 65 Js 0) o3 Zw /\ True) /\
  Zw = Zw /\
  Zw = Zw /\
  Nq pg 110 b9 Zw fun r1 => R (.tuple #[BX, r1, o4, (aEn 0)]) Zw)
theorem Od (R : K1) (hr : HR sC R Q) (h : qJ R (g 0) (g 1) (g 6) (g 9) (g 15) w) : jO pg rK (gH 2 (gH 9 qZ)) Q g w :=
 kZ (kn := no) (l := []) h lU hr trivial
def Bb (kn : K5) (R : K1) (pO BX xO g_6 b9 Lp Js IZ : aEm) (w : aEl) : Prop :=
 jE pg qT #[pO, IZ] w fun i1 w =>
 gI pg (jS i1 0) w fun i2 w =>
 gI pg (jS i1 1) w fun i3 w =>
 gI pg (hU .neq 24 (.tmp 54) (.const (aEn 0)) i3 (aEn 0)) w fun i5 w =>
 lX i5
  (gI pg (kV 110 []) w fun i6 w =>
  gI pg (jQ 110 b9 i6) w fun _u w =>
  Nq pg 110 b9 w fun r1 => R (.tuple #[(.slice none 0 0), r1, (.bool false), i3]) w)
  (gI pg (jI 65 Js 1) w fun i8 w =>
  gI pg (jG 3 i8) w fun i9 w =>
  gI pg (hU .eql 3 (.tmp 59) (.const (aEn 0)) i9 (aEn 0)) w fun l5 w =>
  lX l5
   (gI pg (nX .append #[22, 22] 22 [BX, i2]) w fun l8 w =>
   kn pO l8 g_6 b9 Js w)
   (gI pg (hU .eql 3 (.tmp 59) (.const (aEn 1)) i9 (aEn 1)) w fun m0 w =>
   lX m0
    (gI pg (jI 65 Js 2) w fun m3 w =>
    gI pg (jG 3 m3) w fun m4 w =>
    jE pg wD #[i2, m4] w fun m5 w =>
    gI pg (nX .append #[22, 22] 22 [BX, m5]) w fun m6 w =>
    kn pO m6 g_6 b9 Js w)
    (gI pg (jG 110 g_6) w fun j3 w =>
    jE pg ZR #[i2, BX, j3, xO, Lp] w fun j6 w =>
    gI pg (jS j6 0) w fun j7 w =>
    gI pg (jS j6 1) w fun j8 w =>
    gI pg (jS j6 2) w fun j9 w =>
    gI pg (jQ 110 g_6 j8) w fun _u w =>
    gI pg (hU .neq 24 (.tmp 70) (.const (aEn 0)) j9 (aEn 0)) w fun l1 w =>
    lX l1
     (gI pg (kV 110 []) w fun l2 w =>
     gI pg (jQ 110 b9 l2) w fun _u w =>
     Nq pg 110 b9 w fun r1 => R (.tuple #[(.slice none 0 0), r1, (.bool false), j9]) w)
     (kn pO j7 g_6 b9 Js w))))
theorem Ns (kn : K5) (R : K1) (hn : N5 Q kn 0 1 6 9 15) (hr : HR sC R Q) (h : Bb kn R (g 0) (g 1) (g 3) (g 6) (g 9) (g 12) (g 15) (g 16) w) : jO pg rK (iB 2 (gH 9 qZ)) Q g w :=
 kZ (l := []) h hn hr trivial
def rW (R : K1) (pO BX xO g_6 b9 Lp Js IZ : aEm) (w : aEl) : Prop :=
 Bb (fun pO BX g_6 b9 Js w => qJ R pO BX g_6 b9 Js w) R pO BX xO g_6 b9 Lp Js IZ w
def AT (kn : K8) (R : K1) (pO BX g_2 xO : aEm) (w : aEl) : Prop :=
 gI pg (RV 110 g_2) w fun g_6 w =>
 gI pg (oK 110) w fun b9 w =>
 gI pg (nX .min #[32, 32] 32 [xO, (.int .u64 131072)]) w fun c8 w =>
 gI pg (nE 32 3 c8) w fun c9 w =>
 jE pg qT #[pO, (aEn 3)] w fun d2 w =>
 gI pg (jS d2 0) w fun d3 w =>
 gI pg (jS d2 1) w fun d4 w =>
 gI pg (hU .neq 24 (.tmp 25) (.const (aEn 0)) d4 (aEn 0)) w fun d6 w =>
 lX d6
  (gI pg (kV 110 []) w fun d7 w =>
  gI pg (jQ 110 b9 d7) w fun _u w =>
  Nq pg 110 b9 w fun r1 => R (.tuple #[(.slice none 0 0), r1, (.bool false), d4]) w)
  (jE pg BK #[d3] w fun e1 w =>
  gI pg (jS e1 0) w fun e2 w =>
  gI pg (jS e1 1) w fun e3 w =>
  gI pg (oK 65) w fun Js w =>
  gI pg (jQ 65 Js e2) w fun _u w =>
  gI pg (hU .neq 24 (.tmp 34) (.const (aEn 0)) e3 (aEn 0)) w fun e5 w =>
  lX e5
   (gI pg (kV 110 []) w fun e6 w =>
   gI pg (jQ 110 b9 e6) w fun _u w =>
   Nq pg 110 b9 w fun r1 => R (.tuple #[(.slice none 0 0), r1, (.bool false), e3]) w)
   (gI pg (jI 65 Js 2) w fun e8 w =>
   gI pg (jG 3 e8) w fun e9 w =>
   gI pg (hU .gtr 3 jC jC e9 c9) w fun f1 w =>
   lX f1
    (gI pg (kV 110 []) w fun f2 w =>
    gI pg (jQ 110 b9 f2) w fun _u w =>
    Nq pg 110 b9 w fun r1 => R (.tuple #[(.slice none 0 0), r1, (.bool false), (aEn 12)]) w)
    (gI pg (jI 65 Js 2) w fun f3 w =>
    gI pg (jG 3 f3) w fun f4 w =>
    gI pg (jI 65 Js 1) w fun f5 w =>
    gI pg (jG 3 f5) w fun f6 w =>
    gI pg (hU .eql 3 (.tmp 46) (.const (aEn 1)) f6 (aEn 1)) w fun f7 w =>
    lX f7
     (kn pO BX xO g_6 b9 c9 Js (aEn 1) w)
     (kn pO BX xO g_6 b9 c9 Js f4 w))))
theorem Nt (kn : K8) (R : K1) (hn : N8 Q kn 0 1 3 6 9 12 15 16) (hr : HR sC R Q) (h : AT kn R (g 0) (g 1) (g 2) (g 3) w) : jO pg rK (iB 9 qZ) Q g w :=
 kZ (l := []) h hn hr trivial
def AZ (R : K1) (pO BX g_2 xO : aEm) (w : aEl) : Prop :=
 AT (fun pO BX xO g_6 b9 Lp Js IZ w => rW R pO BX xO g_6 b9 Lp Js IZ w) R pO BX g_2 xO w
theorem Nr (R : K1) (hr : HR sC R Q) (h : AZ R (g 0) (g 1) (g 2) (g 3) w) : jO pg rK qZ Q g w :=
 nQ 9 (Nt _ g w (rW R) R (fun g w h => iZ (nQ 2 (Ns _ g w (qJ R) R (fun g w h => iZ (Od _ g w R hr h)) hr h))) hr h)
def KO (a0 a1 a2 a3 : aEm) (w : aEl) (R : K1) : Prop :=
 AZ R a0 a1 a2 a3 w
theorem Pa {a0 a1 a2 a3 : aEm} {w : aEl} {R : K1} (h : KO a0 a1 a2 a3 w R) : jE pg wB #[a0, a1, a2, a3] w R := by
 refine wQ (ann := rK) Tryz.f56 qZ [a0, a1, a2, a3] sC 105 TryzM.mixed Tryz.func56 ?_
 exact (Nr _ _ _ R (fun _ _ h => h) h)
def Fm : FA := ⟨sD, fun i => .leaf ([], []) []⟩
def FN : List ResultVar := [.tmp 4]
noncomputable def DN : Code := jX Tryz.f57
def zU (R : K1) (pO BX : aEm) (w : aEl) : Prop :=
 jE pg qT #[pO, (aEn 4)] w fun c0 w =>
 gI pg (jS c0 0) w fun c1 w =>
 gI pg (jS c0 1) w fun c2 w =>
 gI pg (hU .neq 24 (.tmp 13) (.const (aEn 0)) c2 (aEn 0)) w fun c4 w =>
 lX c4
  (R c2 w)
  (jE pg pW #[c1] w fun c7 w =>
  jE pg lB #[c7, (aEn 4)] w fun c8 w =>
  jE pg OG #[BX] w fun d1 w =>
  gI pg (hU .and 32 jC jC d1 (.int .u64 4294967295)) w fun d2 w =>
  gI pg (hU .neq 32 (.tmp 19) (.tmp 22) c8 d2) w fun d3 w =>
  lX d3
   (R (aEn 13) w)
   (R (aEn 0) w))
theorem Mq (R : K1) (hr : HR FN R Q) (h : zU R (g 0) (g 1) w) : jO pg Fm DN Q g w :=
 kZ (kn := no) (l := []) h lU hr trivial
def JJ (a0 a1 : aEm) (w : aEl) (R : K1) : Prop :=
 zU R a0 a1 w
theorem Oo {a0 a1 : aEm} {w : aEl} {R : K1} (h : JJ a0 a1 w R) : jE pg sD #[a0, a1] w R := by
 refine wQ (ann := Fm) Tryz.f57 DN [a0, a1] FN 24 TryzM.mixed Tryz.func57 ?_
 exact (Mq _ _ _ R (fun _ _ h => h) h)
def mN : FA := ⟨yV, fun i => .leaf ([], []) []⟩
def pE : List ResultVar := [.tmp 4]
noncomputable def mE : Code := jX Tryz.f58
def sJ (R : K1)  (w : aEl) : Prop :=
 R (aEn (-1)) w
theorem JL (R : K1) (hr : HR pE R Q) (h : sJ R w) : jO pg mN (gH 1 (gH 1 mE)) Q g w :=
 kZ (kn := no) (l := []) h lU hr trivial
def sK (kn : K4) (k0 : K0) (R : K1) (pO Zp b7 b8 : aEm) (w : aEl) : Prop :=
 gI pg (hU .lss 3 jC jC b8 b7) w fun b9 w =>
 lX b9
  (gI pg (jT 22 pO b8) w fun c4 w =>
  gI pg (jG 5 c4) w fun c5 w =>
  gI pg (EC Zp [c5]) w fun c6 w =>
  lX c6
   (R b8 w)
   (gI pg (hU .add 3 jC jC b8 (aEn 1)) w fun c8 w =>
   kn pO Zp b7 c8 w))
  (k0 w)
theorem JN (kn : K4) (k0 : K0) (R : K1) (hn : N4 Q kn 0 1 7 8) (h0 : E0 Q k0 0) (hr : HR pE R Q) (h : sK kn k0 R (g 0) (g 1) (g 7) (g 8) w) : jO pg mN (bI (bI (gH 1 (iB 1 (gH 1 mE))))) Q g w :=
 kZ (l := [(0, fun g w => k0 w)]) h hn hr ⟨h0, trivial⟩
def wI (k0 : K0) (R : K1) (pO Zp b7 b8 : aEm) (w : aEl) : Prop :=
 kP (fun (X : aEm -> K0) (t : aEm) (w : aEl) => sK (fun _ _ _ b8 w => X b8 w) k0 R pO Zp b7 t w) b8 w
theorem JV (k0 : K0) (R : K1) (h0 : E0 Q k0 0) (hr : HR pE R Q) (h : wI k0 R (g 0) (g 1) (g 7) (g 8) w) : jO pg mN (bI (gH 1 (iB 1 (gH 1 mE)))) Q g w := by
 refine Ov (fun g : Env => g 8) (fun X t w => sK (fun _ _ _ b8 w => X b8 w) k0 R (g 0) (g 1) (g 7) t w) h (fun X g1 w1 ha hL => ?_)
 rw [<- rI 0 ha, <- rI 1 ha, <- rI 7 ha] at hL
 exact (JN _ g1 w1 (fun _ _ _ b8 w => X b8 w) k0 R (fun _ _ h => h) h0 hr hL)
def wL (kn : K0) (R : K1) (pO Zp b7 b8 : aEm) (w : aEl) : Prop :=
 wI kn R pO Zp b7 b8 w
def wJ (kn : K4) (pO Zp : aEm) (w : aEl) : Prop :=
 gI pg (nX .len #[22] 3 [pO]) w fun b7 w =>
 kn pO Zp b7 (aEn 0) w
theorem JP (kn : K4) (hn : N4 Q kn 0 1 7 8) (h : wJ kn (g 0) (g 1) w) : jO pg mN (iB 1 (iB 1 (gH 1 mE))) Q g w :=
 kZ (kr := no) (l := []) h hn lU trivial
def wN (kn : K0) (R : K1) (pO Zp : aEm) (w : aEl) : Prop :=
 wJ (fun pO Zp b7 b8 w => wL kn R pO Zp b7 b8 w) pO Zp w
def wO (R : K1) (pO Zp : aEm) (w : aEl) : Prop :=
 wN (fun  w => sJ R w) R pO Zp w
theorem JY (kn : K0) (R : K1) (hn : N0 Q kn) (hr : HR pE R Q) (h : wN kn R (g 0) (g 1) w) : jO pg mN (iB 1 (gH 1 mE)) Q g w :=
 nQ 1 (JP _ g w (wL kn R) (fun g w h => iZ (Iw 0 (JV _ g w kn R hn hr h))) h)
def wM (kn : K2) (pO Zp : aEm) (w : aEl) : Prop :=
 kn pO Zp w
theorem JR (kn : K2) (hn : N2 Q kn 0 1) (h : wM kn (g 0) (g 1) w) : jO pg mN (iB 1 mE) Q g w :=
 kZ (kr := no) (l := []) h hn lU trivial
def wK (R : K1) (pO Zp : aEm) (w : aEl) : Prop :=
 wM (fun pO Zp w => wO R pO Zp w) pO Zp w
theorem JU (R : K1) (hr : HR pE R Q) (h : wK R (g 0) (g 1) w) : jO pg mN mE Q g w :=
 nQ 1 (JR _ g w (wO R) (fun g w h => iZ (nQ 1 (JY _ g w (fun  w => sJ R w) R (fun g w h => iZ (JL _ g w R hr h)) hr h))) h)
def Hb (a0 a1 : aEm) (w : aEl) (R : K1) : Prop :=
 wK R a0 a1 w
theorem J4 {a0 a1 : aEm} {w : aEl} {R : K1} (h : Hb a0 a1 w R) : jE pg yV #[a0, a1] w R := by
 refine wQ (ann := mN) Tryz.f58 mE [a0, a1] pE 19 TryzM.mixed Tryz.func58 ?_
 exact (JU _ _ _ R (fun _ _ h => h) h)
def uV : FA := ⟨pH, fun i => match Nat.beq i 1 with | true => .leaf ([], []) [(false, []), (false, []), (false, []), (false, []), (false, []), (false, []), (false, []), (false, []), (false, []), (false, []), (false, [])] | false => match Nat.beq i 7 with | true => .leaf ([6], []) [(false, []), (false, []), (false, []), (false, []), (false, []), (false, []), (true, [])] | false => .leaf ([], []) []⟩
def Tw : List ResultVar := []
noncomputable def tY : Code := jX Tryz.f59
def pZ (kn : K0) (tI oE k_4 auQ : aEm) (w : aEl) : Prop :=
 lX auQ
  ((dr w) = (dr w) /\
  gI pg (nK tI) (dr w) fun f9 w_ => w_ = (dr w) /\
  gI pg (jI 119 f9 2) (dr w) fun i0 w_ => w_ = (dr w) /\
  gI pg (jG 116 i0) (dr w) fun i1 w_ => w_ = (dr w) /\
  gI pg (jG 146 k_4) (dr w) fun i2 w_ => w_ = (dr w) /\
  (dr w) = (dr w) /\
  gI pg (aaG 116 i1 i2 oE) (dr w) fun _u6 aBt =>
  kn aBt)
  (kn w)
theorem O3 (kn : K0) (hn : N0 Q kn) (h : pZ kn (g 0) (g 1) (g 4) (g 5) w) : jO pg uV (gH 3 tY) Q g w :=
 kZ (kr := no) (l := []) h hn lU trivial
def sQ (kn : K4) (tI oE : aEm) (w : aEl) : Prop :=
 jE pg sM #[tI, oE] w fun c1 w =>
 gI pg (jS c1 0) w fun c2 w =>
 gI pg (jS c1 1) w fun c3 w =>
 gI pg (oK 146) w fun k_4 w =>
 gI pg (jQ 146 k_4 c2) w fun _u w =>
 (dr w) = (dr w) /\
 gI pg (nK tI) (dr w) fun c6 w_ => w_ = (dr w) /\
 gI pg (jI 119 c6 2) (dr w) fun c7 w_ => w_ = (dr w) /\
 gI pg (jG 116 c7) (dr w) fun c8 w_ => w_ = (dr w) /\
 gI pg (jG 146 k_4) (dr w) fun c9 w_ => w_ = (dr w) /\
 gI pg (agU 116 c8 c9 true) (dr w) fun d0 w_ => w_ = (dr w) /\
 (dr w) = (dr w) /\
 gI pg (jS d0 0) (dr w) fun d1 w_ => w_ = (dr w) /\
 gI pg (jS d0 1) (dr w) fun d2 w_ => w_ = (dr w) /\
 (dr w) = (dr w) /\
 (dr w) = (dr w) /\
 gI pg (sUn .not c3) (dr w) fun d5 w =>
 Gd (kO d5 false) (fun K => K d2 w) w fun d7 w =>
 Gd (kO d5 false) (fun K => gI pg (sUn .not d7) w K) w fun d8 w =>
 gI pg (mD d5 (.bool true) d8) w fun d9 w =>
 lX d9
  (gI pg (nK tI) w fun e1 w =>
  gI pg (jI 119 e1 3) w fun e2 w =>
  gI pg (jG 117 e2) w fun e3 w =>
  gI pg (jT 117 e3 oE) w fun e5 w =>
  gI pg (jQ 3 e5 (aEn (-1))) w fun _u w =>
  kn tI oE k_4 c3 w)
  (gI pg (hU .lss 3 jC jC d1 oE) w fun e9 w =>
  lX e9
   (gI pg (nK tI) w fun f1 w =>
   gI pg (jI 119 f1 3) w fun f2 w =>
   gI pg (jG 117 f2) w fun f3 w =>
   gI pg (jT 117 f3 oE) w fun f6 w =>
   gI pg (jQ 3 f6 d1) w fun _u w =>
   kn tI oE k_4 c3 w)
   (kn tI oE k_4 c3 w))
theorem OF (kn : K4) (hn : N4 Q kn 0 1 4 5) (h : sQ kn (g 0) (g 1) w) : jO pg uV (iB 3 tY) Q g w :=
 kZ (kr := no) (l := []) h hn lU trivial
def sU (kn : K0) (tI oE : aEm) (w : aEl) : Prop :=
 sQ (fun tI oE k_4 auQ w => pZ kn tI oE k_4 auQ w) tI oE w
theorem Pr (kn : K0) (hn : N0 Q kn) (h : sU kn (g 0) (g 1) w) : jO pg uV tY Q g w :=
 nQ 3 (OF _ g w (pZ kn) (fun g w h => iZ (O3 _ g w kn hn h)) h)
def Bw (a0 a1 : aEm) (w : aEl) (R : K1) : Prop :=
 sU (fun  w => R (.tuple #[]) w) a0 a1 w
theorem QM {a0 a1 : aEm} {w : aEl} {R : K1} (h : Bw a0 a1 w R) : jE pg pH #[a0, a1] w R := by
 refine wQ (ann := uV) Tryz.f59 tY [a0, a1] Tw 54 TryzM.mixed Tryz.func59 ?_
 exact (Pr _ _ _ (fun  w => R (.tuple #[]) w) (fun _ _ h => h) h)
def kQ : FA := ⟨tP, fun i => match Nat.beq i 4 with | true => .leaf ([], []) [(false, []), (false, []), (false, []), (false, []), (false, []), (false, []), (false, []), (false, []), (false, []), (false, []), (false, [])] | false => .leaf ([], []) []⟩
def wG : List ResultVar := [.tmp 4, .tmp 5]
noncomputable def kM : Code := jX Tryz.f60
def B4 (R : K1) (kL lH : aEm) (w : aEl) : Prop :=
 R (.tuple #[kL, lH]) w
theorem Ox (R : K1) (hr : HR wG R Q) (h : B4 R (g 10) (g 11) w) : jO pg kQ (gH 1 (gH 6 (bI (gH 1 kM)))) Q g w :=
 kZ (kn := no) (l := []) h lU hr trivial
def pX (kn : K7) (tI oE nY kL lH e5 e6 : aEm) (w : aEl) : Prop :=
 gI pg (hU .add 3 jC jC e6 (aEn 1)) w fun i8 w =>
 kn tI oE nY kL lH e5 i8 w
theorem OA (kn : K7) (hn : N7 Q kn 0 1 8 10 11 35 36) (h : pX kn (g 0) (g 1) (g 8) (g 10) (g 11) (g 35) (g 36) w) : jO pg kQ (gH 1 (gH 2 (bI (bI (gH 1 (iB 1 (gH 6 (bI (gH 1 kM))))))))) Q g w :=
 kZ (kr := no) (l := []) h hn lU trivial
def mT (kn : K7) (k0 : K2) (tI oE nY kL lH e5 e6 : aEm) (w : aEl) : Prop :=
 gI pg (nK tI) w fun i0 w =>
 gI pg (jI 119 i0 3) w fun i1 w =>
 gI pg (jG 117 i1) w fun i2 w =>
 gI pg (jT 117 i2 nY) w fun i4 w =>
 gI pg (jG 3 i4) w fun i5 w =>
 gI pg (hU .lss 3 jC jC i5 (aEn 0)) w fun i7 w =>
 lX i7
  (k0 kL lH w)
  (kn tI oE i5 kL lH e5 e6 w)
theorem Pn (kn : K7) (k0 : K2) (hn : N7 Q kn 0 1 8 10 11 35 36) (h0 : E2 Q k0 0 10 11) (h : mT kn k0 (g 0) (g 1) (g 8) (g 10) (g 11) (g 35) (g 36) w) : jO pg kQ (gH 1 (bI (iB 1 (gH 2 (bI (bI (gH 1 (iB 1 (gH 6 (bI (gH 1 kM))))))))))) Q g w :=
 kZ (kr := no) (l := [(0, fun g w => k0 (g 10) (g 11) w)]) h hn lU ⟨h0, trivial⟩
def rB (kn : K7) (tI oE nY kL lH e5 e6 : aEm) (w : aEl) : Prop :=
 jE pg xJ #[tI, nY, oE] w fun f1 w =>
 gI pg (hU .gtr 3 jC jC f1 kL) w fun f4 w =>
 lX f4
  (gI pg (hU .sub 3 jC jC oE nY) w fun f8 w =>
  kn tI oE nY f1 f8 e5 e6 w)
  (kn tI oE nY kL lH e5 e6 w)
theorem OI (kn : K7) (hn : N7 Q kn 0 1 8 10 11 35 36) (h : rB kn (g 0) (g 1) (g 8) (g 10) (g 11) (g 35) (g 36) w) : jO pg kQ (iB 1 (bI (iB 1 (gH 2 (bI (bI (gH 1 (iB 1 (gH 6 (bI (gH 1 kM))))))))))) Q g w :=
 kZ (kr := no) (l := []) h hn lU trivial
def sW (kn : K7) (k0 : K2) (tI oE nY kL lH e5 e6 : aEm) (w : aEl) : Prop :=
 rB (fun tI oE nY kL lH e5 e6 w => mT kn k0 tI oE nY kL lH e5 e6 w) tI oE nY kL lH e5 e6 w
def qY (kn : K7) (k0 : K2) (tI oE nY kL lH e5 e6 : aEm) (w : aEl) : Prop :=
 sW kn k0 tI oE nY kL lH e5 e6 w
def qX (kn : K7) (k0 : K2) (tI oE nY kL lH e5 e6 : aEm) (w : aEl) : Prop :=
 qY (fun tI oE nY kL lH e5 e6 w => pX kn tI oE nY kL lH e5 e6 w) k0 tI oE nY kL lH e5 e6 w
theorem OR (kn : K7) (k0 : K2) (hn : N7 Q kn 0 1 8 10 11 35 36) (h0 : E2 Q k0 0 10 11) (h : qY kn k0 (g 0) (g 1) (g 8) (g 10) (g 11) (g 35) (g 36) w) : jO pg kQ (iB 1 (gH 2 (bI (bI (gH 1 (iB 1 (gH 6 (bI (gH 1 kM))))))))) Q g w :=
 Iw 1 (nQ 1 (OI _ g w (mT kn k0) (fun g w h => iZ (Pn _ g w kn k0 hn h0 h)) h))
def rA (kn : K7) (k0 : K2) (tI oE nY kL lH e5 e6 : aEm) (w : aEl) : Prop :=
 gI pg (hU .lss 3 jC jC e6 e5) w fun e7 w =>
 lX e7
  (kn tI oE nY kL lH e5 e6 w)
  (k0 kL lH w)
theorem O0 (kn : K7) (k0 : K2) (hn : N7 Q kn 0 1 8 10 11 35 36) (h0 : E2 Q k0 0 10 11) (h : rA kn k0 (g 0) (g 1) (g 8) (g 10) (g 11) (g 35) (g 36) w) : jO pg kQ (iB 2 (bI (bI (gH 1 (iB 1 (gH 6 (bI (gH 1 kM)))))))) Q g w :=
 kZ (kr := no) (l := [(0, fun g w => k0 (g 10) (g 11) w)]) h hn lU ⟨h0, trivial⟩
def pV (kn : K7) (k0 : K2) (tI oE nY kL lH e5 e6 : aEm) (w : aEl) : Prop :=
 rA (fun tI oE nY kL lH e5 e6 w => qX kn k0 tI oE nY kL lH e5 e6 w) k0 tI oE nY kL lH e5 e6 w
def uX (k0 : K2) (tI oE nY kL lH e5 e6 : aEm) (w : aEl) : Prop :=
 kP (fun (X : (aEm × aEm × aEm × aEm) -> K0) (t : aEm × aEm × aEm × aEm) (w : aEl) => pV (fun _ _ nY kL lH _ e6 w => X (nY, kL, lH, e6) w) k0 tI oE t.1 t.2.1 t.2.2.1 e5 t.2.2.2 w) (nY, kL, lH, e6) w
theorem Pk (kn : K7) (k0 : K2) (hn : N7 Q kn 0 1 8 10 11 35 36) (h0 : E2 Q k0 0 10 11) (h : pV kn k0 (g 0) (g 1) (g 8) (g 10) (g 11) (g 35) (g 36) w) : jO pg kQ (bI (bI (gH 1 (iB 1 (gH 6 (bI (gH 1 kM))))))) Q g w :=
 nQ 2 (O0 _ g w (qX kn k0) k0 (fun g w h => iZ (nQ 1 (OR _ g w (pX kn) k0 (fun g w h => iZ (OA _ g w kn hn h)) h0 h))) h0 h)
theorem NS (k0 : K2) (h0 : E2 Q k0 0 10 11) (h : uX k0 (g 0) (g 1) (g 8) (g 10) (g 11) (g 35) (g 36) w) : jO pg kQ (bI (gH 1 (iB 1 (gH 6 (bI (gH 1 kM)))))) Q g w := by
 refine Ov (fun g : Env => (g 8, g 10, g 11, g 36)) (fun X t w => pV (fun _ _ nY kL lH _ e6 w => X (nY, kL, lH, e6) w) k0 (g 0) (g 1) t.1 t.2.1 t.2.2.1 (g 35) t.2.2.2 w) h (fun X g1 w1 ha hL => ?_)
 rw [<- rI 0 ha, <- rI 1 ha, <- rI 35 ha] at hL
 exact (Pk _ g1 w1 (fun _ _ nY kL lH _ e6 w => X (nY, kL, lH, e6) w) k0 (fun _ _ h => h) h0 hL)
def G5 (kn : K2) (tI oE nY kL lH e5 e6 : aEm) (w : aEl) : Prop :=
 uX kn tI oE nY kL lH e5 e6 w
def AX (kn : K7) (tI oE nY kL lH : aEm) (w : aEl) : Prop :=
 gI pg (nK tI) w fun e3 w =>
 gI pg (jI 119 e3 4) w fun e4 w =>
 gI pg (jG 3 e4) w fun e5 w =>
 kn tI oE nY kL lH e5 (aEn 0) w
theorem Nz (kn : K7) (hn : N7 Q kn 0 1 8 10 11 35 36) (h : AX kn (g 0) (g 1) (g 8) (g 10) (g 11) w) : jO pg kQ (iB 1 (iB 1 (gH 6 (bI (gH 1 kM))))) Q g w :=
 kZ (kr := no) (l := []) h hn lU trivial
def AW (kn : K2) (tI oE nY kL lH : aEm) (w : aEl) : Prop :=
 AX (fun tI oE nY kL lH e5 e6 w => G5 kn tI oE nY kL lH e5 e6 w) tI oE nY kL lH w
def A7 (R : K1) (tI oE nY kL lH : aEm) (w : aEl) : Prop :=
 AW (fun kL lH w => B4 R kL lH w) tI oE nY kL lH w
theorem M5 (kn : K2) (hn : N2 Q kn 10 11) (h : AW kn (g 0) (g 1) (g 8) (g 10) (g 11) w) : jO pg kQ (iB 1 (gH 6 (bI (gH 1 kM)))) Q g w :=
 nQ 1 (Nz _ g w (G5 kn) (fun g w h => iZ (Iw 0 (NS _ g w kn hn h))) h)
def A8 (kn : K5) (R : K1) (tI oE : aEm) (w : aEl) : Prop :=
 jE pg sM #[tI, oE] w fun c6 w =>
 gI pg (jS c6 0) w fun c7 w =>
 gI pg (jS c6 1) w fun c8 w =>
 gI pg (oK 146) w fun k_6 w =>
 gI pg (jQ 146 k_6 c7) w fun _u w =>
 gI pg (sUn .not c8) w fun d0 w =>
 lX d0
  (R (.tuple #[(aEn 0), (aEn 0)]) w)
  ((dr w) = (dr w) /\
  gI pg (nK tI) (dr w) fun d3 w_ => w_ = (dr w) /\
  gI pg (jI 119 d3 2) (dr w) fun d4 w_ => w_ = (dr w) /\
  gI pg (jG 116 d4) (dr w) fun d5 w_ => w_ = (dr w) /\
  gI pg (jG 146 k_6) (dr w) fun d6 w_ => w_ = (dr w) /\
  gI pg (agU 116 d5 d6 true) (dr w) fun d7 w_ => w_ = (dr w) /\
  (dr w) = (dr w) /\
  gI pg (jS d7 0) (dr w) fun d8 w_ => w_ = (dr w) /\
  gI pg (jS d7 1) (dr w) fun d9 w_ => w_ = (dr w) /\
  (dr w) = (dr w) /\
  (dr w) = (dr w) /\
  gI pg (sUn .not d9) (dr w) fun e1 w =>
  lX e1
   (R (.tuple #[(aEn 0), (aEn 0)]) w)
   (kn tI oE d8 (aEn 0) (aEn 0) w))
theorem Oa (kn : K5) (R : K1) (hn : N5 Q kn 0 1 8 10 11) (hr : HR wG R Q) (h : A8 kn R (g 0) (g 1) w) : jO pg kQ (iB 6 (bI (gH 1 kM))) Q g w :=
 kZ (l := []) h hn hr trivial
def Hf (R : K1) (tI oE : aEm) (w : aEl) : Prop :=
 A8 (fun tI oE nY kL lH w => A7 R tI oE nY kL lH w) R tI oE w
def A4 (R : K1) (tI oE : aEm) (w : aEl) : Prop :=
 Hf R tI oE w
def Bo (kn : K2) (tI oE : aEm) (w : aEl) : Prop :=
 kn tI oE w
theorem No (kn : K2) (hn : N2 Q kn 0 1) (h : Bo kn (g 0) (g 1) w) : jO pg kQ (iB 1 kM) Q g w :=
 kZ (kr := no) (l := []) h hn lU trivial
def Be (R : K1) (tI oE : aEm) (w : aEl) : Prop :=
 Bo (fun tI oE w => A4 R tI oE w) tI oE w
theorem NU (R : K1) (hr : HR wG R Q) (h : Be R (g 0) (g 1) w) : jO pg kQ kM Q g w :=
 nQ 1 (No _ g w (A4 R) (fun g w h => iZ (scD (nQ 6 (Oa _ g w (A7 R) R (fun g w h => iZ (nQ 1 (M5 _ g w (B4 R) (fun g w h => iZ (Ox _ g w R hr h)) h))) hr h)))) h)
def My (a0 a1 : aEm) (w : aEl) (R : K1) : Prop :=
 Be R a0 a1 w
theorem QG {a0 a1 : aEm} {w : aEl} {R : K1} (h : My a0 a1 w R) : jE pg tP #[a0, a1] w R := by
 refine wQ (ann := kQ) Tryz.f60 kM [a0, a1] wG 61 TryzM.mixed Tryz.func60 ?_
 exact (NU _ _ _ R (fun _ _ h => h) h)
def O4 : FA := ⟨GV, fun i => .leaf ([], []) []⟩
def Q8 : List ResultVar := [.tmp 2, .tmp 3]
noncomputable def ML : Code := jX Tryz.f63
def Jv (R : K1) (lK : aEm) (w : aEl) : Prop :=
 gI pg (nX .len #[22] 3 [lK]) w fun b5 w =>
 gI pg (hU .gtr 3 jC jC b5 (aEn 131072)) w fun b6 w =>
 lX b6
  (R (.tuple #[(.slice none 0 0), (aEn 1)]) w)
  (gI pg (nX .len #[22] 3 [lK]) w fun b8 w =>
  jE pg xL #[(aEn 0), b8] w fun b9 w =>
  gI pg (nX .append #[22, 22] 22 [b9, lK]) w fun c1 w =>
  R (.tuple #[c1, (aEn 0)]) w)
theorem VZ (R : K1) (hr : HR Q8 R Q) (h : Jv R (g 0) w) : jO pg O4 ML Q g w :=
 kZ (kn := no) (l := []) h lU hr trivial
def WW (a0 : aEm) (w : aEl) (R : K1) : Prop :=
 Jv R a0 w
theorem Wu {a0 : aEm} {w : aEl} {R : K1} (h : WW a0 w R) : jE pg GV #[a0] w R := by
 refine wQ (ann := O4) Tryz.f63 ML [a0] Q8 12 TryzM.mixed Tryz.func63 ?_
 exact (VZ _ _ _ R (fun _ _ h => h) h)
def IN : FA := ⟨qS, fun i => .leaf ([], []) []⟩
def US : List ResultVar := []
noncomputable def G7 : Code := jX Tryz.f64
def xI (kn : K0) (nJ e_1 b2 : aEm) (w : aEl) : Prop :=
 gI pg (hU .eql 24 (.tmp 5) (.const (aEn 0)) e_1 (aEn 0)) w fun b6 w =>
 lX b6
  (gI pg (jG 22 b2) w fun b7 w =>
  gI pg (lT 137 2 [(0, b7), (1, nJ)]) w fun b9 w =>
  jE pg BN #[b9] w fun c0 w =>
  gI pg (jQ 22 b2 c0) w fun _u w =>
  kn w)
  (kn w)
theorem QB (kn : K0) (hn : N0 Q kn) (h : xI kn (g 0) (g 1) (g 2) w) : jO pg IN G7 Q g w :=
 kZ (kr := no) (l := []) h hn lU trivial
def H2 (a0 a1 a2 : aEm) (w : aEl) (R : K1) : Prop :=
 xI (fun  w => R (.tuple #[]) w) a0 a1 a2 w
theorem Hk {a0 a1 a2 : aEm} {w : aEl} {R : K1} (h : H2 a0 a1 a2 w R) : jE pg qS #[a0, a1, a2] w R := by
 refine wQ (ann := IN) Tryz.f64 G7 [a0, a1, a2] US 11 TryzM.mixed Tryz.func64 ?_
 exact (QB _ _ _ (fun  w => R (.tuple #[]) w) (fun _ _ h => h) h)
def Jx : FA := ⟨BN, fun i => .leaf ([], []) []⟩
def Kf : List ResultVar := [.tmp 2]
noncomputable def IY : Code := jX Tryz.f65
def EH (R : K1) (lK : aEm) (w : aEl) : Prop :=
 jE pg Bt #[lK, (.func (.func 83) #[] #[])] w fun b4 w =>
 R b4 w
theorem Sg (R : K1) (hr : HR Kf R Q) (h : EH R (g 0) w) : jO pg Jx IY Q g w :=
 kZ (kn := no) (l := []) h lU hr trivial
def Rh (a0 : aEm) (w : aEl) (R : K1) : Prop :=
 EH R a0 w
theorem TI {a0 : aEm} {w : aEl} {R : K1} (h : Rh a0 w R) : jE pg BN #[a0] w R := by
 refine wQ (ann := Jx) Tryz.f65 IY [a0] Kf 5 TryzM.mixed Tryz.func65 ?_
 exact (Sg _ _ _ R (fun _ _ h => h) h)
def Ms : FA := ⟨Ee, fun i => .leaf ([], []) []⟩
def O9 : List ResultVar := [.tmp 4, .tmp 5]
noncomputable def J5 : Code := jX Tryz.f66
def Ie (R : K1) (X4 G9 : aEm) (w : aEl) : Prop :=
 gI pg (hU .lss 3 jC jC G9 (aEn 0)) w fun b7 w =>
 Gd (kO b7 false) (fun K => K G9 w) w fun b9 w =>
 Gd (kO b7 false) (fun K => gI pg (hU .gtr 3 jC jC b9 (aEn 131072)) w K) w fun c0 w =>
 gI pg (mD b7 (.bool true) c0) w fun c1 w =>
 lX c1
  (R (.tuple #[(.slice none 0 0), (aEn 1)]) w)
  (jE pg xL #[(aEn 1), G9] w fun c3 w =>
  gI pg (lT 22 1 [(0, X4)]) w fun c5 w =>
  gI pg (nX .append #[22, 22] 22 [c3, c5]) w fun c6 w =>
  R (.tuple #[c6, (aEn 0)]) w)
theorem Un (R : K1) (hr : HR O9 R Q) (h : Ie R (g 0) (g 1) w) : jO pg Ms J5 Q g w :=
 kZ (kn := no) (l := []) h lU hr trivial
def Vs (a0 a1 : aEm) (w : aEl) (R : K1) : Prop :=
 Ie R a0 a1 w
theorem VI {a0 a1 : aEm} {w : aEl} {R : K1} (h : Vs a0 a1 w R) : jE pg Ee #[a0, a1] w R := by
 refine wQ (ann := Ms) Tryz.f66 J5 [a0, a1] O9 17 TryzM.mixed Tryz.func66 ?_
 exact (Un _ _ _ R (fun _ _ h => h) h)
def lG : FA := ⟨JQ, fun i => .leaf ([], []) []⟩
def IA : List ResultVar := [.tmp 2, .tmp 3]
noncomputable def kS : Code := jX Tryz.f67
def IK (R : K1) (lM : aEm) (w : aEl) : Prop :=
 R (.tuple #[lM, (aEn 0)]) w
theorem Y7 (R : K1) (hr : HR IA R Q) (h : IK R (g 11) w) : jO pg lG (gH 1 (gH 4 (gH 1 (gH 3 kS)))) Q g w :=
 kZ (kn := no) (l := []) h lU hr trivial
def DP (kn : K5) (uK lM i1 i2 i3 : aEm) (w : aEl) : Prop :=
 gI pg (hU .add 3 jC jC i3 (aEn 1)) w fun j8 w =>
 kn uK lM i1 i2 j8 w
theorem Yb (kn : K5) (hn : N5 Q kn 10 11 51 52 53) (h : DP kn (g 10) (g 11) (g 51) (g 52) (g 53) w) : jO pg lG (gH 1 (gH 2 (bI (bI (gH 1 (iB 1 (gH 4 (gH 1 (gH 3 kS))))))))) Q g w :=
 kZ (kr := no) (l := []) h hn lU trivial
def DR (kn : K5) (uK lM avK i1 i2 i3 : aEm) (w : aEl) : Prop :=
 gI pg (nE 3 5 avK) w fun j5 w =>
 gI pg (lT 22 1 [(0, j5)]) w fun j6 w =>
 gI pg (nX .append #[22, 22] 22 [lM, j6]) w fun j7 w =>
 kn uK j7 i1 i2 i3 w
theorem YP (kn : K5) (hn : N5 Q kn 10 11 51 52 53) (h : DR kn (g 10) (g 11) (g 14) (g 51) (g 52) (g 53) w) : jO pg lG (gH 3 (bI (iB 1 (gH 2 (bI (bI (gH 1 (iB 1 (gH 4 (gH 1 (gH 3 kS))))))))))) Q g w :=
 kZ (kr := no) (l := []) h hn lU trivial
def Nh (kn : K6) (uK lM i1 i2 i3 : aEm) (w : aEl) : Prop :=
 gI pg (jT 117 i1 i3) w fun i5 w =>
 gI pg (jG 3 i5) w fun i6 w =>
 gI pg (hU .gtr 3 jC jC i6 (aEn 0)) w fun i8 w =>
 lX i8
  (gI pg (hU .add 3 jC jC uK (aEn 1)) w fun j0 w =>
  gI pg (hU .sub 3 jC jC j0 i6) w fun j2 w =>
  kn uK lM j2 i1 i2 i3 w)
  (kn uK lM (aEn 0) i1 i2 i3 w)
theorem YM (kn : K6) (hn : N6 Q kn 10 11 14 51 52 53) (h : Nh kn (g 10) (g 11) (g 51) (g 52) (g 53) w) : jO pg lG (iB 3 (bI (iB 1 (gH 2 (bI (bI (gH 1 (iB 1 (gH 4 (gH 1 (gH 3 kS))))))))))) Q g w :=
 kZ (kr := no) (l := []) h hn lU trivial
def Vb (kn : K5) (uK lM i1 i2 i3 : aEm) (w : aEl) : Prop :=
 Nh (fun uK lM avK i1 i2 i3 w => DR kn uK lM avK i1 i2 i3 w) uK lM i1 i2 i3 w
def Oc (kn : K5) (uK lM i1 i2 i3 : aEm) (w : aEl) : Prop :=
 Vb kn uK lM i1 i2 i3 w
def NN (kn : K5) (uK lM i1 i2 i3 : aEm) (w : aEl) : Prop :=
 Oc (fun uK lM i1 i2 i3 w => DP kn uK lM i1 i2 i3 w) uK lM i1 i2 i3 w
theorem Yj (kn : K5) (hn : N5 Q kn 10 11 51 52 53) (h : Oc kn (g 10) (g 11) (g 51) (g 52) (g 53) w) : jO pg lG (iB 1 (gH 2 (bI (bI (gH 1 (iB 1 (gH 4 (gH 1 (gH 3 kS))))))))) Q g w :=
 Iw 3 (nQ 3 (YM _ g w (DR kn) (fun g w h => iZ (YP _ g w kn hn h)) h))
def Ot (kn : K5) (k2 : K1) (uK lM i1 i2 i3 : aEm) (w : aEl) : Prop :=
 gI pg (hU .lss 3 jC jC i3 i2) w fun i4 w =>
 lX i4
  (kn uK lM i1 i2 i3 w)
  (k2 lM w)
theorem Zg (kn : K5) (k2 : K1) (hn : N5 Q kn 10 11 51 52 53) (h2 : E1 Q k2 2 11) (h : Ot kn k2 (g 10) (g 11) (g 51) (g 52) (g 53) w) : jO pg lG (iB 2 (bI (bI (gH 1 (iB 1 (gH 4 (gH 1 (gH 3 kS)))))))) Q g w :=
 kZ (kr := no) (l := [(2, fun g w => k2 (g 11) w)]) h hn lU ⟨h2, trivial⟩
def IB (kn : K5) (k2 : K1) (uK lM i1 i2 i3 : aEm) (w : aEl) : Prop :=
 Ot (fun uK lM i1 i2 i3 w => NN kn uK lM i1 i2 i3 w) k2 uK lM i1 i2 i3 w
def KS (k2 : K1) (uK lM i1 i2 i3 : aEm) (w : aEl) : Prop :=
 kP (fun (X : (aEm × aEm) -> K0) (t : aEm × aEm) (w : aEl) => IB (fun _ lM _ _ i3 w => X (lM, i3) w) k2 uK t.1 i1 i2 t.2 w) (lM, i3) w
theorem Yu (kn : K5) (k2 : K1) (hn : N5 Q kn 10 11 51 52 53) (h2 : E1 Q k2 2 11) (h : IB kn k2 (g 10) (g 11) (g 51) (g 52) (g 53) w) : jO pg lG (bI (bI (gH 1 (iB 1 (gH 4 (gH 1 (gH 3 kS))))))) Q g w :=
 nQ 2 (Zg _ g w (NN kn) k2 (fun g w h => iZ (nQ 1 (Yj _ g w (DP kn) (fun g w h => iZ (Yb _ g w kn hn h)) h))) h2 h)
theorem W4 (k2 : K1) (h2 : E1 Q k2 2 11) (h : KS k2 (g 10) (g 11) (g 51) (g 52) (g 53) w) : jO pg lG (bI (gH 1 (iB 1 (gH 4 (gH 1 (gH 3 kS)))))) Q g w := by
 refine Ov (fun g : Env => (g 11, g 53)) (fun X t w => IB (fun _ lM _ _ i3 w => X (lM, i3) w) k2 (g 10) t.1 (g 51) (g 52) t.2 w) h (fun X g1 w1 ha hL => ?_)
 rw [<- rI 10 ha, <- rI 51 ha, <- rI 52 ha] at hL
 exact (Yu _ g1 w1 (fun _ lM _ _ i3 w => X (lM, i3) w) k2 (fun _ _ h => h) h2 hL)
def Kc (kn : K1) (uK lM i1 i2 i3 : aEm) (w : aEl) : Prop :=
 KS kn uK lM i1 i2 i3 w
def Lr (kn : K5) (l_9 uK lM : aEm) (w : aEl) : Prop :=
 gI pg (nX .len #[117] 3 [l_9]) w fun i2 w =>
 kn uK lM l_9 i2 (aEn 0) w
theorem XL (kn : K5) (hn : N5 Q kn 10 11 51 52 53) (h : Lr kn (g 9) (g 10) (g 11) w) : jO pg lG (iB 1 (iB 1 (gH 4 (gH 1 (gH 3 kS))))) Q g w :=
 kZ (kr := no) (l := []) h hn lU trivial
def LH (kn : K1) (l_9 uK lM : aEm) (w : aEl) : Prop :=
 Lr (fun uK lM i1 i2 i3 w => Kc kn uK lM i1 i2 i3 w) l_9 uK lM w
def Ll (R : K1) (l_9 uK lM : aEm) (w : aEl) : Prop :=
 LH (fun lM w => IK R lM w) l_9 uK lM w
theorem XY (kn : K1) (hn : N1 Q kn 11) (h : LH kn (g 9) (g 10) (g 11) w) : jO pg lG (iB 1 (gH 4 (gH 1 (gH 3 kS)))) Q g w :=
 nQ 1 (XL _ g w (Kc kn) (fun g w h => iZ (Iw 2 (W4 _ g w kn hn h))) h)
def J3 (kn : K3) (R : K1) (iK lC b5 nU : aEm) (w : aEl) : Prop :=
 gI pg (nX .len #[128] 3 [iK]) w fun e3 w =>
 gI pg (hU .gtr 3 jC jC e3 (aEn 256)) w fun e4 w =>
 Gd (kO e4 false) (fun K => K b5 w) w fun e6 w =>
 Gd (kO e4 false) (fun K => gI pg (hU .lss 3 jC jC e6 (aEn 2)) w K) w fun e7 w =>
 gI pg (mD e4 (.bool true) e7) w fun e8 w =>
 Gd (kO e8 false) (fun K => K lC w) w fun f0 w =>
 Gd (kO e8 false) (fun K => gI pg (hU .gtr 32 jC jC f0 (.int .u64 2147483647)) w K) w fun f1 w =>
 gI pg (mD e8 (.bool true) f1) w fun f2 w =>
 lX f2
  (R (.tuple #[(.slice none 0 0), (aEn 1)]) w)
  (gI pg (hU .add 3 jC jC nU (aEn 1)) w fun f5 w =>
  gI pg (lR 128 iK none (some f5) none) w fun f6 w =>
  jE pg Bu #[f6, lC] w fun f8 w =>
  jE pg BG #[f8] w fun i0 w =>
  kn f8 i0 (.slice none 0 0) w)
theorem Xh (kn : K3) (R : K1) (hn : N3 Q kn 9 10 11) (hr : HR IA R Q) (h : J3 kn R (g 0) (g 4) (g 5) (g 6) w) : jO pg lG (iB 4 (gH 1 (gH 3 kS))) Q g w :=
 kZ (l := []) h hn hr trivial
def FK (R : K1) (iK lC b5 nU : aEm) (w : aEl) : Prop :=
 J3 (fun l_9 uK lM w => Ll R l_9 uK lM w) R iK lC b5 nU w
def Ci (kn : K7) (iK lC b5 nU c5 c6 c7 : aEm) (w : aEl) : Prop :=
 gI pg (hU .add 3 jC jC c7 (aEn 1)) w fun e1 w =>
 kn iK lC b5 nU c5 c6 e1 w
theorem WA (kn : K7) (hn : N7 Q kn 0 4 5 6 15 16 17) (h : Ci kn (g 0) (g 4) (g 5) (g 6) (g 15) (g 16) (g 17) w) : jO pg lG (gH 3 (bI (bI (gH 1 (iB 1 (gH 3 kS)))))) Q g w :=
 kZ (kr := no) (l := []) h hn lU trivial
def KI (kn : K7) (k0 : K4) (iK lC b5 nU c5 c6 c7 : aEm) (w : aEl) : Prop :=
 gI pg (hU .lss 3 jC jC c7 c6) w fun c8 w =>
 lX c8
  (gI pg (jT 128 c5 c7) w fun d0 w =>
  gI pg (jG 38 d0) w fun d1 w =>
  gI pg (nE 38 32 d1) w fun d4 w =>
  gI pg (hU .add 32 jC jC lC d4) w fun d5 w =>
  gI pg (hU .gtr 38 jC jC d1 (.int .u32 0)) w fun d7 w =>
  lX d7
   (gI pg (hU .add 3 jC jC b5 (aEn 1)) w fun d9 w =>
   kn iK d5 d9 c7 c5 c6 c7 w)
   (kn iK d5 b5 nU c5 c6 c7 w))
  (k0 iK lC b5 nU w)
theorem W9 (kn : K7) (k0 : K4) (hn : N7 Q kn 0 4 5 6 15 16 17) (h0 : E4 Q k0 0 0 4 5 6) (h : KI kn k0 (g 0) (g 4) (g 5) (g 6) (g 15) (g 16) (g 17) w) : jO pg lG (iB 3 (bI (bI (gH 1 (iB 1 (gH 3 kS)))))) Q g w :=
 kZ (kr := no) (l := [(0, fun g w => k0 (g 0) (g 4) (g 5) (g 6) w)]) h hn lU ⟨h0, trivial⟩
def Gv (kn : K7) (k0 : K4) (iK lC b5 nU c5 c6 c7 : aEm) (w : aEl) : Prop :=
 KI (fun iK lC b5 nU c5 c6 c7 w => Ci kn iK lC b5 nU c5 c6 c7 w) k0 iK lC b5 nU c5 c6 c7 w
def Lc (k0 : K4) (iK lC b5 nU c5 c6 c7 : aEm) (w : aEl) : Prop :=
 kP (fun (X : (aEm × aEm × aEm × aEm) -> K0) (t : aEm × aEm × aEm × aEm) (w : aEl) => Gv (fun _ lC b5 nU _ _ c7 w => X (lC, b5, nU, c7) w) k0 iK t.1 t.2.1 t.2.2.1 c5 c6 t.2.2.2 w) (lC, b5, nU, c7) w
theorem Xn (kn : K7) (k0 : K4) (hn : N7 Q kn 0 4 5 6 15 16 17) (h0 : E4 Q k0 0 0 4 5 6) (h : Gv kn k0 (g 0) (g 4) (g 5) (g 6) (g 15) (g 16) (g 17) w) : jO pg lG (bI (bI (gH 1 (iB 1 (gH 3 kS))))) Q g w :=
 nQ 3 (W9 _ g w (Ci kn) k0 (fun g w h => iZ (WA _ g w kn hn h)) h0 h)
theorem XR (k0 : K4) (h0 : E4 Q k0 0 0 4 5 6) (h : Lc k0 (g 0) (g 4) (g 5) (g 6) (g 15) (g 16) (g 17) w) : jO pg lG (bI (gH 1 (iB 1 (gH 3 kS)))) Q g w := by
 refine Ov (fun g : Env => (g 4, g 5, g 6, g 17)) (fun X t w => Gv (fun _ lC b5 nU _ _ c7 w => X (lC, b5, nU, c7) w) k0 (g 0) t.1 t.2.1 t.2.2.1 (g 15) (g 16) t.2.2.2 w) h (fun X g1 w1 ha hL => ?_)
 rw [<- rI 0 ha, <- rI 15 ha, <- rI 16 ha] at hL
 exact (Xn _ g1 w1 (fun _ lC b5 nU _ _ c7 w => X (lC, b5, nU, c7) w) k0 (fun _ _ h => h) h0 hL)
def KZ (kn : K4) (iK lC b5 nU c5 c6 c7 : aEm) (w : aEl) : Prop :=
 Lc kn iK lC b5 nU c5 c6 c7 w
def LP (kn : K7) (iK lC b5 nU : aEm) (w : aEl) : Prop :=
 gI pg (nX .len #[128] 3 [iK]) w fun c6 w =>
 kn iK lC b5 nU iK c6 (aEn 0) w
theorem W8 (kn : K7) (hn : N7 Q kn 0 4 5 6 15 16 17) (h : LP kn (g 0) (g 4) (g 5) (g 6) w) : jO pg lG (iB 1 (iB 1 (gH 3 kS))) Q g w :=
 kZ (kr := no) (l := []) h hn lU trivial
def Kt (kn : K4) (iK lC b5 nU : aEm) (w : aEl) : Prop :=
 LP (fun iK lC b5 nU c5 c6 c7 w => KZ kn iK lC b5 nU c5 c6 c7 w) iK lC b5 nU w
def GB (R : K1) (iK lC b5 nU : aEm) (w : aEl) : Prop :=
 Kt (fun iK lC b5 nU w => FK R iK lC b5 nU w) iK lC b5 nU w
theorem WK (kn : K4) (hn : N4 Q kn 0 4 5 6) (h : Kt kn (g 0) (g 4) (g 5) (g 6) w) : jO pg lG (iB 1 (gH 3 kS)) Q g w :=
 nQ 1 (W8 _ g w (KZ kn) (fun g w h => iZ (Iw 0 (XR _ g w kn hn h))) h)
def KD (kn : K4) (iK : aEm) (w : aEl) : Prop :=
 kn iK (.int .u64 0) (aEn 0) (aEn 0) w
theorem XD (kn : K4) (hn : N4 Q kn 0 4 5 6) (h : KD kn (g 0) w) : jO pg lG (iB 3 kS) Q g w :=
 kZ (kr := no) (l := []) h hn lU trivial
def Ky (R : K1) (iK : aEm) (w : aEl) : Prop :=
 KD (fun iK lC b5 nU w => GB R iK lC b5 nU w) iK w
theorem WY (R : K1) (hr : HR IA R Q) (h : Ky R (g 0) w) : jO pg lG kS Q g w :=
 nQ 3 (XD _ g w (GB R) (fun g w h => iZ (nQ 1 (WK _ g w (FK R) (fun g w h => iZ (nQ 4 (Xh _ g w (Ll R) R (fun g w h => iZ (nQ 1 (XY _ g w (IK R) (fun g w h => iZ (Y7 _ g w R hr h)) h))) hr h))) h))) h)
def abR (a0 : aEm) (w : aEl) (R : K1) : Prop :=
 Ky R a0 w
theorem Z1 {a0 : aEm} {w : aEl} {R : K1} (h : abR a0 w R) : jE pg JQ #[a0] w R := by
 refine wQ (ann := lG) Tryz.f67 kS [a0] IA 70 TryzM.mixed Tryz.func67 ?_
 exact (WY _ _ _ R (fun _ _ h => h) h)
def tQ : FA := ⟨Bz, fun i => .leaf ([], []) []⟩
def uG : List ResultVar := [.tmp 6, .tmp 7]
noncomputable def sX : Code := jX Tryz.f68
def sE (R : K1) (mX Di Nu XA WH XK : aEm) (w : aEl) : Prop :=
 jE pg oS #[] w fun l5 w =>
 gI pg (hU .shl 3 jC jC XA (.int .u64 2)) w fun l9 w =>
 gI pg (hU .or 3 jC jC Di l9) w fun m0 w =>
 gI pg (nX .len #[22] 3 [mX]) w fun m2 w =>
 gI pg (hU .shl 3 jC jC m2 (.int .u64 4)) w fun m3 w =>
 gI pg (hU .or 3 jC jC m0 m3) w fun m4 w =>
 gI pg (nE 3 32 m4) w fun m5 w =>
 gI pg (nX .len #[22] 3 [Nu]) w fun m7 w =>
 gI pg (nE 3 32 m7) w fun m8 w =>
 gI pg (hU .add 3 jC jC (aEn 4) WH) w fun n0 w =>
 gI pg (hU .shl 32 jC jC m8 n0) w fun n1 w =>
 gI pg (hU .or 32 jC jC m5 n1) w fun n2 w =>
 jE pg jR #[l5, n2, XK] w fun n4 w =>
 jE pg pL #[l5, Nu] w fun n7 w =>
 jE pg oB #[l5] w fun n9 w =>
 R (.tuple #[n9, (aEn 0)]) w
theorem RT (R : K1) (hr : HR uG R Q) (h : sE R (g 0) (g 8) (g 9) (g 14) (g 15) (g 16) w) : jO pg tQ (gH 6 (gH 5 sX)) Q g w :=
 kZ (kn := no) (l := []) h lU hr trivial
def EE (kn : K6) (R : K1) (mX Ye Di Nu : aEm) (w : aEl) : Prop :=
 jE pg wU #[Ye, mX] w fun f0 w =>
 gI pg (jS f0 0) w fun f1 w =>
 gI pg (jS f0 1) w fun f2 w =>
 gI pg (hU .neq 24 (.tmp 43) (.const (aEn 0)) f2 (aEn 0)) w fun f4 w =>
 lX f4
  (R (.tuple #[(.slice none 0 0), f2]) w)
  (gI pg (nX .append #[22, 22] 22 [Nu, f1]) w fun f8 w =>
  gI pg (nX .len #[22] 3 [f8]) w fun i0 w =>
  gI pg (hU .geq 3 jC jC i0 (aEn 262144)) w fun i1 w =>
  lX i1
   (R (.tuple #[(.slice none 0 0), (aEn 1)]) w)
   (gI pg (nX .len #[22] 3 [mX]) w fun i3 w =>
   gI pg (nX .len #[22] 3 [f8]) w fun i5 w =>
   gI pg (nX .max #[3, 3] 3 [i3, i5]) w fun i6 w =>
   gI pg (nX .len #[22] 3 [mX]) w fun i9 w =>
   gI pg (hU .lss 3 jC jC i9 (aEn 256)) w fun j0 w =>
   Gd (kO j0 true) (fun K => K i6 w) w fun j2 w =>
   Gd (kO j0 true) (fun K => gI pg (hU .lss 3 jC jC j2 (aEn 1024)) w K) w fun j3 w =>
   gI pg (mD j0 j3 (.bool false)) w fun j4 w =>
   lX j4
    (kn mX Di f8 (aEn 0) (aEn 10) (aEn 3) w)
    (gI pg (nX .len #[22] 3 [mX]) w fun j7 w =>
    gI pg (hU .lss 3 jC jC j7 (aEn 256)) w fun j8 w =>
    lX j8
     (R (.tuple #[(.slice none 0 0), (aEn 1)]) w)
     (gI pg (hU .lss 3 jC jC i6 (aEn 1024)) w fun l1 w =>
     lX l1
      (kn mX Di f8 (aEn 1) (aEn 10) (aEn 3) w)
      (gI pg (hU .lss 3 jC jC i6 (aEn 16384)) w fun l4 w =>
      lX l4
       (kn mX Di f8 (aEn 2) (aEn 14) (aEn 4) w)
       (kn mX Di f8 (aEn 3) (aEn 18) (aEn 5) w))))))
theorem Ro (kn : K6) (R : K1) (hn : N6 Q kn 0 8 9 14 15 16) (hr : HR uG R Q) (h : EE kn R (g 0) (g 1) (g 8) (g 9) w) : jO pg tQ (iB 6 (gH 5 sX)) Q g w :=
 kZ (l := []) h hn hr trivial
def Ak (R : K1) (mX Ye Di Nu : aEm) (w : aEl) : Prop :=
 EE (fun mX Di Nu XA WH XK w => sE R mX Di Nu XA WH XK w) R mX Ye Di Nu w
def Fb (kn : K4) (R : K1) (mX Ye aeU : aEm) (w : aEl) : Prop :=
 gI pg (nX .len #[22] 3 [mX]) w fun d0 w =>
 gI pg (hU .eql 3 (.tmp 20) (.const (aEn 0)) d0 (aEn 0)) w fun d1 w =>
 Gd (kO d1 false) (fun K => K mX w) w fun d3 w =>
 Gd (kO d1 false) (fun K => gI pg (nX .len #[22] 3 [d3]) w K) w fun d4 w =>
 Gd (kO d1 false) (fun K => gI pg (hU .gtr 3 jC jC d4 (aEn 131072)) w K) w fun d5 w =>
 gI pg (mD d1 (.bool true) d5) w fun d6 w =>
 lX d6
  (R (.tuple #[(.slice none 0 0), (aEn 1)]) w)
  (lX aeU
   (jE pg AK #[Ye] w fun e0 w =>
   gI pg (jS e0 0) w fun e1 w =>
   gI pg (jS e0 1) w fun e2 w =>
   gI pg (hU .neq 24 (.tmp 33) (.const (aEn 0)) e2 (aEn 0)) w fun e4 w =>
   lX e4
    (R (.tuple #[(.slice none 0 0), e2]) w)
    (kn mX Ye (aEn 2) e1 w))
   (kn mX Ye (aEn 3) (.slice none 0 0) w))
theorem R4 (kn : K4) (R : K1) (hn : N4 Q kn 0 1 8 9) (hr : HR uG R Q) (h : Fb kn R (g 0) (g 1) (g 2) w) : jO pg tQ (iB 5 sX) Q g w :=
 kZ (l := []) h hn hr trivial
def EW (R : K1) (mX Ye aeU : aEm) (w : aEl) : Prop :=
 Fb (fun mX Ye Di Nu w => Ak R mX Ye Di Nu w) R mX Ye aeU w
theorem RU (R : K1) (hr : HR uG R Q) (h : EW R (g 0) (g 1) (g 2) w) : jO pg tQ sX Q g w :=
 nQ 5 (R4 _ g w (Ak R) R (fun g w h => iZ (nQ 6 (Ro _ g w (sE R) R (fun g w h => iZ (RT _ g w R hr h)) hr h))) hr h)
def Rd (a0 a1 a2 : aEm) (w : aEl) (R : K1) : Prop :=
 EW R a0 a1 a2 w
theorem Tv {a0 a1 a2 : aEm} {w : aEl} {R : K1} (h : Rd a0 a1 a2 w R) : jE pg Bz #[a0, a1, a2] w R := by
 refine wQ (ann := tQ) Tryz.f68 sX [a0, a1, a2] uG 100 TryzM.mixed Tryz.func68 ?_
 exact (RU _ _ _ R (fun _ _ h => h) h)
def Fs : FA := ⟨pL, fun i => .leaf ([], []) []⟩
def P9 : List ResultVar := []
noncomputable def DK : Code := jX Tryz.f72
def As (kn : K0) (yX AB : aEm) (w : aEl) : Prop :=
 gI pg (hU .neq 60 (.tmp 4) (.const (.pointer none)) yX (.pointer none)) w fun b5 w =>
 lX b5
  (gI pg (nK yX) w fun b8 w =>
  gI pg (jI 77 b8 0) w fun b9 w =>
  gI pg (jG 22 b9) w fun c0 w =>
  gI pg (nX .append #[22, 22] 22 [c0, AB]) w fun c2 w =>
  gI pg (nK yX) w fun c3 w =>
  gI pg (jI 77 c3 0) w fun c4 w =>
  gI pg (jQ 22 c4 c2) w fun _u w =>
  kn w)
  (kn w)
theorem Mg (kn : K0) (hn : N0 Q kn) (h : As kn (g 0) (g 1) w) : jO pg Fs DK Q g w :=
 kZ (kr := no) (l := []) h hn lU trivial
def JF (a0 a1 : aEm) (w : aEl) (R : K1) : Prop :=
 As (fun  w => R (.tuple #[]) w) a0 a1 w
theorem Oh {a0 a1 : aEm} {w : aEl} {R : K1} (h : JF a0 a1 w R) : jE pg pL #[a0, a1] w R := by
 refine wQ (ann := Fs) Tryz.f72 DK [a0, a1] P9 15 TryzM.mixed Tryz.func72 ?_
 exact (Mg _ _ _ (fun  w => R (.tuple #[]) w) (fun _ _ h => h) h)
def sV : FA := ⟨zF, fun i => .leaf ([], []) []⟩
def C8 : List ResultVar := [.tmp 4]
noncomputable def rY : Code := jX Tryz.f73
def xC (R : K1) (pO : aEm) (w : aEl) : Prop :=
 R pO w
theorem QK (R : K1) (hr : HR C8 R Q) (h : xC R (g 0) w) : jO pg sV (gH 1 (gH 2 rY)) Q g w :=
 kZ (kn := no) (l := []) h lU hr trivial
def CT (kn : K1) (pO G9 : aEm) (w : aEl) : Prop :=
 gI pg (nX .cap #[22] 3 [pO]) w fun c0 w =>
 gI pg (nX .len #[22] 3 [pO]) w fun c2 w =>
 gI pg (hU .sub 3 jC jC c0 c2) w fun c3 w =>
 gI pg (hU .sub 3 jC jC G9 c3) w fun c4 w =>
 gI pg (hU .gtr 3 jC jC c4 (aEn 0)) w fun c6 w =>
 lX c6
  (gI pg (nX .cap #[22] 3 [pO]) w fun c9 w =>
  gI pg (lR 22 pO none (some c9) none) w fun d0 w =>
  gI pg (nX .append #[22, 3] 22 [d0, c4]) w fun d2 w =>
  gI pg (nX .len #[22] 3 [pO]) w fun d4 w =>
  gI pg (lR 22 d2 none (some d4) none) w fun d5 w =>
  kn d5 w)
  (kn pO w)
theorem QP (kn : K1) (hn : N1 Q kn 0) (h : CT kn (g 0) (g 1) w) : jO pg sV (iB 1 (gH 2 rY)) Q g w :=
 kZ (kr := no) (l := []) h hn lU trivial
def De (R : K1) (pO G9 : aEm) (w : aEl) : Prop :=
 CT (fun pO w => xC R pO w) pO G9 w
def Dw (kn : K2) (pO G9 : aEm) (w : aEl) : Prop :=
 gI pg (hU .lss 3 jC jC G9 (aEn 0)) w fun b6 w =>
 lX b6
  (gI pg (VX 9 (.string ⟨#[99, 97, 110, 110, 111, 116, 32, 98, 101, 32, 110, 101, 103, 97, 116, 105, 118, 101]⟩)) w fun b7 w =>
  gI pg (V (Instr.panic b7)) w fun _u w =>
  kn pO G9 w)
  (kn pO G9 w)
theorem P2 (kn : K2) (hn : N2 Q kn 0 1) (h : Dw kn (g 0) (g 1) w) : jO pg sV (iB 2 rY) Q g w :=
 kZ (kr := no) (l := []) h hn lU trivial
def Dc (R : K1) (pO G9 : aEm) (w : aEl) : Prop :=
 Dw (fun pO G9 w => De R pO G9 w) pO G9 w
theorem PJ (R : K1) (hr : HR C8 R Q) (h : Dc R (g 0) (g 1) w) : jO pg sV rY Q g w :=
 nQ 2 (P2 _ g w (De R) (fun g w h => iZ (nQ 1 (QP _ g w (xC R) (fun g w h => iZ (QK _ g w R hr h)) h))) h)
def OW (a0 a1 : aEm) (w : aEl) (R : K1) : Prop :=
 Dc R a0 a1 w
theorem Rl {a0 a1 : aEm} {w : aEl} {R : K1} (h : OW a0 a1 w R) : jE pg zF #[a0, a1] w R := by
 refine wQ (ann := sV) Tryz.f73 rY [a0, a1] C8 27 TryzM.mixed Tryz.func73 ?_
 exact (PJ _ _ _ R (fun _ _ h => h) h)
def Pl : FA := ⟨F1, fun i => .leaf ([], []) []⟩
def Ra : List ResultVar := [.tmp 2]
noncomputable def Mu : Code := jX Tryz.f74
def Jg (R : K1) (yX : aEm) (w : aEl) : Prop :=
 gI pg (hU .shr 32 jC jC yX (.int .u64 3)) w fun b5 w =>
 gI pg (hU .add 32 jC jC (.int .u64 10) b5) w fun b6 w =>
 gI pg (hU .shl 32 jC jC (.int .u64 1) b6) w fun b7 w =>
 gI pg (hU .quo 32 jC jC b7 (.int .u64 8)) w fun c0 w =>
 gI pg (hU .and 32 jC jC yX (.int .u64 7)) w fun c2 w =>
 gI pg (hU .mul 32 jC jC c0 c2) w fun c3 w =>
 gI pg (hU .add 32 jC jC b7 c3) w fun c4 w =>
 R c4 w
theorem Wa (R : K1) (hr : HR Ra R Q) (h : Jg R (g 0) w) : jO pg Pl Mu Q g w :=
 kZ (kn := no) (l := []) h lU hr trivial
def Wp (a0 : aEm) (w : aEl) (R : K1) : Prop :=
 Jg R a0 w
theorem XJ {a0 : aEm} {w : aEl} {R : K1} (h : Wp a0 w R) : jE pg F1 #[a0] w R := by
 refine wQ (ann := Pl) Tryz.f74 Mu [a0] Ra 15 TryzM.mixed Tryz.func74 ?_
 exact (Wa _ _ _ R (fun _ _ h => h) h)
def Gc : FA := ⟨qT, fun i => .leaf ([], []) []⟩
def G4 : List ResultVar := [.tmp 4, .tmp 5]
noncomputable def Fp : Code := jX Tryz.f75
def Bk (R : K1) (pO G9 : aEm) (w : aEl) : Prop :=
 gI pg (nK pO) w fun b8 w =>
 gI pg (jI 56 b8 0) w fun b9 w =>
 gI pg (jG 54 b9) w fun c0 w =>
 jE pg oN #[c0] w fun c1 w =>
 gI pg (hU .gtr 3 jC jC G9 c1) w fun c2 w =>
 lX c2
  (R (.tuple #[(.slice none 0 0), (aEn 10)]) w)
  (gI pg (nK pO) w fun c4 w =>
  gI pg (jI 56 c4 0) w fun c5 w =>
  gI pg (jG 54 c5) w fun c6 w =>
  jE pg qL #[c6, G9] w fun c8 w =>
  R (.tuple #[c8, (aEn 0)]) w)
theorem MZ (R : K1) (hr : HR G4 R Q) (h : Bk R (g 0) (g 1) w) : jO pg Gc Fp Q g w :=
 kZ (kn := no) (l := []) h lU hr trivial
def Li (a0 a1 : aEm) (w : aEl) (R : K1) : Prop :=
 Bk R a0 a1 w
theorem PH {a0 a1 : aEm} {w : aEl} {R : K1} (h : Li a0 a1 w R) : jE pg qT #[a0, a1] w R := by
 refine wQ (ann := Gc) Tryz.f75 Fp [a0, a1] G4 19 TryzM.mixed Tryz.func75 ?_
 exact (MZ _ _ _ R (fun _ _ h => h) h)
def JK : FA := ⟨BK, fun i => .leaf ([], []) []⟩
def Ls : List ResultVar := [.cell 2 65, .tmp 3]
noncomputable def IS : Code := jX Tryz.f76
def EO (R : K1) (nJ : aEm) (w : aEl) : Prop :=
 gI pg (oK 65) w fun b2 w =>
 jE pg pW #[nJ] w fun b7 w =>
 jE pg lB #[b7, (aEn 3)] w fun b9 w =>
 gI pg (nE 32 3 b9) w fun c0 w =>
 jE pg lZ #[b7] w fun c3 w =>
 gI pg (hU .neq 24 (.tmp 13) (.const (aEn 0)) c3 (aEn 0)) w fun c4 w =>
 lX c4
  (gI pg (kV 65 []) w fun c5 w =>
  jE pg lZ #[b7] w fun c7 w =>
  gI pg (jQ 65 b2 c5) w fun _u w =>
  Nq pg 65 b2 w fun r0 => R (.tuple #[r0, c7]) w)
  (gI pg (hU .shr 3 jC jC c0 (.int .u64 1)) w fun d0 w =>
  gI pg (hU .and 3 jC jC d0 (aEn 3)) w fun d1 w =>
  gI pg (hU .gtr 3 jC jC d1 (aEn 2)) w fun d2 w =>
  lX d2
   (gI pg (kV 65 []) w fun d3 w =>
   gI pg (jQ 65 b2 d3) w fun _u w =>
   Nq pg 65 b2 w fun r0 => R (.tuple #[r0, (aEn 11)]) w)
   (gI pg (hU .and 3 jC jC c0 (aEn 1)) w fun d5 w =>
   gI pg (hU .eql 3 (.tmp 25) (.const (aEn 1)) d5 (aEn 1)) w fun d6 w =>
   gI pg (hU .shr 3 jC jC c0 (.int .u64 1)) w fun d8 w =>
   gI pg (hU .and 3 jC jC d8 (aEn 3)) w fun d9 w =>
   gI pg (hU .shr 3 jC jC c0 (.int .u64 3)) w fun e1 w =>
   gI pg (kV 65 [(0, d6), (1, d9), (2, e1)]) w fun e2 w =>
   gI pg (jQ 65 b2 e2) w fun _u w =>
   Nq pg 65 b2 w fun r0 => R (.tuple #[r0, (aEn 0)]) w))
theorem Sj (R : K1) (hr : HR Ls R Q) (h : EO R (g 0) w) : jO pg JK IS Q g w :=
 kZ (kn := no) (l := []) h lU hr trivial
def Re (a0 : aEm) (w : aEl) (R : K1) : Prop :=
 EO R a0 w
theorem Te {a0 : aEm} {w : aEl} {R : K1} (h : Re a0 w R) : jE pg BK #[a0] w R := by
 refine wQ (ann := JK) Tryz.f76 IS [a0] Ls 33 TryzM.mixed Tryz.func76 ?_
 exact (Sj _ _ _ R (fun _ _ h => h) h)
def mO : FA := ⟨wD, fun i => match Nat.beq i 9 with | true => .leaf ([7], []) [(false, []), (false, []), (false, []), (false, []), (false, []), (false, []), (false, []), (true, []), (false, []), (false, [])] | false => .leaf ([], []) []⟩
def Br : List ResultVar := [.tmp 4]
noncomputable def mH : Code := jX Tryz.f77
def vC (R : K1) (nN : aEm) (w : aEl) : Prop :=
 R nN w
theorem Oj (R : K1) (hr : HR Br R Q) (h : vC R (g 7) w) : jO pg mO (gH 1 (gH 2 (gH 2 (gH 2 mH)))) Q g w :=
 kZ (kn := no) (l := []) h lU hr trivial
def vE (kn : K2) (k0 : K1) (nN n_8 : aEm) (w : aEl) : Prop :=
 gI pg (nX .len #[22] 3 [nN]) w fun e6 w =>
 gI pg (hU .lss 3 jC jC n_8 e6) w fun e7 w =>
 lX e7
  ((dr w) = (dr w) /\
  (dr w) = (dr w) /\
  (dr w) = (dr w) /\
  gI pg (lR 22 nN (some n_8) none none) (dr w) fun f1 w_ => w_ = (dr w) /\
  (dr w) = (dr w) /\
  (dr w) = (dr w) /\
  gI pg (lR 22 nN none (some n_8) none) (dr w) fun f4 w_ => w_ = (dr w) /\
  gI pg (nX .copy #[22, 22] 3 [f1, f4]) (dr w) fun f5 avL =>
  gI pg (hU .add 3 jC jC n_8 f5) avL fun f6 w_ => w_ = avL /\
  avL = avL /\
  kn nN f6 avL)
  (k0 nN w)
theorem NZ (kn : K2) (k0 : K1) (hn : N2 Q kn 7 8) (h0 : E1 Q k0 0 7) (h : vE kn k0 (g 7) (g 8) w) : jO pg mO (bI (bI (iB 1 (gH 2 (gH 2 (gH 2 mH)))))) Q g w :=
 kZ (kr := no) (l := [(0, fun g w => k0 (g 7) w)]) h hn lU ⟨h0, trivial⟩
def A0 (k0 : K1) (nN n_8 : aEm) (w : aEl) : Prop :=
 kP (fun (X : aEm -> K0) (t : aEm) (w : aEl) => vE (fun _ n_8 w => X n_8 w) k0 nN t w) n_8 w
theorem On (k0 : K1) (h0 : E1 Q k0 0 7) (h : A0 k0 (g 7) (g 8) w) : jO pg mO (bI (iB 1 (gH 2 (gH 2 (gH 2 mH))))) Q g w := by
 refine Ov (fun g : Env => g 8) (fun X t w => vE (fun _ n_8 w => X n_8 w) k0 (g 7) t w) h (fun X g1 w1 ha hL => ?_)
 rw [<- rI 7 ha] at hL
 exact (NZ _ g1 w1 (fun _ n_8 w => X n_8 w) k0 (fun _ _ h => h) h0 hL)
def AU (kn : K1) (nN n_8 : aEm) (w : aEl) : Prop :=
 A0 kn nN n_8 w
def uY (R : K1) (nN n_8 : aEm) (w : aEl) : Prop :=
 AU (fun nN w => vC R nN w) nN n_8 w
theorem M9 (kn : K1) (hn : N1 Q kn 7) (h : AU kn (g 7) (g 8) w) : jO pg mO (iB 1 (gH 2 (gH 2 (gH 2 mH)))) Q g w :=
 Iw 0 (On _ g w kn hn h)
def AY (kn : K2) (nD akZ : aEm) (w : aEl) : Prop :=
 gI pg (nE 50 3 akZ) w fun d9 w =>
 gI pg (sP 22 d9 d9) w fun e0 w =>
 gI pg (nX .copy #[22, 22] 3 [e0, nD]) w fun e3 w =>
 kn e0 e3 w
theorem Ok (kn : K2) (hn : N2 Q kn 7 8) (h : AY kn (g 0) (g 6) w) : jO pg mO (iB 2 (gH 2 (gH 2 mH))) Q g w :=
 kZ (kr := no) (l := []) h hn lU trivial
def Bd (R : K1) (nD akZ : aEm) (w : aEl) : Prop :=
 AY (fun nN n_8 w => uY R nN n_8 w) nD akZ w
def Bm (kn : K2) (nD CH : aEm) (w : aEl) : Prop :=
 gI pg (nX .len #[22] 3 [nD]) w fun c4 w =>
 gI pg (nE 3 50 c4) w fun c5 w =>
 gI pg (nE 3 50 CH) w fun c7 w =>
 jE pg Ed #[c5, c7] w fun c8 w =>
 gI pg (jS c8 0) w fun c9 w =>
 gI pg (jS c8 1) w fun d0 w =>
 gI pg (hU .gtr 50 jC jC c9 (.int .u64 0)) w fun d2 w =>
 Gd (kO d2 false) (fun K => K d0 w) w fun d4 w =>
 Gd (kO d2 false) (fun K => gI pg (hU .gtr 50 jC jC d4 (.int .u64 9223372036854775807)) w K) w fun d5 w =>
 gI pg (mD d2 (.bool true) d5) w fun d6 w =>
 lX d6
  (gI pg (VX 9 (.string ⟨#[116, 104, 101, 32, 114, 101, 115, 117, 108, 116, 32, 111, 102, 32, 40, 108, 101, 110, 40, 120, 41, 32, 42, 32, 99, 111, 117, 110, 116, 41, 32, 111, 118, 101, 114, 102, 108, 111, 119, 115]⟩)) w fun d7 w =>
  gI pg (V (Instr.panic d7)) w fun _u w =>
  kn nD d0 w)
  (kn nD d0 w)
theorem Nl (kn : K2) (hn : N2 Q kn 0 6) (h : Bm kn (g 0) (g 1) w) : jO pg mO (iB 2 (gH 2 mH)) Q g w :=
 kZ (kr := no) (l := []) h hn lU trivial
def AR (R : K1) (nD CH : aEm) (w : aEl) : Prop :=
 Bm (fun nD akZ w => Bd R nD akZ w) nD CH w
def Av (kn : K2) (nD CH : aEm) (w : aEl) : Prop :=
 gI pg (hU .lss 3 jC jC CH (aEn 0)) w fun c0 w =>
 lX c0
  (gI pg (VX 9 (.string ⟨#[99, 97, 110, 110, 111, 116, 32, 98, 101, 32, 110, 101, 103, 97, 116, 105, 118, 101]⟩)) w fun c1 w =>
  gI pg (V (Instr.panic c1)) w fun _u w =>
  kn nD CH w)
  (kn nD CH w)
theorem LX (kn : K2) (hn : N2 Q kn 0 1) (h : Av kn (g 0) (g 1) w) : jO pg mO (iB 2 mH) Q g w :=
 kZ (kr := no) (l := []) h hn lU trivial
def zC (R : K1) (nD CH : aEm) (w : aEl) : Prop :=
 Av (fun nD CH w => AR R nD CH w) nD CH w
theorem Mo (R : K1) (hr : HR Br R Q) (h : zC R (g 0) (g 1) w) : jO pg mO mH Q g w :=
 nQ 2 (LX _ g w (AR R) (fun g w h => iZ (nQ 2 (Nl _ g w (Bd R) (fun g w h => iZ (nQ 2 (Ok _ g w (uY R) (fun g w h => iZ (nQ 1 (M9 _ g w (vC R) (fun g w h => iZ (Oj _ g w R hr h)) h))) h))) h))) h)
def KU (a0 a1 : aEm) (w : aEl) (R : K1) : Prop :=
 zC R a0 a1 w
theorem O5 {a0 a1 : aEm} {w : aEl} {R : K1} (h : KU a0 a1 w R) : jE pg wD #[a0, a1] w R := by
 refine wQ (ann := mO) Tryz.f77 mH [a0, a1] Br 48 TryzM.mixed Tryz.func77 ?_
 exact (Mo _ _ _ R (fun _ _ h => h) h)
def F6 : FA := ⟨sM, fun i => .leaf ([], []) []⟩
def He : List ResultVar := [.cell 4 146, .tmp 5]
noncomputable def Fl : Code := jX Tryz.f79
def Bp (R : K1) (tI oE : aEm) (w : aEl) : Prop :=
 gI pg (oK 146) w fun b4 w =>
 gI pg (hU .add 3 jC jC oE (aEn 4)) w fun b7 w =>
 gI pg (nK tI) w fun b9 w =>
 gI pg (jI 119 b9 0) w fun c0 w =>
 gI pg (jG 22 c0) w fun c1 w =>
 gI pg (nX .len #[22] 3 [c1]) w fun c2 w =>
 gI pg (hU .gtr 3 jC jC b7 c2) w fun c3 w =>
 lX c3
  (gI pg (kV 146 []) w fun c4 w =>
  gI pg (jQ 146 b4 c4) w fun _u w =>
  Nq pg 146 b4 w fun r0 => R (.tuple #[r0, (.bool false)]) w)
  (gI pg (nK tI) w fun c6 w =>
  gI pg (jI 119 c6 0) w fun c7 w =>
  gI pg (jG 22 c7) w fun c8 w =>
  gI pg (hU .add 3 jC jC oE (aEn 4)) w fun d1 w =>
  gI pg (lR 22 c8 (some oE) (some d1) none) w fun d2 w =>
  gI pg (axT 146 d2) w fun d3 w =>
  gI pg (jG 146 d3) w fun d4 w =>
  gI pg (jQ 146 b4 d4) w fun _u w =>
  Nq pg 146 b4 w fun r0 => R (.tuple #[r0, (.bool true)]) w)
theorem Nc (R : K1) (hr : HR He R Q) (h : Bp R (g 0) (g 1) w) : jO pg F6 Fl Q g w :=
 kZ (kn := no) (l := []) h lU hr trivial
def KY (a0 a1 : aEm) (w : aEl) (R : K1) : Prop :=
 Bp R a0 a1 w
theorem Py {a0 a1 : aEm} {w : aEl} {R : K1} (h : KY a0 a1 w R) : jE pg sM #[a0, a1] w R := by
 refine wQ (ann := F6) Tryz.f79 Fl [a0, a1] He 25 TryzM.mixed Tryz.func79 ?_
 exact (Nc _ _ _ R (fun _ _ h => h) h)
def pK : FA := ⟨xJ, fun i => match Nat.beq i 2 with | true => .leaf ([], []) [(false, []), (false, []), (false, []), (false, []), (false, []), (false, []), (false, []), (false, []), (false, []), (false, []), (false, []), (false, []), (false, []), (false, []), (false, []), (false, []), (false, []), (false, []), (false, []), (false, []), (false, []), (false, []), (false, []), (false, []), (false, []), (false, []), (false, []), (false, []), (false, []), (false, []), (false, []), (false, []), (false, [])] | false => .leaf ([], []) []⟩
def BU : List ResultVar := [.tmp 6]
noncomputable def oU : Code := jX Tryz.f80
def vO (R : K1) (X5 : aEm) (w : aEl) : Prop :=
 R X5 w
theorem Pw (R : K1) (hr : HR BU R Q) (h : vO R (g 7) w) : jO pg pK (gH 1 (gH 2 oU)) Q g w :=
 kZ (kn := no) (l := []) h lU hr trivial
def pT (kn : K4) (k0 : K1) (tI JB SP X5 : aEm) (w : aEl) : Prop :=
 (dr w) = (dr w) /\
 (dr w) = (dr w) /\
 gI pg (hU .add 3 jC jC SP X5) (dr w) fun c0 w_ => w_ = (dr w) /\
 (dr w) = (dr w) /\
 gI pg (nK tI) (dr w) fun c2 w_ => w_ = (dr w) /\
 gI pg (jI 119 c2 1) (dr w) fun c3 w_ => w_ = (dr w) /\
 gI pg (jG 3 c3) (dr w) fun c4 w_ => w_ = (dr w) /\
 gI pg (hU .lss 3 jC jC c0 c4) (dr w) fun c5 w_ => w_ = (dr w) /\
 (dr w) = (dr w) /\
 Gd (kO c5 true) (fun K => K X5 (dr w)) (dr w) fun c7 w_ => w_ = (dr w) /\
 Gd (kO c5 true) (fun K => gI pg (hU .lss 3 jC jC c7 (aEn 131074)) (dr w) K) (dr w) fun c8 w_ => w_ = (dr w) /\
 gI pg (mD c5 c8 (.bool false)) (dr w) fun c9 w_ => w_ = (dr w) /\
 (dr w) = (dr w) /\
 Gd (kO c9 true) (fun K => K tI (dr w)) (dr w) fun d1 w_ => w_ = (dr w) /\
 Gd (kO c9 true) (fun K => gI pg (nK d1) (dr w) K) (dr w) fun d2 w_ => w_ = (dr w) /\
 Gd (kO c9 true) (fun K => gI pg (jI 119 d2 0) (dr w) K) (dr w) fun d3 w_ => w_ = (dr w) /\
 Gd (kO c9 true) (fun K => gI pg (jG 22 d3) (dr w) K) (dr w) fun d4 w_ => w_ = (dr w) /\
 Gd (kO c9 true) (fun K => K JB (dr w)) (dr w) fun d5 w_ => w_ = (dr w) /\
 Gd (kO c9 true) (fun K => K X5 (dr w)) (dr w) fun d6 w_ => w_ = (dr w) /\
 Gd (kO c9 true) (fun K => gI pg (hU .add 3 jC jC d5 d6) (dr w) K) (dr w) fun d7 w_ => w_ = (dr w) /\
 Gd (kO c9 true) (fun K => gI pg (jT 22 d4 d7) (dr w) K) (dr w) fun d8 w_ => w_ = (dr w) /\
 Gd (kO c9 true) (fun K => gI pg (jG 5 d8) (dr w) K) (dr w) fun d9 w_ => w_ = (dr w) /\
 Gd (kO c9 true) (fun K => K tI (dr w)) (dr w) fun e0 w_ => w_ = (dr w) /\
 Gd (kO c9 true) (fun K => gI pg (nK e0) (dr w) K) (dr w) fun e1 w_ => w_ = (dr w) /\
 Gd (kO c9 true) (fun K => gI pg (jI 119 e1 0) (dr w) K) (dr w) fun e2 w_ => w_ = (dr w) /\
 Gd (kO c9 true) (fun K => gI pg (jG 22 e2) (dr w) K) (dr w) fun e3 w_ => w_ = (dr w) /\
 Gd (kO c9 true) (fun K => K SP (dr w)) (dr w) fun e4 w_ => w_ = (dr w) /\
 Gd (kO c9 true) (fun K => K X5 (dr w)) (dr w) fun e5 w_ => w_ = (dr w) /\
 Gd (kO c9 true) (fun K => gI pg (hU .add 3 jC jC e4 e5) (dr w) K) (dr w) fun e6 w_ => w_ = (dr w) /\
 Gd (kO c9 true) (fun K => gI pg (jT 22 e3 e6) (dr w) K) (dr w) fun e7 w_ => w_ = (dr w) /\
 Gd (kO c9 true) (fun K => gI pg (jG 5 e7) (dr w) K) (dr w) fun e8 w_ => w_ = (dr w) /\
 Gd (kO c9 true) (fun K => gI pg (hU .eql 5 (.tmp 29) (.tmp 38) d9 e8) (dr w) K) (dr w) fun e9 w_ => w_ = (dr w) /\
 gI pg (mD c9 e9 (.bool false)) (dr w) fun f0 w_ => w_ = (dr w) /\
 lX f0
  (gI pg (hU .add 3 jC jC X5 (aEn 1)) (dr w) fun f2 w =>
  kn tI JB SP f2 w)
  (k0 X5 (dr w))
theorem ON (kn : K4) (k0 : K1) (hn : N4 Q kn 0 1 2 7) (h0 : E1 Q k0 0 7) (h : pT kn k0 (g 0) (g 1) (g 2) (g 7) w) : jO pg pK (bI (bI (iB 1 (gH 2 oU)))) Q g w :=
 kZ (kr := no) (l := [(0, fun g w => k0 (g 7) w)]) h hn lU ⟨h0, trivial⟩
def Cn (k0 : K1) (tI JB SP X5 : aEm) (w : aEl) : Prop :=
 kP (fun (X : aEm -> K0) (t : aEm) (w : aEl) => pT (fun _ _ _ X5 w => X X5 w) k0 tI JB SP t w) X5 w
theorem Pp (k0 : K1) (h0 : E1 Q k0 0 7) (h : Cn k0 (g 0) (g 1) (g 2) (g 7) w) : jO pg pK (bI (iB 1 (gH 2 oU))) Q g w := by
 refine Ov (fun g : Env => g 7) (fun X t w => pT (fun _ _ _ X5 w => X X5 w) k0 (g 0) (g 1) (g 2) t w) h (fun X g1 w1 ha hL => ?_)
 rw [<- rI 0 ha, <- rI 1 ha, <- rI 2 ha] at hL
 exact (ON _ g1 w1 (fun _ _ _ X5 w => X X5 w) k0 (fun _ _ h => h) h0 hL)
def Ca (kn : K1) (tI JB SP X5 : aEm) (w : aEl) : Prop :=
 Cn kn tI JB SP X5 w
def BV (R : K1) (tI JB SP X5 : aEm) (w : aEl) : Prop :=
 Ca (fun X5 w => vO R X5 w) tI JB SP X5 w
theorem OB (kn : K1) (hn : N1 Q kn 7) (h : Ca kn (g 0) (g 1) (g 2) (g 7) w) : jO pg pK (iB 1 (gH 2 oU)) Q g w :=
 Iw 0 (Pp _ g w kn hn h)
def Cj (kn : K4) (tI JB SP : aEm) (w : aEl) : Prop :=
 kn tI JB SP (aEn 0) w
theorem OL (kn : K4) (hn : N4 Q kn 0 1 2 7) (h : Cj kn (g 0) (g 1) (g 2) w) : jO pg pK (iB 2 oU) Q g w :=
 kZ (kr := no) (l := []) h hn lU trivial
def Cb (R : K1) (tI JB SP : aEm) (w : aEl) : Prop :=
 Cj (fun tI JB SP X5 w => BV R tI JB SP X5 w) tI JB SP w
theorem OK (R : K1) (hr : HR BU R Q) (h : Cb R (g 0) (g 1) (g 2) w) : jO pg pK oU Q g w :=
 nQ 2 (OL _ g w (BV R) (fun g w h => iZ (nQ 1 (OB _ g w (vO R) (fun g w h => iZ (Pw _ g w R hr h)) h))) h)
def Mt (a0 a1 a2 : aEm) (w : aEl) (R : K1) : Prop :=
 Cb R a0 a1 a2 w
theorem P1 {a0 a1 a2 : aEm} {w : aEl} {R : K1} (h : Mt a0 a1 a2 w R) : jE pg xJ #[a0, a1, a2] w R := by
 refine wQ (ann := pK) Tryz.f80 oU [a0, a1, a2] BU 44 TryzM.mixed Tryz.func80 ?_
 exact (OK _ _ _ R (fun _ _ h => h) h)
def Ag : FA := ⟨xL, fun i => .leaf ([], []) []⟩
def Gf : List ResultVar := [.tmp 4]
noncomputable def wW : Code := jX Tryz.f81
def vZ (R : K1) (w_5 : aEm) (w : aEl) : Prop :=
 jE pg oB #[w_5] w fun e7 w =>
 R e7 w
theorem Tt (R : K1) (hr : HR Gf R Q) (h : vZ R (g 5) w) : jO pg Ag (gH 3 wW) Q g w :=
 kZ (kn := no) (l := []) h lU hr trivial
def Gb (kn : K1) (TA G9 : aEm) (w : aEl) : Prop :=
 jE pg oS #[] w fun b6 w =>
 gI pg (hU .lss 3 jC jC G9 (aEn 32)) w fun c7 w =>
 lX c7
  (gI pg (hU .shl 3 jC jC G9 (.int .u64 3)) w fun d0 w =>
  gI pg (hU .or 3 jC jC d0 TA) w fun d2 w =>
  gI pg (nE 3 32 d2) w fun d3 w =>
  jE pg jR #[b6, d3, (aEn 1)] w fun d4 w =>
  kn b6 w)
  (gI pg (hU .lss 3 jC jC G9 (aEn 4096)) w fun d7 w =>
  lX d7
   (gI pg (hU .shl 3 jC jC G9 (.int .u64 4)) w fun e0 w =>
   gI pg (hU .or 3 jC jC e0 (aEn 4)) w fun e1 w =>
   gI pg (hU .or 3 jC jC e1 TA) w fun e3 w =>
   gI pg (nE 3 32 e3) w fun e4 w =>
   jE pg jR #[b6, e4, (aEn 2)] w fun e5 w =>
   kn b6 w)
   (gI pg (hU .shl 3 jC jC G9 (.int .u64 4)) w fun b9 w =>
   gI pg (hU .or 3 jC jC b9 (aEn 12)) w fun c0 w =>
   gI pg (hU .or 3 jC jC c0 TA) w fun c2 w =>
   gI pg (nE 3 32 c2) w fun c3 w =>
   jE pg jR #[b6, c3, (aEn 3)] w fun c4 w =>
   kn b6 w))
theorem SY (kn : K1) (hn : N1 Q kn 5) (h : Gb kn (g 0) (g 1) w) : jO pg Ag (iB 3 wW) Q g w :=
 kZ (kr := no) (l := []) h hn lU trivial
def GJ (R : K1) (TA G9 : aEm) (w : aEl) : Prop :=
 Gb (fun w_5 w => vZ R w_5 w) TA G9 w
theorem Tz (R : K1) (hr : HR Gf R Q) (h : GJ R (g 0) (g 1) w) : jO pg Ag wW Q g w :=
 nQ 3 (SY _ g w (vZ R) (fun g w h => iZ (Tt _ g w R hr h)) h)
def TB (a0 a1 : aEm) (w : aEl) (R : K1) : Prop :=
 GJ R a0 a1 w
theorem UK {a0 a1 : aEm} {w : aEl} {R : K1} (h : TB a0 a1 w R) : jE pg xL #[a0, a1] w R := by
 refine wQ (ann := Ag) Tryz.f81 wW [a0, a1] Gf 38 TryzM.mixed Tryz.func81 ?_
 exact (Tz _ _ _ R (fun _ _ h => h) h)
def lF : FA := ⟨Bt, fun i => .leaf ([], []) []⟩
def Ax : List ResultVar := [.tmp 4]
noncomputable def kU : Code := jX Tryz.f82
def tU (R : K1) (Pb : aEm) (w : aEl) : Prop :=
 R Pb w
theorem LV (R : K1) (hr : HR Ax R Q) (h : tU R (g 5) w) : jO pg lF (gH 1 (gH 1 (gH 2 kU))) Q g w :=
 kZ (kn := no) (l := []) h lU hr trivial
def tX (kn : K4) (nD qR Pb zA : aEm) (w : aEl) : Prop :=
 gI pg (hU .add 3 jC jC zA (aEn 1)) w fun c9 w =>
 kn nD qR Pb c9 w
theorem LS (kn : K4) (hn : N4 Q kn 0 1 5 6) (h : tX kn (g 0) (g 1) (g 5) (g 6) w) : jO pg lF (gH 2 (bI (bI (gH 1 (iB 1 (gH 1 (gH 2 kU))))))) Q g w :=
 kZ (kr := no) (l := []) h hn lU trivial
def tT (kn : K4) (k0 : K1) (nD qR Pb zA : aEm) (w : aEl) : Prop :=
 gI pg (nX .len #[137] 3 [nD]) w fun c6 w =>
 gI pg (hU .lss 3 jC jC zA c6) w fun c7 w =>
 lX c7
  (gI pg (jT 137 nD zA) w fun d3 w =>
  gI pg (jG 22 d3) w fun d4 w =>
  gI pg (EC qR [d4, Pb]) w fun d6 w =>
  gI pg (hU .lss 3 jC jC d6 (aEn 0)) w fun d7 w =>
  lX d7
   (gI pg (jT 137 nD zA) w fun e0 w =>
   gI pg (jG 22 e0) w fun e1 w =>
   kn nD qR e1 zA w)
   (kn nD qR Pb zA w))
  (k0 Pb w)
theorem Mb (kn : K4) (k0 : K1) (hn : N4 Q kn 0 1 5 6) (h0 : E1 Q k0 0 5) (h : tT kn k0 (g 0) (g 1) (g 5) (g 6) w) : jO pg lF (iB 2 (bI (bI (gH 1 (iB 1 (gH 1 (gH 2 kU))))))) Q g w :=
 kZ (kr := no) (l := [(0, fun g w => k0 (g 5) w)]) h hn lU ⟨h0, trivial⟩
def rL (kn : K4) (k0 : K1) (nD qR Pb zA : aEm) (w : aEl) : Prop :=
 tT (fun nD qR Pb zA w => tX kn nD qR Pb zA w) k0 nD qR Pb zA w
def Ad (k0 : K1) (nD qR Pb zA : aEm) (w : aEl) : Prop :=
 kP (fun (X : (aEm × aEm) -> K0) (t : aEm × aEm) (w : aEl) => rL (fun _ _ Pb zA w => X (Pb, zA) w) k0 nD qR t.1 t.2 w) (Pb, zA) w
theorem Ma (kn : K4) (k0 : K1) (hn : N4 Q kn 0 1 5 6) (h0 : E1 Q k0 0 5) (h : rL kn k0 (g 0) (g 1) (g 5) (g 6) w) : jO pg lF (bI (bI (gH 1 (iB 1 (gH 1 (gH 2 kU)))))) Q g w :=
 nQ 2 (Mb _ g w (tX kn) k0 (fun g w h => iZ (LS _ g w kn hn h)) h0 h)
theorem LU (k0 : K1) (h0 : E1 Q k0 0 5) (h : Ad k0 (g 0) (g 1) (g 5) (g 6) w) : jO pg lF (bI (gH 1 (iB 1 (gH 1 (gH 2 kU))))) Q g w := by
 refine Ov (fun g : Env => (g 5, g 6)) (fun X t w => rL (fun _ _ Pb zA w => X (Pb, zA) w) k0 (g 0) (g 1) t.1 t.2 w) h (fun X g1 w1 ha hL => ?_)
 rw [<- rI 0 ha, <- rI 1 ha] at hL
 exact (Ma _ g1 w1 (fun _ _ Pb zA w => X (Pb, zA) w) k0 (fun _ _ h => h) h0 hL)
def zZ (kn : K1) (nD qR Pb zA : aEm) (w : aEl) : Prop :=
 Ad kn nD qR Pb zA w
def An (kn : K4) (nD qR Pb : aEm) (w : aEl) : Prop :=
 kn nD qR Pb (aEn 1) w
theorem Mr (kn : K4) (hn : N4 Q kn 0 1 5 6) (h : An kn (g 0) (g 1) (g 5) w) : jO pg lF (iB 1 (iB 1 (gH 1 (gH 2 kU)))) Q g w :=
 kZ (kr := no) (l := []) h hn lU trivial
def Aa (kn : K1) (nD qR Pb : aEm) (w : aEl) : Prop :=
 An (fun nD qR Pb zA w => zZ kn nD qR Pb zA w) nD qR Pb w
def Ab (R : K1) (nD qR Pb : aEm) (w : aEl) : Prop :=
 Aa (fun Pb w => tU R Pb w) nD qR Pb w
theorem Mj (kn : K1) (hn : N1 Q kn 5) (h : Aa kn (g 0) (g 1) (g 5) w) : jO pg lF (iB 1 (gH 1 (gH 2 kU))) Q g w :=
 nQ 1 (Mr _ g w (zZ kn) (fun g w h => iZ (Iw 0 (LU _ g w kn hn h))) h)
def yT (kn : K3) (nD qR : aEm) (w : aEl) : Prop :=
 gI pg (jT 137 nD (aEn 0)) w fun c2 w =>
 gI pg (jG 22 c2) w fun c3 w =>
 kn nD qR c3 w
theorem KC (kn : K3) (hn : N3 Q kn 0 1 5) (h : yT kn (g 0) (g 1) w) : jO pg lF (iB 1 (gH 2 kU)) Q g w :=
 kZ (kr := no) (l := []) h hn lU trivial
def xX (R : K1) (nD qR : aEm) (w : aEl) : Prop :=
 yT (fun nD qR Pb w => Ab R nD qR Pb w) nD qR w
def yM (kn : K2) (nD qR : aEm) (w : aEl) : Prop :=
 gI pg (nX .len #[137] 3 [nD]) w fun b8 w =>
 gI pg (hU .lss 3 jC jC b8 (aEn 1)) w fun b9 w =>
 lX b9
  (gI pg (VX 9 (.string ⟨#[115, 108, 105, 99, 101, 115, 46, 77, 105, 110, 70, 117, 110, 99, 58, 32, 101, 109, 112, 116, 121, 32, 108, 105, 115, 116]⟩)) w fun c0 w =>
  gI pg (V (Instr.panic c0)) w fun _u w =>
  kn nD qR w)
  (kn nD qR w)
theorem Lf (kn : K2) (hn : N2 Q kn 0 1) (h : yM kn (g 0) (g 1) w) : jO pg lF (iB 2 kU) Q g w :=
 kZ (kr := no) (l := []) h hn lU trivial
def xM (R : K1) (nD qR : aEm) (w : aEl) : Prop :=
 yM (fun nD qR w => xX R nD qR w) nD qR w
theorem LK (R : K1) (hr : HR Ax R Q) (h : xM R (g 0) (g 1) w) : jO pg lF kU Q g w :=
 nQ 2 (Lf _ g w (xX R) (fun g w h => iZ (nQ 1 (KC _ g w (Ab R) (fun g w h => iZ (nQ 1 (Mj _ g w (tU R) (fun g w h => iZ (LV _ g w R hr h)) h))) h))) h)
def JD (a0 a1 : aEm) (w : aEl) (R : K1) : Prop :=
 xM R a0 a1 w
theorem NJ {a0 a1 : aEm} {w : aEl} {R : K1} (h : JD a0 a1 w R) : jE pg Bt #[a0, a1] w R := by
 refine wQ (ann := lF) Tryz.f82 kU [a0, a1] Ax 33 TryzM.mixed Tryz.func82 ?_
 exact (LK _ _ _ R (fun _ _ h => h) h)
def Hn : FA := ⟨wY, fun i => .leaf ([], []) []⟩
def I1 : List ResultVar := [.tmp 4]
noncomputable def GM : Code := jX Tryz.f83
def BZ (R : K1) (a_0 AB : aEm) (w : aEl) : Prop :=
 gI pg (nX .len #[22] 3 [a_0]) w fun b6 w =>
 gI pg (nX .len #[22] 3 [AB]) w fun b8 w =>
 gI pg (hU .sub 3 jC jC b6 b8) w fun b9 w =>
 R b9 w
theorem Pz (R : K1) (hr : HR I1 R Q) (h : BZ R (g 0) (g 1) w) : jO pg Hn GM Q g w :=
 kZ (kn := no) (l := []) h lU hr trivial
def MN (a0 a1 : aEm) (w : aEl) (R : K1) : Prop :=
 BZ R a0 a1 w
theorem QE {a0 a1 : aEm} {w : aEl} {R : K1} (h : MN a0 a1 w R) : jE pg wY #[a0, a1] w R := by
 refine wQ (ann := Hn) Tryz.f83 GM [a0, a1] I1 10 TryzM.mixed Tryz.func83 ?_
 exact (Pz _ _ _ R (fun _ _ h => h) h)
def jM : FA := ⟨Bu, fun i => match Nat.beq i 15 with | true => .leaf ([], []) [(false, []), (false, []), (false, []), (false, []), (false, []), (false, []), (false, []), (false, []), (false, []), (false, []), (false, []), (false, []), (false, []), (false, []), (false, []), (false, []), (false, []), (false, []), (false, []), (false, []), (false, []), (false, []), (false, []), (false, []), (false, []), (false, []), (false, []), (false, []), (false, []), (false, []), (false, []), (false, []), (false, []), (false, []), (false, []), (false, []), (false, []), (false, []), (false, []), (false, []), (false, []), (false, []), (false, [])] | false => match Nat.beq i 25 with | true => .leaf ([], []) [(false, []), (false, []), (false, []), (false, []), (false, []), (false, []), (false, []), (false, []), (false, []), (false, []), (false, []), (false, []), (false, []), (false, []), (false, []), (false, []), (false, []), (false, []), (false, []), (false, []), (false, []), (false, []), (false, []), (false, []), (false, []), (false, []), (false, []), (false, []), (false, []), (false, []), (false, []), (false, []), (false, []), (false, []), (false, []), (false, []), (false, []), (false, []), (false, []), (false, []), (false, []), (false, []), (false, []), (false, []), (false, []), (false, [])] | false => .leaf ([], []) []⟩
def El : List ResultVar := [.tmp 4]
noncomputable def jK : Code := jX Tryz.f84
def zL (R : K1) (iY : aEm) (w : aEl) : Prop :=
 R iY w
theorem RH (R : K1) (hr : HR El R Q) (h : zL R (g 5) w) : jO pg jM (gH 1 (gH 1 (gH 1 (gH 3 jK)))) Q g w :=
 kZ (kn := no) (l := []) h lU hr trivial
def zJ (kn : K3) (iK iY jH qD : aEm) (w : aEl) : Prop :=
 gI pg (jT 117 iY qD) w fun y6 w =>
 gI pg (jG 3 y6) w fun y7 w =>
 gI pg (hU .sub 3 jC jC (aEn 11) y7) w fun y8 w =>
 gI pg (hU .shl 3 jC jC (aEn 1) y8) w fun y9 w =>
 gI pg (hU .sub 3 jC jC jH y9) w fun z0 w =>
 gI pg (jT 117 iY qD) w fun z3 w =>
 gI pg (jG 3 z3) w fun z4 w =>
 gI pg (hU .sub 3 jC jC z4 (aEn 1)) w fun z5 w =>
 gI pg (jT 117 iY qD) w fun z6 w =>
 gI pg (jQ 3 z6 z5) w fun _u w =>
 kn iK iY z0 w
theorem Sh (kn : K3) (hn : N3 Q kn 0 5 6) (h : zJ kn (g 0) (g 5) (g 6) (g 12) w) : jO pg jM (gH 1 (gH 1 (bI (gH 1 (bI (bI (iB 1 (gH 1 (gH 1 (gH 3 jK)))))))))) Q g w :=
 kZ (kr := no) (l := []) h hn lU trivial
def zD (kn : K7) (iK iY jH qD p8 p9 q0 : aEm) (w : aEl) : Prop :=
 gI pg (hU .add 3 jC jC q0 (aEn 1)) w fun y2 w =>
 kn iK iY jH qD p8 p9 y2 w
theorem RL (kn : K7) (hn : N7 Q kn 0 5 6 12 118 119 120) (h : zD kn (g 0) (g 5) (g 6) (g 12) (g 118) (g 119) (g 120) w) : jO pg jM (gH 3 (bI (bI (gH 1 (iB 1 (gH 1 (bI (gH 1 (bI (bI (iB 1 (gH 1 (gH 1 (gH 3 jK)))))))))))))) Q g w :=
 kZ (kr := no) (l := []) h hn lU trivial
def Ev (kn : K7) (k8 : K4) (iK iY jH qD p8 p9 q0 : aEm) (w : aEl) : Prop :=
 gI pg (hU .lss 3 jC jC q0 p9) w fun q1 w =>
 lX q1
  (gI pg (jT 128 p8 q0) w fun q3 w =>
  gI pg (jG 38 q3) w fun q4 w =>
  (dr w) = (dr w) /\
  gI pg (hU .gtr 38 jC jC q4 (.int .u32 0)) (dr w) fun q6 w_ => w_ = (dr w) /\
  (dr w) = (dr w) /\
  Gd (kO q6 true) (fun K => K iY (dr w)) (dr w) fun q8 w_ => w_ = (dr w) /\
  Gd (kO q6 true) (fun K => K q0 (dr w)) (dr w) fun q9 w_ => w_ = (dr w) /\
  Gd (kO q6 true) (fun K => gI pg (jT 117 q8 q9) (dr w) K) (dr w) fun s0 w_ => w_ = (dr w) /\
  Gd (kO q6 true) (fun K => gI pg (jG 3 s0) (dr w) K) (dr w) fun s1 w_ => w_ = (dr w) /\
  Gd (kO q6 true) (fun K => gI pg (hU .sub 3 jC jC (aEn 11) s1) (dr w) K) (dr w) fun s2 w_ => w_ = (dr w) /\
  Gd (kO q6 true) (fun K => gI pg (hU .shl 3 jC jC (aEn 1) s2) (dr w) K) (dr w) fun s3 w_ => w_ = (dr w) /\
  Gd (kO q6 true) (fun K => K jH (dr w)) (dr w) fun s4 w_ => w_ = (dr w) /\
  Gd (kO q6 true) (fun K => gI pg (hU .leq 3 jC jC s3 s4) (dr w) K) (dr w) fun s5 w_ => w_ = (dr w) /\
  gI pg (mD q6 s5 (.bool false)) (dr w) fun s6 w_ => w_ = (dr w) /\
  (dr w) = (dr w) /\
  Gd (kO s6 true) (fun K => K qD (dr w)) (dr w) fun s8 w_ => w_ = (dr w) /\
  Gd (kO s6 true) (fun K => gI pg (hU .lss 3 jC jC s8 (aEn 0)) (dr w) K) (dr w) fun s9 w_ => w_ = (dr w) /\
  Gd (kO s6 true) (fun K => K s9 (dr w)) (dr w) fun u0 w_ => w_ = (dr w) /\
  Gd (kO u0 false) (fun K => K iY (dr w)) (dr w) fun u1 w_ => w_ = (dr w) /\
  Gd (kO u0 false) (fun K => K q0 (dr w)) (dr w) fun u2 w_ => w_ = (dr w) /\
  Gd (kO u0 false) (fun K => gI pg (jT 117 u1 u2) (dr w) K) (dr w) fun u3 w_ => w_ = (dr w) /\
  Gd (kO u0 false) (fun K => gI pg (jG 3 u3) (dr w) K) (dr w) fun u4 w_ => w_ = (dr w) /\
  Gd (kO u0 false) (fun K => K iY (dr w)) (dr w) fun u5 w_ => w_ = (dr w) /\
  Gd (kO u0 false) (fun K => K qD (dr w)) (dr w) fun u6 w_ => w_ = (dr w) /\
  Gd (kO u0 false) (fun K => gI pg (jT 117 u5 u6) (dr w) K) (dr w) fun u7 w_ => w_ = (dr w) /\
  Gd (kO u0 false) (fun K => gI pg (jG 3 u7) (dr w) K) (dr w) fun u8 w_ => w_ = (dr w) /\
  Gd (kO u0 false) (fun K => gI pg (hU .gtr 3 jC jC u4 u8) (dr w) K) (dr w) fun u9 w_ => w_ = (dr w) /\
  Gd (kO s6 true) (fun K => gI pg (mD u0 (.bool true) u9) (dr w) K) (dr w) fun v0 w_ => w_ = (dr w) /\
  Gd (kO s6 true) (fun K => K v0 (dr w)) (dr w) fun v1 w_ => w_ = (dr w) /\
  Gd (kO v1 false) (fun K => K iY (dr w)) (dr w) fun v2 w_ => w_ = (dr w) /\
  Gd (kO v1 false) (fun K => K q0 (dr w)) (dr w) fun v3 w_ => w_ = (dr w) /\
  Gd (kO v1 false) (fun K => gI pg (jT 117 v2 v3) (dr w) K) (dr w) fun v4 w_ => w_ = (dr w) /\
  Gd (kO v1 false) (fun K => gI pg (jG 3 v4) (dr w) K) (dr w) fun v5 w_ => w_ = (dr w) /\
  Gd (kO v1 false) (fun K => K iY (dr w)) (dr w) fun v6 w_ => w_ = (dr w) /\
  Gd (kO v1 false) (fun K => K qD (dr w)) (dr w) fun v7 w_ => w_ = (dr w) /\
  Gd (kO v1 false) (fun K => gI pg (jT 117 v6 v7) (dr w) K) (dr w) fun v8 w_ => w_ = (dr w) /\
  Gd (kO v1 false) (fun K => gI pg (jG 3 v8) (dr w) K) (dr w) fun v9 w_ => w_ = (dr w) /\
  Gd (kO v1 false) (fun K => gI pg (hU .eql 3 (.tmp 155) (.tmp 159) v5 v9) (dr w) K) (dr w) fun x0 w_ => w_ = (dr w) /\
  Gd (kO v1 false) (fun K => K x0 (dr w)) (dr w) fun x1 w_ => w_ = (dr w) /\
  Gd (kO x1 true) (fun K => K q4 (dr w)) (dr w) fun x2 w_ => w_ = (dr w) /\
  Gd (kO x1 true) (fun K => K iK (dr w)) (dr w) fun x3 w_ => w_ = (dr w) /\
  Gd (kO x1 true) (fun K => K qD (dr w)) (dr w) fun x4 w_ => w_ = (dr w) /\
  Gd (kO x1 true) (fun K => gI pg (jT 128 x3 x4) (dr w) K) (dr w) fun x5 w_ => w_ = (dr w) /\
  Gd (kO x1 true) (fun K => gI pg (jG 38 x5) (dr w) K) (dr w) fun x6 w_ => w_ = (dr w) /\
  Gd (kO x1 true) (fun K => gI pg (hU .gtr 38 jC jC x2 x6) (dr w) K) (dr w) fun x7 w_ => w_ = (dr w) /\
  Gd (kO v1 false) (fun K => gI pg (mD x1 x7 (.bool false)) (dr w) K) (dr w) fun x8 w_ => w_ = (dr w) /\
  Gd (kO s6 true) (fun K => gI pg (mD v1 (.bool true) x8) (dr w) K) (dr w) fun x9 w_ => w_ = (dr w) /\
  gI pg (mD s6 x9 (.bool false)) (dr w) fun y0 w_ => w_ = (dr w) /\
  lX y0
   (kn iK iY jH q0 p8 p9 q0 (dr w))
   (kn iK iY jH qD p8 p9 q0 (dr w)))
  (k8 iK iY jH qD w)
theorem RS (kn : K7) (k8 : K4) (hn : N7 Q kn 0 5 6 12 118 119 120) (h8 : E4 Q k8 8 0 5 6 12) (h : Ev kn k8 (g 0) (g 5) (g 6) (g 12) (g 118) (g 119) (g 120) w) : jO pg jM (iB 3 (bI (bI (gH 1 (iB 1 (gH 1 (bI (gH 1 (bI (bI (iB 1 (gH 1 (gH 1 (gH 3 jK)))))))))))))) Q g w :=
 kZ (kr := no) (l := [(8, fun g w => k8 (g 0) (g 5) (g 6) (g 12) w)]) h hn lU ⟨h8, trivial⟩
def Ay (kn : K7) (k8 : K4) (iK iY jH qD p8 p9 q0 : aEm) (w : aEl) : Prop :=
 Ev (fun iK iY jH qD p8 p9 q0 w => zD kn iK iY jH qD p8 p9 q0 w) k8 iK iY jH qD p8 p9 q0 w
def EB (k8 : K4) (iK iY jH qD p8 p9 q0 : aEm) (w : aEl) : Prop :=
 kP (fun (X : (aEm × aEm) -> K0) (t : aEm × aEm) (w : aEl) => Ay (fun _ _ _ qD _ _ q0 w => X (qD, q0) w) k8 iK iY jH t.1 p8 p9 t.2 w) (qD, q0) w
theorem R7 (kn : K7) (k8 : K4) (hn : N7 Q kn 0 5 6 12 118 119 120) (h8 : E4 Q k8 8 0 5 6 12) (h : Ay kn k8 (g 0) (g 5) (g 6) (g 12) (g 118) (g 119) (g 120) w) : jO pg jM (bI (bI (gH 1 (iB 1 (gH 1 (bI (gH 1 (bI (bI (iB 1 (gH 1 (gH 1 (gH 3 jK))))))))))))) Q g w :=
 nQ 3 (RS _ g w (zD kn) k8 (fun g w h => iZ (RL _ g w kn hn h)) h8 h)
theorem Sb (k8 : K4) (h8 : E4 Q k8 8 0 5 6 12) (h : EB k8 (g 0) (g 5) (g 6) (g 12) (g 118) (g 119) (g 120) w) : jO pg jM (bI (gH 1 (iB 1 (gH 1 (bI (gH 1 (bI (bI (iB 1 (gH 1 (gH 1 (gH 3 jK)))))))))))) Q g w := by
 refine Ov (fun g : Env => (g 12, g 120)) (fun X t w => Ay (fun _ _ _ qD _ _ q0 w => X (qD, q0) w) k8 (g 0) (g 5) (g 6) t.1 (g 118) (g 119) t.2 w) h (fun X g1 w1 ha hL => ?_)
 rw [<- rI 0 ha, <- rI 5 ha, <- rI 6 ha, <- rI 118 ha, <- rI 119 ha] at hL
 exact (R7 _ g1 w1 (fun _ _ _ qD _ _ q0 w => X (qD, q0) w) k8 (fun _ _ h => h) h8 hL)
def EF (kn : K4) (iK iY jH qD p8 p9 q0 : aEm) (w : aEl) : Prop :=
 EB kn iK iY jH qD p8 p9 q0 w
def EN (kn : K7) (iK iY jH qD : aEm) (w : aEl) : Prop :=
 gI pg (nX .len #[128] 3 [iK]) w fun p9 w =>
 kn iK iY jH qD iK p9 (aEn 0) w
theorem Rn (kn : K7) (hn : N7 Q kn 0 5 6 12 118 119 120) (h : EN kn (g 0) (g 5) (g 6) (g 12) w) : jO pg jM (iB 1 (iB 1 (gH 1 (bI (gH 1 (bI (bI (iB 1 (gH 1 (gH 1 (gH 3 jK))))))))))) Q g w :=
 kZ (kr := no) (l := []) h hn lU trivial
def zX (kn : K4) (iK iY jH qD : aEm) (w : aEl) : Prop :=
 EN (fun iK iY jH qD p8 p9 q0 w => EF kn iK iY jH qD p8 p9 q0 w) iK iY jH qD w
def Dl (kn : K3) (iK iY jH qD : aEm) (w : aEl) : Prop :=
 zX (fun iK iY jH qD w => zJ kn iK iY jH qD w) iK iY jH qD w
theorem R3 (kn : K4) (hn : N4 Q kn 0 5 6 12) (h : zX kn (g 0) (g 5) (g 6) (g 12) w) : jO pg jM (iB 1 (gH 1 (bI (gH 1 (bI (bI (iB 1 (gH 1 (gH 1 (gH 3 jK)))))))))) Q g w :=
 nQ 1 (Rn _ g w (EF kn) (fun g w h => iZ (Iw 8 (Sb _ g w kn hn h))) h)
def C2 (kn : K4) (iK iY jH : aEm) (w : aEl) : Prop :=
 kn iK iY jH (aEn (-1)) w
theorem Qn (kn : K4) (hn : N4 Q kn 0 5 6 12) (h : C2 kn (g 0) (g 5) (g 6) w) : jO pg jM (iB 1 (bI (gH 1 (bI (bI (iB 1 (gH 1 (gH 1 (gH 3 jK))))))))) Q g w :=
 kZ (kr := no) (l := []) h hn lU trivial
def Jy (kn : K3) (iK iY jH : aEm) (w : aEl) : Prop :=
 C2 (fun iK iY jH qD w => Dl kn iK iY jH qD w) iK iY jH w
def Dr (kn : K3) (iK iY jH : aEm) (w : aEl) : Prop :=
 Jy kn iK iY jH w
def CU (kn : K3) (k6 : K1) (iK iY jH : aEm) (w : aEl) : Prop :=
 gI pg (hU .gtr 3 jC jC jH (aEn 0)) w fun p7 w =>
 lX p7
  (kn iK iY jH w)
  (k6 iY w)
theorem PX (kn : K3) (k6 : K1) (hn : N3 Q kn 0 5 6) (h6 : E1 Q k6 6 5) (h : CU kn k6 (g 0) (g 5) (g 6) w) : jO pg jM (iB 1 (bI (bI (iB 1 (gH 1 (gH 1 (gH 3 jK))))))) Q g w :=
 kZ (kr := no) (l := [(6, fun g w => k6 (g 5) w)]) h hn lU ⟨h6, trivial⟩
def wZ (kn : K3) (k6 : K1) (iK iY jH : aEm) (w : aEl) : Prop :=
 CU (fun iK iY jH w => Dr kn iK iY jH w) k6 iK iY jH w
def C7 (k6 : K1) (iK iY jH : aEm) (w : aEl) : Prop :=
 kP (fun (X : aEm -> K0) (t : aEm) (w : aEl) => wZ (fun _ _ jH w => X jH w) k6 iK iY t w) jH w
theorem Qp (kn : K3) (k6 : K1) (hn : N3 Q kn 0 5 6) (h6 : E1 Q k6 6 5) (h : wZ kn k6 (g 0) (g 5) (g 6) w) : jO pg jM (bI (bI (iB 1 (gH 1 (gH 1 (gH 3 jK)))))) Q g w :=
 nQ 1 (PX _ g w (Dr kn) k6 (fun g w h => iZ (Iw 7 (nQ 1 (Qn _ g w (Dl kn) (fun g w h => iZ (nQ 1 (R3 _ g w (zJ kn) (fun g w h => iZ (Sh _ g w kn hn h)) h))) h)))) h6 h)
theorem PO (k6 : K1) (h6 : E1 Q k6 6 5) (h : C7 k6 (g 0) (g 5) (g 6) w) : jO pg jM (bI (iB 1 (gH 1 (gH 1 (gH 3 jK))))) Q g w := by
 refine Ov (fun g : Env => g 6) (fun X t w => wZ (fun _ _ jH w => X jH w) k6 (g 0) (g 5) t w) h (fun X g1 w1 ha hL => ?_)
 rw [<- rI 0 ha, <- rI 5 ha] at hL
 exact (Qp _ g1 w1 (fun _ _ jH w => X jH w) k6 (fun _ _ h => h) h6 hL)
def Dz (kn : K1) (iK iY jH : aEm) (w : aEl) : Prop :=
 C7 kn iK iY jH w
def tM (R : K1) (iK iY jH : aEm) (w : aEl) : Prop :=
 Dz (fun iY w => zL R iY w) iK iY jH w
theorem QD (kn : K1) (hn : N1 Q kn 5) (h : Dz kn (g 0) (g 5) (g 6) w) : jO pg jM (iB 1 (gH 1 (gH 1 (gH 3 jK)))) Q g w :=
 Iw 6 (PO _ g w kn hn h)
def wV (kn : K3) (iK iY jH vF : aEm) (w : aEl) : Prop :=
 gI pg (jT 117 iY vF) w fun o4 w =>
 gI pg (jG 3 o4) w fun o5 w =>
 gI pg (hU .sub 3 jC jC (aEn 11) o5) w fun o6 w =>
 gI pg (hU .sub 3 jC jC o6 (aEn 1)) w fun o7 w =>
 gI pg (hU .shl 3 jC jC (aEn 1) o7) w fun o8 w =>
 gI pg (hU .add 3 jC jC jH o8) w fun o9 w =>
 gI pg (jT 117 iY vF) w fun p2 w =>
 gI pg (jG 3 p2) w fun p3 w =>
 gI pg (hU .add 3 jC jC p3 (aEn 1)) w fun p4 w =>
 gI pg (jT 117 iY vF) w fun p5 w =>
 gI pg (jQ 3 p5 p4) w fun _u w =>
 kn iK iY o9 w
theorem PT (kn : K3) (hn : N3 Q kn 0 5 6) (h : wV kn (g 0) (g 5) (g 6) (g 9) w) : jO pg jM (gH 1 (gH 1 (bI (gH 1 (bI (bI (iB 1 (gH 1 (gH 3 jK))))))))) Q g w :=
 kZ (kr := no) (l := []) h hn lU trivial
def wT (kn : K7) (iK iY jH vF f9 i0 i1 : aEm) (w : aEl) : Prop :=
 gI pg (hU .add 3 jC jC i1 (aEn 1)) w fun o0 w =>
 kn iK iY jH vF f9 i0 o0 w
theorem Qv (kn : K7) (hn : N7 Q kn 0 5 6 9 49 50 51) (h : wT kn (g 0) (g 5) (g 6) (g 9) (g 49) (g 50) (g 51) w) : jO pg jM (gH 3 (bI (bI (gH 1 (iB 1 (gH 1 (bI (gH 1 (bI (bI (iB 1 (gH 1 (gH 3 jK))))))))))))) Q g w :=
 kZ (kr := no) (l := []) h hn lU trivial
def Dg (kn : K7) (k4 : K4) (iK iY jH vF f9 i0 i1 : aEm) (w : aEl) : Prop :=
 gI pg (hU .lss 3 jC jC i1 i0) w fun i2 w =>
 lX i2
  (gI pg (jT 128 f9 i1) w fun i4 w =>
  gI pg (jG 38 i4) w fun i5 w =>
  (dr w) = (dr w) /\
  gI pg (hU .gtr 38 jC jC i5 (.int .u32 0)) (dr w) fun i7 w_ => w_ = (dr w) /\
  (dr w) = (dr w) /\
  Gd (kO i7 true) (fun K => K iY (dr w)) (dr w) fun i9 w_ => w_ = (dr w) /\
  Gd (kO i7 true) (fun K => K i1 (dr w)) (dr w) fun j0 w_ => w_ = (dr w) /\
  Gd (kO i7 true) (fun K => gI pg (jT 117 i9 j0) (dr w) K) (dr w) fun j1 w_ => w_ = (dr w) /\
  Gd (kO i7 true) (fun K => gI pg (jG 3 j1) (dr w) K) (dr w) fun j2 w_ => w_ = (dr w) /\
  Gd (kO i7 true) (fun K => gI pg (hU .lss 3 jC jC j2 (aEn 11)) (dr w) K) (dr w) fun j3 w_ => w_ = (dr w) /\
  gI pg (mD i7 j3 (.bool false)) (dr w) fun j4 w_ => w_ = (dr w) /\
  (dr w) = (dr w) /\
  Gd (kO j4 true) (fun K => K vF (dr w)) (dr w) fun j6 w_ => w_ = (dr w) /\
  Gd (kO j4 true) (fun K => gI pg (hU .lss 3 jC jC j6 (aEn 0)) (dr w) K) (dr w) fun j7 w_ => w_ = (dr w) /\
  Gd (kO j4 true) (fun K => K j7 (dr w)) (dr w) fun j8 w_ => w_ = (dr w) /\
  Gd (kO j8 false) (fun K => K iY (dr w)) (dr w) fun j9 w_ => w_ = (dr w) /\
  Gd (kO j8 false) (fun K => K i1 (dr w)) (dr w) fun l0 w_ => w_ = (dr w) /\
  Gd (kO j8 false) (fun K => gI pg (jT 117 j9 l0) (dr w) K) (dr w) fun l1 w_ => w_ = (dr w) /\
  Gd (kO j8 false) (fun K => gI pg (jG 3 l1) (dr w) K) (dr w) fun l2 w_ => w_ = (dr w) /\
  Gd (kO j8 false) (fun K => K iY (dr w)) (dr w) fun l3 w_ => w_ = (dr w) /\
  Gd (kO j8 false) (fun K => K vF (dr w)) (dr w) fun l4 w_ => w_ = (dr w) /\
  Gd (kO j8 false) (fun K => gI pg (jT 117 l3 l4) (dr w) K) (dr w) fun l5 w_ => w_ = (dr w) /\
  Gd (kO j8 false) (fun K => gI pg (jG 3 l5) (dr w) K) (dr w) fun l6 w_ => w_ = (dr w) /\
  Gd (kO j8 false) (fun K => gI pg (hU .gtr 3 jC jC l2 l6) (dr w) K) (dr w) fun l7 w_ => w_ = (dr w) /\
  Gd (kO j4 true) (fun K => gI pg (mD j8 (.bool true) l7) (dr w) K) (dr w) fun l8 w_ => w_ = (dr w) /\
  Gd (kO j4 true) (fun K => K l8 (dr w)) (dr w) fun l9 w_ => w_ = (dr w) /\
  Gd (kO l9 false) (fun K => K iY (dr w)) (dr w) fun m0 w_ => w_ = (dr w) /\
  Gd (kO l9 false) (fun K => K i1 (dr w)) (dr w) fun m1 w_ => w_ = (dr w) /\
  Gd (kO l9 false) (fun K => gI pg (jT 117 m0 m1) (dr w) K) (dr w) fun m2 w_ => w_ = (dr w) /\
  Gd (kO l9 false) (fun K => gI pg (jG 3 m2) (dr w) K) (dr w) fun m3 w_ => w_ = (dr w) /\
  Gd (kO l9 false) (fun K => K iY (dr w)) (dr w) fun m4 w_ => w_ = (dr w) /\
  Gd (kO l9 false) (fun K => K vF (dr w)) (dr w) fun m5 w_ => w_ = (dr w) /\
  Gd (kO l9 false) (fun K => gI pg (jT 117 m4 m5) (dr w) K) (dr w) fun m6 w_ => w_ = (dr w) /\
  Gd (kO l9 false) (fun K => gI pg (jG 3 m6) (dr w) K) (dr w) fun m7 w_ => w_ = (dr w) /\
  Gd (kO l9 false) (fun K => gI pg (hU .eql 3 (.tmp 83) (.tmp 87) m3 m7) (dr w) K) (dr w) fun m8 w_ => w_ = (dr w) /\
  Gd (kO l9 false) (fun K => K m8 (dr w)) (dr w) fun m9 w_ => w_ = (dr w) /\
  Gd (kO m9 true) (fun K => K i5 (dr w)) (dr w) fun n0 w_ => w_ = (dr w) /\
  Gd (kO m9 true) (fun K => K iK (dr w)) (dr w) fun n1 w_ => w_ = (dr w) /\
  Gd (kO m9 true) (fun K => K vF (dr w)) (dr w) fun n2 w_ => w_ = (dr w) /\
  Gd (kO m9 true) (fun K => gI pg (jT 128 n1 n2) (dr w) K) (dr w) fun n3 w_ => w_ = (dr w) /\
  Gd (kO m9 true) (fun K => gI pg (jG 38 n3) (dr w) K) (dr w) fun n4 w_ => w_ = (dr w) /\
  Gd (kO m9 true) (fun K => gI pg (hU .lss 38 jC jC n0 n4) (dr w) K) (dr w) fun n5 w_ => w_ = (dr w) /\
  Gd (kO l9 false) (fun K => gI pg (mD m9 n5 (.bool false)) (dr w) K) (dr w) fun n6 w_ => w_ = (dr w) /\
  Gd (kO j4 true) (fun K => gI pg (mD l9 (.bool true) n6) (dr w) K) (dr w) fun n7 w_ => w_ = (dr w) /\
  gI pg (mD j4 n7 (.bool false)) (dr w) fun n8 w_ => w_ = (dr w) /\
  lX n8
   (kn iK iY jH i1 f9 i0 i1 (dr w))
   (kn iK iY jH vF f9 i0 i1 (dr w)))
  (k4 iK iY jH vF w)
theorem PV (kn : K7) (k4 : K4) (hn : N7 Q kn 0 5 6 9 49 50 51) (h4 : E4 Q k4 4 0 5 6 9) (h : Dg kn k4 (g 0) (g 5) (g 6) (g 9) (g 49) (g 50) (g 51) w) : jO pg jM (iB 3 (bI (bI (gH 1 (iB 1 (gH 1 (bI (gH 1 (bI (bI (iB 1 (gH 1 (gH 3 jK))))))))))))) Q g w :=
 kZ (kr := no) (l := [(4, fun g w => k4 (g 0) (g 5) (g 6) (g 9) w)]) h hn lU ⟨h4, trivial⟩
def wS (kn : K7) (k4 : K4) (iK iY jH vF f9 i0 i1 : aEm) (w : aEl) : Prop :=
 Dg (fun iK iY jH vF f9 i0 i1 w => wT kn iK iY jH vF f9 i0 i1 w) k4 iK iY jH vF f9 i0 i1 w
def Dj (k4 : K4) (iK iY jH vF f9 i0 i1 : aEm) (w : aEl) : Prop :=
 kP (fun (X : (aEm × aEm) -> K0) (t : aEm × aEm) (w : aEl) => wS (fun _ _ _ vF _ _ i1 w => X (vF, i1) w) k4 iK iY jH t.1 f9 i0 t.2 w) (vF, i1) w
theorem Qk (kn : K7) (k4 : K4) (hn : N7 Q kn 0 5 6 9 49 50 51) (h4 : E4 Q k4 4 0 5 6 9) (h : wS kn k4 (g 0) (g 5) (g 6) (g 9) (g 49) (g 50) (g 51) w) : jO pg jM (bI (bI (gH 1 (iB 1 (gH 1 (bI (gH 1 (bI (bI (iB 1 (gH 1 (gH 3 jK)))))))))))) Q g w :=
 nQ 3 (PV _ g w (wT kn) k4 (fun g w h => iZ (Qv _ g w kn hn h)) h4 h)
theorem QR (k4 : K4) (h4 : E4 Q k4 4 0 5 6 9) (h : Dj k4 (g 0) (g 5) (g 6) (g 9) (g 49) (g 50) (g 51) w) : jO pg jM (bI (gH 1 (iB 1 (gH 1 (bI (gH 1 (bI (bI (iB 1 (gH 1 (gH 3 jK))))))))))) Q g w := by
 refine Ov (fun g : Env => (g 9, g 51)) (fun X t w => wS (fun _ _ _ vF _ _ i1 w => X (vF, i1) w) k4 (g 0) (g 5) (g 6) t.1 (g 49) (g 50) t.2 w) h (fun X g1 w1 ha hL => ?_)
 rw [<- rI 0 ha, <- rI 5 ha, <- rI 6 ha, <- rI 49 ha, <- rI 50 ha] at hL
 exact (Qk _ g1 w1 (fun _ _ _ vF _ _ i1 w => X (vF, i1) w) k4 (fun _ _ h => h) h4 hL)
def CW (kn : K4) (iK iY jH vF f9 i0 i1 : aEm) (w : aEl) : Prop :=
 Dj kn iK iY jH vF f9 i0 i1 w
def Dx (kn : K7) (iK iY jH vF : aEm) (w : aEl) : Prop :=
 gI pg (nX .len #[128] 3 [iK]) w fun i0 w =>
 kn iK iY jH vF iK i0 (aEn 0) w
theorem QJ (kn : K7) (hn : N7 Q kn 0 5 6 9 49 50 51) (h : Dx kn (g 0) (g 5) (g 6) (g 9) w) : jO pg jM (iB 1 (iB 1 (gH 1 (bI (gH 1 (bI (bI (iB 1 (gH 1 (gH 3 jK)))))))))) Q g w :=
 kZ (kr := no) (l := []) h hn lU trivial
def xB (kn : K4) (iK iY jH vF : aEm) (w : aEl) : Prop :=
 Dx (fun iK iY jH vF f9 i0 i1 w => CW kn iK iY jH vF f9 i0 i1 w) iK iY jH vF w
def Dy (kn : K3) (iK iY jH vF : aEm) (w : aEl) : Prop :=
 xB (fun iK iY jH vF w => wV kn iK iY jH vF w) iK iY jH vF w
theorem Qq (kn : K4) (hn : N4 Q kn 0 5 6 9) (h : xB kn (g 0) (g 5) (g 6) (g 9) w) : jO pg jM (iB 1 (gH 1 (bI (gH 1 (bI (bI (iB 1 (gH 1 (gH 3 jK))))))))) Q g w :=
 nQ 1 (QJ _ g w (CW kn) (fun g w h => iZ (Iw 4 (QR _ g w kn hn h))) h)
def Dk (kn : K4) (iK iY jH : aEm) (w : aEl) : Prop :=
 kn iK iY jH (aEn (-1)) w
theorem PU (kn : K4) (hn : N4 Q kn 0 5 6 9) (h : Dk kn (g 0) (g 5) (g 6) w) : jO pg jM (iB 1 (bI (gH 1 (bI (bI (iB 1 (gH 1 (gH 3 jK)))))))) Q g w :=
 kZ (kr := no) (l := []) h hn lU trivial
def JI (kn : K3) (iK iY jH : aEm) (w : aEl) : Prop :=
 Dk (fun iK iY jH vF w => Dy kn iK iY jH vF w) iK iY jH w
def C3 (kn : K3) (iK iY jH : aEm) (w : aEl) : Prop :=
 JI kn iK iY jH w
def Dd (kn : K3) (k2 : K3) (iK iY jH : aEm) (w : aEl) : Prop :=
 gI pg (hU .lss 3 jC jC jH (aEn 0)) w fun f8 w =>
 lX f8
  (kn iK iY jH w)
  (k2 iK iY jH w)
theorem QN (kn : K3) (k2 : K3) (hn : N3 Q kn 0 5 6) (h2 : E3 Q k2 2 0 5 6) (h : Dd kn k2 (g 0) (g 5) (g 6) w) : jO pg jM (iB 1 (bI (bI (iB 1 (gH 1 (gH 3 jK)))))) Q g w :=
 kZ (kr := no) (l := [(2, fun g w => k2 (g 0) (g 5) (g 6) w)]) h hn lU ⟨h2, trivial⟩
def xK (kn : K3) (k2 : K3) (iK iY jH : aEm) (w : aEl) : Prop :=
 Dd (fun iK iY jH w => C3 kn iK iY jH w) k2 iK iY jH w
def CZ (k2 : K3) (iK iY jH : aEm) (w : aEl) : Prop :=
 kP (fun (X : aEm -> K0) (t : aEm) (w : aEl) => xK (fun _ _ jH w => X jH w) k2 iK iY t w) jH w
theorem Qh (kn : K3) (k2 : K3) (hn : N3 Q kn 0 5 6) (h2 : E3 Q k2 2 0 5 6) (h : xK kn k2 (g 0) (g 5) (g 6) w) : jO pg jM (bI (bI (iB 1 (gH 1 (gH 3 jK))))) Q g w :=
 nQ 1 (QN _ g w (C3 kn) k2 (fun g w h => iZ (Iw 3 (nQ 1 (PU _ g w (Dy kn) (fun g w h => iZ (nQ 1 (Qq _ g w (wV kn) (fun g w h => iZ (PT _ g w kn hn h)) h))) h)))) h2 h)
theorem P6 (k2 : K3) (h2 : E3 Q k2 2 0 5 6) (h : CZ k2 (g 0) (g 5) (g 6) w) : jO pg jM (bI (iB 1 (gH 1 (gH 3 jK)))) Q g w := by
 refine Ov (fun g : Env => g 6) (fun X t w => xK (fun _ _ jH w => X jH w) k2 (g 0) (g 5) t w) h (fun X g1 w1 ha hL => ?_)
 rw [<- rI 0 ha, <- rI 5 ha] at hL
 exact (Qh _ g1 w1 (fun _ _ jH w => X jH w) k2 (fun _ _ h => h) h2 hL)
def C0 (kn : K3) (iK iY jH : aEm) (w : aEl) : Prop :=
 CZ kn iK iY jH w
def tO (R : K1) (iK iY jH : aEm) (w : aEl) : Prop :=
 C0 (fun iK iY jH w => tM R iK iY jH w) iK iY jH w
theorem Qy (kn : K3) (hn : N3 Q kn 0 5 6) (h : C0 kn (g 0) (g 5) (g 6) w) : jO pg jM (iB 1 (gH 1 (gH 3 jK))) Q g w :=
 Iw 2 (P6 _ g w kn hn h)
def xD (kn : K7) (iK pN iY jH c8 c9 d0 : aEm) (w : aEl) : Prop :=
 gI pg (hU .add 3 jC jC d0 (aEn 1)) w fun f6 w =>
 kn iK pN iY jH c8 c9 f6 w
theorem Qs (kn : K7) (hn : N7 Q kn 0 1 5 6 18 19 20) (h : xD kn (g 0) (g 1) (g 5) (g 6) (g 18) (g 19) (g 20) w) : jO pg jM (gH 3 (bI (bI (gH 1 (iB 1 (gH 3 jK)))))) Q g w :=
 kZ (kr := no) (l := []) h hn lU trivial
def C1 (kn : K7) (k0 : K3) (iK pN iY jH c8 c9 d0 : aEm) (w : aEl) : Prop :=
 gI pg (hU .lss 3 jC jC d0 c9) w fun d1 w =>
 lX d1
  (gI pg (jT 128 c8 d0) w fun d3 w =>
  gI pg (jG 38 d3) w fun d4 w =>
  gI pg (hU .gtr 38 jC jC d4 (.int .u32 0)) w fun d6 w =>
  lX d6
   (gI pg (hU .sub 32 jC jC pN (.int .u64 1)) w fun e0 w =>
   gI pg (nE 38 32 d4) w fun e2 w =>
   gI pg (hU .quo 32 jC jC e0 e2) w fun e3 w =>
   jE pg vW #[e3] w fun e4 w =>
   gI pg (nX .max #[3, 3] 3 [e4, (aEn 1)]) w fun e5 w =>
   gI pg (nX .min #[3, 3] 3 [e5, (aEn 11)]) w fun e6 w =>
   gI pg (jT 117 iY d0) w fun e7 w =>
   gI pg (jQ 3 e7 e6) w fun _u w =>
   gI pg (jT 117 iY d0) w fun f1 w =>
   gI pg (jG 3 f1) w fun f2 w =>
   gI pg (hU .sub 3 jC jC (aEn 11) f2) w fun f3 w =>
   gI pg (hU .shl 3 jC jC (aEn 1) f3) w fun f4 w =>
   gI pg (hU .sub 3 jC jC jH f4) w fun f5 w =>
   kn iK pN iY f5 c8 c9 d0 w)
   (kn iK pN iY jH c8 c9 d0 w))
  (k0 iK iY jH w)
theorem Qt (kn : K7) (k0 : K3) (hn : N7 Q kn 0 1 5 6 18 19 20) (h0 : E3 Q k0 0 0 5 6) (h : C1 kn k0 (g 0) (g 1) (g 5) (g 6) (g 18) (g 19) (g 20) w) : jO pg jM (iB 3 (bI (bI (gH 1 (iB 1 (gH 3 jK)))))) Q g w :=
 kZ (kr := no) (l := [(0, fun g w => k0 (g 0) (g 5) (g 6) w)]) h hn lU ⟨h0, trivial⟩
def wX (kn : K7) (k0 : K3) (iK pN iY jH c8 c9 d0 : aEm) (w : aEl) : Prop :=
 C1 (fun iK pN iY jH c8 c9 d0 w => xD kn iK pN iY jH c8 c9 d0 w) k0 iK pN iY jH c8 c9 d0 w
def Dp (k0 : K3) (iK pN iY jH c8 c9 d0 : aEm) (w : aEl) : Prop :=
 kP (fun (X : (aEm × aEm) -> K0) (t : aEm × aEm) (w : aEl) => wX (fun _ _ _ jH _ _ d0 w => X (jH, d0) w) k0 iK pN iY t.1 c8 c9 t.2 w) (jH, d0) w
theorem QO (kn : K7) (k0 : K3) (hn : N7 Q kn 0 1 5 6 18 19 20) (h0 : E3 Q k0 0 0 5 6) (h : wX kn k0 (g 0) (g 1) (g 5) (g 6) (g 18) (g 19) (g 20) w) : jO pg jM (bI (bI (gH 1 (iB 1 (gH 3 jK))))) Q g w :=
 nQ 3 (Qt _ g w (xD kn) k0 (fun g w h => iZ (Qs _ g w kn hn h)) h0 h)
theorem Qo (k0 : K3) (h0 : E3 Q k0 0 0 5 6) (h : Dp k0 (g 0) (g 1) (g 5) (g 6) (g 18) (g 19) (g 20) w) : jO pg jM (bI (gH 1 (iB 1 (gH 3 jK)))) Q g w := by
 refine Ov (fun g : Env => (g 6, g 20)) (fun X t w => wX (fun _ _ _ jH _ _ d0 w => X (jH, d0) w) k0 (g 0) (g 1) (g 5) t.1 (g 18) (g 19) t.2 w) h (fun X g1 w1 ha hL => ?_)
 rw [<- rI 0 ha, <- rI 1 ha, <- rI 5 ha, <- rI 18 ha, <- rI 19 ha] at hL
 exact (QO _ g1 w1 (fun _ _ _ jH _ _ d0 w => X (jH, d0) w) k0 (fun _ _ h => h) h0 hL)
def C5 (kn : K3) (iK pN iY jH c8 c9 d0 : aEm) (w : aEl) : Prop :=
 Dp kn iK pN iY jH c8 c9 d0 w
def Ds (kn : K7) (iK pN iY jH : aEm) (w : aEl) : Prop :=
 gI pg (nX .len #[128] 3 [iK]) w fun c9 w =>
 kn iK pN iY jH iK c9 (aEn 0) w
theorem Qu (kn : K7) (hn : N7 Q kn 0 1 5 6 18 19 20) (h : Ds kn (g 0) (g 1) (g 5) (g 6) w) : jO pg jM (iB 1 (iB 1 (gH 3 jK))) Q g w :=
 kZ (kr := no) (l := []) h hn lU trivial
def Dt (kn : K3) (iK pN iY jH : aEm) (w : aEl) : Prop :=
 Ds (fun iK pN iY jH c8 c9 d0 w => C5 kn iK pN iY jH c8 c9 d0 w) iK pN iY jH w
def xH (R : K1) (iK pN iY jH : aEm) (w : aEl) : Prop :=
 Dt (fun iK iY jH w => tO R iK iY jH w) iK pN iY jH w
theorem P5 (kn : K3) (hn : N3 Q kn 0 5 6) (h : Dt kn (g 0) (g 1) (g 5) (g 6) w) : jO pg jM (iB 1 (gH 3 jK)) Q g w :=
 nQ 1 (Qu _ g w (C5 kn) (fun g w h => iZ (Iw 0 (Qo _ g w kn hn h))) h)
def C4 (kn : K4) (iK pN : aEm) (w : aEl) : Prop :=
 gI pg (nX .len #[128] 3 [iK]) w fun c6 w =>
 gI pg (sP 117 c6 c6) w fun c7 w =>
 kn iK pN c7 (aEn 2048) w
theorem PQ (kn : K4) (hn : N4 Q kn 0 1 5 6) (h : C4 kn (g 0) (g 1) w) : jO pg jM (iB 3 jK) Q g w :=
 kZ (kr := no) (l := []) h hn lU trivial
def Dq (R : K1) (iK pN : aEm) (w : aEl) : Prop :=
 C4 (fun iK pN iY jH w => xH R iK pN iY jH w) iK pN w
theorem Qe (R : K1) (hr : HR El R Q) (h : Dq R (g 0) (g 1) w) : jO pg jM jK Q g w :=
 nQ 3 (PQ _ g w (xH R) (fun g w h => iZ (nQ 1 (P5 _ g w (tO R) (fun g w h => iZ (nQ 1 (Qy _ g w (tM R) (fun g w h => iZ (nQ 1 (QD _ g w (zL R) (fun g w h => iZ (RH _ g w R hr h)) h))) h))) h))) h)
def Q7 (a0 a1 : aEm) (w : aEl) (R : K1) : Prop :=
 Dq R a0 a1 w
theorem S8 {a0 a1 : aEm} {w : aEl} {R : K1} (h : Q7 a0 a1 w R) : jE pg Bu #[a0, a1] w R := by
 refine wQ (ann := jM) Tryz.f84 jK [a0, a1] El 188 TryzM.mixed Tryz.func84 ?_
 exact (Qe _ _ _ R (fun _ _ h => h) h)
def oC : FA := ⟨BG, fun i => .leaf ([], []) []⟩
def EM : List ResultVar := [.tmp 2]
noncomputable def nI : Code := jX Tryz.f85
def Af (R : K1) (DI : aEm) (w : aEl) : Prop :=
 R DI w
theorem Sa (R : K1) (hr : HR EM R Q) (h : Af R (g 3) w) : jO pg oC (gH 1 (gH 1 (gH 2 nI))) Q g w :=
 kZ (kn := no) (l := []) h lU hr trivial
def zM (kn : K3) (k0 : K1) (nD DI SI : aEm) (w : aEl) : Prop :=
 gI pg (nX .len #[117] 3 [nD]) w fun c4 w =>
 gI pg (hU .lss 3 jC jC SI c4) w fun c5 w =>
 lX c5
  (gI pg (jT 117 nD SI) w fun d1 w =>
  gI pg (jG 3 d1) w fun d2 w =>
  gI pg (nX .max #[3, 3] 3 [DI, d2]) w fun d3 w =>
  gI pg (hU .add 3 jC jC SI (aEn 1)) w fun c7 w =>
  kn nD d3 c7 w)
  (k0 DI w)
theorem Rq (kn : K3) (k0 : K1) (hn : N3 Q kn 0 3 4) (h0 : E1 Q k0 0 3) (h : zM kn k0 (g 0) (g 3) (g 4) w) : jO pg oC (bI (bI (gH 1 (iB 1 (gH 1 (gH 2 nI)))))) Q g w :=
 kZ (kr := no) (l := [(0, fun g w => k0 (g 3) w)]) h hn lU ⟨h0, trivial⟩
def Eo (k0 : K1) (nD DI SI : aEm) (w : aEl) : Prop :=
 kP (fun (X : (aEm × aEm) -> K0) (t : aEm × aEm) (w : aEl) => zM (fun _ DI SI w => X (DI, SI) w) k0 nD t.1 t.2 w) (DI, SI) w
theorem So (k0 : K1) (h0 : E1 Q k0 0 3) (h : Eo k0 (g 0) (g 3) (g 4) w) : jO pg oC (bI (gH 1 (iB 1 (gH 1 (gH 2 nI))))) Q g w := by
 refine Ov (fun g : Env => (g 3, g 4)) (fun X t w => zM (fun _ DI SI w => X (DI, SI) w) k0 (g 0) t.1 t.2 w) h (fun X g1 w1 ha hL => ?_)
 rw [<- rI 0 ha] at hL
 exact (Rq _ g1 w1 (fun _ DI SI w => X (DI, SI) w) k0 (fun _ _ h => h) h0 hL)
def Fa (kn : K1) (nD DI SI : aEm) (w : aEl) : Prop :=
 Eo kn nD DI SI w
def Ek (kn : K3) (nD DI : aEm) (w : aEl) : Prop :=
 kn nD DI (aEn 1) w
theorem Rx (kn : K3) (hn : N3 Q kn 0 3 4) (h : Ek kn (g 0) (g 3) w) : jO pg oC (iB 1 (iB 1 (gH 1 (gH 2 nI)))) Q g w :=
 kZ (kr := no) (l := []) h hn lU trivial
def Ep (kn : K1) (nD DI : aEm) (w : aEl) : Prop :=
 Ek (fun nD DI SI w => Fa kn nD DI SI w) nD DI w
def Er (R : K1) (nD DI : aEm) (w : aEl) : Prop :=
 Ep (fun DI w => Af R DI w) nD DI w
theorem Rw (kn : K1) (hn : N1 Q kn 3) (h : Ep kn (g 0) (g 3) w) : jO pg oC (iB 1 (gH 1 (gH 2 nI))) Q g w :=
 nQ 1 (Rx _ g w (Fa kn) (fun g w h => iZ (Iw 0 (So _ g w kn hn h))) h)
def EL (kn : K2) (nD : aEm) (w : aEl) : Prop :=
 gI pg (jT 117 nD (aEn 0)) w fun c0 w =>
 gI pg (jG 3 c0) w fun c1 w =>
 kn nD c1 w
theorem Rr (kn : K2) (hn : N2 Q kn 0 3) (h : EL kn (g 0) w) : jO pg oC (iB 1 (gH 2 nI)) Q g w :=
 kZ (kr := no) (l := []) h hn lU trivial
def Ei (R : K1) (nD : aEm) (w : aEl) : Prop :=
 EL (fun nD DI w => Er R nD DI w) nD w
def C6 (kn : K1) (nD : aEm) (w : aEl) : Prop :=
 gI pg (nX .len #[117] 3 [nD]) w fun b6 w =>
 gI pg (hU .lss 3 jC jC b6 (aEn 1)) w fun b7 w =>
 lX b7
  (gI pg (VX 9 (.string ⟨#[115, 108, 105, 99, 101, 115, 46, 77, 97, 120, 58, 32, 101, 109, 112, 116, 121, 32, 108, 105, 115, 116]⟩)) w fun b8 w =>
  gI pg (V (Instr.panic b8)) w fun _u w =>
  kn nD w)
  (kn nD w)
theorem P4 (kn : K1) (hn : N1 Q kn 0) (h : C6 kn (g 0) w) : jO pg oC (iB 2 nI) Q g w :=
 kZ (kr := no) (l := []) h hn lU trivial
def DA (R : K1) (nD : aEm) (w : aEl) : Prop :=
 C6 (fun nD w => Ei R nD w) nD w
theorem PR (R : K1) (hr : HR EM R Q) (h : DA R (g 0) w) : jO pg oC nI Q g w :=
 nQ 2 (P4 _ g w (Ei R) (fun g w h => iZ (nQ 1 (Rr _ g w (Er R) (fun g w h => iZ (nQ 1 (Rw _ g w (Af R) (fun g w h => iZ (Sa _ g w R hr h)) h))) h))) h)
def Rf (a0 : aEm) (w : aEl) (R : K1) : Prop :=
 DA R a0 w
theorem TM {a0 : aEm} {w : aEl} {R : K1} (h : Rf a0 w R) : jE pg BG #[a0] w R := by
 refine wQ (ann := oC) Tryz.f85 nI [a0] EM 25 TryzM.mixed Tryz.func85 ?_
 exact (PR _ _ _ R (fun _ _ h => h) h)
def mG : FA := ⟨AK, fun i => .leaf ([], []) []⟩
def Cq : List ResultVar := [.tmp 2, .tmp 3]
noncomputable def lV : Code := jX Tryz.f86
def CE (R : K1) (iY : aEm) (w : aEl) : Prop :=
 R (.tuple #[iY, (aEn 0)]) w
theorem Uq (R : K1) (hr : HR Cq R Q) (h : CE R (g 5) w) : jO pg mG (gH 1 (gH 4 lV)) Q g w :=
 kZ (kn := no) (l := []) h lU hr trivial
def xU (kn : K4) (lK IF iY zA : aEm) (w : aEl) : Prop :=
 gI pg (hU .add 3 jC jC zA (aEn 2)) w fun d7 w =>
 kn lK IF iY d7 w
theorem Ur (kn : K4) (hn : N4 Q kn 0 4 5 6) (h : xU kn (g 0) (g 4) (g 5) (g 6) w) : jO pg mG (gH 1 (gH 1 (bI (bI (gH 1 (iB 1 (gH 4 lV))))))) Q g w :=
 kZ (kr := no) (l := []) h hn lU trivial
def yJ (kn : K4) (lK IF iY zA c_7 : aEm) (w : aEl) : Prop :=
 gI pg (lT 22 1 [(0, c_7)]) w fun f6 w =>
 gI pg (nX .append #[22, 22] 22 [iY, f6]) w fun f7 w =>
 kn lK IF f7 zA w
theorem UH (kn : K4) (hn : N4 Q kn 0 4 5 6) (h : yJ kn (g 0) (g 4) (g 5) (g 6) (g 7) w) : jO pg mG (gH 2 (bI (iB 1 (gH 1 (bI (bI (gH 1 (iB 1 (gH 4 lV))))))))) Q g w :=
 kZ (kr := no) (l := []) h hn lU trivial
def HH (kn : K5) (lK IF iY zA : aEm) (w : aEl) : Prop :=
 gI pg (jT 22 lK zA) w fun e0 w =>
 gI pg (jG 5 e0) w fun e1 w =>
 gI pg (hU .shl 5 jC jC e1 (.int .u64 4)) w fun e2 w =>
 gI pg (hU .add 3 jC jC zA (aEn 1)) w fun e4 w =>
 gI pg (hU .lss 3 jC jC e4 IF) w fun e6 w =>
 lX e6
  (gI pg (hU .add 3 jC jC zA (aEn 1)) w fun f0 w =>
  gI pg (jT 22 lK f0) w fun f1 w =>
  gI pg (jG 5 f1) w fun f2 w =>
  gI pg (hU .or 5 jC jC e2 f2) w fun f3 w =>
  kn lK IF iY zA f3 w)
  (kn lK IF iY zA e2 w)
theorem T4 (kn : K5) (hn : N5 Q kn 0 4 5 6 7) (h : HH kn (g 0) (g 4) (g 5) (g 6) w) : jO pg mG (iB 2 (bI (iB 1 (gH 1 (bI (bI (gH 1 (iB 1 (gH 4 lV))))))))) Q g w :=
 kZ (kr := no) (l := []) h hn lU trivial
def PC (kn : K4) (lK IF iY zA : aEm) (w : aEl) : Prop :=
 HH (fun lK IF iY zA c_7 w => yJ kn lK IF iY zA c_7 w) lK IF iY zA w
def H4 (kn : K4) (lK IF iY zA : aEm) (w : aEl) : Prop :=
 PC kn lK IF iY zA w
def H9 (kn : K4) (lK IF iY zA : aEm) (w : aEl) : Prop :=
 H4 (fun lK IF iY zA w => xU kn lK IF iY zA w) lK IF iY zA w
theorem UZ (kn : K4) (hn : N4 Q kn 0 4 5 6) (h : H4 kn (g 0) (g 4) (g 5) (g 6) w) : jO pg mG (iB 1 (gH 1 (bI (bI (gH 1 (iB 1 (gH 4 lV))))))) Q g w :=
 Iw 2 (nQ 2 (T4 _ g w (yJ kn) (fun g w h => iZ (UH _ g w kn hn h)) h))
def Hv (kn : K4) (k1 : K1) (lK IF iY zA : aEm) (w : aEl) : Prop :=
 gI pg (hU .lss 3 jC jC zA IF) w fun d5 w =>
 lX d5
  (kn lK IF iY zA w)
  (k1 iY w)
theorem UT (kn : K4) (k1 : K1) (hn : N4 Q kn 0 4 5 6) (h1 : E1 Q k1 1 5) (h : Hv kn k1 (g 0) (g 4) (g 5) (g 6) w) : jO pg mG (iB 1 (bI (bI (gH 1 (iB 1 (gH 4 lV)))))) Q g w :=
 kZ (kr := no) (l := [(1, fun g w => k1 (g 5) w)]) h hn lU ⟨h1, trivial⟩
def Co (kn : K4) (k1 : K1) (lK IF iY zA : aEm) (w : aEl) : Prop :=
 Hv (fun lK IF iY zA w => H9 kn lK IF iY zA w) k1 lK IF iY zA w
def GG (k1 : K1) (lK IF iY zA : aEm) (w : aEl) : Prop :=
 kP (fun (X : (aEm × aEm) -> K0) (t : aEm × aEm) (w : aEl) => Co (fun _ _ iY zA w => X (iY, zA) w) k1 lK IF t.1 t.2 w) (iY, zA) w
theorem UE (kn : K4) (k1 : K1) (hn : N4 Q kn 0 4 5 6) (h1 : E1 Q k1 1 5) (h : Co kn k1 (g 0) (g 4) (g 5) (g 6) w) : jO pg mG (bI (bI (gH 1 (iB 1 (gH 4 lV))))) Q g w :=
 nQ 1 (UT _ g w (H9 kn) k1 (fun g w h => iZ (nQ 1 (UZ _ g w (xU kn) (fun g w h => iZ (Ur _ g w kn hn h)) h))) h1 h)
theorem Sv (k1 : K1) (h1 : E1 Q k1 1 5) (h : GG k1 (g 0) (g 4) (g 5) (g 6) w) : jO pg mG (bI (gH 1 (iB 1 (gH 4 lV)))) Q g w := by
 refine Ov (fun g : Env => (g 5, g 6)) (fun X t w => Co (fun _ _ iY zA w => X (iY, zA) w) k1 (g 0) (g 4) t.1 t.2 w) h (fun X g1 w1 ha hL => ?_)
 rw [<- rI 0 ha, <- rI 4 ha] at hL
 exact (UE _ g1 w1 (fun _ _ iY zA w => X (iY, zA) w) k1 (fun _ _ h => h) h1 hL)
def FD (kn : K1) (lK IF iY zA : aEm) (w : aEl) : Prop :=
 GG kn lK IF iY zA w
def FJ (kn : K4) (lK IF iY : aEm) (w : aEl) : Prop :=
 kn lK IF iY (aEn 0) w
theorem Th (kn : K4) (hn : N4 Q kn 0 4 5 6) (h : FJ kn (g 0) (g 4) (g 5) w) : jO pg mG (iB 1 (iB 1 (gH 4 lV))) Q g w :=
 kZ (kr := no) (l := []) h hn lU trivial
def Gl (kn : K1) (lK IF iY : aEm) (w : aEl) : Prop :=
 FJ (fun lK IF iY zA w => FD kn lK IF iY zA w) lK IF iY w
def Gq (R : K1) (lK IF iY : aEm) (w : aEl) : Prop :=
 Gl (fun iY w => CE R iY w) lK IF iY w
theorem Tj (kn : K1) (hn : N1 Q kn 5) (h : Gl kn (g 0) (g 4) (g 5) w) : jO pg mG (iB 1 (gH 4 lV)) Q g w :=
 nQ 1 (Th _ g w (FD kn) (fun g w h => iZ (Iw 1 (Sv _ g w kn hn h))) h)
def BO (kn : K3) (R : K1) (lK : aEm) (w : aEl) : Prop :=
 jE pg AI #[lK] w fun c0 w =>
 gI pg (hU .eql 3 (.tmp 10) (.const (aEn 0)) c0 (aEn 0)) w fun c1 w =>
 lX c1
  (R (.tuple #[(.slice none 0 0), (aEn 1)]) w)
  (gI pg (nX .len #[22] 3 [lK]) w fun c4 w =>
  gI pg (hU .gtr 3 jC jC c4 (aEn 129)) w fun c5 w =>
  lX c5
   (R (.tuple #[(.slice none 0 0), (aEn 12)]) w)
   (gI pg (nX .len #[22] 3 [lK]) w fun c7 w =>
   gI pg (hU .sub 3 jC jC c7 (aEn 1)) w fun c8 w =>
   gI pg (hU .add 3 jC jC (aEn 127) c8) w fun d0 w =>
   gI pg (nE 3 5 d0) w fun d1 w =>
   gI pg (lT 22 1 [(0, d1)]) w fun d2 w =>
   kn lK c8 d2 w))
theorem TQ (kn : K3) (R : K1) (hn : N3 Q kn 0 4 5) (hr : HR Cq R Q) (h : BO kn R (g 0) w) : jO pg mG (iB 4 lV) Q g w :=
 kZ (l := []) h hn hr trivial
def BI (R : K1) (lK : aEm) (w : aEl) : Prop :=
 BO (fun lK IF iY w => Gq R lK IF iY w) R lK w
theorem To (R : K1) (hr : HR Cq R Q) (h : BI R (g 0) w) : jO pg mG lV Q g w :=
 nQ 4 (TQ _ g w (Gq R) R (fun g w h => iZ (nQ 1 (Tj _ g w (CE R) (fun g w h => iZ (Uq _ g w R hr h)) h))) hr h)
def NM (a0 : aEm) (w : aEl) (R : K1) : Prop :=
 BI R a0 w
theorem Kd {a0 : aEm} {w : aEl} {R : K1} (h : NM a0 w R) : jE pg AK #[a0] w R := by
 refine wQ (ann := mG) Tryz.f86 lV [a0] Cq 49 TryzM.mixed Tryz.func86 ?_
 exact (To _ _ _ R (fun _ _ h => h) h)
def G8 : FA := ⟨wU, fun i => .leaf ([], []) []⟩
def I3 : List ResultVar := [.tmp 4, .tmp 5]
noncomputable def F2 : Code := jX Tryz.f87
def BT (R : K1) (lK jP : aEm) (w : aEl) : Prop :=
 gI pg (nX .len #[22] 3 [jP]) w fun b7 w =>
 gI pg (hU .lss 3 jC jC b7 (aEn 256)) w fun b8 w =>
 lX b8
  (jE pg It #[lK, jP] w fun c1 w =>
  gI pg (jS c1 0) w fun c2 w =>
  gI pg (jS c1 1) w fun c3 w =>
  R (.tuple #[c2, c3]) w)
  (jE pg Gh #[lK, jP] w fun c6 w =>
  gI pg (jS c6 0) w fun c7 w =>
  gI pg (jS c6 1) w fun c8 w =>
  R (.tuple #[c7, c8]) w)
theorem OX (R : K1) (hr : HR I3 R Q) (h : BT R (g 0) (g 1) w) : jO pg G8 F2 Q g w :=
 kZ (kn := no) (l := []) h lU hr trivial
def Mx (a0 a1 : aEm) (w : aEl) (R : K1) : Prop :=
 BT R a0 a1 w
theorem QL {a0 a1 : aEm} {w : aEl} {R : K1} (h : Mx a0 a1 w R) : jE pg wU #[a0, a1] w R := by
 refine wQ (ann := G8) Tryz.f87 F2 [a0, a1] I3 19 TryzM.mixed Tryz.func87 ?_
 exact (OX _ _ _ R (fun _ _ h => h) h)
def LQ : FA := ⟨Cu, fun i => .leaf ([], []) []⟩
def Mv : List ResultVar := [.tmp 0]
noncomputable def JH : Code := jX Tryz.f97
def FC (R : K1)  (w : aEl) : Prop :=
 gI pg (kV 201 []) w fun b1 w =>
 gI pg (RV 201 b1) w fun b2 w =>
 R b2 w
theorem SO (R : K1) (hr : HR Mv R Q) (h : FC R w) : jO pg LQ JH Q g w :=
 kZ (kn := no) (l := []) h lU hr trivial
def Tp (w : aEl) (R : K1) : Prop :=
 FC R w
theorem Uc {w : aEl} {R : K1} (h : Tp w R) : jE pg Cu #[] w R := by
 refine wQ (ann := LQ) Tryz.f97 JH [] Mv 3 TryzM.mixed Tryz.func97 ?_
 exact (SO _ _ _ R (fun _ _ h => h) h)
def mL : FA := ⟨rO, fun i => match Nat.beq i 6 with | true => .leaf ([25], []) [(false, []), (false, []), (false, []), (false, []), (false, []), (false, []), (false, []), (false, []), (false, []), (false, []), (false, []), (false, []), (false, []), (false, []), (false, []), (false, []), (false, []), (false, []), (false, []), (false, []), (false, []), (false, []), (false, []), (false, []), (false, []), (true, [])] | false => .leaf ([], []) []⟩
def Ce : List ResultVar := []
noncomputable def mB : Code := jX Tryz.f100
def sS (kn : K4) (yX DB c7 c8 : aEm) (w : aEl) : Prop :=
 gI pg (hU .add 3 jC jC c8 (aEn 1)) w fun j8 w =>
 kn yX DB c7 j8 w
theorem PG (kn : K4) (hn : N4 Q kn 0 1 17 18) (h : sS kn (g 0) (g 1) (g 17) (g 18) w) : jO pg mL (gH 1 (gH 2 (bI (bI (gH 2 mB))))) Q g w :=
 kZ (kr := no) (l := []) h hn lU trivial
def pU (kn : K4) (yX DB zA c7 c8 : aEm) (w : aEl) : Prop :=
 (dr w) = (dr w) /\
 gI pg (nK yX) (dr w) fun e7 w_ => w_ = (dr w) /\
 gI pg (jI 201 e7 0) (dr w) fun e8 w_ => w_ = (dr w) /\
 gI pg (jG 22 e8) (dr w) fun e9 w_ => w_ = (dr w) /\
 (dr w) = (dr w) /\
 gI pg (nK yX) (dr w) fun f1 w_ => w_ = (dr w) /\
 gI pg (jI 201 f1 1) (dr w) fun f2 w_ => w_ = (dr w) /\
 gI pg (jG 3 f2) (dr w) fun f3 w_ => w_ = (dr w) /\
 gI pg (hU .quo 3 jC jC f3 (aEn 8)) (dr w) fun f4 w_ => w_ = (dr w) /\
 gI pg (jT 22 e9 f4) (dr w) fun f5 w_ => w_ = (dr w) /\
 gI pg (jG 5 f5) (dr w) fun f6 w_ => w_ = (dr w) /\
 (dr w) = (dr w) /\
 (dr w) = (dr w) /\
 gI pg (nE 3 50 zA) (dr w) fun f9 w_ => w_ = (dr w) /\
 gI pg (hU .shr 32 jC jC DB f9) (dr w) fun i0 w_ => w_ = (dr w) /\
 gI pg (hU .and 32 jC jC i0 (.int .u64 1)) (dr w) fun i1 w_ => w_ = (dr w) /\
 gI pg (nE 32 5 i1) (dr w) fun i2 w_ => w_ = (dr w) /\
 (dr w) = (dr w) /\
 gI pg (nK yX) (dr w) fun i4 w_ => w_ = (dr w) /\
 gI pg (jI 201 i4 1) (dr w) fun i5 w_ => w_ = (dr w) /\
 gI pg (jG 3 i5) (dr w) fun i6 w_ => w_ = (dr w) /\
 gI pg (hU .rem 3 jC jC i6 (aEn 8)) (dr w) fun i7 w_ => w_ = (dr w) /\
 gI pg (hU .shl 5 jC jC i2 i7) (dr w) fun i8 w_ => w_ = (dr w) /\
 gI pg (hU .or 5 jC jC f6 i8) (dr w) fun i9 w_ => w_ = (dr w) /\
 gI pg (jT 22 e9 f4) (dr w) fun j0 w_ => w_ = (dr w) /\
 gI pg (jQ 5 j0 i9) (dr w) fun _u25 aAI =>
 gI pg (nK yX) aAI fun j2 w =>
 gI pg (jI 201 j2 1) w fun j3 w =>
 gI pg (jG 3 j3) w fun j4 w =>
 gI pg (hU .add 3 jC jC j4 (aEn 1)) w fun j5 w =>
 gI pg (nK yX) w fun j6 w =>
 gI pg (jI 201 j6 1) w fun j7 w =>
 gI pg (jQ 3 j7 j5) w fun _u w =>
 kn yX DB c7 c8 w
theorem Oz (kn : K4) (hn : N4 Q kn 0 1 17 18) (h : pU kn (g 0) (g 1) (g 6) (g 17) (g 18) w) : jO pg mL (gH 2 (bI (iB 1 (gH 2 (bI (bI (gH 2 mB))))))) Q g w :=
 kZ (kr := no) (l := []) h hn lU trivial
def vS (kn : K5) (yX DB c7 c8 : aEm) (w : aEl) : Prop :=
 gI pg (nK yX) w fun d2 w =>
 gI pg (jI 201 d2 1) w fun d3 w =>
 gI pg (jG 3 d3) w fun d4 w =>
 gI pg (hU .rem 3 jC jC d4 (aEn 8)) w fun d5 w =>
 gI pg (hU .eql 3 (.tmp 25) (.const (aEn 0)) d5 (aEn 0)) w fun d6 w =>
 lX d6
  (gI pg (nK yX) w fun d9 w =>
  gI pg (jI 201 d9 0) w fun e0 w =>
  gI pg (jG 22 e0) w fun e1 w =>
  gI pg (lT 22 1 [(0, (.int .u8 0))]) w fun e2 w =>
  gI pg (nX .append #[22, 22] 22 [e1, e2]) w fun e3 w =>
  gI pg (nK yX) w fun e4 w =>
  gI pg (jI 201 e4 0) w fun e5 w =>
  gI pg (jQ 22 e5 e3) w fun _u w =>
  kn yX DB c8 c7 c8 w)
  (kn yX DB c8 c7 c8 w)
theorem Pg (kn : K5) (hn : N5 Q kn 0 1 6 17 18) (h : vS kn (g 0) (g 1) (g 17) (g 18) w) : jO pg mL (iB 2 (bI (iB 1 (gH 2 (bI (bI (gH 2 mB))))))) Q g w :=
 kZ (kr := no) (l := []) h hn lU trivial
def sO (kn : K4) (yX DB c7 c8 : aEm) (w : aEl) : Prop :=
 vS (fun yX DB zA c7 c8 w => pU kn yX DB zA c7 c8 w) yX DB c7 c8 w
def wE (kn : K4) (yX DB c7 c8 : aEm) (w : aEl) : Prop :=
 sO kn yX DB c7 c8 w
def vM (kn : K4) (yX DB c7 c8 : aEm) (w : aEl) : Prop :=
 wE (fun yX DB c7 c8 w => sS kn yX DB c7 c8 w) yX DB c7 c8 w
theorem Pe (kn : K4) (hn : N4 Q kn 0 1 17 18) (h : wE kn (g 0) (g 1) (g 17) (g 18) w) : jO pg mL (iB 1 (gH 2 (bI (bI (gH 2 mB))))) Q g w :=
 Iw 1 (nQ 2 (Pg _ g w (pU kn) (fun g w h => iZ (Oz _ g w kn hn h)) h))
def vT (kn : K4) (k0 : K0) (yX DB c7 c8 : aEm) (w : aEl) : Prop :=
 gI pg (hU .lss 3 jC jC c8 c7) w fun c9 w =>
 lX c9
  (kn yX DB c7 c8 w)
  (k0 w)
theorem OC (kn : K4) (k0 : K0) (hn : N4 Q kn 0 1 17 18) (h0 : E0 Q k0 0) (h : vT kn k0 (g 0) (g 1) (g 17) (g 18) w) : jO pg mL (iB 2 (bI (bI (gH 2 mB)))) Q g w :=
 kZ (kr := no) (l := [(0, fun g w => k0 w)]) h hn lU ⟨h0, trivial⟩
def sY (kn : K4) (k0 : K0) (yX DB c7 c8 : aEm) (w : aEl) : Prop :=
 vT (fun yX DB c7 c8 w => vM kn yX DB c7 c8 w) k0 yX DB c7 c8 w
def vU (k0 : K0) (yX DB c7 c8 : aEm) (w : aEl) : Prop :=
 kP (fun (X : aEm -> K0) (t : aEm) (w : aEl) => sY (fun _ _ _ c8 w => X c8 w) k0 yX DB c7 t w) c8 w
theorem Oy (kn : K4) (k0 : K0) (hn : N4 Q kn 0 1 17 18) (h0 : E0 Q k0 0) (h : sY kn k0 (g 0) (g 1) (g 17) (g 18) w) : jO pg mL (bI (bI (gH 2 mB))) Q g w :=
 nQ 2 (OC _ g w (vM kn) k0 (fun g w h => iZ (nQ 1 (Pe _ g w (sS kn) (fun g w h => iZ (PG _ g w kn hn h)) h))) h0 h)
theorem PD (k0 : K0) (h0 : E0 Q k0 0) (h : vU k0 (g 0) (g 1) (g 17) (g 18) w) : jO pg mL (bI (gH 2 mB)) Q g w := by
 refine Ov (fun g : Env => g 18) (fun X t w => sY (fun _ _ _ c8 w => X c8 w) k0 (g 0) (g 1) (g 17) t w) h (fun X g1 w1 ha hL => ?_)
 rw [<- rI 0 ha, <- rI 1 ha, <- rI 17 ha] at hL
 exact (Oy _ g1 w1 (fun _ _ _ c8 w => X c8 w) k0 (fun _ _ h => h) h0 hL)
def uW (kn : K0) (yX DB c7 c8 : aEm) (w : aEl) : Prop :=
 vU kn yX DB c7 c8 w
def vA (kn : K4) (R : K1) (yX DB Sy : aEm) (w : aEl) : Prop :=
 gI pg (hU .eql 170 (.tmp 7) (.const (.pointer none)) yX (.pointer none)) w fun b8 w =>
 Gd (kO b8 false) (fun K => K Sy w) w fun c0 w =>
 Gd (kO b8 false) (fun K => gI pg (hU .lss 3 jC jC c0 (aEn 1)) w K) w fun c1 w =>
 gI pg (mD b8 (.bool true) c1) w fun c2 w =>
 Gd (kO c2 false) (fun K => K Sy w) w fun c4 w =>
 Gd (kO c2 false) (fun K => gI pg (hU .gtr 3 jC jC c4 (aEn 56)) w K) w fun c5 w =>
 gI pg (mD c2 (.bool true) c5) w fun c6 w =>
 lX c6
  (R (.tuple #[]) w)
  (kn yX DB Sy (aEn 0) w)
theorem M3 (kn : K4) (R : K1) (hn : N4 Q kn 0 1 17 18) (hr : HR Ce R Q) (h : vA kn R (g 0) (g 1) (g 2) w) : jO pg mL (iB 2 mB) Q g w :=
 kZ (l := []) h hn hr trivial
def vB (kn : K0) (R : K1) (yX DB Sy : aEm) (w : aEl) : Prop :=
 vA (fun yX DB c7 c8 w => uW kn yX DB c7 c8 w) R yX DB Sy w
theorem Oi (kn : K0) (R : K1) (hn : N0 Q kn) (hr : HR Ce R Q) (h : vB kn R (g 0) (g 1) (g 2) w) : jO pg mL mB Q g w :=
 nQ 2 (M3 _ g w (uW kn) R (fun g w h => iZ (Iw 0 (PD _ g w kn hn h))) hr h)
def GI (a0 a1 a2 : aEm) (w : aEl) (R : K1) : Prop :=
 vB (fun  w => R (.tuple #[]) w) R a0 a1 a2 w
theorem GH {a0 a1 a2 : aEm} {w : aEl} {R : K1} (h : GI a0 a1 a2 w R) : jE pg rO #[a0, a1, a2] w R := by
 refine wQ (ann := mL) Tryz.f100 mB [a0, a1, a2] Ce 69 TryzM.mixed Tryz.func100 ?_
 exact (Oi _ _ _ (fun  w => R (.tuple #[]) w) R (fun _ _ h => h) (fun _ _ h => h) h)
def FL : FA := ⟨vV, fun i => match Nat.beq i 3 with | true => .leaf ([4, 10], [(4, 6), (4, 7), (4, 8)]) [(false, []), (false, []), (false, []), (false, []), (true, []), (false, []), (false, [1]), (false, [2]), (false, [3]), (false, []), (true, []), (false, [])] | false => .leaf ([], []) []⟩
def Ha : List ResultVar := [.tmp 2]
noncomputable def Fq : Code := jX Tryz.f102
def Bf (R : K1) (yX : aEm) (w : aEl) : Prop :=
 gI pg (hU .eql 170 (.tmp 4) (.const (.pointer none)) yX (.pointer none)) w fun b5 w =>
 lX b5
  (R (.slice none 0 0) w)
  ((dr w) = (dr w) /\
  gI pg (nK yX) (dr w) fun b7 w_ => w_ = (dr w) /\
  gI pg (jI 201 b7 0) (dr w) fun b8 w_ => w_ = (dr w) /\
  gI pg (jG 22 b8) (dr w) fun b9 w_ => w_ = (dr w) /\
  jE pg pF #[b9] (dr w) fun c0 aaZ =>
  aaZ = aaZ /\
  gI pg (nK yX) aaZ fun c2 w_ => w_ = aaZ /\
  (jD pg (nK yX) c2 (dr w) /\ True) /\
  gI pg (jI 201 c2 1) aaZ fun c3 w_ => w_ = aaZ /\
  (jD pg (jI 201 c2 1) c3 (dr w) /\ True) /\
  gI pg (jG 3 c3) aaZ fun c4 w_ => w_ = aaZ /\
  (jD pg (jG 3 c3) c4 (dr w) /\ True) /\
  gI pg (kV 201 [(0, c0), (1, c4)]) aaZ fun c5 w_ => w_ = aaZ /\
  gI pg (RV 201 c5) aaZ fun c6 auB =>
  auB = auB /\
  jE pg rO #[c6, (.int .u64 1), (aEn 1)] auB fun c8 w =>
  gI pg (nK c6) w fun d0 w =>
  gI pg (jI 201 d0 0) w fun d1 w =>
  gI pg (jG 22 d1) w fun d2 w =>
  R d2 w)
theorem Ni (R : K1) (hr : HR Ha R Q) (h : Bf R (g 0) w) : jO pg FL Fq Q g w :=
 kZ (kn := no) (l := []) h lU hr trivial
def Ku (a0 : aEm) (w : aEl) (R : K1) : Prop :=
 Bf R a0 w
theorem O8 {a0 : aEm} {w : aEl} {R : K1} (h : Ku a0 w R) : jE pg vV #[a0] w R := by
 refine wQ (ann := FL) Tryz.f102 Fq [a0] Ha 23 TryzM.mixed Tryz.func102 ?_
 exact (Ni _ _ _ R (fun _ _ h => h) h)
def MC : FA := ⟨Ed, fun i => .leaf ([], []) []⟩
def OD : List ResultVar := [.tmp 4, .tmp 5]
noncomputable def KR : Code := jX Tryz.f103
def HX (R : K1) (nD y_1 : aEm) (w : aEl) : Prop :=
 lX (.bool false)
  (gI pg (nE 50 38 nD) w fun c2 w =>
  gI pg (nE 50 38 y_1) w fun c4 w =>
  jE pg WB #[c2, c4] w fun c5 w =>
  gI pg (jS c5 0) w fun c6 w =>
  gI pg (jS c5 1) w fun c7 w =>
  gI pg (nE 38 50 c6) w fun c9 w =>
  gI pg (nE 38 50 c7) w fun d1 w =>
  R (.tuple #[c9, d1]) w)
  (jE pg BD #[nD, y_1] w fun d5 w =>
  gI pg (jS d5 0) w fun d6 w =>
  gI pg (jS d5 1) w fun d7 w =>
  R (.tuple #[d6, d7]) w)
theorem Uk (R : K1) (hr : HR OD R Q) (h : HX R (g 0) (g 1) w) : jO pg MC KR Q g w :=
 kZ (kn := no) (l := []) h lU hr trivial
def Vj (a0 a1 : aEm) (w : aEl) (R : K1) : Prop :=
 HX R a0 a1 w
theorem Wc {a0 a1 : aEm} {w : aEl} {R : K1} (h : Vj a0 a1 w R) : jE pg Ed #[a0, a1] w R := by
 refine wQ (ann := MC) Tryz.f103 KR [a0, a1] OD 30 TryzM.mixed Tryz.func103 ?_
 exact (Uk _ _ _ R (fun _ _ h => h) h)
def rP : FA := ⟨vW, fun i => .leaf ([], []) []⟩
def Eg : List ResultVar := [.tmp 2]
noncomputable def qU : Code := jX Tryz.f107
def uO (R : K1) (nD Sy : aEm) (w : aEl) : Prop :=
 gI pg (nE 32 5 nD) w fun d1 w =>
 gI pg (Rp 9 (.string ⟨#[0, 1, 2, 2, 3, 3, 3, 3, 4, 4, 4, 4, 4, 4, 4, 4, 5, 5, 5, 5, 5, 5, 5, 5, 5, 5, 5, 5, 5, 5, 5, 5, 6, 6, 6, 6, 6, 6, 6, 6, 6, 6, 6, 6, 6, 6, 6, 6, 6, 6, 6, 6, 6, 6, 6, 6, 6, 6, 6, 6, 6, 6, 6, 6, 7, 7, 7, 7, 7, 7, 7, 7, 7, 7, 7, 7, 7, 7, 7, 7, 7, 7, 7, 7, 7, 7, 7, 7, 7, 7, 7, 7, 7, 7, 7, 7, 7, 7, 7, 7, 7, 7, 7, 7, 7, 7, 7, 7, 7, 7, 7, 7, 7, 7, 7, 7, 7, 7, 7, 7, 7, 7, 7, 7, 7, 7, 7, 7, 8, 8, 8, 8, 8, 8, 8, 8, 8, 8, 8, 8, 8, 8, 8, 8, 8, 8, 8, 8, 8, 8, 8, 8, 8, 8, 8, 8, 8, 8, 8, 8, 8, 8, 8, 8, 8, 8, 8, 8, 8, 8, 8, 8, 8, 8, 8, 8, 8, 8, 8, 8, 8, 8, 8, 8, 8, 8, 8, 8, 8, 8, 8, 8, 8, 8, 8, 8, 8, 8, 8, 8, 8, 8, 8, 8, 8, 8, 8, 8, 8, 8, 8, 8, 8, 8, 8, 8, 8, 8, 8, 8, 8, 8, 8, 8, 8, 8, 8, 8, 8, 8, 8, 8, 8, 8, 8, 8, 8, 8, 8, 8, 8, 8, 8, 8, 8, 8, 8, 8, 8, 8, 8, 8, 8, 8, 8, 8]⟩) d1) w fun d2 w =>
 gI pg (nE 5 3 d2) w fun d3 w =>
 gI pg (hU .add 3 jC jC Sy d3) w fun d4 w =>
 R d4 w
theorem RK (R : K1) (hr : HR Eg R Q) (h : uO R (g 0) (g 2) w) : jO pg rP (gH 1 (gH 1 (gH 2 qU))) Q g w :=
 kZ (kn := no) (l := []) h lU hr trivial
def Es (kn : K2) (nD Sy : aEm) (w : aEl) : Prop :=
 gI pg (hU .geq 32 jC jC nD (.int .u64 256)) w fun c4 w =>
 lX c4
  (gI pg (hU .shr 32 jC jC nD (.int .u64 8)) w fun c6 w =>
  gI pg (hU .add 3 jC jC Sy (aEn 8)) w fun c8 w =>
  kn c6 c8 w)
  (kn nD Sy w)
theorem Sn (kn : K2) (hn : N2 Q kn 0 2) (h : Es kn (g 0) (g 2) w) : jO pg rP (iB 1 (gH 1 (gH 2 qU))) Q g w :=
 kZ (kr := no) (l := []) h hn lU trivial
def zH (R : K1) (nD Sy : aEm) (w : aEl) : Prop :=
 Es (fun nD Sy w => uO R nD Sy w) nD Sy w
def EY (kn : K2) (nD Sy : aEm) (w : aEl) : Prop :=
 gI pg (hU .geq 32 jC jC nD (.int .u64 65536)) w fun b8 w =>
 lX b8
  (gI pg (hU .shr 32 jC jC nD (.int .u64 16)) w fun c0 w =>
  gI pg (hU .add 3 jC jC Sy (aEn 16)) w fun c2 w =>
  kn c0 c2 w)
  (kn nD Sy w)
theorem Rv (kn : K2) (hn : N2 Q kn 0 2) (h : EY kn (g 0) (g 2) w) : jO pg rP (iB 1 (gH 2 qU)) Q g w :=
 kZ (kr := no) (l := []) h hn lU trivial
def zO (R : K1) (nD Sy : aEm) (w : aEl) : Prop :=
 EY (fun nD Sy w => zH R nD Sy w) nD Sy w
def ED (kn : K2) (nD : aEm) (w : aEl) : Prop :=
 gI pg (hU .geq 32 jC jC nD (.int .u64 4294967296)) w fun b4 w =>
 lX b4
  (gI pg (hU .shr 32 jC jC nD (.int .u64 32)) w fun b6 w =>
  kn b6 (aEn 32) w)
  (kn nD (aEn 0) w)
theorem RJ (kn : K2) (hn : N2 Q kn 0 2) (h : ED kn (g 0) w) : jO pg rP (iB 2 qU) Q g w :=
 kZ (kr := no) (l := []) h hn lU trivial
def Ex (R : K1) (nD : aEm) (w : aEl) : Prop :=
 ED (fun nD Sy w => zO R nD Sy w) nD w
theorem Se (R : K1) (hr : HR Eg R Q) (h : Ex R (g 0) w) : jO pg rP qU Q g w :=
 nQ 2 (RJ _ g w (zO R) (fun g w h => iZ (nQ 1 (Rv _ g w (zH R) (fun g w h => iZ (nQ 1 (Sn _ g w (uO R) (fun g w h => iZ (RK _ g w R hr h)) h))) h))) h)
def Q2 (a0 : aEm) (w : aEl) (R : K1) : Prop :=
 Ex R a0 w
theorem Tk {a0 : aEm} {w : aEl} {R : K1} (h : Q2 a0 w R) : jE pg vW #[a0] w R := by
 refine wQ (ann := rP) Tryz.f107 qU [a0] Eg 25 TryzM.mixed Tryz.func107 ?_
 exact (Se _ _ _ R (fun _ _ h => h) h)
def MV : FA := ⟨AI, fun i => .leaf ([], []) []⟩
def OY : List ResultVar := [.tmp 2]
noncomputable def Kw : Code := jX Tryz.f108
def HS (R : K1) (lK : aEm) (w : aEl) : Prop :=
 jE pg D2 #[lK] w fun b8 w =>
 gI pg (jS b8 0) w fun b9 w =>
 gI pg (jS b8 1) w fun c0 w =>
 gI pg (sUn .not c0) w fun c2 w =>
 Gd (kO c2 false) (fun K => K lK w) w fun c4 w =>
 Gd (kO c2 false) (fun K => gI pg (nX .len #[22] 3 [c4]) w K) w fun c5 w =>
 Gd (kO c2 false) (fun K => gI pg (hU .lss 3 jC jC c5 (aEn 2)) w K) w fun c6 w =>
 gI pg (mD c2 (.bool true) c6) w fun c7 w =>
 Gd (kO c7 false) (fun K => K lK w) w fun c9 w =>
 Gd (kO c7 false) (fun K => gI pg (nX .len #[22] 3 [c9]) w K) w fun d0 w =>
 Gd (kO c7 false) (fun K => gI pg (hU .gtr 3 jC jC d0 (aEn 256)) w K) w fun d1 w =>
 gI pg (mD c7 (.bool true) d1) w fun d2 w =>
 Gd (kO d2 false) (fun K => K lK w) w fun d4 w =>
 Gd (kO d2 false) (fun K => K lK w) w fun d5 w =>
 Gd (kO d2 false) (fun K => gI pg (nX .len #[22] 3 [d5]) w K) w fun d6 w =>
 Gd (kO d2 false) (fun K => gI pg (hU .sub 3 jC jC d6 (aEn 1)) w K) w fun d7 w =>
 Gd (kO d2 false) (fun K => gI pg (jT 22 d4 d7) w K) w fun d8 w =>
 Gd (kO d2 false) (fun K => gI pg (jG 5 d8) w K) w fun d9 w =>
 Gd (kO d2 false) (fun K => gI pg (hU .eql 5 (.tmp 29) (.const (.int .u8 0)) d9 (.int .u8 0)) w K) w fun e0 w =>
 gI pg (mD d2 (.bool true) e0) w fun e1 w =>
 Gd (kO e1 false) (fun K => K b9 w) w fun e3 w =>
 Gd (kO e1 false) (fun K => K b9 w) w fun e4 w =>
 Gd (kO e1 false) (fun K => gI pg (hU .sub 3 jC jC e4 (aEn 1)) w K) w fun e5 w =>
 Gd (kO e1 false) (fun K => gI pg (hU .and 3 jC jC e3 e5) w K) w fun e6 w =>
 Gd (kO e1 false) (fun K => gI pg (hU .neq 3 (.tmp 36) (.const (aEn 0)) e6 (aEn 0)) w K) w fun e7 w =>
 gI pg (mD e1 (.bool true) e7) w fun e8 w =>
 lX e8
  (R (aEn 0) w)
  (gI pg (nE 3 50 b9) w fun f0 w =>
  jE pg Ec #[f0] w fun f1 w =>
  gI pg (hU .sub 3 jC jC f1 (aEn 1)) w fun f2 w =>
  gI pg (hU .gtr 3 jC jC f2 (aEn 11)) w fun f4 w =>
  Gd (kO f4 false) (fun K => K lK w) w fun f6 w =>
  Gd (kO f4 false) (fun K => jE pg uT #[f6] w K) w fun f7 w =>
  Gd (kO f4 false) (fun K => gI pg (nE 5 3 f7) w K) w fun f8 w =>
  Gd (kO f4 false) (fun K => K f2 w) w fun f9 w =>
  Gd (kO f4 false) (fun K => gI pg (hU .gtr 3 jC jC f8 f9) w K) w fun i0 w =>
  gI pg (mD f4 (.bool true) i0) w fun i1 w =>
  lX i1
   (R (aEn 0) w)
   (R f2 w))
theorem Uz (R : K1) (hr : HR OY R Q) (h : HS R (g 0) w) : jO pg MV Kw Q g w :=
 kZ (kn := no) (l := []) h lU hr trivial
def U6 (a0 : aEm) (w : aEl) (R : K1) : Prop :=
 HS R a0 w
theorem VM {a0 : aEm} {w : aEl} {R : K1} (h : U6 a0 w R) : jE pg AI #[a0] w R := by
 refine wQ (ann := MV) Tryz.f108 Kw [a0] OY 53 TryzM.mixed Tryz.func108 ?_
 exact (Uz _ _ _ R (fun _ _ h => h) h)
def Ri : FA := ⟨It, fun i => .leaf ([], []) []⟩
def TK : List ResultVar := [.tmp 4, .tmp 5]
noncomputable def OP : Code := jX Tryz.f109
def LA (R : K1) (lK jP : aEm) (w : aEl) : Prop :=
 jE pg vL #[lK] w fun c0 w =>
 gI pg (jS c0 0) w fun c1 w =>
 gI pg (jS c0 1) w fun c2 w =>
 gI pg (hU .neq 24 (.tmp 14) (.const (aEn 0)) c2 (aEn 0)) w fun c5 w =>
 lX c5
  (R (.tuple #[(.slice none 0 0), c2]) w)
  (gI pg (nX .len #[22] 3 [jP]) w fun c9 w =>
  gI pg (hU .gtr 3 jC jC c9 (aEn 131072)) w fun d0 w =>
  lX d0
   (R (.tuple #[(.slice none 0 0), (aEn 1)]) w)
   (jE pg oI #[c1, jP] w fun d3 w =>
   gI pg (jS d3 0) w fun d4 w =>
   gI pg (jS d3 1) w fun d5 w =>
   R (.tuple #[d4, d5]) w))
theorem XE (R : K1) (hr : HR TK R Q) (h : LA R (g 0) (g 1) w) : jO pg Ri OP Q g w :=
 kZ (kn := no) (l := []) h lU hr trivial
def Zm (a0 a1 : aEm) (w : aEl) (R : K1) : Prop :=
 LA R a0 a1 w
theorem Yv {a0 a1 : aEm} {w : aEl} {R : K1} (h : Zm a0 a1 w R) : jE pg It #[a0, a1] w R := by
 refine wQ (ann := Ri) Tryz.f109 OP [a0, a1] TK 26 TryzM.mixed Tryz.func109 ?_
 exact (XE _ _ _ R (fun _ _ h => h) h)
def mW : FA := ⟨Gh, fun i => .leaf ([], []) []⟩
def qQ : List ResultVar := [.tmp 4, .tmp 5]
noncomputable def mJ : Code := jX Tryz.f110
def AL (R : K1) (rU lJ : aEm) (w : aEl) : Prop :=
 jE pg pL #[rU, lJ] w fun l3 w =>
 jE pg oB #[rU] w fun l5 w =>
 R (.tuple #[l5, (aEn 0)]) w
theorem Vy (R : K1) (hr : HR qQ R Q) (h : AL R (g 10) (g 11) w) : jO pg mW (gH 1 (gH 7 mJ)) Q g w :=
 kZ (kn := no) (l := []) h lU hr trivial
def AJ (kn : K6) (jP lL rU lJ e8 e9 : aEm) (w : aEl) : Prop :=
 gI pg (hU .add 3 jC jC e9 (aEn 1)) w fun l0 w =>
 kn jP lL rU lJ e8 l0 w
theorem V5 (kn : K6) (hn : N6 Q kn 1 6 10 11 38 39) (h : AJ kn (g 1) (g 6) (g 10) (g 11) (g 38) (g 39) w) : jO pg mW (gH 1 (gH 2 (bI (bI (gH 1 (iB 1 (gH 7 mJ))))))) Q g w :=
 kZ (kr := no) (l := []) h hn lU trivial
def AM (kn : K6) (jP lL rU lJ auZ e8 e9 : aEm) (w : aEl) : Prop :=
 gI pg (nX .append #[22, 22] 22 [lJ, auZ]) w fun j9 w =>
 kn jP lL rU j9 e8 e9 w
theorem VJ (kn : K6) (hn : N6 Q kn 1 6 10 11 38 39) (h : AM kn (g 1) (g 6) (g 10) (g 11) (g 14) (g 38) (g 39) w) : jO pg mW (gH 5 (bI (iB 1 (gH 2 (bI (bI (gH 1 (iB 1 (gH 7 mJ))))))))) Q g w :=
 kZ (kr := no) (l := []) h hn lU trivial
def Jk (kn : K7) (R : K1) (jP lL rU lJ e8 e9 : aEm) (w : aEl) : Prop :=
 gI pg (Rp 139 e8 e9) w fun f2 w =>
 gI pg (lR 22 jP none (some f2) none) w fun f7 w =>
 jE pg oI #[lL, f7] w fun f8 w =>
 gI pg (jS f8 0) w fun f9 w =>
 gI pg (jS f8 1) w fun i0 w =>
 gI pg (hU .neq 24 (.tmp 51) (.const (aEn 0)) i0 (aEn 0)) w fun i2 w =>
 lX i2
  (R (.tuple #[(.slice none 0 0), i0]) w)
  (gI pg (lR 22 jP (some f2) none none) w fun i6 w =>
  gI pg (hU .lss 3 jC jC e9 (aEn 3)) w fun i8 w =>
  lX i8
   (gI pg (nX .len #[22] 3 [f9]) w fun j0 w =>
   gI pg (hU .geq 3 jC jC j0 (aEn 65536)) w fun j1 w =>
   lX j1
    (R (.tuple #[(.slice none 0 0), (aEn 1)]) w)
    (gI pg (nX .len #[22] 3 [f9]) w fun j4 w =>
    gI pg (nE 3 32 j4) w fun j5 w =>
    jE pg jR #[rU, j5, (aEn 2)] w fun j6 w =>
    kn i6 lL rU lJ f9 e8 e9 w))
   (kn i6 lL rU lJ f9 e8 e9 w))
theorem VU (kn : K7) (R : K1) (hn : N7 Q kn 1 6 10 11 14 38 39) (hr : HR qQ R Q) (h : Jk kn R (g 1) (g 6) (g 10) (g 11) (g 38) (g 39) w) : jO pg mW (iB 5 (bI (iB 1 (gH 2 (bI (bI (gH 1 (iB 1 (gH 7 mJ))))))))) Q g w :=
 kZ (l := []) h hn hr trivial
def Rj (kn : K6) (R : K1) (jP lL rU lJ e8 e9 : aEm) (w : aEl) : Prop :=
 Jk (fun jP lL rU lJ auZ e8 e9 w => AM kn jP lL rU lJ auZ e8 e9 w) R jP lL rU lJ e8 e9 w
def Jm (kn : K6) (R : K1) (jP lL rU lJ e8 e9 : aEm) (w : aEl) : Prop :=
 Rj kn R jP lL rU lJ e8 e9 w
def Je (kn : K6) (R : K1) (jP lL rU lJ e8 e9 : aEm) (w : aEl) : Prop :=
 Jm (fun jP lL rU lJ e8 e9 w => AJ kn jP lL rU lJ e8 e9 w) R jP lL rU lJ e8 e9 w
theorem VC (kn : K6) (R : K1) (hn : N6 Q kn 1 6 10 11 38 39) (hr : HR qQ R Q) (h : Jm kn R (g 1) (g 6) (g 10) (g 11) (g 38) (g 39) w) : jO pg mW (iB 1 (gH 2 (bI (bI (gH 1 (iB 1 (gH 7 mJ))))))) Q g w :=
 Iw 1 (nQ 5 (VU _ g w (AM kn) R (fun g w h => iZ (VJ _ g w kn hn h)) hr h))
def Jn (kn : K6) (k0 : K2) (jP lL rU lJ e8 e9 : aEm) (w : aEl) : Prop :=
 gI pg (hU .lss 3 jC jC e9 (aEn 4)) w fun f0 w =>
 lX f0
  (kn jP lL rU lJ e8 e9 w)
  (k0 rU lJ w)
theorem V1 (kn : K6) (k0 : K2) (hn : N6 Q kn 1 6 10 11 38 39) (h0 : E2 Q k0 0 10 11) (h : Jn kn k0 (g 1) (g 6) (g 10) (g 11) (g 38) (g 39) w) : jO pg mW (iB 2 (bI (bI (gH 1 (iB 1 (gH 7 mJ)))))) Q g w :=
 kZ (kr := no) (l := [(0, fun g w => k0 (g 10) (g 11) w)]) h hn lU ⟨h0, trivial⟩
def DZ (kn : K6) (k0 : K2) (R : K1) (jP lL rU lJ e8 e9 : aEm) (w : aEl) : Prop :=
 Jn (fun jP lL rU lJ e8 e9 w => Je kn R jP lL rU lJ e8 e9 w) k0 jP lL rU lJ e8 e9 w
def HC (k0 : K2) (R : K1) (jP lL rU lJ e8 e9 : aEm) (w : aEl) : Prop :=
 kP (fun (X : (aEm × aEm × aEm) -> K0) (t : aEm × aEm × aEm) (w : aEl) => DZ (fun jP _ _ lJ _ e9 w => X (jP, lJ, e9) w) k0 R t.1 lL rU t.2.1 e8 t.2.2 w) (jP, lJ, e9) w
theorem V7 (kn : K6) (k0 : K2) (R : K1) (hn : N6 Q kn 1 6 10 11 38 39) (h0 : E2 Q k0 0 10 11) (hr : HR qQ R Q) (h : DZ kn k0 R (g 1) (g 6) (g 10) (g 11) (g 38) (g 39) w) : jO pg mW (bI (bI (gH 1 (iB 1 (gH 7 mJ))))) Q g w :=
 nQ 2 (V1 _ g w (Je kn R) k0 (fun g w h => iZ (nQ 1 (VC _ g w (AJ kn) R (fun g w h => iZ (V5 _ g w kn hn h)) hr h))) h0 h)
theorem UL (k0 : K2) (R : K1) (h0 : E2 Q k0 0 10 11) (hr : HR qQ R Q) (h : HC k0 R (g 1) (g 6) (g 10) (g 11) (g 38) (g 39) w) : jO pg mW (bI (gH 1 (iB 1 (gH 7 mJ)))) Q g w := by
 refine Ov (fun g : Env => (g 1, g 11, g 39)) (fun X t w => DZ (fun jP _ _ lJ _ e9 w => X (jP, lJ, e9) w) k0 R t.1 (g 6) (g 10) t.2.1 (g 38) t.2.2 w) h (fun X g1 w1 ha hL => ?_)
 rw [<- rI 6 ha, <- rI 10 ha, <- rI 38 ha] at hL
 exact (V7 _ g1 w1 (fun jP _ _ lJ _ e9 w => X (jP, lJ, e9) w) k0 R (fun _ _ h => h) h0 hr hL)
def Cs (kn : K2) (R : K1) (jP lL rU lJ e8 e9 : aEm) (w : aEl) : Prop :=
 HC kn R jP lL rU lJ e8 e9 w
def HO (kn : K6) (jP lL Jp rU lJ : aEm) (w : aEl) : Prop :=
 gI pg (jG 139 Jp) w fun e8 w =>
 kn jP lL rU lJ e8 (aEn 0) w
theorem Uj (kn : K6) (hn : N6 Q kn 1 6 10 11 38 39) (h : HO kn (g 1) (g 6) (g 8) (g 10) (g 11) w) : jO pg mW (iB 1 (iB 1 (gH 7 mJ))) Q g w :=
 kZ (kr := no) (l := []) h hn lU trivial
def Ii (kn : K2) (R : K1) (jP lL Jp rU lJ : aEm) (w : aEl) : Prop :=
 HO (fun jP lL rU lJ e8 e9 w => Cs kn R jP lL rU lJ e8 e9 w) jP lL Jp rU lJ w
def Ht (R : K1) (jP lL Jp rU lJ : aEm) (w : aEl) : Prop :=
 Ii (fun rU lJ w => AL R rU lJ w) R jP lL Jp rU lJ w
theorem Uf (kn : K2) (R : K1) (hn : N2 Q kn 10 11) (hr : HR qQ R Q) (h : Ii kn R (g 1) (g 6) (g 8) (g 10) (g 11) w) : jO pg mW (iB 1 (gH 7 mJ)) Q g w :=
 nQ 1 (Uj _ g w (Cs kn R) (fun g w h => iZ (Iw 0 (UL _ g w kn R hn hr h))) h)
def HL (kn : K5) (R : K1) (lK jP : aEm) (w : aEl) : Prop :=
 jE pg vL #[lK] w fun c8 w =>
 gI pg (jS c8 0) w fun c9 w =>
 gI pg (jS c8 1) w fun d0 w =>
 gI pg (hU .neq 24 (.tmp 21) (.const (aEn 0)) d0 (aEn 0)) w fun d2 w =>
 lX d2
  (R (.tuple #[(.slice none 0 0), d0]) w)
  (gI pg (nX .len #[22] 3 [jP]) w fun d6 w =>
  jE pg JM #[d6] w fun d7 w =>
  gI pg (jS d7 0) w fun d8 w =>
  gI pg (jS d7 1) w fun d9 w =>
  gI pg (oK 139) w fun Jp w =>
  gI pg (jQ 139 Jp d8) w fun _u w =>
  gI pg (sUn .not d9) w fun e1 w =>
  Gd (kO e1 false) (fun K => K jP w) w fun e3 w =>
  Gd (kO e1 false) (fun K => gI pg (nX .len #[22] 3 [e3]) w K) w fun e4 w =>
  Gd (kO e1 false) (fun K => gI pg (hU .gtr 3 jC jC e4 (aEn 131072)) w K) w fun e5 w =>
  gI pg (mD e1 (.bool true) e5) w fun e6 w =>
  lX e6
   (R (.tuple #[(.slice none 0 0), (aEn 1)]) w)
   (jE pg oS #[] w fun e7 w =>
   kn jP c9 Jp e7 (.slice none 0 0) w))
theorem UB (kn : K5) (R : K1) (hn : N5 Q kn 1 6 8 10 11) (hr : HR qQ R Q) (h : HL kn R (g 0) (g 1) w) : jO pg mW (iB 7 mJ) Q g w :=
 kZ (l := []) h hn hr trivial
def HN (R : K1) (lK jP : aEm) (w : aEl) : Prop :=
 HL (fun jP lL Jp rU lJ w => Ht R jP lL Jp rU lJ w) R lK jP w
theorem Uh (R : K1) (hr : HR qQ R Q) (h : HN R (g 0) (g 1) w) : jO pg mW mJ Q g w :=
 nQ 7 (UB _ g w (Ht R) R (fun g w h => iZ (nQ 1 (Uf _ g w (AL R) R (fun g w h => iZ (Vy _ g w R hr h)) hr h))) hr h)
def Xu (a0 a1 : aEm) (w : aEl) (R : K1) : Prop :=
 HN R a0 a1 w
theorem Xv {a0 a1 : aEm} {w : aEl} {R : K1} (h : Xu a0 a1 w R) : jE pg Gh #[a0, a1] w R := by
 refine wQ (ann := mW) Tryz.f110 mJ [a0, a1] qQ 76 TryzM.mixed Tryz.func110 ?_
 exact (Uh _ _ _ R (fun _ _ h => h) h)
def MT : FA := ⟨Ec, fun i => .leaf ([], []) []⟩
def OU : List ResultVar := [.tmp 2]
noncomputable def Kp : Code := jX Tryz.f115
def Hq (R : K1) (nD : aEm) (w : aEl) : Prop :=
 lX (.bool false)
  (gI pg (nE 50 38 nD) w fun b4 w =>
  jE pg Xq #[b4] w fun b5 w =>
  R b5 w)
  (jE pg vW #[nD] w fun b7 w =>
  R b7 w)
theorem Ud (R : K1) (hr : HR OU R Q) (h : Hq R (g 0) w) : jO pg MT Kp Q g w :=
 kZ (kn := no) (l := []) h lU hr trivial
def Vg (a0 : aEm) (w : aEl) (R : K1) : Prop :=
 Hq R a0 w
theorem VT {a0 : aEm} {w : aEl} {R : K1} (h : Vg a0 w R) : jE pg Ec #[a0] w R := by
 refine wQ (ann := MT) Tryz.f115 Kp [a0] OU 8 TryzM.mixed Tryz.func115 ?_
 exact (Ud _ _ _ R (fun _ _ h => h) h)
def JA : FA := ⟨BD, fun i => .leaf ([], []) []⟩
def KV : List ResultVar := [.tmp 4, .tmp 5]
noncomputable def IT : Code := jX Tryz.f120
def EG (R : K1) (nD y_1 : aEm) (w : aEl) : Prop :=
 gI pg (hU .and 32 jC jC nD (.int .u64 4294967295)) w fun c5 w =>
 gI pg (hU .shr 32 jC jC nD (.int .u64 32)) w fun c7 w =>
 gI pg (hU .and 32 jC jC y_1 (.int .u64 4294967295)) w fun c9 w =>
 gI pg (hU .shr 32 jC jC y_1 (.int .u64 32)) w fun d1 w =>
 gI pg (hU .mul 32 jC jC c5 c9) w fun d4 w =>
 gI pg (hU .mul 32 jC jC c7 c9) w fun d7 w =>
 gI pg (hU .shr 32 jC jC d4 (.int .u64 32)) w fun d9 w =>
 gI pg (hU .add 32 jC jC d7 d9) w fun e0 w =>
 gI pg (hU .and 32 jC jC e0 (.int .u64 4294967295)) w fun e2 w =>
 gI pg (hU .shr 32 jC jC e0 (.int .u64 32)) w fun e4 w =>
 gI pg (hU .mul 32 jC jC c5 d1) w fun e8 w =>
 gI pg (hU .add 32 jC jC e2 e8) w fun e9 w =>
 gI pg (hU .mul 32 jC jC c7 d1) w fun f2 w =>
 gI pg (hU .add 32 jC jC f2 e4) w fun f4 w =>
 gI pg (hU .shr 32 jC jC e9 (.int .u64 32)) w fun f6 w =>
 gI pg (hU .add 32 jC jC f4 f6) w fun f7 w =>
 gI pg (hU .mul 32 jC jC nD y_1) w fun i0 w =>
 R (.tuple #[f7, i0]) w
theorem R8 (R : K1) (hr : HR KV R Q) (h : EG R (g 0) (g 1) w) : jO pg JA IT Q g w :=
 kZ (kn := no) (l := []) h lU hr trivial
def QU (a0 a1 : aEm) (w : aEl) (R : K1) : Prop :=
 EG R a0 a1 w
theorem S0 {a0 a1 : aEm} {w : aEl} {R : K1} (h : QU a0 a1 w R) : jE pg BD #[a0, a1] w R := by
 refine wQ (ann := JA) Tryz.f120 IT [a0, a1] KV 51 TryzM.mixed Tryz.func120 ?_
 exact (R8 _ _ _ R (fun _ _ h => h) h)
def oF : FA := ⟨D2, fun i => .leaf ([], []) []⟩
def sG : List ResultVar := [.tmp 2, .tmp 3]
noncomputable def nO : Code := jX Tryz.f132
def CI (R : K1) (lC : aEm) (w : aEl) : Prop :=
 R (.tuple #[lC, (.bool true)]) w
theorem Um (R : K1) (hr : HR sG R Q) (h : CI R (g 4) w) : jO pg oF (gH 1 (gH 2 nO)) Q g w :=
 kZ (kn := no) (l := []) h lU hr trivial
def CL (kn : K4) (lC b7 b8 b9 : aEm) (w : aEl) : Prop :=
 gI pg (hU .add 3 jC jC b9 (aEn 1)) w fun d2 w =>
 kn lC b7 b8 d2 w
theorem T9 (kn : K4) (hn : N4 Q kn 4 7 8 9) (h : CL kn (g 4) (g 7) (g 8) (g 9) w) : jO pg oF (gH 3 (bI (bI (gH 1 (iB 1 (gH 2 nO)))))) Q g w :=
 kZ (kr := no) (l := []) h hn lU trivial
def Ik (kn : K4) (k0 : K1) (R : K1) (lC b7 b8 b9 : aEm) (w : aEl) : Prop :=
 gI pg (hU .lss 3 jC jC b9 b8) w fun c0 w =>
 lX c0
  (gI pg (jT 22 b7 b9) w fun c1 w =>
  gI pg (jG 5 c1) w fun c2 w =>
  gI pg (hU .gtr 5 jC jC c2 (.int .u8 11)) w fun c4 w =>
  lX c4
   (R (.tuple #[(aEn 0), (.bool false)]) w)
   (gI pg (hU .gtr 5 jC jC c2 (.int .u8 0)) w fun c6 w =>
   lX c6
    (gI pg (hU .sub 5 jC jC c2 (.int .u8 1)) w fun c9 w =>
    gI pg (hU .shl 3 jC jC (aEn 1) c9) w fun d0 w =>
    gI pg (hU .add 3 jC jC lC d0) w fun d1 w =>
    kn d1 b7 b8 b9 w)
    (kn lC b7 b8 b9 w)))
  (k0 lC w)
theorem Uu (kn : K4) (k0 : K1) (R : K1) (hn : N4 Q kn 4 7 8 9) (h0 : E1 Q k0 0 4) (hr : HR sG R Q) (h : Ik kn k0 R (g 4) (g 7) (g 8) (g 9) w) : jO pg oF (iB 3 (bI (bI (gH 1 (iB 1 (gH 2 nO)))))) Q g w :=
 kZ (l := [(0, fun g w => k0 (g 4) w)]) h hn hr ⟨h0, trivial⟩
def CP (kn : K4) (k0 : K1) (R : K1) (lC b7 b8 b9 : aEm) (w : aEl) : Prop :=
 Ik (fun lC b7 b8 b9 w => CL kn lC b7 b8 b9 w) k0 R lC b7 b8 b9 w
def HY (k0 : K1) (R : K1) (lC b7 b8 b9 : aEm) (w : aEl) : Prop :=
 kP (fun (X : (aEm × aEm) -> K0) (t : aEm × aEm) (w : aEl) => CP (fun lC _ _ b9 w => X (lC, b9) w) k0 R t.1 b7 b8 t.2 w) (lC, b9) w
theorem UX (kn : K4) (k0 : K1) (R : K1) (hn : N4 Q kn 4 7 8 9) (h0 : E1 Q k0 0 4) (hr : HR sG R Q) (h : CP kn k0 R (g 4) (g 7) (g 8) (g 9) w) : jO pg oF (bI (bI (gH 1 (iB 1 (gH 2 nO))))) Q g w :=
 nQ 3 (Uu _ g w (CL kn) k0 R (fun g w h => iZ (T9 _ g w kn hn h)) h0 hr h)
theorem UM (k0 : K1) (R : K1) (h0 : E1 Q k0 0 4) (hr : HR sG R Q) (h : HY k0 R (g 4) (g 7) (g 8) (g 9) w) : jO pg oF (bI (gH 1 (iB 1 (gH 2 nO)))) Q g w := by
 refine Ov (fun g : Env => (g 4, g 9)) (fun X t w => CP (fun lC _ _ b9 w => X (lC, b9) w) k0 R t.1 (g 7) (g 8) t.2 w) h (fun X g1 w1 ha hL => ?_)
 rw [<- rI 7 ha, <- rI 8 ha] at hL
 exact (UX _ g1 w1 (fun lC _ _ b9 w => X (lC, b9) w) k0 R (fun _ _ h => h) h0 hr hL)
def H7 (kn : K1) (R : K1) (lC b7 b8 b9 : aEm) (w : aEl) : Prop :=
 HY kn R lC b7 b8 b9 w
def HZ (kn : K4) (lK lC : aEm) (w : aEl) : Prop :=
 gI pg (nX .len #[22] 3 [lK]) w fun b8 w =>
 kn lC lK b8 (aEn 0) w
theorem Ux (kn : K4) (hn : N4 Q kn 4 7 8 9) (h : HZ kn (g 0) (g 4) w) : jO pg oF (iB 1 (iB 1 (gH 2 nO))) Q g w :=
 kZ (kr := no) (l := []) h hn lU trivial
def Il (kn : K1) (R : K1) (lK lC : aEm) (w : aEl) : Prop :=
 HZ (fun lC b7 b8 b9 w => H7 kn R lC b7 b8 b9 w) lK lC w
def HE (R : K1) (lK lC : aEm) (w : aEl) : Prop :=
 Il (fun lC w => CI R lC w) R lK lC w
theorem U2 (kn : K1) (R : K1) (hn : N1 Q kn 4) (hr : HR sG R Q) (h : Il kn R (g 0) (g 4) w) : jO pg oF (iB 1 (gH 2 nO)) Q g w :=
 nQ 1 (Ux _ g w (H7 kn R) (fun g w h => iZ (Iw 0 (UM _ g w kn R hn hr h))) h)
def F5 (kn : K2) (lK : aEm) (w : aEl) : Prop :=
 kn lK (aEn 0) w
theorem TN (kn : K2) (hn : N2 Q kn 0 4) (h : F5 kn (g 0) w) : jO pg oF (iB 2 nO) Q g w :=
 kZ (kr := no) (l := []) h hn lU trivial
def Gp (R : K1) (lK : aEm) (w : aEl) : Prop :=
 F5 (fun lK lC w => HE R lK lC w) lK w
theorem TU (R : K1) (hr : HR sG R Q) (h : Gp R (g 0) w) : jO pg oF nO Q g w :=
 nQ 2 (TN _ g w (HE R) (fun g w h => iZ (nQ 1 (U2 _ g w (CI R) R (fun g w h => iZ (Um _ g w R hr h)) hr h))) h)
def Vk (a0 : aEm) (w : aEl) (R : K1) : Prop :=
 Gp R a0 w
theorem Wd {a0 : aEm} {w : aEl} {R : K1} (h : Vk a0 w R) : jE pg D2 #[a0] w R := by
 refine wQ (ann := oF) Tryz.f132 nO [a0] sG 24 TryzM.mixed Tryz.func132 ?_
 exact (TU _ _ _ R (fun _ _ h => h) h)
def mK : FA := ⟨uT, fun i => .leaf ([], []) []⟩
def AA : List ResultVar := [.tmp 2]
noncomputable def mA : Code := jX Tryz.f133
def uA (R : K1) (DI : aEm) (w : aEl) : Prop :=
 R DI w
theorem LY (R : K1) (hr : HR AA R Q) (h : uA R (g 3) w) : jO pg mK (gH 1 (gH 1 (gH 2 mA))) Q g w :=
 kZ (kn := no) (l := []) h lU hr trivial
def uC (kn : K3) (k0 : K1) (nD DI SI : aEm) (w : aEl) : Prop :=
 gI pg (nX .len #[22] 3 [nD]) w fun c4 w =>
 gI pg (hU .lss 3 jC jC SI c4) w fun c5 w =>
 lX c5
  (gI pg (jT 22 nD SI) w fun d1 w =>
  gI pg (jG 5 d1) w fun d2 w =>
  gI pg (nX .max #[5, 5] 5 [DI, d2]) w fun d3 w =>
  gI pg (hU .add 3 jC jC SI (aEn 1)) w fun c7 w =>
  kn nD d3 c7 w)
  (k0 DI w)
theorem L1 (kn : K3) (k0 : K1) (hn : N3 Q kn 0 3 4) (h0 : E1 Q k0 0 3) (h : uC kn k0 (g 0) (g 3) (g 4) w) : jO pg mK (bI (bI (gH 1 (iB 1 (gH 1 (gH 2 mA)))))) Q g w :=
 kZ (kr := no) (l := [(0, fun g w => k0 (g 3) w)]) h hn lU ⟨h0, trivial⟩
def zB (k0 : K1) (nD DI SI : aEm) (w : aEl) : Prop :=
 kP (fun (X : (aEm × aEm) -> K0) (t : aEm × aEm) (w : aEl) => uC (fun _ DI SI w => X (DI, SI) w) k0 nD t.1 t.2 w) (DI, SI) w
theorem LW (k0 : K1) (h0 : E1 Q k0 0 3) (h : zB k0 (g 0) (g 3) (g 4) w) : jO pg mK (bI (gH 1 (iB 1 (gH 1 (gH 2 mA))))) Q g w := by
 refine Ov (fun g : Env => (g 3, g 4)) (fun X t w => uC (fun _ DI SI w => X (DI, SI) w) k0 (g 0) t.1 t.2 w) h (fun X g1 w1 ha hL => ?_)
 rw [<- rI 0 ha] at hL
 exact (L1 _ g1 w1 (fun _ DI SI w => X (DI, SI) w) k0 (fun _ _ h => h) h0 hL)
def zV (kn : K1) (nD DI SI : aEm) (w : aEl) : Prop :=
 zB kn nD DI SI w
def zQ (kn : K3) (nD DI : aEm) (w : aEl) : Prop :=
 kn nD DI (aEn 1) w
theorem L3 (kn : K3) (hn : N3 Q kn 0 3 4) (h : zQ kn (g 0) (g 3) w) : jO pg mK (iB 1 (iB 1 (gH 1 (gH 2 mA)))) Q g w :=
 kZ (kr := no) (l := []) h hn lU trivial
def AF (kn : K1) (nD DI : aEm) (w : aEl) : Prop :=
 zQ (fun nD DI SI w => zV kn nD DI SI w) nD DI w
def AD (R : K1) (nD DI : aEm) (w : aEl) : Prop :=
 AF (fun DI w => uA R DI w) nD DI w
theorem LZ (kn : K1) (hn : N1 Q kn 3) (h : AF kn (g 0) (g 3) w) : jO pg mK (iB 1 (gH 1 (gH 2 mA))) Q g w :=
 nQ 1 (L3 _ g w (zV kn) (fun g w h => iZ (Iw 0 (LW _ g w kn hn h))) h)
def Aw (kn : K2) (nD : aEm) (w : aEl) : Prop :=
 gI pg (jT 22 nD (aEn 0)) w fun c0 w =>
 gI pg (jG 5 c0) w fun c1 w =>
 kn nD c1 w
theorem Mm (kn : K2) (hn : N2 Q kn 0 3) (h : Aw kn (g 0) w) : jO pg mK (iB 1 (gH 2 mA)) Q g w :=
 kZ (kr := no) (l := []) h hn lU trivial
def Au (R : K1) (nD : aEm) (w : aEl) : Prop :=
 Aw (fun nD DI w => AD R nD DI w) nD w
def yP (kn : K1) (nD : aEm) (w : aEl) : Prop :=
 gI pg (nX .len #[22] 3 [nD]) w fun b6 w =>
 gI pg (hU .lss 3 jC jC b6 (aEn 1)) w fun b7 w =>
 lX b7
  (gI pg (VX 9 (.string ⟨#[115, 108, 105, 99, 101, 115, 46, 77, 97, 120, 58, 32, 101, 109, 112, 116, 121, 32, 108, 105, 115, 116]⟩)) w fun b8 w =>
  gI pg (V (Instr.panic b8)) w fun _u w =>
  kn nD w)
  (kn nD w)
theorem Lg (kn : K1) (hn : N1 Q kn 0) (h : yP kn (g 0) w) : jO pg mK (iB 2 mA) Q g w :=
 kZ (kr := no) (l := []) h hn lU trivial
def yH (R : K1) (nD : aEm) (w : aEl) : Prop :=
 yP (fun nD w => Au R nD w) nD w
theorem Lj (R : K1) (hr : HR AA R Q) (h : yH R (g 0) w) : jO pg mK mA Q g w :=
 nQ 2 (Lg _ g w (Au R) (fun g w h => iZ (nQ 1 (Mm _ g w (AD R) (fun g w h => iZ (nQ 1 (LZ _ g w (uA R) (fun g w h => iZ (LY _ g w R hr h)) h))) h))) h)
def JE (a0 : aEm) (w : aEl) (R : K1) : Prop :=
 yH R a0 w
theorem MY {a0 : aEm} {w : aEl} {R : K1} (h : JE a0 w R) : jE pg uT #[a0] w R := by
 refine wQ (ann := mK) Tryz.f133 mA [a0] AA 25 TryzM.mixed Tryz.func133 ?_
 exact (Lj _ _ _ R (fun _ _ h => h) h)
def lE : FA := ⟨vL, fun i => .leaf ([], []) []⟩
def Cp : List ResultVar := [.tmp 2, .tmp 3]
noncomputable def kT : Code := jX Tryz.f134
def CC (R : K1) (iY : aEm) (w : aEl) : Prop :=
 R (.tuple #[iY, (aEn 0)]) w
theorem UF (R : K1) (hr : HR Cp R Q) (h : CC R (g 5) w) : jO pg lE (gH 1 (gH 5 kT)) Q g w :=
 kZ (kn := no) (l := []) h lU hr trivial
def Cv (kn : K5) (lK Fv iY pP Fw : aEm) (w : aEl) : Prop :=
 gI pg (hU .add 3 jC jC Fw (aEn 1)) w fun d0 w =>
 kn lK Fv iY pP d0 w
theorem T3 (kn : K5) (hn : N5 Q kn 0 4 5 6 7) (h : Cv kn (g 0) (g 4) (g 5) (g 6) (g 7) w) : jO pg lE (gH 1 (gH 1 (bI (bI (gH 1 (iB 1 (gH 5 kT))))))) Q g w :=
 kZ (kr := no) (l := []) h hn lU trivial
def CQ (kn : K7) (lK Fv iY pP Fw d2 d3 : aEm) (w : aEl) : Prop :=
 gI pg (hU .add 3 jC jC d3 (aEn 1)) w fun i0 w =>
 kn lK Fv iY pP Fw d2 i0 w
theorem UD (kn : K7) (hn : N7 Q kn 0 4 5 6 7 22 23) (h : CQ kn (g 0) (g 4) (g 5) (g 6) (g 7) (g 22) (g 23) w) : jO pg lE (gH 3 (bI (bI (gH 1 (bI (iB 1 (gH 1 (bI (bI (gH 1 (iB 1 (gH 5 kT)))))))))))) Q g w :=
 kZ (kr := no) (l := []) h hn lU trivial
def Ip (kn : K7) (k2 : K5) (lK Fv iY pP Fw d2 d3 : aEm) (w : aEl) : Prop :=
 gI pg (hU .lss 3 jC jC d3 d2) w fun d4 w =>
 lX d4
  (gI pg (jT 22 lK d3) w fun d8 w =>
  gI pg (jG 5 d8) w fun d9 w =>
  gI pg (nE 5 3 d9) w fun e0 w =>
  gI pg (hU .neq 3 (.tmp 30) (.tmp 31) e0 Fw) w fun e2 w =>
  lX e2
   (kn lK Fv iY pP Fw d2 d3 w)
   (gI pg (hU .add 3 jC jC Fv (aEn 1)) w fun e6 w =>
   gI pg (hU .sub 3 jC jC e6 Fw) w fun e8 w =>
   gI pg (hU .sub 3 jC jC Fw (aEn 1)) w fun f1 w =>
   gI pg (hU .shr 3 jC jC pP f1) w fun f2 w =>
   gI pg (kV 241 [(0, e8), (1, f2)]) w fun f3 w =>
   gI pg (jT 225 iY d3) w fun f4 w =>
   gI pg (jQ 241 f4 f3) w fun _u w =>
   gI pg (hU .sub 3 jC jC Fw (aEn 1)) w fun f7 w =>
   gI pg (hU .shl 3 jC jC (aEn 1) f7) w fun f8 w =>
   gI pg (hU .add 3 jC jC pP f8) w fun f9 w =>
   kn lK Fv iY f9 Fw d2 d3 w))
  (k2 lK Fv iY pP Fw w)
theorem Ul (kn : K7) (k2 : K5) (hn : N7 Q kn 0 4 5 6 7 22 23) (h2 : E5 Q k2 2 0 4 5 6 7) (h : Ip kn k2 (g 0) (g 4) (g 5) (g 6) (g 7) (g 22) (g 23) w) : jO pg lE (iB 3 (bI (bI (gH 1 (bI (iB 1 (gH 1 (bI (bI (gH 1 (iB 1 (gH 5 kT)))))))))))) Q g w :=
 kZ (kr := no) (l := [(2, fun g w => k2 (g 0) (g 4) (g 5) (g 6) (g 7) w)]) h hn lU ⟨h2, trivial⟩
def CF (kn : K7) (k2 : K5) (lK Fv iY pP Fw d2 d3 : aEm) (w : aEl) : Prop :=
 Ip (fun lK Fv iY pP Fw d2 d3 w => CQ kn lK Fv iY pP Fw d2 d3 w) k2 lK Fv iY pP Fw d2 d3 w
def Ig (k2 : K5) (lK Fv iY pP Fw d2 d3 : aEm) (w : aEl) : Prop :=
 kP (fun (X : (aEm × aEm) -> K0) (t : aEm × aEm) (w : aEl) => CF (fun _ _ _ pP _ _ d3 w => X (pP, d3) w) k2 lK Fv iY t.1 Fw d2 t.2 w) (pP, d3) w
theorem U0 (kn : K7) (k2 : K5) (hn : N7 Q kn 0 4 5 6 7 22 23) (h2 : E5 Q k2 2 0 4 5 6 7) (h : CF kn k2 (g 0) (g 4) (g 5) (g 6) (g 7) (g 22) (g 23) w) : jO pg lE (bI (bI (gH 1 (bI (iB 1 (gH 1 (bI (bI (gH 1 (iB 1 (gH 5 kT))))))))))) Q g w :=
 nQ 3 (Ul _ g w (CQ kn) k2 (fun g w h => iZ (UD _ g w kn hn h)) h2 h)
theorem Uo (k2 : K5) (h2 : E5 Q k2 2 0 4 5 6 7) (h : Ig k2 (g 0) (g 4) (g 5) (g 6) (g 7) (g 22) (g 23) w) : jO pg lE (bI (gH 1 (bI (iB 1 (gH 1 (bI (bI (gH 1 (iB 1 (gH 5 kT)))))))))) Q g w := by
 refine Ov (fun g : Env => (g 6, g 23)) (fun X t w => CF (fun _ _ _ pP _ _ d3 w => X (pP, d3) w) k2 (g 0) (g 4) (g 5) t.1 (g 7) (g 22) t.2 w) h (fun X g1 w1 ha hL => ?_)
 rw [<- rI 0 ha, <- rI 4 ha, <- rI 5 ha, <- rI 7 ha, <- rI 22 ha] at hL
 exact (U0 _ g1 w1 (fun _ _ _ pP _ _ d3 w => X (pP, d3) w) k2 (fun _ _ h => h) h2 hL)
def Hu (kn : K5) (lK Fv iY pP Fw d2 d3 : aEm) (w : aEl) : Prop :=
 Ig kn lK Fv iY pP Fw d2 d3 w
def Im (kn : K7) (lK Fv iY pP Fw : aEm) (w : aEl) : Prop :=
 gI pg (nX .len #[22] 3 [lK]) w fun d2 w =>
 kn lK Fv iY pP Fw d2 (aEn 0) w
theorem Ua (kn : K7) (hn : N7 Q kn 0 4 5 6 7 22 23) (h : Im kn (g 0) (g 4) (g 5) (g 6) (g 7) w) : jO pg lE (iB 1 (bI (iB 1 (gH 1 (bI (bI (gH 1 (iB 1 (gH 5 kT))))))))) Q g w :=
 kZ (kr := no) (l := []) h hn lU trivial
def Pc (kn : K5) (lK Fv iY pP Fw : aEm) (w : aEl) : Prop :=
 Im (fun lK Fv iY pP Fw d2 d3 w => Hu kn lK Fv iY pP Fw d2 d3 w) lK Fv iY pP Fw w
def FI (kn : K5) (lK Fv iY pP Fw : aEm) (w : aEl) : Prop :=
 Pc kn lK Fv iY pP Fw w
def FP (kn : K5) (lK Fv iY pP Fw : aEm) (w : aEl) : Prop :=
 FI (fun lK Fv iY pP Fw w => Cv kn lK Fv iY pP Fw w) lK Fv iY pP Fw w
theorem S6 (kn : K5) (hn : N5 Q kn 0 4 5 6 7) (h : FI kn (g 0) (g 4) (g 5) (g 6) (g 7) w) : jO pg lE (iB 1 (gH 1 (bI (bI (gH 1 (iB 1 (gH 5 kT))))))) Q g w :=
 Iw 1 (nQ 1 (Ua _ g w (Hu kn) (fun g w h => iZ (Iw 2 (Uo _ g w kn hn h))) h))
def Gt (kn : K5) (k0 : K1) (lK Fv iY pP Fw : aEm) (w : aEl) : Prop :=
 gI pg (hU .leq 3 jC jC Fw Fv) w fun c8 w =>
 lX c8
  (kn lK Fv iY pP Fw w)
  (k0 iY w)
theorem SS (kn : K5) (k0 : K1) (hn : N5 Q kn 0 4 5 6 7) (h0 : E1 Q k0 0 5) (h : Gt kn k0 (g 0) (g 4) (g 5) (g 6) (g 7) w) : jO pg lE (iB 1 (bI (bI (gH 1 (iB 1 (gH 5 kT)))))) Q g w :=
 kZ (kr := no) (l := [(0, fun g w => k0 (g 5) w)]) h hn lU ⟨h0, trivial⟩
def BB (kn : K5) (k0 : K1) (lK Fv iY pP Fw : aEm) (w : aEl) : Prop :=
 Gt (fun lK Fv iY pP Fw w => FP kn lK Fv iY pP Fw w) k0 lK Fv iY pP Fw w
def FM (k0 : K1) (lK Fv iY pP Fw : aEm) (w : aEl) : Prop :=
 kP (fun (X : (aEm × aEm) -> K0) (t : aEm × aEm) (w : aEl) => BB (fun _ _ _ pP Fw w => X (pP, Fw) w) k0 lK Fv iY t.1 t.2 w) (pP, Fw) w
theorem SK (kn : K5) (k0 : K1) (hn : N5 Q kn 0 4 5 6 7) (h0 : E1 Q k0 0 5) (h : BB kn k0 (g 0) (g 4) (g 5) (g 6) (g 7) w) : jO pg lE (bI (bI (gH 1 (iB 1 (gH 5 kT))))) Q g w :=
 nQ 1 (SS _ g w (FP kn) k0 (fun g w h => iZ (nQ 1 (S6 _ g w (Cv kn) (fun g w h => iZ (T3 _ g w kn hn h)) h))) h0 h)
theorem TE (k0 : K1) (h0 : E1 Q k0 0 5) (h : FM k0 (g 0) (g 4) (g 5) (g 6) (g 7) w) : jO pg lE (bI (gH 1 (iB 1 (gH 5 kT)))) Q g w := by
 refine Ov (fun g : Env => (g 6, g 7)) (fun X t w => BB (fun _ _ _ pP Fw w => X (pP, Fw) w) k0 (g 0) (g 4) (g 5) t.1 t.2 w) h (fun X g1 w1 ha hL => ?_)
 rw [<- rI 0 ha, <- rI 4 ha, <- rI 5 ha] at hL
 exact (SK _ g1 w1 (fun _ _ _ pP Fw w => X (pP, Fw) w) k0 (fun _ _ h => h) h0 hL)
def GC (kn : K1) (lK Fv iY pP Fw : aEm) (w : aEl) : Prop :=
 FM kn lK Fv iY pP Fw w
def F8 (kn : K5) (lK Fv iY pP : aEm) (w : aEl) : Prop :=
 kn lK Fv iY pP (aEn 1) w
theorem Tm (kn : K5) (hn : N5 Q kn 0 4 5 6 7) (h : F8 kn (g 0) (g 4) (g 5) (g 6) w) : jO pg lE (iB 1 (iB 1 (gH 5 kT))) Q g w :=
 kZ (kr := no) (l := []) h hn lU trivial
def FW (kn : K1) (lK Fv iY pP : aEm) (w : aEl) : Prop :=
 F8 (fun lK Fv iY pP Fw w => GC kn lK Fv iY pP Fw w) lK Fv iY pP w
def F4 (R : K1) (lK Fv iY pP : aEm) (w : aEl) : Prop :=
 FW (fun iY w => CC R iY w) lK Fv iY pP w
theorem Tc (kn : K1) (hn : N1 Q kn 5) (h : FW kn (g 0) (g 4) (g 5) (g 6) w) : jO pg lE (iB 1 (gH 5 kT)) Q g w :=
 nQ 1 (Tm _ g w (GC kn) (fun g w h => iZ (Iw 0 (TE _ g w kn hn h))) h)
def BQ (kn : K4) (R : K1) (lK : aEm) (w : aEl) : Prop :=
 jE pg AI #[lK] w fun c0 w =>
 gI pg (hU .eql 3 (.tmp 11) (.const (aEn 0)) c0 (aEn 0)) w fun c2 w =>
 lX c2
  (R (.tuple #[(.slice none 0 0), (aEn 1)]) w)
  (gI pg (nX .len #[22] 3 [lK]) w fun c4 w =>
  gI pg (sP 225 c4 c4) w fun c5 w =>
  kn lK c0 c5 (aEn 0) w)
theorem Td (kn : K4) (R : K1) (hn : N4 Q kn 0 4 5 6) (hr : HR Cp R Q) (h : BQ kn R (g 0) w) : jO pg lE (iB 5 kT) Q g w :=
 kZ (l := []) h hn hr trivial
def Bv (R : K1) (lK : aEm) (w : aEl) : Prop :=
 BQ (fun lK Fv iY pP w => F4 R lK Fv iY pP w) R lK w
theorem Tu (R : K1) (hr : HR Cp R Q) (h : Bv R (g 0) w) : jO pg lE kT Q g w :=
 nQ 5 (Td _ g w (F4 R) R (fun g w h => iZ (nQ 1 (Tc _ g w (CC R) (fun g w h => iZ (UF _ g w R hr h)) h))) hr h)
def Nj (a0 : aEm) (w : aEl) (R : K1) : Prop :=
 Bv R a0 w
theorem Ko {a0 : aEm} {w : aEl} {R : K1} (h : Nj a0 w R) : jE pg vL #[a0] w R := by
 refine wQ (ann := lE) Tryz.f134 kT [a0] Cp 52 TryzM.mixed Tryz.func134 ?_
 exact (Tu _ _ _ R (fun _ _ h => h) h)
def pA : FA := ⟨oI, fun i => match Nat.beq i 6 with | true => .leaf ([12], []) [(false, []), (false, []), (false, []), (false, []), (false, []), (false, []), (false, []), (false, []), (false, []), (false, []), (false, []), (false, []), (true, [])] | false => .leaf ([], []) []⟩
def Cc : List ResultVar := [.cell 4 22, .cell 5 24]
noncomputable def jU : Code := jX Tryz.f135
def BP (kn : K0) (R : K1) (oJ b4 b5 Ss IU : aEm) (w : aEl) : Prop :=
 gI pg (nE 5 3 IU) w fun c5 w =>
 gI pg (jG 225 oJ) w fun c6 w =>
 gI pg (nX .len #[225] 3 [c6]) w fun c7 w =>
 gI pg (hU .geq 3 jC jC c5 c7) w fun c8 w =>
 Gd (kO c8 false) (fun K => gI pg (jG 225 oJ) w K) w fun d0 w =>
 Gd (kO c8 false) (fun K => K IU w) w fun d1 w =>
 Gd (kO c8 false) (fun K => gI pg (jT 225 d0 d1) w K) w fun d2 w =>
 Gd (kO c8 false) (fun K => gI pg (jI 241 d2 0) w K) w fun d3 w =>
 Gd (kO c8 false) (fun K => gI pg (jG 3 d3) w K) w fun d4 w =>
 Gd (kO c8 false) (fun K => gI pg (hU .eql 3 (.tmp 24) (.const (aEn 0)) d4 (aEn 0)) w K) w fun d5 w =>
 gI pg (mD c8 (.bool true) d5) w fun d6 w =>
 lX d6
  (gI pg (jQ 22 b4 (.slice none 0 0)) w fun _u w =>
  gI pg (jQ 24 b5 (aEn 1)) w fun _u w =>
  R (.tuple #[]) w)
  (gI pg (jG 170 Ss) (dr w) fun d7 w_ => w_ = (dr w) /\
  gI pg (jG 225 oJ) (dr w) fun d8 w_ => w_ = (dr w) /\
  (dr w) = (dr w) /\
  gI pg (jT 225 d8 IU) (dr w) fun e0 w_ => w_ = (dr w) /\
  gI pg (jI 241 e0 1) (dr w) fun e1 w_ => w_ = (dr w) /\
  gI pg (jG 3 e1) (dr w) fun e2 w_ => w_ = (dr w) /\
  gI pg (nE 3 32 e2) (dr w) fun e3 w_ => w_ = (dr w) /\
  gI pg (jG 225 oJ) (dr w) fun e4 w_ => w_ = (dr w) /\
  (dr w) = (dr w) /\
  gI pg (jT 225 e4 IU) (dr w) fun e6 w_ => w_ = (dr w) /\
  gI pg (jI 241 e6 0) (dr w) fun e7 w_ => w_ = (dr w) /\
  gI pg (jG 3 e7) (dr w) fun e8 w_ => w_ = (dr w) /\
  jE pg rO #[d7, e3, e8] (dr w) fun e9 aAP =>
  kn aAP)
theorem TC (kn : K0) (R : K1) (hn : N0 Q kn) (hr : HR azF R Q) (h : BP kn R (g 2) (g 4) (g 5) (g 6) (g 8) w) : jO pg pA (akQ jU) Q g w :=
 kZ (l := []) h hn hr trivial
def Fy (kn : K5) (oJ b4 b5 Ss c3 : aEm) (w : aEl) : Prop :=
 kn oJ b4 b5 Ss c3 w
theorem TG (kn : K5) (hn : N5 Q kn 2 4 5 6 8) (h : Fy kn (g 2) (g 4) (g 5) (g 6) (g 13) w) : jO pg pA (aoP jU) Q g w :=
 kZ (kr := no) (l := []) h hn lU trivial
def QV (l : Nat) (R : K1) (oJ b4 b5 Ss c3 : aEm) (w : aEl) : Prop :=
 Fy (fun oJ b4 b5 Ss IU w => Rdy l w fun w => BP (fun w => ahK l none R w) (fun _ w => ahK l (some .ret) R w) oJ b4 b5 Ss IU w) oJ b4 b5 Ss c3 w
theorem Xy {l : Nat} {tmps : Array aEm} {w : aEl} {R : K1} (hsz : tmps.size = 42) (h : QV l R (RP tmps 2) (RP tmps 4) (RP tmps 5) (RP tmps 6) (RP tmps 13) w) : adV pg l oI tmps (aoP jU) (akQ jU) w R :=
 dsR (ann := pA) 42 TryzM.mixed hsz (TG (asQ pg pA l (akQ jU) R) (RP tmps) w (fun oJ b4 b5 Ss IU w => Rdy l w fun w => BP (ahK l none R) (fun _ w => ahK l (some .ret) R w) oJ b4 b5 Ss IU w) (fun g w h => let ⟨r, h1, h2, h3⟩ := h; ⟨r, h1, h2, (TC (afZ l R) g _ (ahK l none R) (fun _ w => ahK l (some .ret) R w) (fun _ _ h => h) (fun _ _ h => h) h3)⟩) h) (by kernel_rfl) (by kernel_rfl) (by kernel_rfl)
def Ck (R : K1) (b4 b5 Ss t1000003 : aEm) (w : aEl) : Prop :=
 gI pg (jG 170 Ss) w fun f0 w =>
 jE pg vV #[f0] w fun f1 w =>
 gI pg (jQ 22 b4 f1) w fun _u w =>
 gI pg (jQ 24 b5 (aEn 0)) w fun _u w =>
 G3 t1000003 w fun w => Nq pg 22 b4 w fun r0 => Nq pg 24 b5 w fun r1 => R (.tuple #[r0, r1]) w
theorem Xm (R : K1) (hr : HRF Cc R Q) (h : Ck R (g 4) (g 5) (g 6) (g 1000003) w) : jO pg pA (gH 1 (gH 2 jU)) Q g w :=
 kZ (kn := no) (l := []) h lU hr trivial
def Le (kn : K4) (R : K1) (oJ b4 b5 Ss c1 t1000003 : aEm) (w : aEl) : Prop :=
 ∀ g : Env, g 2 = oJ -> g 4 = b4 -> g 5 = b5 -> g 6 = Ss -> g 11 = c1 -> g 1000003 = t1000003 -> RF pg oI (.tmp 11) (avE jU) (aoP jU) (akQ jU) (exQ (fun g w => kn (g 4) (g 5) (g 6) (g 1000003) w) (fun g w => G3 (g 1000003) w fun w => Nq pg 22 (g 4) w fun r0 => Nq pg 24 (g 5) w fun r1 => R (.tuple #[r0, r1]) w) []) g w
theorem XM (kn : K4) (R : K1) (hn : N4 Q kn 4 5 6 1000003) (hr : HRF Cc R Q) (h : Le kn R (g 2) (g 4) (g 5) (g 6) (g 11) (g 1000003) w) : jO pg pA (bI (gH 1 (iB 1 (gH 2 jU)))) Q g w :=
 kZ (l := []) (h g rfl rfl rfl rfl rfl rfl) hn hr trivial
def Kq (kn : K4) (R : K1) (oJ b4 b5 Ss c1 t1000003 : aEm) (w : aEl) : Prop :=
 Le kn R oJ b4 b5 Ss c1 t1000003 w
def LB (kn : K6) (Ye oJ b4 b5 Ss t1000003 : aEm) (w : aEl) : Prop :=
 jE pg zI #[Ye] w fun c1 w =>
 kn oJ b4 b5 Ss c1 t1000003 w
theorem Wq (kn : K6) (hn : N6 Q kn 2 4 5 6 11 1000003) (h : LB kn (g 1) (g 2) (g 4) (g 5) (g 6) (g 1000003) w) : jO pg pA (iB 1 (iB 1 (gH 2 jU))) Q g w :=
 kZ (kr := no) (l := []) h hn lU trivial
def LR (kn : K4) (R : K1) (Ye oJ b4 b5 Ss t1000003 : aEm) (w : aEl) : Prop :=
 LB (fun oJ b4 b5 Ss c1 t1000003 w => Kq kn R oJ b4 b5 Ss c1 t1000003 w) Ye oJ b4 b5 Ss t1000003 w
def LL (R : K1) (Ye oJ b4 b5 Ss t1000003 : aEm) (w : aEl) : Prop :=
 LR (fun b4 b5 Ss t1000003 w => Ck R b4 b5 Ss t1000003 w) R Ye oJ b4 b5 Ss t1000003 w
theorem Wm (kn : K4) (R : K1) (hn : N4 Q kn 4 5 6 1000003) (hr : HRF Cc R Q) (h : LR kn R (g 1) (g 2) (g 4) (g 5) (g 6) (g 1000003) w) : jO pg pA (iB 1 (gH 2 jU)) Q g w :=
 nQ 1 (Wq _ g w (Kq kn R) (fun g w h => iZ (Iw 0 (XM _ g w kn R hn hr h))) h)
def Lu (kn : K6) (aeW Ye t1000003 : aEm) (w : aEl) : Prop :=
 gI pg (RV 225 aeW) w fun oJ w =>
 gI pg (oK 22) w fun b4 w =>
 gI pg (oK 24) w fun b5 w =>
 jE pg Cu #[] w fun b9 w =>
 gI pg (oK 170) w fun Ss w =>
 gI pg (jQ 170 Ss b9) w fun _u w =>
 kn Ye oJ b4 b5 Ss t1000003 w
theorem WL (kn : K6) (hn : N6 Q kn 1 2 4 5 6 1000003) (h : Lu kn (g 0) (g 1) (g 1000003) w) : jO pg pA (iB 2 jU) Q g w :=
 kZ (kr := no) (l := []) h hn lU trivial
def Ln (R : K1) (aeW Ye t1000003 : aEm) (w : aEl) : Prop :=
 Lu (fun Ye oJ b4 b5 Ss t1000003 w => LL R Ye oJ b4 b5 Ss t1000003 w) aeW Ye t1000003 w
theorem Wo (R : K1) (hr : HRF Cc R Q) (h : Ln R (g 0) (g 1) (g 1000003) w) : jO pg pA jU Q g w :=
 nQ 2 (WL _ g w (LL R) (fun g w h => iZ (nQ 1 (Wm _ g w (Ck R) R (fun g w h => iZ (Xm _ g w R hr h)) hr h))) h)
def ZH (a0 a1 : aEm) (w : aEl) (R : K1) : Prop :=
 Ln R a0 a1 undef w
theorem Yf {a0 a1 : aEm} {w : aEl} {R : K1} (h : ZH a0 a1 w R) : jE pg oI #[a0, a1] w R := by
 refine dsF (ann := pA) Tryz.f135 jU [a0, a1] Cc 42 TryzM.mixed Tryz.func135 ?_
 exact (Wo _ _ _ R (fun _ _ h => h) h)
def SZ : FA := ⟨JM, fun i => .leaf ([], []) []⟩
def U4 : List ResultVar := [.cell 2 139, .tmp 3]
noncomputable def Q6 : Code := jX Tryz.f136
def Ng (R : K1) (n_0 : aEm) (w : aEl) : Prop :=
 gI pg (oK 139) w fun b2 w =>
 gI pg (hU .add 3 jC jC n_0 (aEn 4)) w fun b6 w =>
 gI pg (hU .sub 3 jC jC b6 (aEn 1)) w fun b7 w =>
 gI pg (hU .quo 3 jC jC b7 (aEn 4)) w fun b8 w =>
 gI pg (hU .mul 3 jC jC (aEn 3) b8) w fun c4 w =>
 gI pg (hU .sub 3 jC jC n_0 c4) w fun c5 w =>
 gI pg (kV 139 [(0, b8), (1, b8), (2, b8), (3, c5)]) w fun c6 w =>
 gI pg (hU .mul 3 jC jC (aEn 3) b8) w fun c9 w =>
 gI pg (hU .geq 3 jC jC n_0 c9) w fun d0 w =>
 gI pg (jQ 139 b2 c6) w fun _u w =>
 Nq pg 139 b2 w fun r0 => R (.tuple #[r0, d0]) w
theorem Yo (R : K1) (hr : HR U4 R Q) (h : Ng R (g 0) w) : jO pg SZ Q6 Q g w :=
 kZ (kn := no) (l := []) h lU hr trivial
def aaT (a0 : aEm) (w : aEl) (R : K1) : Prop :=
 Ng R a0 w
theorem ZO {a0 : aEm} {w : aEl} {R : K1} (h : aaT a0 w R) : jE pg JM #[a0] w R := by
 refine wQ (ann := SZ) Tryz.f136 Q6 [a0] U4 21 TryzM.mixed Tryz.func136 ?_
 exact (Yo _ _ _ R (fun _ _ h => h) h)
def DL : FA := ⟨zI, fun i => .leaf ([], []) []⟩
def Fj : List ResultVar := [.tmp 2]
noncomputable def CS : Code := jX Tryz.f145
def xR (R : K1) (pO : aEm) (w : aEl) : Prop :=
 gI pg (RV 22 pO) w fun s_1 w =>
 gI pg (abT (.func 151) [] [s_1]) w fun b3 w =>
 R b3 w
theorem KF (R : K1) (hr : HR Fj R Q) (h : xR R (g 0) w) : jO pg DL CS Q g w :=
 kZ (kn := no) (l := []) h lU hr trivial
def IM (a0 : aEm) (w : aEl) (R : K1) : Prop :=
 xR R a0 w
theorem Me {a0 : aEm} {w : aEl} {R : K1} (h : IM a0 w R) : jE pg zI #[a0] w R := by
 refine wQ (ann := DL) Tryz.f145 CS [a0] Fj 4 TryzM.mixed Tryz.func145 ?_
 exact (KF _ _ _ R (fun _ _ h => h) h)
def oZ : FA := ⟨pS, fun i => .leaf ([], []) []⟩
def rD : List ResultVar := []
noncomputable def oR : Code := jX Tryz.f151
def rE (kn : K3) (k0 : K0) (R : K1) (BR b1 i_3 : aEm) (w : aEl) : Prop :=
 gI pg (hU .geq 3 jC jC i_3 (aEn 0)) w fun b8 w =>
 lX b8
  (gI pg (jG 22 b1) w fun c3 w =>
  gI pg (jT 22 c3 i_3) w fun c5 w =>
  gI pg (jG 5 c5) w fun c6 w =>
  gI pg (EC BR [i_3, c6]) w fun c7 w =>
  gI pg (sUn .not c7) w fun c8 w =>
  lX c8
   (R (.tuple #[]) w)
   (gI pg (hU .sub 3 jC jC i_3 (aEn 1)) w fun c0 w =>
   kn BR b1 c0 w))
  (k0 w)
theorem Hw (kn : K3) (k0 : K0) (R : K1) (hn : N3 Q kn 0 1 3) (h0 : E0 Q k0 0) (hr : HR rD R Q) (h : rE kn k0 R (g 0) (g 1) (g 3) w) : jO pg oZ (bI (bI (gH 1 oR))) Q g w :=
 kZ (l := [(0, fun g w => k0 w)]) h hn hr ⟨h0, trivial⟩
def uB (k0 : K0) (R : K1) (BR b1 i_3 : aEm) (w : aEl) : Prop :=
 kP (fun (X : aEm -> K0) (t : aEm) (w : aEl) => rE (fun _ _ i_3 w => X i_3 w) k0 R BR b1 t w) i_3 w
theorem Ij (k0 : K0) (R : K1) (h0 : E0 Q k0 0) (hr : HR rD R Q) (h : uB k0 R (g 0) (g 1) (g 3) w) : jO pg oZ (bI (gH 1 oR)) Q g w := by
 refine Ov (fun g : Env => g 3) (fun X t w => rE (fun _ _ i_3 w => X i_3 w) k0 R (g 0) (g 1) t w) h (fun X g1 w1 ha hL => ?_)
 rw [<- rI 0 ha, <- rI 1 ha] at hL
 exact (Hw _ g1 w1 (fun _ _ i_3 w => X i_3 w) k0 R (fun _ _ h => h) h0 hr hL)
def tS (kn : K0) (R : K1) (BR b1 i_3 : aEm) (w : aEl) : Prop :=
 uB kn R BR b1 i_3 w
def tW (kn : K3) (BR b1 : aEm) (w : aEl) : Prop :=
 gI pg (jG 22 b1) w fun b4 w =>
 gI pg (nX .len #[22] 3 [b4]) w fun b5 w =>
 gI pg (hU .sub 3 jC jC b5 (aEn 1)) w fun b6 w =>
 kn BR b1 b6 w
theorem Io (kn : K3) (hn : N3 Q kn 0 1 3) (h : tW kn (g 0) (g 1) w) : jO pg oZ (iB 1 oR) Q g w :=
 kZ (kr := no) (l := []) h hn lU trivial
def tZ (kn : K0) (R : K1) (BR b1 : aEm) (w : aEl) : Prop :=
 tW (fun BR b1 i_3 w => tS kn R BR b1 i_3 w) BR b1 w
theorem Ic (kn : K0) (R : K1) (hn : N0 Q kn) (hr : HR rD R Q) (h : tZ kn R (g 0) (g 1) w) : jO pg oZ oR Q g w :=
 nQ 1 (Io _ g w (tS kn R) (fun g w h => iZ (Iw 0 (Ij _ g w kn R hn hr h))) h)
def DE (a0 a1 : aEm) (w : aEl) (R : K1) : Prop :=
 tZ (fun  w => R (.tuple #[]) w) R a0 a1 w
theorem Ja {a0 a1 : aEm} {w : aEl} {R : K1} (h : DE a0 a1 w R) : jE pg pS #[a0, a1] w R := by
 refine wQ (ann := oZ) Tryz.f151 oR [a0, a1] rD 19 TryzM.mixed Tryz.func151 ?_
 exact (Ic _ _ _ (fun  w => R (.tuple #[]) w) R (fun _ _ h => h) (fun _ _ h => h) h)
end Go.Proofs.YtoecppploooloaaGreatDoor
namespace Go.En
open Go
section
variable {P : Program} {w : aEl} {t : TypeId} {ox oy : Operand} {k : IntKind} {a b : Int}
theorem tJ (s : Sem aEm) : (V s).run P w = (s.run P w).andThen fun v w => .ok (.value v) w := by
 unfold V; rw [Sem.run_bind] <;> rfl
theorem aAS (s : Sem Unit) : (U s).run P w = (s.run P w).andThen fun _ w => .ok .skip w := by
 unfold U; rw [Sem.run_bind] <;> rfl
theorem hJ : (hU .add t ox oy (.int k a) (.int k b)).run P w = .ok (.value (.int k (k.wrap (a + b)))) w := by
 simp [hU, L8, tJ, binOp, Op.intArith]
theorem iC : (hU .sub t ox oy (.int k a) (.int k b)).run P w = .ok (.value (.int k (k.wrap (a - b)))) w := by
 simp [hU, L8, tJ, binOp, Op.intArith]
theorem iM : (hU .mul t ox oy (.int k a) (.int k b)).run P w = .ok (.value (.int k (k.wrap (a * b)))) w := by
 simp [hU, L8, tJ, binOp, Op.intArith]
theorem iP (h : b ≠ 0) : (hU .quo t ox oy (.int k a) (.int k b)).run P w = .ok (.value (.int k (k.wrap (a.tdiv b)))) w := by
 simp [hU, L8, tJ, binOp, Op.intDiv, h]
theorem iL (h : b ≠ 0) : (hU .rem t ox oy (.int k a) (.int k b)).run P w = .ok (.value (.int k (a.tmod b))) w := by
 simp [hU, L8, tJ, binOp, Op.intDiv, h]
def G1 (k : IntKind) (a b : Int) : Int := k.wrap (BitVec.ofInt k.bits a &&& BitVec.ofInt k.bits b).toNat
def Z6 (k : IntKind) (a b : Int) : Int := k.wrap (BitVec.ofInt k.bits a ||| BitVec.ofInt k.bits b).toNat
def Vw (k : IntKind) (a b : Int) : Int := k.wrap (BitVec.ofInt k.bits a ^^^ BitVec.ofInt k.bits b).toNat
def anO (k : IntKind) (a b : Int) : Int := k.wrap (BitVec.ofInt k.bits a &&& ~~~BitVec.ofInt k.bits b).toNat
theorem iN : (hU .and t ox oy (.int k a) (.int k b)).run P w = .ok (.value (.int k (G1 k a b))) w := by
 simp [hU, L8, tJ, binOp, Op.intBits, G1]
theorem jJ : (hU .or t ox oy (.int k a) (.int k b)).run P w = .ok (.value (.int k (Z6 k a b))) w := by
 simp [hU, L8, tJ, binOp, Op.intBits, Z6]
theorem iX : (hU .xor t ox oy (.int k a) (.int k b)).run P w = .ok (.value (.int k (Vw k a b))) w := by
 simp [hU, L8, tJ, binOp, Op.intBits, Vw]
theorem gM : (hU .andNot t ox oy (.int k a) (.int k b)).run P w = .ok (.value (.int k (anO k a b))) w := by
 simp [hU, L8, tJ, binOp, Op.intBits, anO]
theorem iE {k' : IntKind} (h : 0 <= b) : (hU .shl t ox oy (.int k a) (.int k' b)).run P w = .ok (.value (.int k (k.wrap (a * 2 ^ (min b.toNat k.bits))))) w := by
 simp [hU, L8, tJ, binOp, Op.shift, Int.not_lt.2 h]
theorem iG {k' : IntKind} (h : 0 <= b) : (hU .shr t ox oy (.int k a) (.int k' b)).run P w = .ok (.value (.int k (a.fdiv (2 ^ (min b.toNat k.bits))))) w := by
 simp [hU, L8, tJ, binOp, Op.shift, Int.not_lt.2 h]
theorem iI : (hU .eql t ox oy (.int k a) (.int k b)).run P w = .ok (.value (.bool (a == b))) w := by
 simp [hU, L8, tJ, binOp, Op.intCmp, eqGuard]
theorem iH : (hU .neq t ox oy (.int k a) (.int k b)).run P w = .ok (.value (.bool (a != b))) w := by
 simp [hU, L8, tJ, binOp, Op.intCmp, eqGuard]
theorem gY : (hU .lss t ox oy (.int k a) (.int k b)).run P w = .ok (.value (.bool (decide (a < b)))) w := by
 simp [hU, L8, tJ, binOp, Op.intCmp]
theorem iO : (hU .leq t ox oy (.int k a) (.int k b)).run P w = .ok (.value (.bool (decide (a <= b)))) w := by
 simp [hU, L8, tJ, binOp, Op.intCmp]
theorem hZ : (hU .gtr t ox oy (.int k a) (.int k b)).run P w = .ok (.value (.bool (decide (b < a)))) w := by
 simp [hU, L8, tJ, binOp, Op.intCmp]
theorem iF : (hU .geq t ox oy (.int k a) (.int k b)).run P w = .ok (.value (.bool (decide (b <= a)))) w := by
 simp [hU, L8, tJ, binOp, Op.intCmp]
theorem iV : (sUn .neg (.int k a)).run P w = .ok (.value (.int k (k.wrap (0 - a)))) w := by
 simp [sUn, tJ, Op.unary, Op.intArith]
theorem iW : (sUn .xor (.int k a)).run P w = .ok (.value (.int k (Vw k (if k.signed then -1 else k.max) a))) w := by
 simp [sUn, tJ, Op.unary, Op.intBits, Vw]
theorem iJ (c : Bool) : (sUn .not (.bool c)).run P w = .ok (.value (.bool !c)) w := by
 simp [sUn, tJ, Op.unary]
theorem gR (c : Bool) (x y : aEm) : (mD (.bool c) x y).run P w = .ok (.value (if c then x else y)) w := by
 simp [mD, asBool]
theorem ahR {x y : aEm} {r : Bool} (hg : eqGuard .eql t ox oy x y = pure ()) (hb : binOp .eql t x y = (do pure (.bool (<- Op.equal t x y)))) (he : (Op.equal t x y).run P w = .ok r w) :
 (hU .eql t ox oy x y).run P w = .ok (.value (.bool r)) w := by
 unfold hU
 simp only [L8, tJ, hg, hb, pure_bind]
 rw [Sem.run_bind, he] <;> rfl
theorem arG {x y : aEm} {r : Bool} (hg : eqGuard .neq t ox oy x y = pure ()) (hb : binOp .neq t x y = (do pure (.bool (!(<- Op.equal t x y))))) (he : (Op.equal t x y).run P w = .ok r w) :
 (hU .neq t ox oy x y).run P w = .ok (.value (.bool (!r))) w := by
 unfold hU
 simp only [L8, tJ, hg, hb, pure_bind]
 rw [Sem.run_bind, he] <;> rfl
theorem gX {n : Int} (h0 : -9223372036854775808 <= n) (h1 : n <= 9223372036854775807) : IntKind.i64.wrap n = n := by
 unfold IntKind.wrap; simp [IntKind.bits, IntKind.signed]; split <;> omega
theorem iA {n : Int} (h0 : 0 <= n) (h1 : n <= 18446744073709551615) : IntKind.u64.wrap n = n := by
 unfold IntKind.wrap; simp [IntKind.bits, IntKind.signed]; omega
theorem iU {n : Int} (h0 : -2147483648 <= n) (h1 : n <= 2147483647) : IntKind.i32.wrap n = n := by
 unfold IntKind.wrap; simp [IntKind.bits, IntKind.signed]; split <;> omega
theorem iR {n : Int} (h0 : 0 <= n) (h1 : n <= 4294967295) : IntKind.u32.wrap n = n := by
 unfold IntKind.wrap; simp [IntKind.bits, IntKind.signed]; omega
theorem iS {n : Int} (h0 : 0 <= n) (h1 : n <= 65535) : IntKind.u16.wrap n = n := by
 unfold IntKind.wrap; simp [IntKind.bits, IntKind.signed]; omega
theorem jF {n : Int} (h0 : 0 <= n) (h1 : n <= 255) : IntKind.u8.wrap n = n := by
 unfold IntKind.wrap; simp [IntKind.bits, IntKind.signed]; omega
theorem wu8 (n : Int) : IntKind.u8.wrap n = n % 256 := by
 unfold IntKind.wrap; simp [IntKind.bits, IntKind.signed]
theorem auY (x y : ByteArray) : (hU .eql t ox oy (.string x) (.string y)).run P w = .ok (.value (.bool (x.toList == y.toList))) w := by
 simp [hU, L8, tJ, binOp, Op.stringOp, eqGuard]
theorem atQ (n : Nat) {e : TypeId} (hu : P.underlying t = some (.pointer e)) (x : Option Addr) : (Op.equalIn (n + 1) t (.pointer x) (.pointer none)).run P w = .ok x.isNone w := by
 simp only [Op.equalIn, underlying]
 cases x <;> simp [hu]
theorem asD {e : TypeId} (hu : P.underlying t = some (.pointer e)) (x : Option Addr) : (Op.equal t (.pointer x) (.pointer none)).run P w = .ok x.isNone w := atQ 9999 hu x
theorem axH (m : Nat) {e : TypeId} (hu : P.underlying t = some (.slice e)) (x : Option Addr) (n c : Nat) : (Op.equalIn (m + 1) t (.slice x n c) (.slice none 0 0)).run P w = .ok x.isNone w := by
 simp only [Op.equalIn, underlying]
 cases x <;> simp [hu]
theorem aAs {e : TypeId} (hu : P.underlying t = some (.slice e)) (x : Option Addr) (n c : Nat) : (Op.equal t (.slice x n c) (.slice none 0 0)).run P w = .ok x.isNone w := axH 9999 hu x n c
theorem afE {e : TypeId} (hu : P.underlying t = some (.pointer e)) (x : Option Addr) : (hU .eql t ox oy (.pointer x) (.pointer none)).run P w = .ok (.value (.bool x.isNone)) w :=
 ahR rfl rfl (asD hu x)
theorem azL {e : TypeId} (hu : P.underlying t = some (.pointer e)) (x : Option Addr) : (hU .neq t ox oy (.pointer x) (.pointer none)).run P w = .ok (.value (.bool (!x.isNone))) w :=
 arG rfl rfl (asD hu x)
theorem awH {e : TypeId} (hu : P.underlying t = some (.slice e)) (x : Option Addr) (n c : Nat) : (hU .eql t ox oy (.slice x n c) (.slice none 0 0)).run P w = .ok (.value (.bool x.isNone)) w :=
 ahR rfl rfl (aAs hu x n c)
theorem Dm {s : TypeId} {d : TypeDesc} {kd : IntKind} (hs : P.underlying s = some d) (hu : P.underlying t = some (.int kd)) : (nE s t (.int k a)).run P w = .ok (.value (.int kd (kd.wrap a))) w := by
 cases d <;> simp [nE, tJ, convert, underlying, hs, hu, Conv.intToInt]
theorem VO {ty : TypeId} {e : TypeId} (hu : P.underlying t = some (.slice e)) (x : Option Addr) (n c : Nat) : (nX .len #[t] ty [.slice x n c]).run P w = .ok (.value (.int .i64 n)) w := by
 simp [nX, builtin, Builtin.len_, underlying, hu, goInt]
theorem iT {ats : Array TypeId} {ty : TypeId} : (nX .min ats ty [.int k a, .int k b]).run P w = .ok (.value (.int k (if b < a then b else a))) w := by
 simp [nX, builtin, Builtin.min_, Builtin.min2]
theorem iQ {ats : Array TypeId} {ty : TypeId} : (nX .max ats ty [.int k a, .int k b]).run P w = .ok (.value (.int k (if b > a then b else a))) w := by
 simp [nX, builtin, Builtin.max_, Builtin.max2]
theorem jV (a b : aEm) : (jS (.tuple #[a, b]) 0).run P w = .ok (.value a) w := Eq.trans rfl rfl
theorem jW (a b : aEm) : (jS (.tuple #[a, b]) 1).run P w = .ok (.value b) w := Eq.trans rfl rfl
theorem kF (a b c : aEm) : (jS (.tuple #[a, b, c]) 0).run P w = .ok (.value a) w := Eq.trans rfl rfl
theorem kD (a b c : aEm) : (jS (.tuple #[a, b, c]) 1).run P w = .ok (.value b) w := Eq.trans rfl rfl
theorem kC (a b c : aEm) : (jS (.tuple #[a, b, c]) 2).run P w = .ok (.value c) w := Eq.trans rfl rfl
theorem kG (a b c d : aEm) : (jS (.tuple #[a, b, c, d]) 0).run P w = .ok (.value a) w := Eq.trans rfl rfl
theorem kA (a b c d : aEm) : (jS (.tuple #[a, b, c, d]) 1).run P w = .ok (.value b) w := Eq.trans rfl rfl
theorem kB (a b c d : aEm) : (jS (.tuple #[a, b, c, d]) 2).run P w = .ok (.value c) w := Eq.trans rfl rfl
theorem kE (a b c d : aEm) : (jS (.tuple #[a, b, c, d]) 3).run P w = .ok (.value d) w := Eq.trans rfl rfl
theorem iD (x : Addr) : (nK (.pointer (some x))).run P w = .ok (.value (.pointer (some x))) w := Eq.trans rfl rfl
theorem mQ {fs : Array Field} {f : Field} {i : Nat} {inf : TypeInfo} (hu : P.underlying t = some (.struct fs)) (hf : fs[i]? = some f)
 (hi : P.info? f.type = some inf) (hz : inf.size ≠ 0) (x : Addr) : (jI t (.pointer (some x)) i).run P w = .ok (.value (.pointer (some (x.add f.offset)))) w := by
 simp [jI, tJ, Instr.fieldAt, underlying, hu, hf, Instr.sureAddr, fieldPlace, sizeOf, typeInfo, hi, hz]
theorem agR {e : TypeId} {inf : TypeInfo} (hu : P.underlying t = some (.slice e)) (hi : P.info? e = some inf) (x : Addr) (n c : Nat) (h0 : 0 <= a) (h1 : a < n) :
 (jT t (.slice (some x) n c) (.int k a)).run P w = .ok (.value (.pointer (some (x.add (a.toNat * inf.size))))) w := by
 simp [jT, tJ, Instr.indexAt, asIntOf, underlying, hu, h0, h1, sizeOf, typeInfo, hi]
theorem aiV {e : TypeId} {len : Nat} {inf : TypeInfo} (hu : P.underlying t = some (.array len e)) (hi : P.info? e = some inf) (x : Addr) (h0 : 0 <= a) (h1 : a < len) :
 (jT t (.pointer (some x)) (.int k a)).run P w = .ok (.value (.pointer (some (x.add (a.toNat * inf.size))))) w := by
 simp [jT, tJ, Instr.indexAt, asIntOf, underlying, hu, h0, h1, sizeOf, typeInfo, hi, Instr.sureAddr]
theorem azX (hu : P.underlying t = some .string) (x : ByteArray) (h0 : 0 <= a) (h1 : a.toNat < x.size) :
 (Rp t (.string x) (.int k a)).run P w = .ok (.value (.int .u8 (x[a.toNat]'h1).toNat)) w := by
 simp [Rp, tJ, Instr.index, asIntOf, underlying, hu, h0, h1]
end
def lN (w : aEl) (b : Nat) (cs : List aEm) : Prop :=
 ∃ T lo hi, w.heap[b]? = some (.cells cs.toArray T (lo, hi)) /\ (cs.length <= lo ∨ hi = lo)
structure jN (w w' : aEl) (M : Nat -> Prop) : Prop where
 os : w'.os = w.os
 tape : w'.tape = w.tape
 output : w'.output = w.output
 size : w.heap.size <= w'.heap.size
 keep : ∀ b, b < w.heap.size -> ¬ M b -> w'.heap[b]? = w.heap[b]?
def mC : Nat -> Prop := fun _ => False
theorem jN.refl (w : aEl) (M : Nat -> Prop) : jN w w M := ⟨rfl, rfl, rfl, aCb _, fun _ _ _ => rfl⟩
theorem jN.mono {w w' : aEl} {M N : Nat -> Prop} (h : jN w w' M) (hm : ∀ b, b < w.heap.size -> M b -> N b) : jN w w' N :=
 ⟨h.os, h.tape, h.output, h.size, fun b hb hn => h.keep b hb fun hM => hn (hm b hb hM)⟩
theorem jN.trans {a b c : aEl} {M N : Nat -> Prop} (h : jN a b M) (k : jN b c N) (hn : ∀ x, x < a.heap.size -> N x -> M x) : jN a c M :=
 ⟨k.os.trans h.os, k.tape.trans h.tape, k.output.trans h.output, aCV h.size k.size,
   fun x hx hM => (k.keep x (aDv hx h.size) fun h => hM (hn x hx h)).trans (h.keep x hx hM)⟩
theorem jN.seq {a b c : aEl} {M : Nat -> Prop} (h : jN a b M) (k : jN b c M) : jN a c M := h.trans k fun _ _ h => h
theorem jN.new {a b c : aEl} {M : Nat -> Prop} {x : Nat} (h : jN a b M) (k : jN b c (fun y => y = x)) (hx : a.heap.size <= x) : jN a c M :=
 h.trans k fun y hy e => absurd hy (by subst e; omega)
theorem jN.below {w w' : aEl} (h : jN w w' mC) : Go.RowKit.Below w.heap.size w w' :=
 ⟨h.os, h.tape, h.output, h.size, fun k hk => h.keep k hk fun h => h⟩
theorem jN.dr (w : aEl) (M : Nat -> Prop) : jN w (dr w) M := ⟨rfl, rfl, rfl, aCb _, fun _ _ _ => rfl⟩
theorem jN.alloc (w : aEl) (o : Obj) (M : Nat -> Prop) : jN w (w.alloc o) M :=
 ⟨rfl, rfl, rfl, by simp, fun b hb _ => by show (w.heap.push o)[b]? = _; rw [Array.getElem?_push, if_neg (by omega)]⟩
theorem ZM (w : aEl) (a : Addr) (v : aEm) (b : Nat) (h : b ≠ a.block) : (w.setCell a v).heap[b]? = w.heap[b]? := Go.RowKit.Below.heap_setCell w a v b h
theorem jN.setCell (w : aEl) (a : Addr) (v : aEm) {M : Nat -> Prop} (h : a.block < w.heap.size -> M a.block) : jN w (w.setCell a v) M :=
 ⟨rfl, rfl, rfl, by simp, fun b hb hM => ZM w a v b fun e => hM (e ▸ h (e ▸ hb))⟩
theorem lN.lt {w : aEl} {b : Nat} {cs : List aEm} (h : lN w b cs) : b < w.heap.size := by
 obtain ⟨T, lo, hi, h, _⟩ := h
 rcases aCk b w.heap.size with h' | h'
 .exact h'
 .rw [aC1 h'] at h; cases h
theorem lN.ext {w w' : aEl} {b : Nat} {cs : List aEm} {M : Nat -> Prop} (h : lN w b cs) (hx : jN w w' M) (hM : ¬ M b) : lN w' b cs := by
 have := h.lt
 obtain ⟨T, lo, hi, h, k⟩ := h
 exact ⟨T, lo, hi, by rw [hx.keep b this hM]; exact h, k⟩
theorem lN.cell {w : aEl} {b off : Nat} {cs : List aEm} (h : lN w b cs) : w.cell? ⟨b, off, none⟩ = cs[off]? := by
 obtain ⟨T, lo, hi, h, _⟩ := h
 simp [World.cell?, h]
theorem lN.free {w : aEl} {b off : Nat} {cs : List aEm} {s : Option Nat} (h : lN w b cs) (ho : off < cs.length) : w.frozen? ⟨b, off, s⟩ = false := by
 obtain ⟨T, lo, hi, h, k⟩ := h
 simp only [World.frozen?, h]
 rcases k with k | k <;> (simp; omega)
theorem lN.setCell {w : aEl} {b off : Nat} {cs : List aEm} (h : lN w b cs) (v : aEm) : lN (w.setCell ⟨b, off, none⟩ v) b (cs.set off v) := by
 have hb := h.lt
 obtain ⟨T, lo, hi, h, k⟩ := h
 refine ⟨T, lo, hi, ?_, by simpa using k⟩
 simp only [World.setCell, aDl, h]
 simp
theorem lN.alloc (w : aEl) (cs : List aEm) (T : TypeId) : lN (w.alloc (.cells cs.toArray T)) w.heap.size cs :=
 ⟨T, 0, 0, by show (w.heap.push _)[w.heap.size]? = _; simp, .inr rfl⟩
theorem arL {w w' : aEl} {M : Nat -> Prop} {a : Addr} {v : aEm} (h : w.cell? a = some v) (hx : jN w w' M) (hM : ¬ M a.block) : w'.cell? a = some v := by
 have hb := World.block_lt_of_cell? w a h
 have e := hx.keep _ hb hM
 unfold World.cell? at h ⊢
 rw [e]; exact h
section
variable {P : Program} {w : aEl} {t : TypeId}
def acV (d : TypeDesc) : Bool := match d with | .struct _ | .array _ _ => true | _ => false
theorem HU {d : TypeDesc} (hu : P.underlying t = some d) : (isAgg t).run P w = .ok (acV d) w := by
 cases d <;> simp [isAgg, underlying, hu, acV]
theorem lI {i : TypeInfo} (hi : P.info? t = some i) : (sizeOf t).run P w = .ok i.size w := by simp [sizeOf, typeInfo, hi]
theorem WU {b off : Nat} {cs : List aEm} (ho : lN w b cs) : ∀ (n i : Nat) (acc : Array aEm), off + i + n <= cs.length →
 (loadCellsFrom ⟨b, off, none⟩ i n acc).run P w = .ok (acc ++ ((cs.drop (off + i)).take n).toArray) w := by
 intro n
 induction n with
 | zero => intro i acc _; simp [loadCellsFrom]
 | succ n ih =>
   intro i acc h
   have hc : w.cell? ((⟨b, off, none⟩ : Addr).add i) = some cs[off + i] := by
    unfold Addr.add
    split
    .rename_i hi; subst hi; rw [ho.cell]; simp
    .show w.cell? ⟨b, off + i, none⟩ = _; rw [ho.cell]; simp
   simp only [loadCellsFrom, Sem.run_bind, run_load, hc, Result.andThen_ok]
   rw [ih (i + 1) _ (by omega)]
   congr 1
   rw [aDa (by omega : off + i < cs.length)]
   simp [aDr]
theorem Vn {b off n : Nat} {cs : List aEm} (ho : lN w b cs) (h : off + n <= cs.length) :
 (loadCells ⟨b, off, none⟩ n).run P w = .ok ((cs.drop off).take n).toArray w := by
 unfold loadCells
 rw [WU ho n 0 #[] (by omega)]
 simp
theorem Ql {d : TypeDesc} {i : TypeInfo} (hu : P.underlying t = some d) (hd : acV d = true) (hi : P.info? t = some i) {b off : Nat} {cs : List aEm} (ho : lN w b cs) (h : off + i.size <= cs.length) :
 (jG t (.pointer (some ⟨b, off, none⟩))).run P w = .ok (.value (.agg ((cs.drop off).take i.size).toArray)) w := by
 unfold jG
 rw [tJ]
 simp only [Instr.loadAt, Instr.sureAddr, loadVar, pure_bind, Sem.run_bind, HU hu, hd, Result.andThen_ok, if_true, lI hi, Vn ho h, Sem.run_pure]
def one (v : aEm) : Bool := match v with | .agg _ | .tuple _ => false | _ => true
theorem akV {a : Addr} {v x : aEm} (hv : one v = true) (hc : w.cell? a = some x) (hf : w.frozen? a = false) : (store a v).run P w = .ok () (w.setCell a v) := by
 unfold store
 cases v <;> simp [one] at hv <;> simp [Sem.run, hc, hf]
def kW (cs : List aEm) (off : Nat) : List aEm -> List aEm
 | [] => cs
 | v :: vs => kW (cs.set off v) (off + 1) vs
theorem U9 (vs : List aEm) : ∀ (cs : List aEm) (off : Nat), (kW cs off vs).length = cs.length := by
 induction vs with
 | nil => intro cs off; rfl
 | cons v vs ih => intro cs off; simp [kW, ih]
theorem GL {b : Nat} {M : Nat -> Prop} (hM : M b) : ∀ (vs : List aEm) (w : aEl) (off i : Nat) (cs : List aEm), lN w b cs -> off + i + vs.length <= cs.length -> (∀ v ∈ vs, one v = true) →
 ∃ w', (storeCells ⟨b, off, none⟩ vs i).run P w = .ok () w' /\ lN w' b (kW cs (off + i) vs) /\ jN w w' M /\ w'.heap.size = w.heap.size /\ w'.drawn = w.drawn := by
 intro vs
 induction vs with
 | nil => intro w off i cs ho _ _; exact ⟨w, by simp [storeCells], ho, jN.refl _ _, rfl, rfl⟩
 | cons v vs ih =>
   intro w off i cs ho h hv
   simp only [aCl] at h
   have ha : (⟨b, off, none⟩ : Addr).add i = ⟨b, off + i, none⟩ := by
    unfold Addr.add; split
    .rename_i hi; subst hi; rfl
    .rfl
   have hlt : off + i < cs.length := by omega
   have hc : w.cell? ⟨b, off + i, none⟩ = some cs[off + i] := by rw [ho.cell]; simp
   have hs := akV (P := P) (hv v (by simp)) hc (ho.free hlt)
   obtain ⟨w', h1, h2, h3, h4, h5⟩ := ih (w.setCell ⟨b, off + i, none⟩ v) off (i + 1) (cs.set (off + i) v) (ho.setCell v) (by simp; omega) (fun x hx => hv x (aCh _ hx))
   refine ⟨w', ?_, h2, (jN.setCell w _ v fun _ => hM).trans h3 (fun _ _ h => h), by rw [h4]; simp, by rw [h5] <;> rfl⟩
   simp only [storeCells, Sem.run_bind, ha, hs, Result.andThen_ok]
   exact h1
theorem Fg {i : TypeInfo} (hi : P.info? t = some i) {b off : Nat} {cs : List aEm} (ho : lN w b cs) {v : aEm} (hs : v.cells.size = i.size)
 (hv : ∀ x ∈ v.cells.toList, one x = true) (h : off + i.size <= cs.length) {K : aEm -> aEl -> Prop}
 (hk : ∀ w', lN w' b (kW cs off v.cells.toList) -> jN w w' (fun x => x = b) -> w'.heap.size = w.heap.size -> K undef w') : gI P (jQ t (.pointer (some ⟨b, off, none⟩)) v) w K := by
 obtain ⟨w', h1, h2, h3, h4, _⟩ := GL (P := P) (M := fun x => x = b) rfl v.cells.toList w off 0 cs ho (by simp [hs]; omega) hv
 have : (jQ t (.pointer (some ⟨b, off, none⟩)) v).run P w = .ok .skip w' := by
  unfold jQ
  rw [aAS]
  simp only [Instr.storeAt, Instr.sureAddr, storeVar, pure_bind, Sem.run_bind, lI hi, Result.andThen_ok, hs]
  simp [h1]
 unfold gI
 rw [this]
 exact hk w' h2 h3 h4
theorem aeI {v : aEm} (hv : one v = true) : v.cells = #[v] := by cases v <;> simp [one] at hv <;> rfl
theorem Am {i : TypeInfo} (hi : P.info? t = some i) (h1 : i.size = 1) {b off : Nat} {cs : List aEm} (ho : lN w b cs) {v : aEm} (hv : one v = true) (h : off < cs.length) {K : aEm -> aEl -> Prop}
 (hk : ∀ w', lN w' b (cs.set off v) -> jN w w' (fun x => x = b) -> w'.heap.size = w.heap.size -> K undef w') : gI P (jQ t (.pointer (some ⟨b, off, none⟩)) v) w K := by
 have e := aeI hv
 refine Fg hi ho (by rw [e, h1] <;> rfl) (by rw [e]; simpa using hv) (by omega) fun w' a b c => hk w' ?_ b c
 rw [e] at a; exact a
def ldC (c : Option aEm) (w : aEl) (far : Result Next) : Result Next := match c with | some v => .ok (.value v) w | none => far
def far (P : Program) (t : TypeId) (x : Addr) (w : aEl) : Result Next := (jG t (.pointer (some x))).run P w
theorem gD (v : aEm) (w : aEl) (f : Result Next) : ldC (some v) w f = .ok (.value v) w := rfl
theorem YO {d : TypeDesc} (hu : P.underlying t = some d) (hd : acV d = false) (x : Addr) (w : aEl) :
 (jG t (.pointer (some x))).run P w = ldC (w.cell? x) w (far P t x w) := by
 cases h : w.cell? x with
 | none => rfl
 | some v =>
   unfold jG
   rw [tJ]
   simp only [Instr.loadAt, Instr.sureAddr, loadVar, pure_bind, Sem.run_bind, HU hu, hd, Result.andThen_ok, aBZ, if_false, run_load, h, ldC]
theorem T0 {d : TypeDesc} {i : TypeInfo} (hu : P.underlying t = some d) (hd : acV d = true) (hi : P.info? t = some i) {b off : Nat} {cs : List aEm} (ho : lN w b cs) (h : off + i.size <= cs.length) {K : aEm -> Prop}
 (hk : K (.agg ((cs.drop off).take i.size).toArray)) : Nq P t (.pointer (some ⟨b, off, none⟩)) w K := by
 refine ⟨_, ?_, hk⟩
 simp only [asAddr, loadVar, pure_bind, Sem.run_bind, HU hu, hd, Result.andThen_ok, if_true, lI hi, Vn ho h, Sem.run_pure]
theorem anN {d : TypeDesc} (hu : P.underlying t = some d) (hd : acV d = false) {b off : Nat} {cs : List aEm} (ho : lN w b cs) {v : aEm} (h : cs[off]? = some v) {K : aEm -> Prop}
 (hk : K v) : Nq P t (.pointer (some ⟨b, off, none⟩)) w K := by
 refine ⟨_, ?_, hk⟩
 simp only [asAddr, loadVar, pure_bind, Sem.run_bind, HU hu, hd, Result.andThen_ok, aBZ, if_false, run_load, ho.cell, h]
theorem Ah {v : aEm} {K : aEm -> aEl -> Prop} (hk : ∀ w', lN w' w.heap.size v.cells.toList -> jN w w' mC -> w'.heap.size = w.heap.size + 1 -> K (.pointer (some ⟨w.heap.size, 0, none⟩)) w') :
 gI P (RV t v) w K := by
 have : (RV t v).run P w = .ok (.value (.pointer (some ⟨w.heap.size, 0, none⟩))) (w.alloc (.cells v.cells.toList.toArray t)) := by
  unfold RV; rw [tJ]
  simp [Instr.box, newVar, newRow]
 unfold gI
 rw [this]
 exact hk _ (lN.alloc _ _ _) (jN.alloc _ _ _) (by simp)
theorem Cx {i : TypeInfo} {z : aEm} (hi : P.info? t = some i) (hz : i.zero = some z) {K : aEm -> aEl -> Prop}
 (hk : ∀ w', lN w' w.heap.size z.cells.toList -> jN w w' mC -> w'.heap.size = w.heap.size + 1 -> K (.pointer (some ⟨w.heap.size, 0, none⟩)) w') :
 gI P (oK t) w K := by
 have : (oK t).run P w = .ok (.value (.pointer (some ⟨w.heap.size, 0, none⟩))) (w.alloc (.cells z.cells.toList.toArray t)) := by
  unfold oK; rw [tJ]
  simp [Instr.alloc, zeroValue, typeInfo, hi, hz, newVar, newRow]
 unfold gI
 rw [this]
 exact hk _ (lN.alloc _ _ _) (jN.alloc _ _ _) (by simp)
end
theorem AQ {P : Program} {w : aEl} {k : IntKind} {a : Int} {y : Nat} {code : BoundsCode} (h0 : 0 <= a) (h1 : a <= y) : (Instr.sliceBound (.int k a) y code).run P w = .ok a.toNat w := by
 simp [Instr.sliceBound, asIntOf, h0, h1]
section
variable {P : Program} {w : aEl} {t e : TypeId} {k k' : IntKind} {lo hi : Int} {i : TypeInfo}
def mY (x : Option Addr) (m l sz : Nat) : Option Addr := if m = l then x else x.map (·.add (l * sz))
theorem akB (hu : P.underlying t = some (.slice e)) (hi' : P.info? e = some i) (x : Option Addr) (n c : Nat) (h0 : 0 <= lo) (h1 : lo <= n) :
 (lR t (.slice x n c) (some (.int k lo)) none none).run P w = .ok (.value (.slice (mY x c lo.toNat i.size) (n - lo.toNat) (c - lo.toNat))) w := by
 simp only [lR, tJ, Instr.sliceAt, underlying, hu, Sem.run_bind, run_program, Result.andThen_ok, Sem.run_pure, Instr.slice, Instr.sliceBounds, pure_bind, AQ h0 h1, lI hi', mY]
theorem VA (hu : P.underlying t = some (.slice e)) (hi' : P.info? e = some i) (x : Option Addr) (n c : Nat) (h0 : 0 <= hi) (h1 : hi <= c) :
 (lR t (.slice x n c) none (some (.int k hi)) none).run P w = .ok (.value (.slice (mY x c 0 i.size) (hi.toNat - 0) (c - 0))) w := by
 simp only [lR, tJ, Instr.sliceAt, underlying, hu, Sem.run_bind, run_program, Result.andThen_ok, Sem.run_pure, Instr.slice, Instr.sliceBounds, pure_bind, AQ h0 h1, lI hi', mY]
theorem aeY (hu : P.underlying t = some (.slice e)) (hi' : P.info? e = some i) (x : Option Addr) (n c : Nat) (h0 : 0 <= lo) (h1 : lo <= hi) (h2 : hi <= c) :
 (lR t (.slice x n c) (some (.int k lo)) (some (.int k' hi)) none).run P w = .ok (.value (.slice (mY x c lo.toNat i.size) (hi.toNat - lo.toNat) (c - lo.toNat))) w := by
 have h3 : (0 : Int) <= hi := by omega
 have h4 : lo <= (hi.toNat : Int) := by omega
 simp only [lR, tJ, Instr.sliceAt, underlying, hu, Sem.run_bind, run_program, Result.andThen_ok, Sem.run_pure, Instr.slice, Instr.sliceBounds, pure_bind, AQ h3 h2, AQ h0 h4, lI hi', mY]
def uR (a : Addr) (m l sz : Nat) : Addr := if m = l then a else a.add (l * sz)
theorem agI {n : Nat} (hu : P.underlying t = some (.array n e)) (hi' : P.info? e = some i) (x : Addr) (h0 : 0 <= lo) (h1 : lo <= n) :
 (lR t (.pointer (some x)) (some (.int k lo)) none none).run P w = .ok (.value (.slice (some (uR x n lo.toNat i.size)) (n - lo.toNat) (n - lo.toNat))) w := by
 simp only [lR, tJ, Instr.sliceAt, Instr.sureAddr, underlying, hu, Sem.run_bind, run_program, Result.andThen_ok, Sem.run_pure, Instr.sliceBounds, pure_bind, AQ h0 h1, lI hi', uR]
theorem Tl {n : Nat} (hu : P.underlying t = some (.array n e)) (hi' : P.info? e = some i) (x : Addr) (h0 : 0 <= hi) (h1 : hi <= n) :
 (lR t (.pointer (some x)) none (some (.int k hi)) none).run P w = .ok (.value (.slice (some (uR x n 0 i.size)) (hi.toNat - 0) (n - 0))) w := by
 simp only [lR, tJ, Instr.sliceAt, Instr.sureAddr, underlying, hu, Sem.run_bind, run_program, Result.andThen_ok, Sem.run_pure, Instr.sliceBounds, pure_bind, AQ h0 h1, lI hi', uR]
theorem Ge {n : Nat} (hu : P.underlying t = some (.array n e)) (hi' : P.info? e = some i) (x : Addr) :
 (lR t (.pointer (some x)) none none none).run P w = .ok (.value (.slice (some (uR x n 0 i.size)) (n - 0) (n - 0))) w := by
 simp only [lR, tJ, Instr.sliceAt, Instr.sureAddr, underlying, hu, Sem.run_bind, run_program, Result.andThen_ok, Sem.run_pure, Instr.sliceBounds, pure_bind, lI hi', uR]
theorem Vr {n : Nat} (hu : P.underlying t = some (.array n e)) (hi' : P.info? e = some i) (x : Addr) (h0 : 0 <= lo) (h1 : lo <= hi) (h2 : hi <= n) :
 (lR t (.pointer (some x)) (some (.int k lo)) (some (.int k' hi)) none).run P w = .ok (.value (.slice (some (uR x n lo.toNat i.size)) (hi.toNat - lo.toNat) (n - lo.toNat))) w := by
 have h3 : (0 : Int) <= hi := by omega
 have h4 : lo <= (hi.toNat : Int) := by omega
 simp only [lR, tJ, Instr.sliceAt, Instr.sureAddr, underlying, hu, Sem.run_bind, run_program, Result.andThen_ok, Sem.run_pure, Instr.sliceBounds, pure_bind, AQ h3 h2, AQ h0 h4, lI hi', uR]
end
def Sl (w : aEl) (v : aEm) (l : List aEm) : Prop :=
 ∃ a n c, v = .slice a n c /\ n = l.length /\ n <= c /\ (0 < n -> ∃ b off, a = some ⟨b, off, none⟩ /\ ∀ i, i < n -> w.cell? ⟨b, off + i, none⟩ = l[i]?)
def MO (v : aEm) (M : Nat -> Prop) : Prop := match v with | .slice (some a) (_ + 1) _ => M a.block | _ => False
theorem Sl.ext {w w' : aEl} {v : aEm} {l : List aEm} {M : Nat -> Prop} (h : Sl w v l) (hx : jN w w' M) (hM : ¬ MO v M) : Sl w' v l := by
 obtain ⟨a, n, c, rfl, hn, hc, h⟩ := h
 refine ⟨a, n, c, rfl, hn, hc, fun h0 => ?_⟩
 obtain ⟨b, off, rfl, h2⟩ := h h0
 refine ⟨b, off, rfl, fun i hi => ?_⟩
 have h1 := h2 i hi
 obtain ⟨v, hv⟩ : ∃ v, l[i]? = some v := ⟨l[i], by simp⟩
 rw [hv] at h1 ⊢
 refine arL h1 hx ?_
 obtain ⟨m, rfl⟩ : ∃ m, n = m + 1 := ⟨n - 1, by omega⟩
 exact hM
theorem Sl.old {w : aEl} {v : aEm} {l : List aEm} (h : Sl w v l) : ¬ MO v (fun b => w.heap.size <= b) := by
 obtain ⟨a, n, c, rfl, hn, hc, h⟩ := h
 unfold MO
 split
 .rename_i x m _ e
  obtain ⟨rfl, rfl, rfl⟩ : a = some x /\ n = m + 1 /\ c = _ := by simpa using e
  obtain ⟨b, off, e, h2⟩ := h (by omega)
  have e := aCF e; subst e
  have h1 := h2 0 (by omega)
  obtain ⟨v, hv⟩ : ∃ v, l[0]? = some v := ⟨l[0], by simp⟩
  rw [hv] at h1
  have := World.block_lt_of_cell? _ _ h1
  simp at this ⊢; omega
 .simp
def nT (x : UInt8) : aEm := .int .u8 x.toNat
abbrev Bs (w : aEl) (v : aEm) (l : List UInt8) : Prop := Sl w v (l.map nT)
theorem Iq (b o n : Nat) : (⟨b, o, none⟩ : Addr).add n = ⟨b, o + n, none⟩ := by
 unfold Addr.add; split
 .rename_i h; subst h; rfl
 .rfl
section
variable {P : Program} {w : aEl} {t e : TypeId} {k : IntKind} {a : Int}
theorem YG {inf : TypeInfo} {sz : Nat} (hz : inf.size = sz) (hu : P.underlying t = some (.slice e)) (hi : P.info? e = some inf) (b o n c : Nat) (h0 : 0 <= a) (h1 : a < n) :
 (jT t (.slice (some ⟨b, o, none⟩) n c) (.int k a)).run P w = .ok (.value (.pointer (some ⟨b, o + a.toNat * sz, none⟩))) w := by
 rw [agR hu hi _ n c h0 h1, Iq, hz]
theorem T2 {inf : TypeInfo} (hz : inf.size = 1) (hu : P.underlying t = some (.slice e)) (hi : P.info? e = some inf) (b o n c : Nat) (h0 : 0 <= a) (h1 : a < n) :
 (jT t (.slice (some ⟨b, o, none⟩) n c) (.int k a)).run P w = .ok (.value (.pointer (some ⟨b, o + a.toNat, none⟩))) w := by
 rw [agR hu hi _ n c h0 h1, Iq, hz, aC0]
theorem aqN {inf : TypeInfo} {sz len : Nat} (hz : inf.size = sz) (hu : P.underlying t = some (.array len e)) (hi : P.info? e = some inf) (b o : Nat) (h0 : 0 <= a) (h1 : a < (len : Int)) :
 (jT t (.pointer (some ⟨b, o, none⟩)) (.int k a)).run P w = .ok (.value (.pointer (some ⟨b, o + a.toNat * sz, none⟩))) w := by
 rw [aiV hu hi _ h0 h1, Iq, hz]
theorem J0 {inf : TypeInfo} {len : Nat} (hz : inf.size = 1) (hu : P.underlying t = some (.array len e)) (hi : P.info? e = some inf) (b o : Nat) (h0 : 0 <= a) (h1 : a < (len : Int)) :
 (jT t (.pointer (some ⟨b, o, none⟩)) (.int k a)).run P w = .ok (.value (.pointer (some ⟨b, o + a.toNat, none⟩))) w := by
 rw [aiV hu hi _ h0 h1, Iq, hz, aC0]
end
section
variable {P : Program} {w : aEl} {s d e : TypeId}
theorem asM (hs : P.underlying s = some (.slice e)) (hd : P.underlying d = some .string) (he : P.underlying e = some (.int .u8)) {l : List UInt8} {v : aEm} (h : Bs w v l) :
 (nE s d v).run P w = .ok (.value (.string ⟨l.toArray⟩)) w := by
 obtain ⟨a, n, c, rfl, hn, hc, h⟩ := h
 simp only [aB6] at hn
 unfold nE
 rw [tJ]
 have key : (convert s d (.slice a n c)).run P w = .ok (.string ⟨l.toArray⟩) w := by
  cases a with
  | none =>
    have hl : l = [] := by
     cases l with
     | nil => rfl
     | cons x l => obtain ⟨b, off, e, _⟩ := h (by rw [hn]; simp); cases e
    subst hl
    rw [run_convert_bytes_string w s d e none n c hs he hd]
    rfl
  | some x =>
    subst hn
    refine run_convert_bytes_back w s d e x c l hs he hd fun j hj => ?_
    obtain ⟨b, off, hx, h2⟩ := h (by omega)
    have hx := aCF hx
    subst hx
    rw [Iq, h2 j hj]
    simp [nT, hj]
 rw [key] <;> rfl
end
theorem FT (l : List UInt8) : ∀ x ∈ l.map nT, one x = true := by
 intro x hx
 obtain ⟨c, _, rfl⟩ := aCU.1 hx
 rfl
theorem anW {b o m l sz : Nat} (h : l ≠ m) : uR ⟨b, o, none⟩ m l sz = ⟨b, o + l * sz, none⟩ := by
 unfold uR; rw [if_neg (fun e => h e.symm), Iq]
theorem VE {b o m l : Nat} (h : l ≠ m) : uR ⟨b, o, none⟩ m l 1 = ⟨b, o + l, none⟩ := by rw [anW h, aC0]
theorem Sl.drop {w : aEl} {b o n c : Nat} {l : List aEm} (h : Sl w (.slice (some ⟨b, o, none⟩) n c) l) {k : Nat} (hk : k <= n) :
 Sl w (.slice (mY (some ⟨b, o, none⟩) c k 1) (n - k) (c - k)) (l.drop k) := by
 obtain ⟨x, m, c', e, hm, hc, hh⟩ := h
 cases e
 refine ⟨_, _, _, rfl, by rw [aCi]; omega, by omega, fun h0 => ?_⟩
 obtain ⟨b', o', e, h2⟩ := hh (by omega)
 cases e
 have hne : ¬ c = k := by omega
 refine ⟨b, o + k, by unfold mY; rw [if_neg hne, aCB, Iq, aC0], fun i hi => ?_⟩
 rw [aDr, h2 (k + i) (by omega), aDI]
theorem Sl.take {w : aEl} {b o n c : Nat} {l : List aEm} (h : Sl w (.slice (some ⟨b, o, none⟩) n c) l) {k : Nat} (hk : k <= n) :
 Sl w (.slice (mY (some ⟨b, o, none⟩) c 0 1) (k - 0) (c - 0)) (l.take k) := by
 obtain ⟨x, m, c', e, hm, hc, hh⟩ := h
 cases e
 refine ⟨_, _, _, rfl, by rw [aCf]; omega, by omega, fun h0 => ?_⟩
 obtain ⟨b', o', e, h2⟩ := hh (by omega)
 cases e
 have hne : ¬ c = 0 := by omega
 refine ⟨b, o, by unfold mY; rw [if_neg hne, aCB, Iq] <;> rfl, fun i hi => ?_⟩
 rw [h2 i (by omega), aCN (by omega)]
theorem anR {b o n c k : Nat} {M : Nat -> Prop} (h : ¬ MO (.slice (some ⟨b, o, none⟩) n c) M) (hn : 0 < n) (m : Nat) : ¬ MO (.slice (mY (some ⟨b, o, none⟩) c k 1) m (c - k)) M := by
 have hb : ¬ M b := by
  obtain ⟨n', rfl⟩ : ∃ n', n = n' + 1 := ⟨n - 1, by omega⟩
  exact h
 unfold MO mY
 split
 .rename_i x q _ e
  simp only [Value.slice.injEq] at e
  obtain ⟨e, _, _⟩ := e
  split at e
  .cases e; exact hb
  .rw [aCB, Iq] at e; cases e; exact hb
 .simp
theorem lN.bs {w : aEl} {b off c : Nat} {cs : List aEm} {l : List UInt8} (h : lN w b cs) (hc : l.length <= c) (hl : ∀ i (hi : i < l.length), cs[off + i]? = some (nT l[i])) : Bs w (.slice (some ⟨b, off, none⟩) l.length c) l :=
 ⟨_, _, _, rfl, by simp, hc, fun _ => ⟨b, off, rfl, fun i hi => by rw [h.cell, hl i hi]; simp [hi]⟩⟩
section
variable {P : Program} {w : aEl} {t e : TypeId} {k : IntKind} {a : Int}
theorem ayZ {len : Nat} {d : TypeDesc} {i : TypeInfo} (hu : P.underlying t = some (.array len e)) (hd : P.underlying e = some d) (ha : acV d = false) (hi : P.info? e = some i) (h1 : i.size = 1)
 (cs : Array aEm) (h0 : 0 <= a) (hl : a < (len : Int)) {v : aEm} (hv : cs[a.toNat]? = some v) : (Rp t (.agg cs) (.int k a)).run P w = .ok (.value v) w := by
 unfold Rp
 rw [tJ]
 simp only [Instr.index, asIntOf, pure_bind, underlying, hu, Sem.run_bind, run_program, Result.andThen_ok, Sem.run_pure, h0, hl, and_self, if_true, lI hi, h1, aC0, part, HU hd, ha, aBZ, if_false, hv]
def atP (P : Program) (t : TypeId) (cs : Array aEm) (k : IntKind) (a : Int) (w : aEl) : Result Next := (Rp t (.agg cs) (.int k a)).run P w
theorem aeZ {len : Nat} {d : TypeDesc} {i : TypeInfo} (hu : P.underlying t = some (.array len e)) (hd : P.underlying e = some d) (ha : acV d = false) (hi : P.info? e = some i) (h1 : i.size = 1)
 (cs : Array aEm) (h0 : 0 <= a) (hl : a < (len : Int)) : (Rp t (.agg cs) (.int k a)).run P w = ldC cs[a.toNat]? w (atP P t cs k a w) := by
 cases hv : cs[a.toNat]? with
 | none => rfl
 | some v => exact ayZ hu hd ha hi h1 cs h0 hl hv
theorem Xo {b off : Nat} {l : List aEm} (h : ∀ i, i < l.length -> w.cell? ⟨b, off + i, none⟩ = l[i]?) (n : Nat) (hn : n <= l.length) :
 (loadCells ⟨b, off, none⟩ n).run P w = .ok (l.take n).toArray w := by
 have key : ∀ (m i : Nat) (acc : Array aEm), i + m <= l.length -> (loadCellsFrom ⟨b, off, none⟩ i m acc).run P w = .ok (acc ++ ((l.drop i).take m).toArray) w := by
  intro m
  induction m with
  | zero => intro i acc _; simp [loadCellsFrom]
  | succ m ih =>
    intro i acc hm
    have hc := h i (by omega)
    rw [aB8 (by omega)] at hc
    simp only [loadCellsFrom, Sem.run_bind, run_load, Iq, hc, Result.andThen_ok]
    rw [ih (i + 1) _ (by omega), aDa (by omega : i < l.length), aCq]
    simp
 unfold loadCells
 rw [key n 0 #[] (by omega)]
 simp
theorem acK {sz n : Nat} {v : aEm} {l : List aEm} (h1 : sz = 1) (h : Sl w v l) (hn : n <= l.length) : (Builtin.firstCells sz n v).run P w = .ok (l.take n).toArray w := by
 subst h1
 obtain ⟨x, m, c, rfl, hm, hc, hh⟩ := h
 cases x with
 | none =>
   have : l = [] := by
    cases l with
    | nil => rfl
    | cons y l => obtain ⟨b, off, e, _⟩ := hh (by rw [hm]; simp); cases e
   subst this
   simp [Builtin.firstCells]
 | some x =>
   simp only [Builtin.firstCells, aC0]
   by_cases h0 : 0 < m
   .obtain ⟨b, off, e, h2⟩ := hh h0
    have e := aCF e; subst e
    exact Xo (fun i hi => h2 i (by omega)) n hn
   .have h00 : n = 0 := by omega
    subst h00
    simp [loadCells, loadCellsFrom]
theorem azC {v : aEm} {l : List aEm} (h : Sl w v l) : (Builtin.lenOf v).run P w = .ok l.length w := by
 obtain ⟨x, m, c, rfl, hm, hc, hh⟩ := h
 simp [Builtin.lenOf, hm]
theorem asX {ty t2 : TypeId} {i : TypeInfo} (hu : P.underlying t = some (.slice e)) (hi : P.info? e = some i) (h1 : i.size = 1) {b off dl c : Nat} {cs : List aEm} (ho : lN w b cs) (hl : off + dl <= cs.length)
 {v : aEm} {l : List aEm} (h : Sl w v l) (hv : ∀ x ∈ l, one x = true) {K : aEm -> aEl -> Prop}
 (hk : ∀ w', lN w' b (kW cs off (l.take (min l.length dl))) -> jN w w' (fun x => x = b) -> w'.heap.size = w.heap.size -> K (.int .i64 (min l.length dl : Nat)) w') :
 gI P (nX .copy #[t, t2] ty [.slice (some ⟨b, off, none⟩) dl c, v]) w K := by
 have hlen : (l.take (min l.length dl)).length = min l.length dl := by rw [aCf]; omega
 obtain ⟨w', s1, s2, s3, s4, _⟩ := GL (P := P) (M := fun x => x = b) rfl (l.take (min l.length dl)) w off 0 cs ho (by rw [hlen]; omega) (fun x hx => hv x (aC5 hx))
 have : (nX .copy #[t, t2] ty [.slice (some ⟨b, off, none⟩) dl c, v]).run P w = .ok (.value (.int .i64 (min l.length dl : Nat))) w' := by
  unfold nX builtin
  simp only [Builtin.copy_, aCY, aBX, aBY]
  simp only [underlying, Sem.run_bind, run_program, Result.andThen_ok, hu, Sem.run_pure, azC h, lI hi, h1]
  have := acK (P := P) (n := min l.length dl) rfl h (Nat.min_le_left _ _)
  rw [show (Nat.min l.length dl) = min l.length dl from rfl, this]
  simp only [Result.andThen_ok, s1, goInt]
 unfold gI
 rw [this]
 exact hk w' (by simpa using s2) s3 s4
theorem aaH {i : TypeInfo} {z : aEm} (hu : P.underlying t = some (.slice e)) (hi : P.info? e = some i) (h1 : i.size = 1) (hz : i.zero = some z) (hz1 : one z = true) {n : Int} (h0 : 0 <= n) (hn : i.bytes * n <= 2 ^ 48) (hn2 : n <= 9223372036854775807)
 {K : aEm -> aEl -> Prop}
 (hk : ∀ w', lN w' w.heap.size (List.replicate n.toNat z) -> jN w w' mC -> w'.heap.size = w.heap.size + 1 -> K (.slice (some ⟨w.heap.size, 0, none⟩) n.toNat n.toNat) w') :
 gI P (sP t (.int k n) (.int k n)) w K := by
 have hw : IntKind.i64.wrap n = n := gX (by omega) hn2
 have hcells : z.cells = #[z] := aeI hz1
 have harr : (Array.range n.toNat).map (fun j => (#[z] : Array aEm)[j % (#[z] : Array aEm).size]!) = (List.replicate n.toNat z).toArray := by
  apply Array.ext
  .simp
  .intro j h1 h2; simp [Nat.mod_one]
 have hz' : (zeroValue e).run P w = .ok z w := by simp [zeroValue, typeInfo, hi, hz]
 have : (sP t (.int k n) (.int k n)).run P w = .ok (.value (.slice (some ⟨w.heap.size, 0, none⟩) n.toNat n.toNat)) (w.alloc (.cells (List.replicate n.toNat z).toArray e)) := by
  unfold sP
  rw [tJ]
  have t1 : (decide (n < 0) || decide ((i.bytes : Int) * n > 2 ^ 48) || decide (n < 0) || decide (n > n)) = false := by
   simp only [aDT, decide_eq_false_iff_not]; omega
  by_cases hn0 : n.toNat = 0
  .simp only [Instr.makeSlice, underlying, typeInfo, asInt, asIntOf, pure_bind, Sem.run_bind, run_program, Result.andThen_ok, hu, hi, Sem.run_pure, hw, t1, aBZ, if_false, run_askRoom, lI hi, h1, aC0, hn0, if_true, newRow, run_newObj]
   have : (Array.range 0).map (fun x => (#[] : Array aEm)[x % (#[] : Array aEm).size]!) = (List.replicate 0 z).toArray := by simp
   rw [this]
   rfl
  .simp only [Instr.makeSlice, underlying, typeInfo, asInt, asIntOf, pure_bind, Sem.run_bind, run_program, Result.andThen_ok, hu, hi, Sem.run_pure, hw, t1, aBZ, if_false, run_askRoom, lI hi, h1, aC0, hn0, hz', hcells, newRow, run_newObj, harr]
   rfl
 unfold gI
 rw [this]
 exact hk _ (lN.alloc _ _ _) (jN.alloc _ _ _) (by simp)
end
def Cl (w : aEl) (sz : Nat) (v : aEm) (n : Nat) (l : List aEm) : Prop :=
 ∃ a c, v = .slice a n c /\ l.length = n * sz /\ (0 < n -> ∃ b off, a = some ⟨b, off, none⟩ /\ ∀ i, i < l.length -> w.cell? ⟨b, off + i, none⟩ = l[i]?)
def yW (w : aEl) (base sz : Nat) (v : aEm) (n : Nat) (l : List aEm) : Prop :=
 l.length = n * sz /\ ((v = .slice none 0 0 /\ n = 0) ∨
   ∃ b c rest, v = .slice (some ⟨b, 0, none⟩) n c /\ base <= b /\ lN w b (l ++ rest) /\ (l ++ rest).length = c * sz /\ n <= c)
def GX (w : aEl) (S : Nat -> Prop) (sz : Nat) (v : aEm) (n : Nat) (l : List aEm) : Prop :=
 l.length = n * sz /\ ((v = .slice none 0 0 /\ n = 0) ∨
   ∃ b c rest, v = .slice (some ⟨b, 0, none⟩) n c /\ S b /\ lN w b (l ++ rest) /\ (l ++ rest).length = c * sz /\ n <= c)
theorem Sl.cl {w : aEl} {v : aEm} {l : List aEm} (h : Sl w v l) : Cl w 1 v l.length l := by
 obtain ⟨a, n, c, rfl, rfl, hc, h⟩ := h
 exact ⟨a, c, rfl, by omega, fun h0 => h h0⟩
theorem lN.cl {w : aEl} {b sz n c off : Nat} {cs l : List aEm} (h : lN w b cs) (hl : l.length = n * sz) (hcs : ∀ i, i < l.length -> cs[off + i]? = l[i]?) : Cl w sz (.slice (some ⟨b, off, none⟩) n c) n l :=
 ⟨_, _, rfl, hl, fun _ => ⟨b, off, rfl, fun i hi => by rw [h.cell, hcs i hi]⟩⟩
theorem yW.nil (w : aEl) (base sz : Nat) : yW w base sz (.slice none 0 0) 0 [] := ⟨by simp, .inl ⟨rfl, rfl⟩⟩
theorem yW.ext {w w' : aEl} {base sz n : Nat} {v : aEm} {l : List aEm} {M : Nat -> Prop} (h : yW w base sz v n l) (hx : jN w w' M) (hM : ∀ b, base <= b -> ¬ M b) : yW w' base sz v n l := by
 refine ⟨h.1, ?_⟩
 rcases h.2 with h2 | ⟨b, c, rest, h1, h2, h3, h4, h5⟩
 .exact .inl h2
 .exact .inr ⟨b, c, rest, h1, h2, h3.ext hx (hM b h2), h4, h5⟩
theorem yW.cl {w : aEl} {base sz n : Nat} {v : aEm} {l : List aEm} (h : yW w base sz v n l) : Cl w sz v n l := by
 rcases h.2 with ⟨rfl, rfl⟩ | ⟨b, c, rest, rfl, h2, h3, h4, h5⟩
 .exact ⟨_, _, rfl, h.1, fun h => by omega⟩
 .refine ⟨_, _, rfl, h.1, fun _ => ⟨b, 0, rfl, fun i hi => ?_⟩⟩
  rw [h3.cell, aB4, aCm hi]
theorem yW.sl {w : aEl} {base n : Nat} {v : aEm} {l : List aEm} (h : yW w base 1 v n l) : Sl w v l := by
 have hl := h.1
 rcases h.2 with ⟨rfl, rfl⟩ | ⟨b, c, rest, rfl, h2, h3, h4, h5⟩
 .exact ⟨_, _, _, rfl, by omega, by omega, fun h => by omega⟩
 .refine ⟨_, _, _, rfl, by omega, h5, fun _ => ⟨b, 0, rfl, fun i hi => ?_⟩⟩
  rw [h3.cell, aB4, aCm (by omega)]
section
variable {P : Program} {w : aEl} {t e : TypeId}
theorem XH {b off : Nat} {l : List aEm} (h : ∀ i, i < l.length -> w.cell? ⟨b, off + i, none⟩ = l[i]?) : (loadCells ⟨b, off, none⟩ l.length).run P w = .ok l.toArray w := by
 have := Xo (P := P) h l.length (aCb _)
 rwa [aDD] at this
theorem DW {sz n : Nat} {v : aEm} {l : List aEm} (h : Cl w sz v n l) : (Builtin.firstCells sz n v).run P w = .ok l.toArray w := by
 obtain ⟨x, c, rfl, hl, hh⟩ := h
 cases x with
 | none =>
   have : n = 0 := by
    rcases aDc n with h | h
    .exact h
    .obtain ⟨b, off, e, _⟩ := hh h; cases e
   subst this
   have : l = [] := aCK.1 (by omega)
   subst this
   simp [Builtin.firstCells]
 | some x =>
   simp only [Builtin.firstCells]
   rw [<- hl]
   by_cases h0 : 0 < n
   .obtain ⟨b, off, e, h2⟩ := hh h0
    have e := aCF e; subst e
    exact XH h2
   .have : n = 0 := by omega
    subst this
    have : l = [] := aCK.1 (by omega)
    subst this
    simp [loadCells, loadCellsFrom]
theorem xP (zs : Array aEm) (n : Nat) : (Builtin.zeroCells zs n).size = n * zs.size := by simp [Builtin.zeroCells]
theorem Vp (vs : List aEm) : ∀ (aBW rest : List aEm), vs.length <= rest.length -> kW (aBW ++ rest) aBW.length vs = aBW ++ vs ++ rest.drop vs.length := by
 induction vs with
 | nil => intro aBW rest _; simp [kW]
 | cons v vs ih =>
   intro aBW rest h
   cases rest with
   | nil => simp at h
   | cons r rest =>
     have := ih (aBW ++ [v]) rest (by simpa using h)
     simp only [kW, aB7, aCl, List.length_nil, aCr, aDd, aCT] at this ⊢
     rw [List.drop_succ_cons, <- this, aCI _ _ (aCb _), aDh, aCa, aB4]
theorem agV {S : Nat -> Prop} {sz n m : Nat} {i : TypeInfo} {z : aEm} {ty t2 e2 : TypeId} (hu : P.underlying t = some (.slice e)) (hu2 : P.underlying t2 = some (.slice e2)) (hi : P.info? e = some i) (hsz : i.size = sz) (hz : i.zero = some z) (hzs : z.cells.size = sz)
 {v x : aEm} {l news : List aEm} (h : GX w S sz v n l) (hx : Cl w sz x m news) (hone : ∀ y ∈ news, one y = true) (hb : ∀ b, w.heap.size <= b -> S b)
 (hn : n + m <= 9223372036854775807) (hbytes : (n + m) * i.bytes <= 140737488355328) (_hpos : i.bytes ≠ 0)
 {K : aEm -> aEl -> Prop} (hk : ∀ v' w', GX w' S sz v' (n + m) (l ++ news) -> jN w w' S -> Cl w' sz v n l -> K v' w') : gI P (nX .append #[t, t2] ty [v, x]) w K := by
 have hlx : (Builtin.lenOf x).run P w = .ok m w := by
  obtain ⟨a, c, rfl, _⟩ := hx; simp [Builtin.lenOf]
 have hnl := hx.choose_spec.choose_spec.2.1
 have hfx := DW (P := P) hx
 have hmax : IntKind.i64.max = 9223372036854775807 := by decide
 have hnot : ¬ (((n + m : Nat) : Int) > IntKind.i64.max /\ (False ∨ i.bytes = 0)) := by rw [hmax]; omega
 have hz' : ∀ w, (zeroValue e).run P w = .ok z w := fun w => by simp [zeroValue, typeInfo, hi, hz]
 have hlen := h.1
 rcases h.2 with ⟨rfl, rfl⟩ | ⟨b, c, rest, rfl, h2, h3, h4, h5⟩
 .
  have hl0 : l = [] := aCK.1 (by omega)
  subst hl0
  by_cases hm : m = 0
  .subst hm
   have hn0 : news = [] := aCK.1 (by omega)
   subst hn0
   have : (nX .append #[t, t2] ty [.slice none 0 0, x]).run P w = .ok (.value (.slice none 0 0)) w := by
    unfold nX builtin
    simp only [Builtin.append_, aCY, aBX, aBY]
    simp only [underlying, Sem.run_bind, run_program, Result.andThen_ok, hu, hu2, Sem.run_pure, lI hi, hsz, aBZ, if_false, hlx, aCb, aCR, if_true, aB3, hfx]
   unfold gI
   rw [this]
   exact hk _ _ ⟨by simp, .inl ⟨rfl, by omega⟩⟩ (jN.refl _ _) ⟨none, 0, rfl, hlen, fun h => absurd h (by omega)⟩
  .have hfit := growslice_fits (need := 0 + m) (old := 0) (bytes := i.bytes) (by omega) (by omega)
   have hfit' : ¬ (Builtin.nextslicecap (0 + m) 0 * i.bytes > 2 ^ 48) := by omega
   have hle : ¬ (0 + m <= 0) := by omega
   have hq : (Question.appendCap (0 + m) 0 e).forced = false := rfl
   obtain ⟨r, hr⟩ : ∃ r, (Question.appendCap (0 + m) 0 e).cut (w.tape w.drawn (.appendCap (0 + m) 0 e)) = m + r :=
    ⟨(w.tape w.drawn (.appendCap (0 + m) 0 e)) % (2 ^ 63 - (0 + m)), by simp only [Question.cut]; omega⟩
   have : (nX .append #[t, t2] ty [.slice none 0 0, x]).run P w = .ok (.value (.slice (some ⟨w.heap.size, 0, none⟩) (0 + m) (m + r))) ((dr w).alloc (.cells (news ++ (Builtin.zeroCells z.cells (m + r - (0 + m))).toList).toArray e)) := by
    have hfx' := DW (P := P) (w := dr w) hx
    unfold nX builtin
    simp only [Builtin.append_, aCY, aBX, aBY]
    simp only [underlying, typeInfo, Sem.run_bind, run_program, Result.andThen_ok, hu, hu2, hi, Sem.run_pure, lI hi, hsz, aBZ, if_false, hlx, hle, aB3, if_true, hnot, hfit', run_choose, hq, hr, run_askRoom]
    change ((Sem.run P _ (dr w)).andThen _).andThen _ = _
    simp only [Sem.run_bind, hfx', run_firstCells_none, Result.andThen_ok, hz', Sem.run_pure, newRow, run_newObj]
    have e1 : (#[] ++ news.toArray ++ Builtin.zeroCells z.cells (m + r - (0 + m)) : Array aEm) = (news ++ (Builtin.zeroCells z.cells (m + r - (0 + m))).toList).toArray := by
     apply Array.ext'; simp
    rw [e1]
    rfl
   unfold gI
   rw [this]
   refine hk _ _ ⟨by simp only [aCT]; rw [hnl, aB4], .inr ⟨w.heap.size, m + r, (Builtin.zeroCells z.cells (m + r - (0 + m))).toList, by rw [aB4], hb _ (aCb _), lN.alloc (dr w) _ _, ?_, by omega⟩⟩ ((jN.dr w _).seq (jN.alloc _ _ _)) ⟨none, 0, rfl, hlen, fun h => absurd h (by omega)⟩
   simp only [aCT, aB7, aDt, xP, hzs, hnl]
   rw [show m + r - (0 + m) = r from by omega, aCQ]
 .by_cases hc : n + m <= c
  .
   have hroom : news.length <= rest.length := by
    rw [aB7, hlen] at h4
    have : (n + m) * sz <= c * sz := aCv _ hc
    rw [aCQ] at this; omega
   obtain ⟨w', s1, s2, s3, s4, _⟩ := GL (P := P) (M := S) h2 news w (n * sz) 0 (l ++ rest) h3 (by rw [aB7, hlen]; omega) hone
   have : (nX .append #[t, t2] ty [.slice (some ⟨b, 0, none⟩) n c, x]).run P w = .ok (.value (.slice (some ⟨b, 0, none⟩) (n + m) c)) w' := by
    unfold nX builtin
    simp only [Builtin.append_, aCY, aBX, aBY]
    simp only [underlying, Sem.run_bind, run_program, Result.andThen_ok, hu, hu2, Sem.run_pure, lI hi, hsz, aBZ, if_false, hlx, hc, if_true, aB3, hfx, Iq, aB4, s1]
   unfold gI
   rw [this]
   rw [aCR, <- hlen, Vp _ _ _ hroom] at s2
   refine hk _ _ ⟨by rw [aB7, hlen, hnl, aCQ], .inr ⟨b, c, rest.drop news.length, rfl, h2, s2, ?_, hc⟩⟩ s3 ⟨_, _, rfl, hlen, fun _ => ⟨b, 0, rfl, fun i hi => by
    rw [s2.cell, aB4, aCr, aCm hi]⟩⟩
   rw [<- h4]; simp; omega
  .
   have hfit := growslice_fits (need := n + m) (old := c) (bytes := i.bytes) (by omega) hbytes
   have hfit' : ¬ (Builtin.nextslicecap (n + m) c * i.bytes > 2 ^ 48) := by omega
   have hq : (Question.appendCap (n + m) c e).forced = false := rfl
   obtain ⟨r, hr⟩ : ∃ r, (Question.appendCap (n + m) c e).cut (w.tape w.drawn (.appendCap (n + m) c e)) = n + m + r :=
    ⟨(w.tape w.drawn (.appendCap (n + m) c e)) % (2 ^ 63 - (n + m)), by simp only [Question.cut]⟩
   have hold : Cl (dr w) sz (.slice (some ⟨b, 0, none⟩) n c) n l := ⟨_, _, rfl, hlen, fun _ => ⟨b, 0, rfl, fun i hi => by
    show w.cell? _ = _
    rw [h3.cell, aB4, aCm hi]⟩⟩
   have : (nX .append #[t, t2] ty [.slice (some ⟨b, 0, none⟩) n c, x]).run P w = .ok (.value (.slice (some ⟨w.heap.size, 0, none⟩) (n + m) (n + m + r))) ((dr w).alloc (.cells (l ++ news ++ (Builtin.zeroCells z.cells (n + m + r - (n + m))).toList).toArray e)) := by
    have hfx' := DW (P := P) (w := dr w) hx
    have hfo := DW (P := P) hold
    unfold nX builtin
    simp only [Builtin.append_, aCY, aBX, aBY]
    simp only [underlying, typeInfo, Sem.run_bind, run_program, Result.andThen_ok, hu, hu2, hi, Sem.run_pure, lI hi, hsz, aBZ, if_false, hlx, hc, aB3, if_true, hnot, hfit', run_choose, hq, hr, run_askRoom]
    change ((Sem.run P _ (dr w)).andThen _).andThen _ = _
    simp only [Sem.run_bind, hfx', hfo, Result.andThen_ok, hz', Sem.run_pure, newRow, run_newObj]
    have e1 : (l.toArray ++ news.toArray ++ Builtin.zeroCells z.cells (n + m + r - (n + m)) : Array aEm) = (l ++ news ++ (Builtin.zeroCells z.cells (n + m + r - (n + m))).toList).toArray := by
     apply Array.ext'; simp
    rw [e1]
    rfl
   unfold gI
   rw [this]
   refine hk _ _ ⟨by rw [aB7, hlen, hnl, aCQ], .inr ⟨w.heap.size, n + m + r, _, rfl, hb _ (aCb _), lN.alloc (dr w) _ _, ?_, by omega⟩⟩ ((jN.dr w _).seq (jN.alloc _ _ _)) ⟨_, _, rfl, hlen, fun _ => ⟨b, 0, rfl, fun i hi => by
    have o9 := h3.ext ((jN.dr w mC).seq (jN.alloc (dr w) (.cells (l ++ news ++ (Builtin.zeroCells z.cells (n + m + r - (n + m))).toList).toArray e) mC)) (fun h => h)
    rw [o9.cell, aB4, aCm hi]⟩⟩
   simp only [aB7, aDt, xP, hzs, hnl, hlen]
   rw [show n + m + r - (n + m) = r from by omega, aCQ, aCQ]
theorem B9 {S : Nat -> Prop} {sz n m : Nat} {i : TypeInfo} {z : aEm} {ty t2 e2 : TypeId} (hu : P.underlying t = some (.slice e)) (hu2 : P.underlying t2 = some (.slice e2)) (hi : P.info? e = some i) (hsz : i.size = sz) (hz : i.zero = some z) (hzs : z.cells.size = sz)
 {v x : aEm} {l news : List aEm} (h : GX w S sz v n l) (hx : Cl w sz x m news) (hone : ∀ y ∈ news, one y = true) (hb : ∀ b, w.heap.size <= b -> S b)
 (hn : n + m <= 9223372036854775807) (hbytes : (n + m) * i.bytes <= 140737488355328) (_hpos : i.bytes ≠ 0)
 {K : aEm -> aEl -> Prop} (hk : ∀ v' w', GX w' S sz v' (n + m) (l ++ news) -> jN w w' S -> K v' w') : gI P (nX .append #[t, t2] ty [v, x]) w K :=
 agV hu hu2 hi hsz hz hzs h hx hone hb hn hbytes _hpos fun v' w' a b _ => hk v' w' a b
theorem aaK {base sz n m : Nat} {i : TypeInfo} {z : aEm} {ty t2 e2 : TypeId} (hu : P.underlying t = some (.slice e)) (hu2 : P.underlying t2 = some (.slice e2)) (hi : P.info? e = some i) (hsz : i.size = sz) (hz : i.zero = some z) (hzs : z.cells.size = sz)
 {v x : aEm} {l news : List aEm} (h : yW w base sz v n l) (hx : Cl w sz x m news) (hone : ∀ y ∈ news, one y = true) (hb : base <= w.heap.size)
 (hn : n + m <= 9223372036854775807) (hbytes : (n + m) * i.bytes <= 140737488355328) (_hpos : i.bytes ≠ 0)
 {K : aEm -> aEl -> Prop} (hk : ∀ v' w', yW w' base sz v' (n + m) (l ++ news) -> jN w w' (fun y => base <= y) -> K v' w') : gI P (nX .append #[t, t2] ty [v, x]) w K :=
 B9 (S := fun y => base <= y) hu hu2 hi hsz hz hzs h hx hone (fun _ h => aCV hb h) hn hbytes _hpos hk
end
section
variable {P : Program} {w : aEl} {t e : TypeId}
theorem VH {i : TypeInfo} {z : aEm} {n : Nat} {ps : List (Nat × aEm)} {cells : Array aEm} (hu : P.underlying t = some (.slice e)) (hi : P.info? e = some i) (hz : i.zero = some z)
 (h1 : ¬ n * i.size > 2 ^ 24) (h0 : ¬ n * i.size = 0) (hf : Instr.fill (fun j => some (j * i.size, i.size)) ((Array.range (n * i.size)).map (z.cells[· % z.cells.size]!)) ps = some cells)
 {K : aEm -> aEl -> Prop} (hk : ∀ w', lN w' w.heap.size cells.toList -> jN w w' mC -> w'.heap.size = w.heap.size + 1 -> K (.slice (some ⟨w.heap.size, 0, none⟩) n n) w') :
 gI P (lT t n ps) w K := by
 have hz' : (zeroValue e).run P w = .ok z w := by simp [zeroValue, typeInfo, hi, hz]
 have : (lT t n ps).run P w = .ok (.value (.slice (some ⟨w.heap.size, 0, none⟩) n n)) (w.alloc (.cells cells.toList.toArray e)) := by
  unfold lT; rw [tJ]
  simp only [Instr.buildSlice, underlying, pure_bind, Sem.run_bind, run_program, Result.andThen_ok, hu, Sem.run_pure, lI hi, h1, h0, if_false, hz', hf, newRow, run_newObj]
  rfl
 unfold gI
 rw [this]
 exact hk _ (lN.alloc _ _ _) (jN.alloc _ _ _) (by simp)
theorem lN.mark {b : Nat} {cs : List aEm} (h : lN w b cs) : lN (w.freeze ⟨b, cs.length, none⟩ 1) b cs := by
 have hb := h.lt
 obtain ⟨T, lo, hi, h, k⟩ := h
 by_cases hlh : (lo == hi) = true
 .refine ⟨T, cs.length, cs.length + 1, ?_, .inl (aCb _)⟩
  show (w.heap.modify b _)[b]? = _
  rw [aDl, if_pos rfl, h]
  have hlh : lo = hi := by simpa using hlh
  simp [hlh]
 .refine ⟨T, min lo cs.length, max hi (cs.length + 1), ?_, .inl ?_⟩
  .show (w.heap.modify b _)[b]? = _
   rw [aDl, if_pos rfl, h]
   have hlh : ¬ lo = hi := by simpa using hlh
   simp [hlh]
  .rcases k with k | k
   .omega
   .exfalso; apply hlh; rw [k]; simp
theorem jN.mark (w : aEl) (a : Addr) : jN w (w.freeze a 1) (fun y => y = a.block) :=
 ⟨rfl, rfl, rfl, by show _ <= (w.heap.modify _ _).size; simp, fun b hb hn => by
  show (w.heap.modify a.block _)[b]? = _
  rw [aDl]
  rw [if_neg (fun h => hn h.symm)]⟩
end
section
variable {P : Program} {w : aEl} {t e : TypeId}
theorem acG {d : TypeDesc} (he : P.underlying e = some d) (hd : acV d = false) {cs : Array aEm} {k : Nat} {v : aEm} (h : cs[k]? = some v) : (part e cs k).run P w = .ok v w := by
 unfold part
 simp only [Sem.run_bind, HU he, hd, Result.andThen_ok, aBZ, if_false, h, Sem.run_pure]
theorem anC {a b : UInt8} : (((a.toNat : Int)) == (b.toNat : Int)) = decide (a = b) := by
 rw [Bool.eq_iff_iff]
 simp only [<- UInt8.toNat_inj, beq_iff_eq, decide_eq_true_eq]
 omega
theorem alQ {i : TypeInfo} (m n : Nat) (hu : P.underlying t = some (.array n e)) (he : P.underlying e = some (.int .u8)) (hi : P.info? e = some i) (h1 : i.size = 1) (l l' : List UInt8) (hl : l.length = n) (hl' : l'.length = n) :
 (Op.equalIn (m + 2) t (.agg (l.map nT).toArray) (.agg (l'.map nT).toArray)).run P w = .ok (decide (l = l')) w := by
 unfold Op.equalIn
 simp only [underlying, Sem.run_bind, run_program, Result.andThen_ok, hu, Sem.run_pure, lI hi, Std.Legacy.Range.forIn_eq_forIn_range', Std.Legacy.Range.size, aDE, Nat.add_one_sub_one, Nat.div_one, h1, aC0]
 have key : ∀ (c k : Nat), k + c = n -> l.take k = l'.take k →
     ∃ r, (forIn (List.range' k c) (none, ()) fun (i : Nat) (_ : Option Bool × Unit) => (do
           let a <- part e (List.map nT l).toArray i
           let b <- part e (List.map nT l').toArray i
           let c <- Op.equalIn (m + 1) e a b
           if (!c) = true then pure (ForInStep.done (some false, ())) else pure (ForInStep.yield (none, ())) : Sem (ForInStep (Option Bool × Unit)))).run P w = .ok (r, ()) w /\ r.getD true = decide (l = l') := by
  intro c
  induction c with
  | zero =>
    intro k hk ht
    refine ⟨none, by simp, ?_⟩
    have : l = l' := by
     rw [aCg (by omega), aCg (by omega)] at ht; exact ht
    simp [this]
  | succ c ih =>
    intro k hk ht
    have g : ∀ (q : List UInt8) (h : k < q.length), (q.map nT).toArray[k]? = some (nT q[k]) := fun q h => by simp [h]
    have hv : (Op.equalIn (m + 1) e (nT (l[k]'(by omega))) (nT (l'[k]'(by omega)))).run P w = .ok (decide (l[k]'(by omega) = l'[k]'(by omega))) w := by
     unfold Op.equalIn nT
     simp only [underlying, Sem.run_bind, run_program, Result.andThen_ok, he, Sem.run_pure, if_true, anC]
    rw [List.range'_succ]
    simp only [List.forIn_cons, Sem.run_bind, acG he rfl (g l (by omega)), acG he rfl (g l' (by omega)), Result.andThen_ok, hv]
    by_cases hx : l[k]'(by omega) = l'[k]'(by omega)
    .simp only [hx, decide_true, aB5, aBZ, if_false, Sem.run_pure, Result.andThen_ok]
     refine ih (k + 1) (by omega) ?_
     rw [aDB, aDB, ht, aB8 (by omega), aB8 (by omega), hx]
    .simp only [hx, decide_false, aB3, if_true, Sem.run_pure, Result.andThen_ok]
     refine ⟨some false, rfl, ?_⟩
     have : l ≠ l' := fun h => hx (by subst h; rfl)
     simp [this]
 obtain ⟨r, h1, h2⟩ := key n 0 (by omega) (by simp)
 rw [h1, <- h2]
 cases r <;> simp
structure adC {κ : Type} [DecidableEq κ] (P : Program) (t : TypeId) (enc : κ -> aEm) : Prop where
 eq : ∀ a b (w : aEl), (Op.equal t (enc a) (enc b)).run P w = .ok (decide (a = b)) w
 now : ∃ d, P.underlying t = some d /\ ∀ a b, Instr.sameNow d (enc a) (enc b) = none ∨ Instr.sameNow d (enc a) (enc b) = some (decide (a = b))
 chk : ∀ (e : Bool) a (w : aEl), (Instr.checkKey e 10000 t (enc a)).run P w = .ok () w
 stay : ∀ a, Instr.sameBits 10000 (enc a) (enc a) = true
def assoc {κ : Type} [DecidableEq κ] (k : κ) : List (κ × aEm) -> Option aEm
 | [] => none
 | p :: r => if k = p.1 then some p.2 else assoc k r
def upd {κ : Type} [DecidableEq κ] (k : κ) (v : aEm) : List (κ × aEm) -> List (κ × aEm)
 | [] => [(k, v)]
 | p :: r => if k = p.1 then (k, v) :: r else p :: upd k v r
theorem apU {κ : Type} [DecidableEq κ] (k j : κ) (v : aEm) : ∀ (l : List (κ × aEm)), assoc j (upd k v l) = if j = k then some v else assoc j l := by
 intro l
 induction l with
 | nil => simp only [upd, assoc]
 | cons p r ih =>
   simp only [upd]
   by_cases h : k = p.1
   .rw [if_pos h]
    simp only [assoc]
    by_cases hj : j = k
    .rw [if_pos hj, if_pos hj]
    .rw [if_neg hj, if_neg hj, if_neg (fun e => hj (e.trans h.symm))]
   .rw [if_neg h]
    simp only [assoc, ih]
    by_cases hj : j = p.1
    .rw [if_pos hj, if_pos hj, if_neg (fun e => h (e.symm.trans hj))]
    .rw [if_neg hj, if_neg hj]
theorem amQ {κ : Type} [DecidableEq κ] {k : κ} {v : aEm} {l : List (κ × aEm)} {p : κ × aEm} (h : p ∈ upd k v l) : p = (k, v) ∨ p ∈ l := by
 induction l with
 | nil => simp [upd] at h; exact .inl h
 | cons q r ih =>
   simp only [upd] at h
   split at h
   .rcases aCS.1 h with h | h
    .exact .inl h
    .exact .inr (aCh _ h)
   .rcases aCS.1 h with h | h
    .exact .inr (h ▸ aCA)
    .rcases ih h with h | h
     .exact .inl h
     .exact .inr (aCh _ h)
theorem apD {κ : Type} [DecidableEq κ] {k : κ} {v : aEm} {l : List (κ × aEm)} (h : assoc k l = some v) : (k, v) ∈ l := by
 induction l with
 | nil => simp [assoc] at h
 | cons q r ih =>
   simp only [assoc] at h
   split at h
   .rename_i e; cases h; rw [e]; exact aCA
   .exact aCh _ (ih h)
def Grown (es : Array MapEntry) (clock : Nat) : Prop := (es.toList.map (·.born)).Pairwise (· < ·) /\ ∀ e ∈ es.toList, e.born < clock
def Mp {κ : Type} (w : aEl) (m : Nat) (enc : κ -> aEm) (l : List (κ × aEm)) : Prop :=
 ∃ es clock, w.heap[m]? = some (.map es clock) /\ es.toList.map (fun e => (e.key, e.val)) = l.map (fun p => (enc p.1, p.2)) /\ Grown es clock /\ (l.map (·.1)).Nodup
theorem alO {es : Array MapEntry} {c : Nat} (h : Grown es c) (k v : aEm) : Grown (es.push ⟨k, v, c⟩) (c + 1) := by
 obtain ⟨h1, h2⟩ := h
 refine ⟨?_, ?_⟩
 .rw [Array.toList_push, aCC, List.pairwise_append]
  refine ⟨h1, by simp, fun a ha b hb => ?_⟩
  simp at hb
  subst hb
  obtain ⟨e, he, rfl⟩ := aCU.1 ha
  exact h2 e he
 .intro e he
  rw [Array.toList_push] at he
  rcases aC3.1 he with he | he
  .have := h2 e he; omega
  .simp at he; subst he; exact Nat.lt_succ_self c
theorem akT {es es' : Array MapEntry} {c : Nat} (h : Grown es c) (he : es'.toList.map (·.born) = es.toList.map (·.born)) : Grown es' c := by
 refine ⟨by rw [he]; exact h.1, fun e h' => ?_⟩
 have : e.born ∈ es'.toList.map (·.born) := aCU.2 ⟨e, h', rfl⟩
 rw [he] at this
 obtain ⟨x, hx, hxe⟩ := aCU.1 this
 rw [<- hxe]; exact h.2 x hx
theorem ajC {κ : Type} [DecidableEq κ] {k : κ} {v : aEm} : ∀ {l : List (κ × aEm)}, (l.map (·.1)).Nodup -> ((upd k v l).map (·.1)).Nodup
 | [], _ => by simp [upd]
 | p :: r, h => by
   simp only [upd]
   have h' := h
   rw [aCz, List.nodup_cons] at h
   split
   .rename_i e
    rw [aCz, List.nodup_cons]
    exact ⟨fun hm => h.1 (e ▸ hm), h.2⟩
   .rename_i e
    rw [aCz, List.nodup_cons]
    refine ⟨fun hm => ?_, ajC h.2⟩
    obtain ⟨q, hq, hqe⟩ := aCU.1 hm
    rcases amQ hq with h1 | h1
    .rw [h1] at hqe; exact e hqe
    .exact h.1 (aCU.2 ⟨q, h1, hqe⟩)
theorem Mp.lt {κ : Type} {m : Nat} {enc : κ -> aEm} {l : List (κ × aEm)} (h : Mp w m enc l) : m < w.heap.size := by
 obtain ⟨es, c, h, _⟩ := h
 rcases aCk m w.heap.size with h' | h'
 .exact h'
 .rw [aC1 h'] at h; cases h
theorem Mp.ext {κ : Type} {w w' : aEl} {m : Nat} {enc : κ -> aEm} {l : List (κ × aEm)} {M : Nat -> Prop} (h : Mp w m enc l) (hx : jN w w' M) (hM : ¬ M m) : Mp w' m enc l := by
 have := h.lt
 obtain ⟨es, c, h, k⟩ := h
 exact ⟨es, c, by rw [hx.keep m this hM]; exact h, k⟩
theorem Mp.dr {κ : Type} {w : aEl} {m : Nat} {enc : κ -> aEm} {l : List (κ × aEm)} (h : Mp w m enc l) : Mp (dr w) m enc l := h
def Xd {κ : Type} [DecidableEq κ] (k : κ) : List (κ × aEm) -> Nat -> Option (Nat × aEm)
 | [], _ => none
 | p :: r, i => if k = p.1 then some (i, p.2) else Xd k r (i + 1)
theorem akE {κ : Type} [DecidableEq κ] (k : κ) : ∀ (l : List (κ × aEm)) (i : Nat), (Xd k l i).map (·.2) = assoc k l := by
 intro l
 induction l with
 | nil => intro i; rfl
 | cons p r ih => intro i; simp only [Xd, assoc]; split <;> simp [ih]
variable {κ : Type} [DecidableEq κ] {enc : κ -> aEm}
theorem abF {r : Nat} {es : Array MapEntry} {c : Nat} (hb : w.heap[r]? = some (.map es c)) : (getObj r).run P w = .ok (.map es c) w := by simp [getObj, Sem.run, hb]
theorem aaO {r : Nat} {es : Array MapEntry} {c : Nat} (o : Obj) (hb : w.heap[r]? = some (.map es c)) : (setObj r o).run P w = .ok () { w with heap := w.heap.setIfInBounds r o } := by simp [setObj, Sem.run, hb]
theorem abV (K : adC P t enc) (k : κ) : ∀ (es : List MapEntry) (l : List (κ × aEm)) (i : Nat), es.map (fun e => (e.key, e.val)) = l.map (fun p => (enc p.1, p.2)) →
 (Instr.findAsking t (enc k) es i).run P w = .ok (Xd k l i) w := by
 intro es
 induction es with
 | nil => intro l i h; cases l with
   | nil => rfl
   | cons p r => simp at h
 | cons x es ih =>
   intro l i h
   cases l with
   | nil => simp at h
   | cons p r =>
     simp only [aCz, List.cons.injEq, Prod.mk.injEq] at h
     obtain ⟨⟨h1, h2⟩, h3⟩ := h
     simp only [Instr.findAsking, Sem.run_bind, h1, K.eq, Result.andThen_ok, Xd]
     by_cases hx : k = p.1
     .simp [hx, h2]
     .simp only [hx, decide_false, aBZ, if_false]
      exact ih r (i + 1) h3
theorem afF {d : TypeDesc} (hn : ∀ a b, Instr.sameNow d (enc a) (enc b) = none ∨ Instr.sameNow d (enc a) (enc b) = some (decide (a = b))) (k : κ) : ∀ (es : List MapEntry) (l : List (κ × aEm)) (i : Nat) (r : Option (Nat × aEm)), es.map (fun e => (e.key, e.val)) = l.map (fun p => (enc p.1, p.2)) →
 Instr.findNow d (enc k) es i = some r -> r = Xd k l i := by
 intro es
 induction es with
 | nil => intro l i r h hr; cases l with
   | nil => simp [Instr.findNow] at hr; exact hr.symm
   | cons p r => simp at h
 | cons x es ih =>
   intro l i r h hr
   cases l with
   | nil => simp at h
   | cons p q =>
     simp only [aCz, List.cons.injEq, Prod.mk.injEq] at h
     obtain ⟨⟨h1, h2⟩, h3⟩ := h
     simp only [Instr.findNow, h1] at hr
     rcases hn k p.1 with hh | hh
     .rw [hh] at hr; cases hr
     .rw [hh] at hr
      simp only [Xd]
      by_cases hx : k = p.1
      .simp only [hx, decide_true, Option.some.injEq] at hr
       rw [if_pos hx, <- hr, h2]
      .simp only [hx, decide_false] at hr
       rw [if_neg hx]
       exact ih q (i + 1) r h3 hr
theorem Zy (K : adC P t enc) (k : κ) (es : List MapEntry) (l : List (κ × aEm)) (h : es.map (fun e => (e.key, e.val)) = l.map (fun p => (enc p.1, p.2))) :
 (Instr.findKey t (enc k) es).run P w = .ok (Xd k l 0) w := by
 obtain ⟨d, hd, hn⟩ := K.now
 unfold Instr.findKey
 simp only [underlying, Sem.run_bind, run_program, Result.andThen_ok, hd, Sem.run_pure]
 cases hr : Instr.findNow d (enc k) es 0 with
 | none => exact abV K k es l 0 h
 | some r => rw [afF hn k es l 0 r h hr] <;> rfl
theorem ayV {kt et : TypeId} {i : TypeInfo} {z : aEm} (hu : P.underlying t = some (.map kt et)) (hi : P.info? et = some i) (hz : i.zero = some z) (K : adC P kt enc) {m : Nat} {l : List (κ × aEm)} (hm : Mp w m enc l) (k : κ) :
 (agU t (.map (some m)) (enc k) true).run P w = .ok (.value (.tuple #[(assoc k l).getD z, .bool (assoc k l).isSome])) w := by
 obtain ⟨es, c, hb, he, _⟩ := hm
 unfold agU; rw [tJ]
 unfold Instr.lookup
 simp only [underlying, Sem.run_bind, run_program, Result.andThen_ok, hu, Sem.run_pure, abF hb, K.chk, Zy K k es.toList l he, <- akE k l 0]
 cases Xd k l 0 with
 | none => simp [zeroValue, typeInfo, hi, hz]
 | some p => simp
omit [DecidableEq κ] in
theorem aqH {K : aEm -> aEl -> Prop} (enc : κ -> aEm) (hk : ∀ w', Mp w' w.heap.size enc ([] : List (κ × aEm)) -> jN w w' mC -> w'.heap.size = w.heap.size + 1 -> K (.map (some w.heap.size)) w') : gI P (Yp t none) w K := by
 have : (Yp t none).run P w = .ok (.value (.map (some w.heap.size))) (w.alloc (.map #[] 0)) := by
  unfold Yp; rw [tJ]
  simp [Instr.makeMap]
 unfold gI
 rw [this]
 exact hk _ ⟨#[], 0, by show (w.heap.push _)[w.heap.size]? = _; simp, rfl, ⟨by simp, by simp⟩, by simp⟩ (jN.alloc _ _ _) (by simp)
theorem anP {kt et : TypeId} (hu : P.underlying t = some (.map kt et)) (Ke : adC P kt enc) {m : Nat} {l : List (κ × aEm)} (hm : Mp w m enc l) (k : κ) (v : aEm) {K : aEm -> aEl -> Prop}
 (hk : ∀ w', Mp w' m enc (upd k v l) -> jN w w' (fun y => y = m) -> w'.heap.size = w.heap.size -> K undef w') : gI P (aaG t (.map (some m)) (enc k) v) w K := by
 have hlt := hm.lt
 obtain ⟨es, c, hb, he, hgr, hnd⟩ := hm
 have hext : ∀ o, jN w { w with heap := w.heap.setIfInBounds m o } (fun y => y = m) := fun o =>
  ⟨rfl, rfl, rfl, by simp, fun b hb hn => by
   show (w.heap.setIfInBounds m o)[b]? = _
   rw [aCG (fun e => hn e.symm)]⟩
 have key : ∃ es' c', (aaG t (.map (some m)) (enc k) v).run P w = .ok .skip { w with heap := w.heap.setIfInBounds m (.map es' c') } /\ es'.toList.map (fun e => (e.key, e.val)) = ((upd k v l).map fun p => (enc p.1, p.2)) /\ Grown es' c' := by
  have gen : ∀ (es : List MapEntry) (l : List (κ × aEm)) (i : Nat), es.map (fun e => (e.key, e.val)) = l.map (fun p => (enc p.1, p.2)) →
      (Xd k l i = none -> ∀ b, (es ++ [(⟨enc k, v, b⟩ : MapEntry)]).map (fun e => (e.key, e.val)) = (upd k v l).map fun p => (enc p.1, p.2)) /\
      (∀ j x, Xd k l i = some (j, x) -> i <= j /\ ∃ old, es[j - i]? = some old /\ old.key = enc k /\ (es.set (j - i) ({ old with key := enc k, val := v } : MapEntry)).map (fun e => (e.key, e.val)) = (upd k v l).map fun p => (enc p.1, p.2)) := by
   intro es
   induction es with
   | nil =>
     intro l i h
     cases l with
     | nil => exact ⟨fun _ b => rfl, fun j x h => by simp [Xd] at h⟩
     | cons p r => simp at h
   | cons x es ih =>
     intro l i h
     cases l with
     | nil => simp at h
     | cons p r =>
       simp only [aCz, List.cons.injEq, Prod.mk.injEq] at h
       obtain ⟨⟨h1, h2⟩, h3⟩ := h
       simp only [Xd, upd]
       by_cases hx : k = p.1
       .rw [if_pos hx, if_pos hx]
        refine ⟨fun h => by (cases h), fun j y h => ?_⟩
        cases h
        refine ⟨aCb _, x, by simp, by rw [h1, hx], ?_⟩
        simp [h3]
       .rw [if_neg hx, if_neg hx]
        obtain ⟨a, b⟩ := ih r (i + 1) h3
        refine ⟨fun h q => ?_, fun j y h => ?_⟩
        .simp only [aDd, aCz, a h q, h1, h2]
        .obtain ⟨hj, old, o1, o2, o3⟩ := b j y h
         refine ⟨by omega, old, ?_, o2, ?_⟩
         .rw [show j - i = (j - (i + 1)) + 1 from by omega, aBY]; exact o1
         .rw [show j - i = (j - (i + 1)) + 1 from by omega, aCc]
          simp only [aCz, o3, h1, h2]
  obtain ⟨g1, g2⟩ := gen es.toList l 0 he
  unfold aaG
  rw [aAS]
  unfold Instr.mapUpdate
  simp only [underlying, Sem.run_bind, run_program, Result.andThen_ok, hu, Sem.run_pure, abF hb, Ke.chk, Zy Ke k es.toList l he]
  cases hi : Xd k l 0 with
  | none =>
    refine ⟨es.push ⟨enc k, v, c⟩, c + 1, ?_, by simpa using g1 hi c, alO hgr _ _⟩
    simp only [aaO _ hb, Result.andThen_ok]
  | some q =>
    obtain ⟨j, x⟩ := q
    obtain ⟨_, old, o1, o2, o3⟩ := g2 j x hi
    rw [aDE] at o1 o3
    have o1' : es[j]? = some old := by simpa using o1
    refine ⟨es.modify j fun e => { e with key := enc k, val := v }, c, ?_, ?_, akT hgr ?_⟩
    .simp only [o1', aCB, aDu, o2, Instr.keyThatStays, Ke.stay, if_true, Sem.run_pure, Result.andThen_ok, aaO _ hb, Sem.run_bind]
    .have hj : j < es.toList.length := by
      rcases aCk j es.toList.length with h | h
      .exact h
      .rw [aCj h] at o1; cases o1
     rw [<- o3]
     congr 1
     apply aDg
     intro y
     rw [aDP, aDl, List.getElem?_set]
     by_cases hy : j = y
     .subst hy
      have hj' : j < es.size := by simpa using hj
      have e1 : es[j] = old := by rw [aCo hj'] at o1'; exact aCF o1'
      simp [hj', e1]
     .simp [hy]
    .apply aDg
     intro y
     rw [aCp, aCp, aDP, aDP, aDl]
     split
     .rename_i h; subst h
      cases es[j]? <;> rfl
     .rfl
 obtain ⟨es', c', h1, h2, h3⟩ := key
 unfold gI
 rw [h1]
 refine hk _ ⟨es', c', by show (w.heap.setIfInBounds m _)[m]? = _; rw [aCy hlt], h2, h3, ajC hnd⟩ (hext _) (by simp)
theorem aiW {κ : Type} [DecidableEq κ] {i : TypeInfo} {n : Nat} (hu : P.underlying t = some (.array n e)) (he : P.underlying e = some (.int .u8)) (hi : P.info? e = some i) (h1 : i.size = 1)
 (bs : κ -> List UInt8) (hb : ∀ k, (bs k).length = n) (hinj : ∀ a b, bs a = bs b -> a = b) : adC P t (fun k => .agg ((bs k).map nT).toArray) := by
 refine ⟨fun a b w => ?_, ⟨_, hu, fun a b => .inl rfl⟩, fun c a w => ?_, fun a => ?_⟩
 .unfold Op.equal Op.maxDepth
  rw [alQ 9998 n hu he hi h1 _ _ (hb a) (hb b)]
  congr 1
  rw [decide_eq_decide]
  exact ⟨hinj a b, fun h => h ▸ rfl⟩
 .unfold Instr.checkKey
  simp only [underlying, Sem.run_bind, run_program, Result.andThen_ok, hu, Sem.run_pure, Std.Legacy.Range.forIn_eq_forIn_range', Std.Legacy.Range.size, aDE, Nat.add_one_sub_one, Nat.div_one]
  have key : ∀ (q k : Nat), k + q = n -> (forIn (List.range' k q) () fun (i : Nat) (_ : Unit) => (do
      let z <- sizeOf e
      let x <- part e (List.map nT (bs a)).toArray (i * z)
      Instr.checkKey c 9999 e x
      pure (ForInStep.yield ()) : Sem (ForInStep Unit))).run P w = .ok () w := by
   intro q
   induction q with
   | zero => intro k _; simp
   | succ q ih =>
     intro k hk
     have g : ((bs a).map nT).toArray[k]? = some (nT ((bs a)[k]'(by rw [hb]; omega))) := by
      have : k < (bs a).length := by rw [hb]; omega
      simp [this]
     have hc : ∀ x : UInt8, (Instr.checkKey c 9999 e (nT x)).run P w = .ok () w := fun x => by
      unfold Instr.checkKey nT
      simp only [underlying, Sem.run_bind, run_program, Result.andThen_ok, he, Sem.run_pure]
     rw [List.range'_succ]
     simp only [List.forIn_cons, Sem.run_bind, lI hi, h1, aC0, acG he rfl g, Result.andThen_ok, hc, Sem.run_pure]
     exact ih (k + 1) (by omega)
  have := key n 0 (by omega)
  rw [this] <;> rfl
 .unfold Instr.sameBits
  simp only [beq_self_eq_true, Bool.true_and, aCE]
  intro x hx
  have : ∀ l : List aEm, ∀ x ∈ l.zip l, x.1 = x.2 := by
   intro l
   induction l with
   | nil => simp
   | cons a r ih => intro x hx; simp at hx; rcases hx with rfl | hx; · rfl
                    .exact ih x hx
  have e1 := this _ x hx
  have hm := (List.of_mem_zip hx).1
  obtain ⟨x1, x2⟩ := x
  simp only at e1 hm ⊢
  subst e1
  simp at hm
  obtain ⟨u, _, rfl⟩ := hm
  simp [nT, Instr.sameBits]
abbrev RW (n : Nat) := { l : List UInt8 // l.length = n }
def WN {n : Nat} (k : RW n) : aEm := .agg (k.1.map nT).toArray
theorem adU {i : TypeInfo} {n : Nat} (hu : P.underlying t = some (.array n e)) (he : P.underlying e = some (.int .u8)) (hi : P.info? e = some i) (h1 : i.size = 1) : adC P t (WN (n := n)) :=
 aiW (κ := RW n) hu he hi h1 (fun k => k.1) (fun k => k.2) (fun _ _ h => Subtype.ext h)
theorem aAL {n : Nat} (hu : P.underlying t = some (.array n e)) (x : Option Addr) (m c : Nat) (h : n <= m) : (axT t (.slice x m c)).run P w = .ok (.value (.pointer x)) w := by
 unfold axT; rw [tJ]
 simp only [Instr.arrayAt, underlying, Sem.run_bind, run_program, Result.andThen_ok, hu, Sem.run_pure, if_neg (Nat.not_lt.2 h)]
theorem awY {d : TypeDesc} {i : TypeInfo} (hu : P.underlying t = some d) (hd : acV d = true) (hi : P.info? t = some i) {b off : Nat} {l : List aEm} (hl : i.size = l.length) (h : ∀ j, j < l.length -> w.cell? ⟨b, off + j, none⟩ = l[j]?) :
 (jG t (.pointer (some ⟨b, off, none⟩))).run P w = .ok (.value (.agg l.toArray)) w := by
 unfold jG
 rw [tJ]
 simp only [Instr.loadAt, Instr.sureAddr, loadVar, pure_bind, Sem.run_bind, HU hu, hd, Result.andThen_ok, if_true, lI hi, hl, XH h, Sem.run_pure]
end
theorem nP {w : aEl} {b : Nat} {cs : List aEm} (h : lN w b cs) : lN (dr w) b cs := h.ext (jN.dr w mC) (fun h => h)
theorem Sl.dr {w : aEl} {v : aEm} {l : List aEm} (h : Sl w v l) : Sl (dr w) v l := h
theorem Sl.open {w : aEl} {v : aEm} {l : List UInt8} (h : Bs w v l) (h0 : 0 < l.length) : ∃ b off c, v = .slice (some ⟨b, off, none⟩) l.length c /\ l.length <= c /\ ∀ i, (h : i < l.length) -> w.cell? ⟨b, off + i, none⟩ = some (nT l[i]) := by
 obtain ⟨a, n, c, rfl, hn, hc, h⟩ := h
 simp only [aB6] at hn
 subst hn
 obtain ⟨b, off, rfl, hh⟩ := h h0
 exact ⟨b, off, c, rfl, hc, fun i hi => by rw [hh i hi]; simp [hi]⟩
theorem Sl.len {w : aEl} {v : aEm} {l : List aEm} (h : Sl w v l) : ∃ a c, v = .slice a l.length c /\ l.length <= c := by
 obtain ⟨a, n, c, rfl, rfl, hc, _⟩ := h
 exact ⟨a, c, rfl, hc⟩
theorem kJ (v : aEm) : ¬ MO v mC := by unfold MO mC; split <;> simp
theorem QH {b o m l : Nat} (h : l ≠ m) : mY (some ⟨b, o, none⟩) m l 1 = some ⟨b, o + l, none⟩ := by
 unfold mY; rw [if_neg (fun e => h e.symm)]; simp [Iq]
theorem DC {v : aEm} {M N : Nat -> Prop} (h : MO v M) (hm : ∀ b, M b -> N b) : MO v N := by
 unfold MO at *
 split at h
 .exact hm _ h
 .exact h
theorem yW.len {w : aEl} {b sz n : Nat} {v : aEm} {l : List aEm} (h : yW w b sz v n l) : ∃ a c, v = .slice a n c := by
 rcases h.2 with ⟨rfl, rfl⟩ | ⟨x, c, r, rfl, _⟩
 .exact ⟨_, _, rfl⟩
 .exact ⟨_, _, rfl⟩
theorem yW.lower {w : aEl} {a b sz n : Nat} {v : aEm} {l : List aEm} (h : yW w b sz v n l) (hab : a <= b) : yW w a sz v n l := by
 refine ⟨h.1, ?_⟩
 rcases h.2 with h | ⟨x, c, r, h1, h2, h3⟩
 .exact .inl h
 .exact .inr ⟨x, c, r, h1, by omega, h3⟩
theorem Sl.nil (w : aEl) : Sl w (.slice none 0 0) [] := ⟨none, 0, 0, rfl, rfl, aCb _, fun h => absurd h (by simp)⟩
theorem Sl.take' {w : aEl} {a : Option Addr} {n c : Nat} {l : List aEm} (h : Sl w (.slice a n c) l) {k : Nat} (hk : k <= n) : Sl w (.slice (mY a c 0 1) (k - 0) (c - 0)) (l.take k) := by
 have h' := h
 obtain ⟨a', n', c', e, hn, hc, hh⟩ := h'
 cases e
 by_cases h0 : k = 0
 .subst h0
  exact ⟨_, _, _, rfl, by simp, by omega, fun h => by simp at h⟩
 .obtain ⟨b, off, rfl, _⟩ := hh (by omega)
  exact h.take hk
theorem Sl.drop' {w : aEl} {a : Option Addr} {n c : Nat} {l : List aEm} (h : Sl w (.slice a n c) l) {k : Nat} (hk : k <= n) : Sl w (.slice (mY a c k 1) (n - k) (c - k)) (l.drop k) := by
 have h' := h
 obtain ⟨a', n', c', e, hn, hc, hh⟩ := h'
 cases e
 by_cases h0 : n = 0
 .exact ⟨_, _, _, rfl, by rw [aCi]; omega, by omega, fun h => by omega⟩
 .obtain ⟨b, off, rfl, _⟩ := hh (by omega)
  exact h.drop hk
theorem Sl.openV {w : aEl} {v : aEm} {l : List aEm} (h : Sl w v l) (h0 : 0 < l.length) : ∃ b off c, v = .slice (some ⟨b, off, none⟩) l.length c /\ l.length <= c /\ ∀ i, (h : i < l.length) -> w.cell? ⟨b, off + i, none⟩ = some l[i] := by
 obtain ⟨a, n, c, rfl, hn, hc, h⟩ := h
 subst hn
 obtain ⟨b, off, rfl, hh⟩ := h h0
 exact ⟨b, off, c, rfl, hc, fun i hi => by rw [hh i hi]; simp [hi]⟩
def OZ (n : Nat) (l : List aEm) : List aEm := (List.replicate n l).flatten
theorem X1 (n : Nat) (l : List aEm) : (OZ n l).length = n * l.length := by
 unfold OZ; rw [List.length_flatten]; simp
theorem aoJ : ∀ (n : Nat) (l : List aEm) (j : Nat) (_ : j < n * l.length) (h0 : 0 < l.length), (OZ n l)[j]? = some (l[j % l.length]'(aD6 _ h0)) := by
 intro n
 induction n with
 | zero => intro l j h; simp at h
 | succ n ih =>
   intro l j h h0
   unfold OZ
   rw [aC9, aEa]
   by_cases hj : j < l.length
   .rw [aCm hj, aB8 hj]
    simp only [aCt hj]
   .rw [aCu (by omega)]
    have := ih l (j - l.length) (by rw [Nat.succ_mul] at h; omega) h0
    unfold OZ at this
    rw [this]
    simp only [<- Nat.mod_eq_sub_mod (show j ≥ l.length by omega)]
theorem apT {P : Program} {w : aEl} {t e : TypeId} {k : IntKind} {i : TypeInfo} {z : aEm} {sz : Nat} (hu : P.underlying t = some (.slice e)) (hi : P.info? e = some i) (h1 : i.size = sz) (hsz : 0 < sz) (hz : i.zero = some z) (hz1 : z.cells.size = sz) {n : Int} (h0 : 0 <= n) (hn : i.bytes * n <= 2 ^ 48) (hn2 : n <= 9223372036854775807)
 {K : aEm -> aEl -> Prop}
 (hk : ∀ w', lN w' w.heap.size (OZ n.toNat z.cells.toList) -> jN w w' mC -> w'.heap.size = w.heap.size + 1 -> K (.slice (some ⟨w.heap.size, 0, none⟩) n.toNat n.toNat) w') :
 gI P (sP t (.int k n) (.int k n)) w K := by
 have hw : IntKind.i64.wrap n = n := gX (by omega) hn2
 have hl : z.cells.toList.length = sz := by simpa using hz1
 have harr : (Array.range (n.toNat * sz)).map (fun j => z.cells[j % z.cells.size]!) = (OZ n.toNat z.cells.toList).toArray := by
  apply Array.ext
  .simp [X1, hz1]
  .intro j h1 h2
   have hj : j < n.toNat * sz := by simpa using h1
   have := aoJ n.toNat z.cells.toList j (by rw [hl]; exact hj) (by rw [hl]; exact hsz)
   have hm : j % z.cells.size < z.cells.size := aD6 _ (by omega)
   simp only [Array.getElem_map, Array.getElem_range, List.getElem_toArray]
   rw [getElem!_pos z.cells _ hm]
   rw [aB8 (by rw [X1, hl]; exact hj)] at this
   have := aCF this
   rw [this]
   simp
 have hz' : (zeroValue e).run P w = .ok z w := by simp [zeroValue, typeInfo, hi, hz]
 have : (sP t (.int k n) (.int k n)).run P w = .ok (.value (.slice (some ⟨w.heap.size, 0, none⟩) n.toNat n.toNat)) (w.alloc (.cells (OZ n.toNat z.cells.toList).toArray e)) := by
  unfold sP
  rw [tJ]
  have t1 : (decide (n < 0) || decide ((i.bytes : Int) * n > 2 ^ 48) || decide (n < 0) || decide (n > n)) = false := by
   simp only [aDT, decide_eq_false_iff_not]; omega
  by_cases hn0 : n.toNat * sz = 0
  .simp only [Instr.makeSlice, underlying, typeInfo, asInt, asIntOf, pure_bind, Sem.run_bind, run_program, Result.andThen_ok, hu, hi, Sem.run_pure, hw, t1, aBZ, if_false, run_askRoom, lI hi, h1, hn0, if_true, newRow, run_newObj]
   have hn : n.toNat = 0 := by rcases Nat.mul_eq_zero.1 hn0 with h | h <;> omega
   have : (Array.range 0).map (fun x => (#[] : Array aEm)[x % (#[] : Array aEm).size]!) = (OZ n.toNat z.cells.toList).toArray := by rw [hn]; simp [OZ]
   rw [this]
   rfl
  .simp only [Instr.makeSlice, underlying, typeInfo, asInt, asIntOf, pure_bind, Sem.run_bind, run_program, Result.andThen_ok, hu, hi, Sem.run_pure, hw, t1, aBZ, if_false, run_askRoom, lI hi, h1, hn0, hz', newRow, run_newObj, harr]
   rfl
 unfold gI
 rw [this]
 exact hk _ (lN.alloc _ _ _) (jN.alloc _ _ _) (by simp)
theorem alL {P : Program} {w : aEl} {t e : TypeId} {k k' : IntKind} {hi mx : Int} {i : TypeInfo} (hu : P.underlying t = some (.slice e)) (hi' : P.info? e = some i) (x : Option Addr) (n c : Nat) (h0 : 0 <= hi) (h1 : hi <= mx) (h2 : mx <= c) :
 (lR t (.slice x n c) none (some (.int k hi)) (some (.int k' mx))).run P w = .ok (.value (.slice (mY x mx.toNat 0 i.size) (hi.toNat - 0) (mx.toNat - 0))) w := by
 have h3 : (0 : Int) <= mx := by omega
 have h4 : hi <= (mx.toNat : Int) := by omega
 simp only [lR, tJ, Instr.sliceAt, underlying, hu, Sem.run_bind, run_program, Result.andThen_ok, Sem.run_pure, Instr.slice, Instr.sliceBounds, pure_bind, AQ h3 h2, AQ h0 h4, lI hi', mY]
section
variable {P : Program} {w : aEl} {t e : TypeId}
variable {κ : Type} [DecidableEq κ] {enc : κ -> aEm}
def Itr {κ : Type} (w : aEl) (it m : Nat) (enc : κ -> aEm) (rest : List (κ × aEm)) : Prop :=
 ∃ es clock seen, w.heap[m]? = some (.map es clock) /\ w.heap[it]? = some (.mapIter (some m) clock seen clock) /\ Grown es clock /\
   (es.toList.filter fun e => !seen.contains e.born).map (fun e => (e.key, e.val)) = rest.map fun p => (enc p.1, p.2)
theorem Itr.ext {κ : Type} {w w' : aEl} {it m : Nat} {enc : κ -> aEm} {rest : List (κ × aEm)} {M : Nat -> Prop} (h : Itr w it m enc rest) (hx : jN w w' M) (hm : ¬ M m) (hi : ¬ M it) : Itr w' it m enc rest := by
 obtain ⟨es, c, seen, h1, h2, h3⟩ := h
 have lt : ∀ {b : Nat} {o : Obj}, w.heap[b]? = some o -> b < w.heap.size := fun {b o} h => by
  rcases aCk b w.heap.size with h' | h'
  .exact h'
  .rw [aC1 h'] at h; cases h
 exact ⟨es, c, seen, by rw [hx.keep m (lt h1) hm]; exact h1, by rw [hx.keep it (lt h2) hi]; exact h2, h3⟩
def Cur {κ : Type} (w : aEl) (it m : Nat) (enc : κ -> aEm) (p : κ × aEm) : Prop :=
 ∃ es clock c0 seen e, w.heap[m]? = some (.map es clock) /\ w.heap[it]? = some (.mapIter (some m) c0 seen clock) /\ seen.back? = some e.born /\ es.find? (fun x => x.born == e.born) = some e /\ e.key = enc p.1 /\ e.val = p.2
omit [DecidableEq κ] in
theorem Cur.ext {w w' : aEl} {it m : Nat} {p : κ × aEm} {M : Nat -> Prop} (h : Cur w it m enc p) (hx : jN w w' M) (hm : ¬ M m) (hi : ¬ M it) : Cur w' it m enc p := by
 obtain ⟨es, c, c0, seen, e, h1, h2, h3⟩ := h
 have lt : ∀ {b : Nat} {o : Obj}, w.heap[b]? = some o -> b < w.heap.size := fun {b o} h => by
  rcases aCk b w.heap.size with h' | h'
  .exact h'
  .rw [aC1 h'] at h; cases h
 exact ⟨es, c, c0, seen, e, by rw [hx.keep m (lt h1) hm]; exact h1, by rw [hx.keep it (lt h2) hi]; exact h2, h3⟩
omit [DecidableEq κ] in
end
end Go.En
